/- Lines by a program (a changed copy of the kit's print: this repo's wip/tools): Go functions as Lean functions, and proofs that the calls answer so. -/
import Derived.Test.YtlodndejipjceaaZPFnExactProposex0
import Derived.Test.YtlodndejipjceaaZPFnExactProposex1
namespace Go.Proofs.Ytlodndejipjceaa.PFnExactPropose
open Go.RowKit Go.Proofs.YtlodndejipjceaaW.PrintWords Go.Proofs.YtlodndejipjceaaW.PrintLast Go.Proofs.YtlodndejipjceaaW.PrintMore
attribute [local go_sem] max2_int min2_int max_two min_two max_three min_three max_four min_four   -- for this text's walks alone
set_option linter.unusedVariables false
set_option linter.unusedSimpArgs false

/-! ### spec_Propose: function 21 -/
mutual
def spec_Propose.j0 : Nat → List (S129) → Int → Int → Int → List Int → Bool → Option (List Int)
 | 0, _, _, _, _, _, _ => none
 | k + 1, x0, x1, x2, x3, x9, x42 => if x42 = true then (some x9) else (spec_Propose.l0 k x0 x1 x2 x3 x9 0)
def spec_Propose.l0 : Nat → List (S129) → Int → Int → Int → List Int → Int → Option (List Int)
 | 0, _, _, _, _, _, _ => none
 | k + 1, x0, x1, x2, x3, x9, x10 => if x10 < (x0.length : Int) then (if 0 ≤ x10 then ((spec_l2Day.f ((rd_T129 x0 x10).f0)).bind fun t112 => (if t112 = true then ((spec_l2Day.f ((rd_T129 x0 x10).f1)).bind fun t113 => (if t113 = true then ((spec_l13Rate.f ((rd_T129 x0 x10).f2)).bind fun t114 => (if t114 = true then ((spec_l1In.f ((rd_T129 x0 x10).f3) 1 100000000000).bind fun t115 => (if t115 = true then (spec_Propose.l0 k x0 x1 x2 x3 x9 (wrap64 (x10 + 1))) else (some x9))) else (some x9))) else (some x9))) else (some x9))) else (none)) else (spec_Propose.l1 k x0 x1 x2 x3 x9 (([] : List Int)))
def spec_Propose.l1 : Nat → List (S129) → Int → Int → Int → List Int → List Int → Option (List Int)
 | 0, _, _, _, _, _, _ => none
 | k + 1, x0, x1, x2, x3, x9, x12 => spec_Propose.l2 k x0 x1 x2 x3 x9 x12 (-1) 0
def spec_Propose.l2 : Nat → List (S129) → Int → Int → Int → List Int → List Int → Int → Int → Option (List Int)
 | 0, _, _, _, _, _, _, _, _ => none
 | k + 1, x0, x1, x2, x3, x9, x12, x13, x14 => if x14 < (x0.length : Int) then (if 0 ≤ x14 then (if (((rd_T129 x0 x14).f0) ≤ x2) then (spec_Propose.j4 k x0 x1 x2 x3 x9 x12 x13 x14 true false) else ((spec_l1In.f ((rd_T129 x0 x14).f1) x1 x2).bind fun t121 => (if t121 = true then (spec_Propose.j4 k x0 x1 x2 x3 x9 x12 x13 x14 false (decide (((rd_T129 x0 x14).f2) > 0))) else (spec_Propose.j4 k x0 x1 x2 x3 x9 x12 x13 x14 false false)))) else (none)) else (if x13 < 0 then (some x9) else (if x12.length < 17592186044416 then ((some (x12 ++ [x13] : List Int)).bind fun y130 => (if 0 ≤ x13 then (if x13 < (x0.length : Int) then (if ((rd_T129 x0 x13).f3) ≤ x3 then (if x9.length < 17592186044416 then (spec_Propose.l1 k x0 x1 x2 (wrap64 (x3 - ((rd_T129 x0 x13).f3))) (x9 ++ [x13]) y130) else (none)) else (spec_Propose.l1 k x0 x1 x2 x3 x9 y130)) else (none)) else (none))) else (none)))
def spec_Propose.j4 : Nat → List (S129) → Int → Int → Int → List Int → List Int → Int → Int → Bool → Bool → Option (List Int)
 | 0, _, _, _, _, _, _, _, _, _, _ => none
 | k + 1, x0, x1, x2, x3, x9, x12, x13, x14, x15, x16 => (spec_l7Has.f k x12 x14).bind fun t123 => (if t123 = true then (spec_Propose.j5 k x0 x1 x2 x3 x9 x12 x13 x14 x15 true) else (if x15 = true then (spec_Propose.j5 k x0 x1 x2 x3 x9 x12 x13 x14 x15 false) else (spec_Propose.j5 k x0 x1 x2 x3 x9 x12 x13 x14 x15 (!x16))))
def spec_Propose.j5 : Nat → List (S129) → Int → Int → Int → List Int → List Int → Int → Int → Bool → Bool → Option (List Int)
 | 0, _, _, _, _, _, _, _, _, _, _ => none
 | k + 1, x0, x1, x2, x3, x9, x12, x13, x14, x15, x121 => if x121 = true then (spec_Propose.l2 k x0 x1 x2 x3 x9 x12 x13 (wrap64 (x14 + 1))) else (if x13 < 0 then (spec_Propose.l2 k x0 x1 x2 x3 x9 x12 x14 (wrap64 (x14 + 1))) else (if 0 ≤ x13 then (if x13 < (x0.length : Int) then (if (x15 != (decide (((rd_T129 x0 x13).f0) ≤ x2))) = true then (if x15 = true then (spec_Propose.l2 k x0 x1 x2 x3 x9 x12 x14 (wrap64 (x14 + 1))) else (spec_Propose.l2 k x0 x1 x2 x3 x9 x12 x13 (wrap64 (x14 + 1)))) else (if x15 = true then (if 0 ≤ x14 then (if x14 < (x0.length : Int) then (if ((rd_T129 x0 x14).f0) < ((rd_T129 x0 x13).f0) then (spec_Propose.j6 k x0 x1 x2 x3 x9 x12 x13 x14 x15 true ((rd_T129 x0 x13).f0) ((rd_T129 x0 x13).f1) ((rd_T129 x0 x13).f2) ((rd_T129 x0 x13).f3)) else (if ((rd_T129 x0 x14).f0) = ((rd_T129 x0 x13).f0) then (spec_Propose.j6 k x0 x1 x2 x3 x9 x12 x13 x14 x15 (decide (((rd_T129 x0 x14).f3) > ((rd_T129 x0 x13).f3))) ((rd_T129 x0 x13).f0) ((rd_T129 x0 x13).f1) ((rd_T129 x0 x13).f2) ((rd_T129 x0 x13).f3)) else (spec_Propose.j6 k x0 x1 x2 x3 x9 x12 x13 x14 x15 false ((rd_T129 x0 x13).f0) ((rd_T129 x0 x13).f1) ((rd_T129 x0 x13).f2) ((rd_T129 x0 x13).f3)))) else (none)) else (none)) else (spec_Propose.j6 k x0 x1 x2 x3 x9 x12 x13 x14 x15 false ((rd_T129 x0 x13).f0) ((rd_T129 x0 x13).f1) ((rd_T129 x0 x13).f2) ((rd_T129 x0 x13).f3)))) else (none)) else (none)))
def spec_Propose.j6 : Nat → List (S129) → Int → Int → Int → List Int → List Int → Int → Int → Bool → Bool → Int → Int → Int → Int → Option (List Int)
 | 0, _, _, _, _, _, _, _, _, _, _, _, _, _, _ => none
 | k + 1, x0, x1, x2, x3, x9, x12, x13, x14, x15, x139, x126000, x126001, x126002, x126003 => if x139 = true then (spec_Propose.l2 k x0 x1 x2 x3 x9 x12 x14 (wrap64 (x14 + 1))) else (if x15 = true then (spec_Propose.l2 k x0 x1 x2 x3 x9 x12 x13 (wrap64 (x14 + 1))) else (if 0 ≤ x14 then (if x14 < (x0.length : Int) then (if ((rd_T129 x0 x14).f2) > x126002 then (spec_Propose.l2 k x0 x1 x2 x3 x9 x12 x14 (wrap64 (x14 + 1))) else (spec_Propose.l2 k x0 x1 x2 x3 x9 x12 x13 (wrap64 (x14 + 1)))) else (none)) else (none)))
end
def spec_Propose.f (k : Nat) (l0 : List (S129)) (a1 : Int) (a2 : Int) (a3 : Int) : Option (List Int) := (some (([] : List Int) : List Int)).bind fun y104 => (if (l0.length : Int) > 100 then (spec_Propose.j0 k l0 a1 a2 a3 y104 true) else ((spec_l2Day.f a1).bind fun t107 => (if t107 = true then ((spec_l2Day.f a2).bind fun t108 => (if t108 = true then (if a2 ≤ a1 then (spec_Propose.j0 k l0 a1 a2 a3 y104 true) else ((spec_l1In.f a3 0 100000000000).bind fun t109 => (spec_Propose.j0 k l0 a1 a2 a3 y104 (!t109)))) else (spec_Propose.j0 k l0 a1 a2 a3 y104 true))) else (spec_Propose.j0 k l0 a1 a2 a3 y104 true))))
theorem spec_Propose.mono_l : ∀ k, (∀ y0 y1 y2 y3 y4 y5, LeO (spec_Propose.j0 k y0 y1 y2 y3 y4 y5) (spec_Propose.j0 (k + 1) y0 y1 y2 y3 y4 y5)) ∧ (∀ y0 y1 y2 y3 y4 y5, LeO (spec_Propose.l0 k y0 y1 y2 y3 y4 y5) (spec_Propose.l0 (k + 1) y0 y1 y2 y3 y4 y5)) ∧ (∀ y0 y1 y2 y3 y4 y5, LeO (spec_Propose.l1 k y0 y1 y2 y3 y4 y5) (spec_Propose.l1 (k + 1) y0 y1 y2 y3 y4 y5)) ∧ (∀ y0 y1 y2 y3 y4 y5 y6 y7, LeO (spec_Propose.l2 k y0 y1 y2 y3 y4 y5 y6 y7) (spec_Propose.l2 (k + 1) y0 y1 y2 y3 y4 y5 y6 y7)) ∧ (∀ y0 y1 y2 y3 y4 y5 y6 y7 y8 y9, LeO (spec_Propose.j4 k y0 y1 y2 y3 y4 y5 y6 y7 y8 y9) (spec_Propose.j4 (k + 1) y0 y1 y2 y3 y4 y5 y6 y7 y8 y9)) ∧ (∀ y0 y1 y2 y3 y4 y5 y6 y7 y8 y9, LeO (spec_Propose.j5 k y0 y1 y2 y3 y4 y5 y6 y7 y8 y9) (spec_Propose.j5 (k + 1) y0 y1 y2 y3 y4 y5 y6 y7 y8 y9)) ∧ (∀ y0 y1 y2 y3 y4 y5 y6 y7 y8 y9 y10 y11 y12 y13, LeO (spec_Propose.j6 k y0 y1 y2 y3 y4 y5 y6 y7 y8 y9 y10 y11 y12 y13) (spec_Propose.j6 (k + 1) y0 y1 y2 y3 y4 y5 y6 y7 y8 y9 y10 y11 y12 y13))
 | 0 => ⟨fun _ _ _ _ _ _ r h => by simp [spec_Propose.j0] at h, fun _ _ _ _ _ _ r h => by simp [spec_Propose.l0] at h, fun _ _ _ _ _ _ r h => by simp [spec_Propose.l1] at h, fun _ _ _ _ _ _ _ _ r h => by simp [spec_Propose.l2] at h, fun _ _ _ _ _ _ _ _ _ _ r h => by simp [spec_Propose.j4] at h, fun _ _ _ _ _ _ _ _ _ _ r h => by simp [spec_Propose.j5] at h, fun _ _ _ _ _ _ _ _ _ _ _ _ _ _ r h => by simp [spec_Propose.j6] at h⟩
 | k + 1 => by
  obtain ⟨ih0, ih1, ih2, ih3, ih4, ih5, ih6⟩ := spec_Propose.mono_l k
  refine ⟨?_, ?_, ?_, ?_, ?_, ?_, ?_⟩
  ·intro y0 y1 y2 y3 y4 y5
   unfold spec_Propose.j0
   repeat' first
   | (with_reducible exact ih0 _ _ _ _ _ _)
   | (with_reducible exact ih1 _ _ _ _ _ _)
   | (with_reducible exact ih2 _ _ _ _ _ _)
   | (with_reducible exact ih3 _ _ _ _ _ _ _ _)
   | (with_reducible exact ih4 _ _ _ _ _ _ _ _ _ _)
   | (with_reducible exact ih5 _ _ _ _ _ _ _ _ _ _)
   | (with_reducible exact ih6 _ _ _ _ _ _ _ _ _ _ _ _ _ _)
   | (with_reducible exact spec_l7Has.mono _ _ _)
   | (with_reducible exact LeO.refl _)
   | (with_reducible exact LeO.none _)
   | (with_reducible refine LeO.ite ?_ ?_)
   | (with_reducible refine LeO.bind ?_ (fun _ => ?_))
   | exact ih0 _ _ _ _ _ _
   | exact ih1 _ _ _ _ _ _
   | exact ih2 _ _ _ _ _ _
   | exact ih3 _ _ _ _ _ _ _ _
   | exact ih4 _ _ _ _ _ _ _ _ _ _
   | exact ih5 _ _ _ _ _ _ _ _ _ _
   | exact ih6 _ _ _ _ _ _ _ _ _ _ _ _ _ _
   | exact spec_l7Has.mono _ _ _
   | exact LeO.none _
   | refine LeO.ite ?_ ?_
   | refine LeO.bind ?_ (fun _ => ?_)
  ·intro y0 y1 y2 y3 y4 y5
   unfold spec_Propose.l0
   repeat' first
   | (with_reducible exact ih0 _ _ _ _ _ _)
   | (with_reducible exact ih1 _ _ _ _ _ _)
   | (with_reducible exact ih2 _ _ _ _ _ _)
   | (with_reducible exact ih3 _ _ _ _ _ _ _ _)
   | (with_reducible exact ih4 _ _ _ _ _ _ _ _ _ _)
   | (with_reducible exact ih5 _ _ _ _ _ _ _ _ _ _)
   | (with_reducible exact ih6 _ _ _ _ _ _ _ _ _ _ _ _ _ _)
   | (with_reducible exact spec_l7Has.mono _ _ _)
   | (with_reducible exact LeO.refl _)
   | (with_reducible exact LeO.none _)
   | (with_reducible refine LeO.ite ?_ ?_)
   | (with_reducible refine LeO.bind ?_ (fun _ => ?_))
   | exact ih0 _ _ _ _ _ _
   | exact ih1 _ _ _ _ _ _
   | exact ih2 _ _ _ _ _ _
   | exact ih3 _ _ _ _ _ _ _ _
   | exact ih4 _ _ _ _ _ _ _ _ _ _
   | exact ih5 _ _ _ _ _ _ _ _ _ _
   | exact ih6 _ _ _ _ _ _ _ _ _ _ _ _ _ _
   | exact spec_l7Has.mono _ _ _
   | exact LeO.none _
   | refine LeO.ite ?_ ?_
   | refine LeO.bind ?_ (fun _ => ?_)
  ·intro y0 y1 y2 y3 y4 y5
   unfold spec_Propose.l1
   repeat' first
   | (with_reducible exact ih0 _ _ _ _ _ _)
   | (with_reducible exact ih1 _ _ _ _ _ _)
   | (with_reducible exact ih2 _ _ _ _ _ _)
   | (with_reducible exact ih3 _ _ _ _ _ _ _ _)
   | (with_reducible exact ih4 _ _ _ _ _ _ _ _ _ _)
   | (with_reducible exact ih5 _ _ _ _ _ _ _ _ _ _)
   | (with_reducible exact ih6 _ _ _ _ _ _ _ _ _ _ _ _ _ _)
   | (with_reducible exact spec_l7Has.mono _ _ _)
   | (with_reducible exact LeO.refl _)
   | (with_reducible exact LeO.none _)
   | (with_reducible refine LeO.ite ?_ ?_)
   | (with_reducible refine LeO.bind ?_ (fun _ => ?_))
   | exact ih0 _ _ _ _ _ _
   | exact ih1 _ _ _ _ _ _
   | exact ih2 _ _ _ _ _ _
   | exact ih3 _ _ _ _ _ _ _ _
   | exact ih4 _ _ _ _ _ _ _ _ _ _
   | exact ih5 _ _ _ _ _ _ _ _ _ _
   | exact ih6 _ _ _ _ _ _ _ _ _ _ _ _ _ _
   | exact spec_l7Has.mono _ _ _
   | exact LeO.none _
   | refine LeO.ite ?_ ?_
   | refine LeO.bind ?_ (fun _ => ?_)
  ·intro y0 y1 y2 y3 y4 y5 y6 y7
   unfold spec_Propose.l2
   repeat' first
   | (with_reducible exact ih0 _ _ _ _ _ _)
   | (with_reducible exact ih1 _ _ _ _ _ _)
   | (with_reducible exact ih2 _ _ _ _ _ _)
   | (with_reducible exact ih3 _ _ _ _ _ _ _ _)
   | (with_reducible exact ih4 _ _ _ _ _ _ _ _ _ _)
   | (with_reducible exact ih5 _ _ _ _ _ _ _ _ _ _)
   | (with_reducible exact ih6 _ _ _ _ _ _ _ _ _ _ _ _ _ _)
   | (with_reducible exact spec_l7Has.mono _ _ _)
   | (with_reducible exact LeO.refl _)
   | (with_reducible exact LeO.none _)
   | (with_reducible refine LeO.ite ?_ ?_)
   | (with_reducible refine LeO.bind ?_ (fun _ => ?_))
   | exact ih0 _ _ _ _ _ _
   | exact ih1 _ _ _ _ _ _
   | exact ih2 _ _ _ _ _ _
   | exact ih3 _ _ _ _ _ _ _ _
   | exact ih4 _ _ _ _ _ _ _ _ _ _
   | exact ih5 _ _ _ _ _ _ _ _ _ _
   | exact ih6 _ _ _ _ _ _ _ _ _ _ _ _ _ _
   | exact spec_l7Has.mono _ _ _
   | exact LeO.none _
   | refine LeO.ite ?_ ?_
   | refine LeO.bind ?_ (fun _ => ?_)
  ·intro y0 y1 y2 y3 y4 y5 y6 y7 y8 y9
   unfold spec_Propose.j4
   repeat' first
   | (with_reducible exact ih0 _ _ _ _ _ _)
   | (with_reducible exact ih1 _ _ _ _ _ _)
   | (with_reducible exact ih2 _ _ _ _ _ _)
   | (with_reducible exact ih3 _ _ _ _ _ _ _ _)
   | (with_reducible exact ih4 _ _ _ _ _ _ _ _ _ _)
   | (with_reducible exact ih5 _ _ _ _ _ _ _ _ _ _)
   | (with_reducible exact ih6 _ _ _ _ _ _ _ _ _ _ _ _ _ _)
   | (with_reducible exact spec_l7Has.mono _ _ _)
   | (with_reducible exact LeO.refl _)
   | (with_reducible exact LeO.none _)
   | (with_reducible refine LeO.ite ?_ ?_)
   | (with_reducible refine LeO.bind ?_ (fun _ => ?_))
   | exact ih0 _ _ _ _ _ _
   | exact ih1 _ _ _ _ _ _
   | exact ih2 _ _ _ _ _ _
   | exact ih3 _ _ _ _ _ _ _ _
   | exact ih4 _ _ _ _ _ _ _ _ _ _
   | exact ih5 _ _ _ _ _ _ _ _ _ _
   | exact ih6 _ _ _ _ _ _ _ _ _ _ _ _ _ _
   | exact spec_l7Has.mono _ _ _
   | exact LeO.none _
   | refine LeO.ite ?_ ?_
   | refine LeO.bind ?_ (fun _ => ?_)
  ·intro y0 y1 y2 y3 y4 y5 y6 y7 y8 y9
   unfold spec_Propose.j5
   repeat' first
   | (with_reducible exact ih0 _ _ _ _ _ _)
   | (with_reducible exact ih1 _ _ _ _ _ _)
   | (with_reducible exact ih2 _ _ _ _ _ _)
   | (with_reducible exact ih3 _ _ _ _ _ _ _ _)
   | (with_reducible exact ih4 _ _ _ _ _ _ _ _ _ _)
   | (with_reducible exact ih5 _ _ _ _ _ _ _ _ _ _)
   | (with_reducible exact ih6 _ _ _ _ _ _ _ _ _ _ _ _ _ _)
   | (with_reducible exact spec_l7Has.mono _ _ _)
   | (with_reducible exact LeO.refl _)
   | (with_reducible exact LeO.none _)
   | (with_reducible refine LeO.ite ?_ ?_)
   | (with_reducible refine LeO.bind ?_ (fun _ => ?_))
   | exact ih0 _ _ _ _ _ _
   | exact ih1 _ _ _ _ _ _
   | exact ih2 _ _ _ _ _ _
   | exact ih3 _ _ _ _ _ _ _ _
   | exact ih4 _ _ _ _ _ _ _ _ _ _
   | exact ih5 _ _ _ _ _ _ _ _ _ _
   | exact ih6 _ _ _ _ _ _ _ _ _ _ _ _ _ _
   | exact spec_l7Has.mono _ _ _
   | exact LeO.none _
   | refine LeO.ite ?_ ?_
   | refine LeO.bind ?_ (fun _ => ?_)
  ·intro y0 y1 y2 y3 y4 y5 y6 y7 y8 y9 y10 y11 y12 y13
   unfold spec_Propose.j6
   repeat' first
   | (with_reducible exact ih0 _ _ _ _ _ _)
   | (with_reducible exact ih1 _ _ _ _ _ _)
   | (with_reducible exact ih2 _ _ _ _ _ _)
   | (with_reducible exact ih3 _ _ _ _ _ _ _ _)
   | (with_reducible exact ih4 _ _ _ _ _ _ _ _ _ _)
   | (with_reducible exact ih5 _ _ _ _ _ _ _ _ _ _)
   | (with_reducible exact ih6 _ _ _ _ _ _ _ _ _ _ _ _ _ _)
   | (with_reducible exact spec_l7Has.mono _ _ _)
   | (with_reducible exact LeO.refl _)
   | (with_reducible exact LeO.none _)
   | (with_reducible refine LeO.ite ?_ ?_)
   | (with_reducible refine LeO.bind ?_ (fun _ => ?_))
   | exact ih0 _ _ _ _ _ _
   | exact ih1 _ _ _ _ _ _
   | exact ih2 _ _ _ _ _ _
   | exact ih3 _ _ _ _ _ _ _ _
   | exact ih4 _ _ _ _ _ _ _ _ _ _
   | exact ih5 _ _ _ _ _ _ _ _ _ _
   | exact ih6 _ _ _ _ _ _ _ _ _ _ _ _ _ _
   | exact spec_l7Has.mono _ _ _
   | exact LeO.none _
   | refine LeO.ite ?_ ?_
   | refine LeO.bind ?_ (fun _ => ?_)
theorem spec_Propose.mono : ∀ a0 a1 a2 a3 k, LeO (spec_Propose.f k a0 a1 a2 a3) (spec_Propose.f (k + 1) a0 a1 a2 a3) := by
 intro a0 a1 a2 a3 k
 obtain ⟨ih0, ih1, ih2, ih3, ih4, ih5, ih6⟩ := spec_Propose.mono_l k
 unfold spec_Propose.f
 repeat' first
   | (with_reducible exact ih0 _ _ _ _ _ _)
   | (with_reducible exact ih1 _ _ _ _ _ _)
   | (with_reducible exact ih2 _ _ _ _ _ _)
   | (with_reducible exact ih3 _ _ _ _ _ _ _ _)
   | (with_reducible exact ih4 _ _ _ _ _ _ _ _ _ _)
   | (with_reducible exact ih5 _ _ _ _ _ _ _ _ _ _)
   | (with_reducible exact ih6 _ _ _ _ _ _ _ _ _ _ _ _ _ _)
   | (with_reducible exact spec_l7Has.mono _ _ _)
   | (with_reducible exact LeO.refl _)
   | (with_reducible exact LeO.none _)
   | (with_reducible refine LeO.ite ?_ ?_)
   | (with_reducible refine LeO.bind ?_ (fun _ => ?_))
   | exact ih0 _ _ _ _ _ _
   | exact ih1 _ _ _ _ _ _
   | exact ih2 _ _ _ _ _ _
   | exact ih3 _ _ _ _ _ _ _ _
   | exact ih4 _ _ _ _ _ _ _ _ _ _
   | exact ih5 _ _ _ _ _ _ _ _ _ _
   | exact ih6 _ _ _ _ _ _ _ _ _ _ _ _ _ _
   | exact spec_l7Has.mono _ _ _
   | exact LeO.none _
   | refine LeO.ite ?_ ?_
   | refine LeO.bind ?_ (fun _ => ?_)
set_option maxHeartbeats 8000000 in
set_option maxRecDepth 100000 in
theorem spec_Propose.calls (k : Nat) (A0 : Option Addr) (c0 : Nat) (l0 : List (S129)) (a1 : Int) (a2 : Int) (a3 : Int) (r : List Int) (w : World) (hr0 : Kd.C k129 w A0 l0.length l0) (hc0 : l0.length ≤ c0) (h : spec_Propose.f k l0 a1 a2 a3 = some r) :
  Calls Try.prog 21 #[.slice A0 l0.length c0, .int .i64 a1, .int .i64 a2, .int .i64 a3] w fun e w' => ∃ v0_ : Value, e = .returned (v0_) ∧ Kd.R (Kd.int .i64) 3 w' w.heap.size (fun _ => True) v0_ r ∧ Below w.heap.size w w' := by
 have hu129 := Try.underlying129
 have HR0 := Aside0.mk hr0
 have HC0 := Aside0.mk hc0
 clear hr0 hc0
 have HB := Aside0.mk (Below.refl w.heap.size w)
 have H : ((some (([] : List Int) : List Int)).bind fun y104 => (if (l0.length : Int) > 100 then (spec_Propose.j0 k l0 a1 a2 a3 y104 true) else ((spec_l2Day.f a1).bind fun t107 => (if t107 = true then ((spec_l2Day.f a2).bind fun t108 => (if t108 = true then (if a2 ≤ a1 then (spec_Propose.j0 k l0 a1 a2 a3 y104 true) else ((spec_l1In.f a3 0 100000000000).bind fun t109 => (spec_Propose.j0 k l0 a1 a2 a3 y104 (!t109)))) else (spec_Propose.j0 k l0 a1 a2 a3 y104 true))) else (spec_Propose.j0 k l0 a1 a2 a3 y104 true))))) = some r := h
 clear h
 obtain ⟨y104, hy104⟩ : ∃ y_ : List Int, y_ = (([] : List Int)) := ⟨_, rfl⟩
 replace H : (if (l0.length : Int) > 100 then (spec_Propose.j0 k l0 a1 a2 a3 y104 true) else ((spec_l2Day.f a1).bind fun t107 => (if t107 = true then ((spec_l2Day.f a2).bind fun t108 => (if t108 = true then (if a2 ≤ a1 then (spec_Propose.j0 k l0 a1 a2 a3 y104 true) else ((spec_l1In.f a3 0 100000000000).bind fun t109 => (spec_Propose.j0 k l0 a1 a2 a3 y104 (!t109)))) else (spec_Propose.j0 k l0 a1 a2 a3 y104 true))) else (spec_Propose.j0 k l0 a1 a2 a3 y104 true)))) = some r := by first | (rw [hy104]; with_reducible exact H) | (have H2_ := (Option.bind_some _ _).symm.trans H; rw [hy104]; with_reducible exact H2_) | (have H2_ := (Option.bind_some _ _).symm.trans H; with_reducible exact H2_) | with_reducible exact H | (rw [hy104]; exact H) | exact H
 have Ny104 := Aside0.mk hy104
 clear hy104
 have HC5 := Aside0.mk H
 clear H
 go_enter Try.func21, Try.ntmps21
 go_upto_region 2 with (first | ((with_reducible refine qv0 (N := 19) rfl ?_); refine Kd.R_lit (Kd.int .i64) _ 3 ?hg (N := 19) ?hd (xs := ([] : List Int)) (inner := []) (ok := fun _ => True) (okp := fun _ => True) ?hr ?hp (fun _ hk => hk) trivial (Below.refl _ _) (Nat.le_refl _) (by simp) ?_; (case hd => rfl); (case hg => rfl); (case hr => first | (go_simp; done) | (go_simp; rfl)); (case hp => exact (Reps.none _ _)); intro v105 w6 ho7 hb hg_ hnew_; clear hg_ hnew_; (first | rw [← Ny104.out] at ho7 | (simp only [Int.reduceToNat] at ho7; rw [← Ny104.out] at ho7)); have n0_ := Aside0.mk (Kd.qe1 ho7 (qk0 (by repeat (first | (with_reducible first | exact HB.out | apply qc0 | apply qa0 | apply qb0) | exact HB.out)))); have n1_ := Aside0.mk (qo0 (by repeat (first | (with_reducible first | exact HB.out | apply qc0 | apply qa0 | apply qb0) | exact HB.out)) hb); clear HB; have HO106 := n0_; have HB := n1_; clear n0_ n1_; clear hb ho7))
 repeat (go_quiet (first | ((with_reducible refine qv0 (N := 19) rfl ?_); refine Kd.R_lit (Kd.int .i64) _ 3 ?hg (N := 19) ?hd (xs := ([] : List Int)) (inner := []) (ok := fun _ => True) (okp := fun _ => True) ?hr ?hp (fun _ hk => hk) trivial (Below.refl _ _) (Nat.le_refl _) (by simp) ?_; (case hd => rfl); (case hg => rfl); (case hr => first | (go_simp; done) | (go_simp; rfl)); (case hp => exact (Reps.none _ _)); intro v105 w6 ho7 hb hg_ hnew_; clear hg_ hnew_; (first | rw [← Ny104.out] at ho7 | (simp only [Int.reduceToNat] at ho7; rw [← Ny104.out] at ho7)); have n0_ := Aside0.mk (Kd.qe1 ho7 (qk0 (by repeat (first | (with_reducible first | exact HB.out | apply qc0 | apply qa0 | apply qb0) | exact HB.out)))); have n1_ := Aside0.mk (qo0 (by repeat (first | (with_reducible first | exact HB.out | apply qc0 | apply qa0 | apply qb0) | exact HB.out)) hb); clear HB; have HO106 := n0_; have HB := n1_; clear n0_ n1_; clear hb ho7)); go_upto_region 2 with (first | ((with_reducible refine qv0 (N := 19) rfl ?_); refine Kd.R_lit (Kd.int .i64) _ 3 ?hg (N := 19) ?hd (xs := ([] : List Int)) (inner := []) (ok := fun _ => True) (okp := fun _ => True) ?hr ?hp (fun _ hk => hk) trivial (Below.refl _ _) (Nat.le_refl _) (by simp) ?_; (case hd => rfl); (case hg => rfl); (case hr => first | (go_simp; done) | (go_simp; rfl)); (case hp => exact (Reps.none _ _)); intro v105 w6 ho7 hb hg_ hnew_; clear hg_ hnew_; (first | rw [← Ny104.out] at ho7 | (simp only [Int.reduceToNat] at ho7; rw [← Ny104.out] at ho7)); have n0_ := Aside0.mk (Kd.qe1 ho7 (qk0 (by repeat (first | (with_reducible first | exact HB.out | apply qc0 | apply qa0 | apply qb0) | exact HB.out)))); have n1_ := Aside0.mk (qo0 (by repeat (first | (with_reducible first | exact HB.out | apply qc0 | apply qa0 | apply qb0) | exact HB.out)) hb); clear HB; have HO106 := n0_; have HB := n1_; clear n0_ n1_; clear hb ho7)))
 (try simp only [Act.put, List.setIfInBounds_toArray, List.set_cons_zero, List.set_cons_succ])
 go_cut [42] (fun v42 wc => ∃ (kq : Nat) (x42_4 : Bool), v42 = .bool x42_4 ∧ Aside0 (spec_Propose.j0 kq l0 a1 a2 a3 y104 x42_4 = some r) ∧ Aside0 (kq ≤ k) ∧ Aside0 (Kd.R (Kd.int .i64) 3 wc w.heap.size (fun _ => True) v105 y104) ∧ Aside0 (Below w.heap.size w wc))
 case first => as_aux_lemma =>
  have H := HC5.out
  clear HC5
  by_cases c8 : (l0.length : Int) > 100
  ·rw [if_pos c8] at H
   have c8b0 : decide (100 < (l0.length : Int)) = true := decide_eq_true c8
   have c8b1 : decide (100 < l0.length) = true := decide_eq_true (by omega)
   clear c8
   (first | rw [c8b0] | (simp only [i64_w, i32_w]; rw [c8b0]) | skip)
   have H' := Aside0.mk H
   clear H
   go_wp2
   repeat (go_quiet (fail); try go_wp2)
   go_meet
   case rel => exact ⟨_, (true), (by first | rfl | (simp; done) | (simp [*]; done)), H', ⟨by first | omega | exact Nat.le_refl _⟩, ⟨by (with_reducible repeat (first | apply Kd.qg0 | apply Kd.qf0 | apply Kd.qm0)); exact HO106.out⟩, ⟨by repeat (first | (with_reducible first | exact HB.out | apply qc0 | apply qa0 | apply qb0) | exact HB.out)⟩⟩
  rw [if_neg c8] at H
  have c8b0 : decide (100 < (l0.length : Int)) = false := decide_eq_false c8
  have c8b1 : decide (100 < l0.length) = false := decide_eq_false (by omega)
  clear c8
  (first | rw [c8b0] | (simp only [i64_w, i32_w]; rw [c8b0]) | skip)
  replace H := Option.bind_eq_some_iff.mp H
  obtain ⟨t107, A90, H⟩ := H
  replace H : (if t107 = true then ((spec_l2Day.f a2).bind fun t108 => (if t108 = true then (if a2 ≤ a1 then (spec_Propose.j0 k l0 a1 a2 a3 y104 true) else ((spec_l1In.f a3 0 100000000000).bind fun t109 => (spec_Propose.j0 k l0 a1 a2 a3 y104 (!t109)))) else (spec_Propose.j0 k l0 a1 a2 a3 y104 true))) else (spec_Propose.j0 k l0 a1 a2 a3 y104 true)) = some r := H
  have A9 := Aside0.mk A90
  clear A90
  by_cases c10 : t107 = true
  ·subst c10
   have H1 : ((spec_l2Day.f a2).bind fun t108 => (if t108 = true then (if a2 ≤ a1 then (spec_Propose.j0 k l0 a1 a2 a3 y104 true) else ((spec_l1In.f a3 0 100000000000).bind fun t109 => (spec_Propose.j0 k l0 a1 a2 a3 y104 (!t109)))) else (spec_Propose.j0 k l0 a1 a2 a3 y104 true))) = some r := by rw [if_pos rfl] at H; exact H
   clear H
   have H := H1
   clear H1
   replace H := Option.bind_eq_some_iff.mp H
   obtain ⟨t108, A110, H⟩ := H
   replace H : (if t108 = true then (if a2 ≤ a1 then (spec_Propose.j0 k l0 a1 a2 a3 y104 true) else ((spec_l1In.f a3 0 100000000000).bind fun t109 => (spec_Propose.j0 k l0 a1 a2 a3 y104 (!t109)))) else (spec_Propose.j0 k l0 a1 a2 a3 y104 true)) = some r := H
   have A11 := Aside0.mk A110
   clear A110
   by_cases c12 : t108 = true
   ·subst c12
    have H1 : (if a2 ≤ a1 then (spec_Propose.j0 k l0 a1 a2 a3 y104 true) else ((spec_l1In.f a3 0 100000000000).bind fun t109 => (spec_Propose.j0 k l0 a1 a2 a3 y104 (!t109)))) = some r := by rw [if_pos rfl] at H; exact H
    clear H
    have H := H1
    clear H1
    by_cases c13 : a2 ≤ a1
    ·rw [if_pos c13] at H
     have c13b0 : decide (a2 ≤ a1) = true := decide_eq_true c13
     clear c13
     have H' := Aside0.mk H
     clear H
     go_wp2_with (first | (go_at_call 89; (with_reducible refine (spec_l2Day.calls a1 true _ A9.out).mono ?_); rintro e w' ⟨rfl, ⟨nd, rfl⟩⟩; (try first | exact ⟨rfl, _, World.drewN_drewN _ _ _⟩ | exact ⟨rfl, _, Eq.trans (World.drewN_drewN _ _ _) (congrArg (World.drewN _) (Nat.add_assoc _ _ _))⟩)) | (go_at_call 89; (with_reducible refine (spec_l2Day.calls a2 true _ A11.out).mono ?_); rintro e w' ⟨rfl, ⟨nd, rfl⟩⟩; (try first | exact ⟨rfl, _, World.drewN_drewN _ _ _⟩ | exact ⟨rfl, _, Eq.trans (World.drewN_drewN _ _ _) (congrArg (World.drewN _) (Nat.add_assoc _ _ _))⟩)))
     repeat (go_quiet (first | (go_at_call 89; (with_reducible refine (spec_l2Day.calls a1 true _ A9.out).mono ?_); rintro e w' ⟨rfl, ⟨nd, rfl⟩⟩; (try first | exact ⟨rfl, _, World.drewN_drewN _ _ _⟩ | exact ⟨rfl, _, Eq.trans (World.drewN_drewN _ _ _) (congrArg (World.drewN _) (Nat.add_assoc _ _ _))⟩)) | (go_at_call 89; (with_reducible refine (spec_l2Day.calls a2 true _ A11.out).mono ?_); rintro e w' ⟨rfl, ⟨nd, rfl⟩⟩; (try first | exact ⟨rfl, _, World.drewN_drewN _ _ _⟩ | exact ⟨rfl, _, Eq.trans (World.drewN_drewN _ _ _) (congrArg (World.drewN _) (Nat.add_assoc _ _ _))⟩))); try go_wp2_with (first | (go_at_call 89; (with_reducible refine (spec_l2Day.calls a1 true _ A9.out).mono ?_); rintro e w' ⟨rfl, ⟨nd, rfl⟩⟩; (try first | exact ⟨rfl, _, World.drewN_drewN _ _ _⟩ | exact ⟨rfl, _, Eq.trans (World.drewN_drewN _ _ _) (congrArg (World.drewN _) (Nat.add_assoc _ _ _))⟩)) | (go_at_call 89; (with_reducible refine (spec_l2Day.calls a2 true _ A11.out).mono ?_); rintro e w' ⟨rfl, ⟨nd, rfl⟩⟩; (try first | exact ⟨rfl, _, World.drewN_drewN _ _ _⟩ | exact ⟨rfl, _, Eq.trans (World.drewN_drewN _ _ _) (congrArg (World.drewN _) (Nat.add_assoc _ _ _))⟩))))
     go_meet
     case rel => exact ⟨_, (true), (by first | rfl | (simp; done) | (simp [*]; done)), H', ⟨by first | omega | exact Nat.le_refl _⟩, ⟨by (with_reducible repeat (first | apply Kd.qg0 | apply Kd.qf0 | apply Kd.qm0)); exact HO106.out⟩, ⟨by repeat (first | (with_reducible first | exact HB.out | apply qc0 | apply qa0 | apply qb0) | exact HB.out)⟩⟩
    rw [if_neg c13] at H
    have c13b0 : decide (a2 ≤ a1) = false := decide_eq_false c13
    clear c13
    replace H := Option.bind_eq_some_iff.mp H
    obtain ⟨t109, A140, H⟩ := H
    replace H : (spec_Propose.j0 k l0 a1 a2 a3 y104 (!t109)) = some r := H
    have A14 := Aside0.mk A140
    clear A140
    have H' := Aside0.mk H
    clear H
    go_wp2_with (first | (go_at_call 89; (with_reducible refine (spec_l2Day.calls a1 true _ A9.out).mono ?_); rintro e w' ⟨rfl, ⟨nd, rfl⟩⟩; (try first | exact ⟨rfl, _, World.drewN_drewN _ _ _⟩ | exact ⟨rfl, _, Eq.trans (World.drewN_drewN _ _ _) (congrArg (World.drewN _) (Nat.add_assoc _ _ _))⟩)) | (go_at_call 89; (with_reducible refine (spec_l2Day.calls a2 true _ A11.out).mono ?_); rintro e w' ⟨rfl, ⟨nd, rfl⟩⟩; (try first | exact ⟨rfl, _, World.drewN_drewN _ _ _⟩ | exact ⟨rfl, _, Eq.trans (World.drewN_drewN _ _ _) (congrArg (World.drewN _) (Nat.add_assoc _ _ _))⟩)) | (go_at_call 90; (with_reducible refine (spec_l1In.calls a3 0 100000000000 t109 _ A14.out).mono ?_); rintro e w' ⟨rfl, ⟨nd, rfl⟩⟩; (try first | exact ⟨rfl, _, World.drewN_drewN _ _ _⟩ | exact ⟨rfl, _, Eq.trans (World.drewN_drewN _ _ _) (congrArg (World.drewN _) (Nat.add_assoc _ _ _))⟩)))
    repeat (go_quiet (first | (go_at_call 89; (with_reducible refine (spec_l2Day.calls a1 true _ A9.out).mono ?_); rintro e w' ⟨rfl, ⟨nd, rfl⟩⟩; (try first | exact ⟨rfl, _, World.drewN_drewN _ _ _⟩ | exact ⟨rfl, _, Eq.trans (World.drewN_drewN _ _ _) (congrArg (World.drewN _) (Nat.add_assoc _ _ _))⟩)) | (go_at_call 89; (with_reducible refine (spec_l2Day.calls a2 true _ A11.out).mono ?_); rintro e w' ⟨rfl, ⟨nd, rfl⟩⟩; (try first | exact ⟨rfl, _, World.drewN_drewN _ _ _⟩ | exact ⟨rfl, _, Eq.trans (World.drewN_drewN _ _ _) (congrArg (World.drewN _) (Nat.add_assoc _ _ _))⟩)) | (go_at_call 90; (with_reducible refine (spec_l1In.calls a3 0 100000000000 t109 _ A14.out).mono ?_); rintro e w' ⟨rfl, ⟨nd, rfl⟩⟩; (try first | exact ⟨rfl, _, World.drewN_drewN _ _ _⟩ | exact ⟨rfl, _, Eq.trans (World.drewN_drewN _ _ _) (congrArg (World.drewN _) (Nat.add_assoc _ _ _))⟩))); try go_wp2_with (first | (go_at_call 89; (with_reducible refine (spec_l2Day.calls a1 true _ A9.out).mono ?_); rintro e w' ⟨rfl, ⟨nd, rfl⟩⟩; (try first | exact ⟨rfl, _, World.drewN_drewN _ _ _⟩ | exact ⟨rfl, _, Eq.trans (World.drewN_drewN _ _ _) (congrArg (World.drewN _) (Nat.add_assoc _ _ _))⟩)) | (go_at_call 89; (with_reducible refine (spec_l2Day.calls a2 true _ A11.out).mono ?_); rintro e w' ⟨rfl, ⟨nd, rfl⟩⟩; (try first | exact ⟨rfl, _, World.drewN_drewN _ _ _⟩ | exact ⟨rfl, _, Eq.trans (World.drewN_drewN _ _ _) (congrArg (World.drewN _) (Nat.add_assoc _ _ _))⟩)) | (go_at_call 90; (with_reducible refine (spec_l1In.calls a3 0 100000000000 t109 _ A14.out).mono ?_); rintro e w' ⟨rfl, ⟨nd, rfl⟩⟩; (try first | exact ⟨rfl, _, World.drewN_drewN _ _ _⟩ | exact ⟨rfl, _, Eq.trans (World.drewN_drewN _ _ _) (congrArg (World.drewN _) (Nat.add_assoc _ _ _))⟩))))
    go_meet
    case rel => exact ⟨_, (!t109), (by first | rfl | (simp; done) | (simp [*]; done)), H', ⟨by first | omega | exact Nat.le_refl _⟩, ⟨by (with_reducible repeat (first | apply Kd.qg0 | apply Kd.qf0 | apply Kd.qm0)); exact HO106.out⟩, ⟨by repeat (first | (with_reducible first | exact HB.out | apply qc0 | apply qa0 | apply qb0) | exact HB.out)⟩⟩
   replace c12 := Bool.eq_false_iff.mpr c12
   subst c12
   have H1 : (spec_Propose.j0 k l0 a1 a2 a3 y104 true) = some r := by rw [if_neg (show ¬ (false = true) by decide)] at H; exact H
   clear H
   have H := H1
   clear H1
   have H' := Aside0.mk H
   clear H
   go_wp2_with (first | (go_at_call 89; (with_reducible refine (spec_l2Day.calls a1 true _ A9.out).mono ?_); rintro e w' ⟨rfl, ⟨nd, rfl⟩⟩; (try first | exact ⟨rfl, _, World.drewN_drewN _ _ _⟩ | exact ⟨rfl, _, Eq.trans (World.drewN_drewN _ _ _) (congrArg (World.drewN _) (Nat.add_assoc _ _ _))⟩)) | (go_at_call 89; (with_reducible refine (spec_l2Day.calls a2 false _ A11.out).mono ?_); rintro e w' ⟨rfl, ⟨nd, rfl⟩⟩; (try first | exact ⟨rfl, _, World.drewN_drewN _ _ _⟩ | exact ⟨rfl, _, Eq.trans (World.drewN_drewN _ _ _) (congrArg (World.drewN _) (Nat.add_assoc _ _ _))⟩)))
   repeat (go_quiet (first | (go_at_call 89; (with_reducible refine (spec_l2Day.calls a1 true _ A9.out).mono ?_); rintro e w' ⟨rfl, ⟨nd, rfl⟩⟩; (try first | exact ⟨rfl, _, World.drewN_drewN _ _ _⟩ | exact ⟨rfl, _, Eq.trans (World.drewN_drewN _ _ _) (congrArg (World.drewN _) (Nat.add_assoc _ _ _))⟩)) | (go_at_call 89; (with_reducible refine (spec_l2Day.calls a2 false _ A11.out).mono ?_); rintro e w' ⟨rfl, ⟨nd, rfl⟩⟩; (try first | exact ⟨rfl, _, World.drewN_drewN _ _ _⟩ | exact ⟨rfl, _, Eq.trans (World.drewN_drewN _ _ _) (congrArg (World.drewN _) (Nat.add_assoc _ _ _))⟩))); try go_wp2_with (first | (go_at_call 89; (with_reducible refine (spec_l2Day.calls a1 true _ A9.out).mono ?_); rintro e w' ⟨rfl, ⟨nd, rfl⟩⟩; (try first | exact ⟨rfl, _, World.drewN_drewN _ _ _⟩ | exact ⟨rfl, _, Eq.trans (World.drewN_drewN _ _ _) (congrArg (World.drewN _) (Nat.add_assoc _ _ _))⟩)) | (go_at_call 89; (with_reducible refine (spec_l2Day.calls a2 false _ A11.out).mono ?_); rintro e w' ⟨rfl, ⟨nd, rfl⟩⟩; (try first | exact ⟨rfl, _, World.drewN_drewN _ _ _⟩ | exact ⟨rfl, _, Eq.trans (World.drewN_drewN _ _ _) (congrArg (World.drewN _) (Nat.add_assoc _ _ _))⟩))))
   go_meet
   case rel => exact ⟨_, (true), (by first | rfl | (simp; done) | (simp [*]; done)), H', ⟨by first | omega | exact Nat.le_refl _⟩, ⟨by (with_reducible repeat (first | apply Kd.qg0 | apply Kd.qf0 | apply Kd.qm0)); exact HO106.out⟩, ⟨by repeat (first | (with_reducible first | exact HB.out | apply qc0 | apply qa0 | apply qb0) | exact HB.out)⟩⟩
  replace c10 := Bool.eq_false_iff.mpr c10
  subst c10
  have H1 : (spec_Propose.j0 k l0 a1 a2 a3 y104 true) = some r := by rw [if_neg (show ¬ (false = true) by decide)] at H; exact H
  clear H
  have H := H1
  clear H1
  have H' := Aside0.mk H
  clear H
  go_wp2_with (first | (go_at_call 89; (with_reducible refine (spec_l2Day.calls a1 false _ A9.out).mono ?_); rintro e w' ⟨rfl, ⟨nd, rfl⟩⟩; (try first | exact ⟨rfl, _, World.drewN_drewN _ _ _⟩ | exact ⟨rfl, _, Eq.trans (World.drewN_drewN _ _ _) (congrArg (World.drewN _) (Nat.add_assoc _ _ _))⟩)))
  repeat (go_quiet (first | (go_at_call 89; (with_reducible refine (spec_l2Day.calls a1 false _ A9.out).mono ?_); rintro e w' ⟨rfl, ⟨nd, rfl⟩⟩; (try first | exact ⟨rfl, _, World.drewN_drewN _ _ _⟩ | exact ⟨rfl, _, Eq.trans (World.drewN_drewN _ _ _) (congrArg (World.drewN _) (Nat.add_assoc _ _ _))⟩))); try go_wp2_with (first | (go_at_call 89; (with_reducible refine (spec_l2Day.calls a1 false _ A9.out).mono ?_); rintro e w' ⟨rfl, ⟨nd, rfl⟩⟩; (try first | exact ⟨rfl, _, World.drewN_drewN _ _ _⟩ | exact ⟨rfl, _, Eq.trans (World.drewN_drewN _ _ _) (congrArg (World.drewN _) (Nat.add_assoc _ _ _))⟩))))
  go_meet
  case rel => exact ⟨_, (true), (by first | rfl | (simp; done) | (simp [*]; done)), H', ⟨by first | omega | exact Nat.le_refl _⟩, ⟨by (with_reducible repeat (first | apply Kd.qg0 | apply Kd.qf0 | apply Kd.qm0)); exact HO106.out⟩, ⟨by repeat (first | (with_reducible first | exact HB.out | apply qc0 | apply qa0 | apply qb0) | exact HB.out)⟩⟩
 case rest => as_aux_lemma =>
  clear HC5
  try clear c1
  try clear c2
  try clear p2
  try clear c8
  try clear c8b0
  try clear c8b1
  try clear c10
  try clear c12
  try clear c13
  try clear c13b0
  obtain ⟨kq, x42_4, rfl, HA, HJ4, HO_9, HB⟩ := hcut
  cases kq with
  | zero => exact absurd HA.out (by simp [spec_Propose.j0])
  | succ kj4 =>
   have H := HA.out
   clear HA
   simp only [spec_Propose.j0] at H
   by_cases c15 : x42_4 = true
   ·subst c15
    have H1 : (some y104) = some r := by rw [if_pos rfl] at H; exact H
    clear H
    have H := H1
    clear H1
    obtain rfl := Option.some.inj H
    go_wp2
    repeat (go_quiet (fail); try go_wp2)
    go_ret
    exact ⟨_, by first | rfl | (simp [errW_none, errW_some] <;> rfl) | (simp [*, errW_none, errW_some] <;> rfl), by (with_reducible repeat (first | apply Kd.qg0 | apply Kd.qf0 | apply Kd.qm0)); exact HO_9.out, by repeat (first | (with_reducible first | exact HB.out | apply qc0 | apply qa0 | apply qb0) | exact HB.out)⟩
   replace c15 := Bool.eq_false_iff.mpr c15
   subst c15
   have H1 : (spec_Propose.l0 kj4 l0 a1 a2 a3 y104 0) = some r := by rw [if_neg (show ¬ (false = true) by decide)] at H; exact H
   clear H
   have H := H1
   clear H1
   have H' := Aside0.mk H
   clear H
   go_wp2
   repeat (go_quiet (fail); try go_wp2)
   go_loopg [10] kj4 (fun kq v10 w' => ∃ (x10_2 : Int), v10 = .int .i64 x10_2 ∧ Aside0 (spec_Propose.l0 kq l0 a1 a2 a3 y104 x10_2 = some r) ∧ Aside0 (kq ≤ kj4) ∧ Aside0 (Kd.R (Kd.int .i64) 3 w' w.heap.size (fun _ => True) v105 y104) ∧ Aside0 (Below w.heap.size w w'))
   case atStart => exact ⟨(0), (by first | rfl | (simp; done) | (simp [*]; done)), H', ⟨Nat.le_refl _⟩, ⟨by (with_reducible repeat (first | apply Kd.qg0 | apply Kd.qf0 | apply Kd.qm0)); exact HO_9.out⟩, ⟨by repeat (first | (with_reducible first | exact HB.out | apply qc0 | apply qa0 | apply qb0) | exact HB.out)⟩⟩
   case round => as_aux_lemma =>
    clear H'
    try clear c1
    try clear c2
    try clear p2
    try clear c8
    try clear c8b0
    try clear c8b1
    try clear c10
    try clear c12
    try clear c13
    try clear c13b0
    try clear c15
    try clear p2
    obtain ⟨x10_2, rfl, HA, HK2, HO_9, HB⟩ := hrel
    cases gk with
    | zero => exact absurd HA.out (by simp [spec_Propose.l0])
    | succ k2 =>
     have H := HA.out
     clear HA
     simp only [spec_Propose.l0] at H
     by_cases c16 : x10_2 < (l0.length : Int)
     ·rw [if_pos c16] at H
      have c16b0 : decide (x10_2 < (l0.length : Int)) = true := decide_eq_true c16
      clear c16
      by_cases c17 : 0 ≤ x10_2
      case neg => rw [if_neg c17] at H; exact absurd H (by simp)
      rw [if_pos c17] at H
      have c17b0 : decide (0 ≤ x10_2) = true := decide_eq_true c17
      clear c17
      replace H := Option.bind_eq_some_iff.mp H
      obtain ⟨t112, A180, H⟩ := H
      replace H : (if t112 = true then ((spec_l2Day.f ((rd_T129 l0 x10_2).f1)).bind fun t113 => (if t113 = true then ((spec_l13Rate.f ((rd_T129 l0 x10_2).f2)).bind fun t114 => (if t114 = true then ((spec_l1In.f ((rd_T129 l0 x10_2).f3) 1 100000000000).bind fun t115 => (if t115 = true then (spec_Propose.l0 k2 l0 a1 a2 a3 y104 (wrap64 (x10_2 + 1))) else (some y104))) else (some y104))) else (some y104))) else (some y104)) = some r := H
      have A18 := Aside0.mk A180
      clear A180
      by_cases c19 : t112 = true
      ·subst c19
       have H1 : ((spec_l2Day.f ((rd_T129 l0 x10_2).f1)).bind fun t113 => (if t113 = true then ((spec_l13Rate.f ((rd_T129 l0 x10_2).f2)).bind fun t114 => (if t114 = true then ((spec_l1In.f ((rd_T129 l0 x10_2).f3) 1 100000000000).bind fun t115 => (if t115 = true then (spec_Propose.l0 k2 l0 a1 a2 a3 y104 (wrap64 (x10_2 + 1))) else (some y104))) else (some y104))) else (some y104))) = some r := by rw [if_pos rfl] at H; exact H
       clear H
       have H := H1
       clear H1
       replace H := Option.bind_eq_some_iff.mp H
       obtain ⟨t113, A200, H⟩ := H
       replace H : (if t113 = true then ((spec_l13Rate.f ((rd_T129 l0 x10_2).f2)).bind fun t114 => (if t114 = true then ((spec_l1In.f ((rd_T129 l0 x10_2).f3) 1 100000000000).bind fun t115 => (if t115 = true then (spec_Propose.l0 k2 l0 a1 a2 a3 y104 (wrap64 (x10_2 + 1))) else (some y104))) else (some y104))) else (some y104)) = some r := H
       have A20 := Aside0.mk A200
       clear A200
       by_cases c21 : t113 = true
       ·subst c21
        have H1 : ((spec_l13Rate.f ((rd_T129 l0 x10_2).f2)).bind fun t114 => (if t114 = true then ((spec_l1In.f ((rd_T129 l0 x10_2).f3) 1 100000000000).bind fun t115 => (if t115 = true then (spec_Propose.l0 k2 l0 a1 a2 a3 y104 (wrap64 (x10_2 + 1))) else (some y104))) else (some y104))) = some r := by rw [if_pos rfl] at H; exact H
        clear H
        have H := H1
        clear H1
        replace H := Option.bind_eq_some_iff.mp H
        obtain ⟨t114, A220, H⟩ := H
        replace H : (if t114 = true then ((spec_l1In.f ((rd_T129 l0 x10_2).f3) 1 100000000000).bind fun t115 => (if t115 = true then (spec_Propose.l0 k2 l0 a1 a2 a3 y104 (wrap64 (x10_2 + 1))) else (some y104))) else (some y104)) = some r := H
        have A22 := Aside0.mk A220
        clear A220
        by_cases c23 : t114 = true
        ·subst c23
         have H1 : ((spec_l1In.f ((rd_T129 l0 x10_2).f3) 1 100000000000).bind fun t115 => (if t115 = true then (spec_Propose.l0 k2 l0 a1 a2 a3 y104 (wrap64 (x10_2 + 1))) else (some y104))) = some r := by rw [if_pos rfl] at H; exact H
         clear H
         have H := H1
         clear H1
         replace H := Option.bind_eq_some_iff.mp H
         obtain ⟨t115, A240, H⟩ := H
         replace H : (if t115 = true then (spec_Propose.l0 k2 l0 a1 a2 a3 y104 (wrap64 (x10_2 + 1))) else (some y104)) = some r := H
         have A24 := Aside0.mk A240
         clear A240
         by_cases c25 : t115 = true
         ·subst c25
          have H1 : (spec_Propose.l0 k2 l0 a1 a2 a3 y104 (wrap64 (x10_2 + 1))) = some r := by rw [if_pos rfl] at H; exact H
          clear H
          have H := H1
          clear H1
          have H' := Aside0.mk H
          clear H
          have p110 : 0 ≤ (x10_2 : Int) := of_decide_eq_true (by first | (with_reducible assumption) | assumption)
          have q110 : x10_2 < (l0.length : Int) := of_decide_eq_true (by first | (with_reducible assumption) | assumption)
          obtain ⟨ad110, e110, hx110_0, hx110_1, hx110_2, hx110_3⟩ := at_T129 HR0.out x10_2 p110 q110
          cases e110
          replace hx110_0 := (HB.out.cell (World.block_lt_of_cell? w _ hx110_0)).trans hx110_0
          replace hx110_1 := (HB.out.cell (World.block_lt_of_cell? w _ hx110_1)).trans hx110_1
          replace hx110_2 := (HB.out.cell (World.block_lt_of_cell? w _ hx110_2)).trans hx110_2
          replace hx110_3 := (HB.out.cell (World.block_lt_of_cell? w _ hx110_3)).trans hx110_3
          replace p110 := eq_true p110
          replace q110 := eq_true q110
          go_wp2_with (first | ((with_reducible refine qv0 (N := 11) rfl ?_); refine qw0 ?hg (N := 11) ?hd (cs := #[.int .i64 0, .int .i64 0, .int .i64 0, .int .i64 0]) (t := 129) ?hr ?_; (case hd => rfl); (case hg => rfl); (case hr => first | (go_simp; done) | (go_simp; rfl)); intro gb111 hg w26 hbox hb; have n0_ := Aside0.mk (Kd.qr0 (by (with_reducible repeat (first | apply Kd.qg0 | apply Kd.qf0 | apply Kd.qm0)); exact HO_9.out) hb); have n1_ := Aside0.mk (qo0 (by repeat (first | (with_reducible first | exact HB.out | apply qc0 | apply qa0 | apply qb0) | exact HB.out)) hb); have n2_ := Aside0.mk (hbox); have n3_ := Aside0.mk ((by rw [hg]; exact (qk0 (by repeat (first | (with_reducible first | exact HB.out | apply qc0 | apply qa0 | apply qb0) | exact HB.out))) : w.heap.size ≤ gb111)); have n4_ := Aside0.mk ((by rw [hg]; exact (qk0 (by repeat (first | (with_reducible first | exact HB.out | apply qc0 | apply qa0 | apply qb0) | exact HB.out))) : w.heap.size ≤ gb111)); clear HO_9; clear HB; have HO_9 := n0_; have HB := n1_; have BK111 := n2_; have GW111 := n3_; have GE111 := n4_; clear n0_ n1_ n2_ n3_ n4_; clear hb hbox hg; have hcz27_0 : w26.cell? ⟨gb111, 0, none⟩ = some (.int .i64 0) := (qe0 BK111.out 0).trans rfl; have hcz27_1 : w26.cell? ⟨gb111, 1, none⟩ = some (.int .i64 0) := (qe0 BK111.out 1).trans rfl; have hcz27_2 : w26.cell? ⟨gb111, 2, none⟩ = some (.int .i64 0) := (qe0 BK111.out 2).trans rfl; have hcz27_3 : w26.cell? ⟨gb111, 3, none⟩ = some (.int .i64 0) := (qe0 BK111.out 3).trans rfl; have hfz27_0 := qd0 BK111.out 0; have hfz27_1 := qd0 BK111.out 1; have hfz27_2 := qd0 BK111.out 2; have hfz27_3 := qd0 BK111.out 3) | (go_at_call 89; (with_reducible refine (spec_l2Day.calls ((rd_T129 l0 x10_2).f0) true _ A18.out).mono ?_); rintro e w' ⟨rfl, ⟨nd, rfl⟩⟩; (try first | exact ⟨rfl, _, World.drewN_drewN _ _ _⟩ | exact ⟨rfl, _, Eq.trans (World.drewN_drewN _ _ _) (congrArg (World.drewN _) (Nat.add_assoc _ _ _))⟩)) | (go_at_call 89; (with_reducible refine (spec_l2Day.calls ((rd_T129 l0 x10_2).f1) true _ A20.out).mono ?_); rintro e w' ⟨rfl, ⟨nd, rfl⟩⟩; (try first | exact ⟨rfl, _, World.drewN_drewN _ _ _⟩ | exact ⟨rfl, _, Eq.trans (World.drewN_drewN _ _ _) (congrArg (World.drewN _) (Nat.add_assoc _ _ _))⟩)) | (go_at_call 91; (with_reducible refine (spec_l13Rate.calls ((rd_T129 l0 x10_2).f2) true _ A22.out).mono ?_); rintro e w' ⟨rfl, ⟨nd, rfl⟩⟩; (try first | exact ⟨rfl, _, World.drewN_drewN _ _ _⟩ | exact ⟨rfl, _, Eq.trans (World.drewN_drewN _ _ _) (congrArg (World.drewN _) (Nat.add_assoc _ _ _))⟩)) | (go_at_call 90; (with_reducible refine (spec_l1In.calls ((rd_T129 l0 x10_2).f3) 1 100000000000 true _ A24.out).mono ?_); rintro e w' ⟨rfl, ⟨nd, rfl⟩⟩; (try first | exact ⟨rfl, _, World.drewN_drewN _ _ _⟩ | exact ⟨rfl, _, Eq.trans (World.drewN_drewN _ _ _) (congrArg (World.drewN _) (Nat.add_assoc _ _ _))⟩)))
          repeat (go_quiet (first | ((with_reducible refine qv0 (N := 11) rfl ?_); refine qw0 ?hg (N := 11) ?hd (cs := #[.int .i64 0, .int .i64 0, .int .i64 0, .int .i64 0]) (t := 129) ?hr ?_; (case hd => rfl); (case hg => rfl); (case hr => first | (go_simp; done) | (go_simp; rfl)); intro gb111 hg w26 hbox hb; have n0_ := Aside0.mk (Kd.qr0 (by (with_reducible repeat (first | apply Kd.qg0 | apply Kd.qf0 | apply Kd.qm0)); exact HO_9.out) hb); have n1_ := Aside0.mk (qo0 (by repeat (first | (with_reducible first | exact HB.out | apply qc0 | apply qa0 | apply qb0) | exact HB.out)) hb); have n2_ := Aside0.mk (hbox); have n3_ := Aside0.mk ((by rw [hg]; exact (qk0 (by repeat (first | (with_reducible first | exact HB.out | apply qc0 | apply qa0 | apply qb0) | exact HB.out))) : w.heap.size ≤ gb111)); have n4_ := Aside0.mk ((by rw [hg]; exact (qk0 (by repeat (first | (with_reducible first | exact HB.out | apply qc0 | apply qa0 | apply qb0) | exact HB.out))) : w.heap.size ≤ gb111)); clear HO_9; clear HB; have HO_9 := n0_; have HB := n1_; have BK111 := n2_; have GW111 := n3_; have GE111 := n4_; clear n0_ n1_ n2_ n3_ n4_; clear hb hbox hg; have hcz27_0 : w26.cell? ⟨gb111, 0, none⟩ = some (.int .i64 0) := (qe0 BK111.out 0).trans rfl; have hcz27_1 : w26.cell? ⟨gb111, 1, none⟩ = some (.int .i64 0) := (qe0 BK111.out 1).trans rfl; have hcz27_2 : w26.cell? ⟨gb111, 2, none⟩ = some (.int .i64 0) := (qe0 BK111.out 2).trans rfl; have hcz27_3 : w26.cell? ⟨gb111, 3, none⟩ = some (.int .i64 0) := (qe0 BK111.out 3).trans rfl; have hfz27_0 := qd0 BK111.out 0; have hfz27_1 := qd0 BK111.out 1; have hfz27_2 := qd0 BK111.out 2; have hfz27_3 := qd0 BK111.out 3) | (go_at_call 89; (with_reducible refine (spec_l2Day.calls ((rd_T129 l0 x10_2).f0) true _ A18.out).mono ?_); rintro e w' ⟨rfl, ⟨nd, rfl⟩⟩; (try first | exact ⟨rfl, _, World.drewN_drewN _ _ _⟩ | exact ⟨rfl, _, Eq.trans (World.drewN_drewN _ _ _) (congrArg (World.drewN _) (Nat.add_assoc _ _ _))⟩)) | (go_at_call 89; (with_reducible refine (spec_l2Day.calls ((rd_T129 l0 x10_2).f1) true _ A20.out).mono ?_); rintro e w' ⟨rfl, ⟨nd, rfl⟩⟩; (try first | exact ⟨rfl, _, World.drewN_drewN _ _ _⟩ | exact ⟨rfl, _, Eq.trans (World.drewN_drewN _ _ _) (congrArg (World.drewN _) (Nat.add_assoc _ _ _))⟩)) | (go_at_call 91; (with_reducible refine (spec_l13Rate.calls ((rd_T129 l0 x10_2).f2) true _ A22.out).mono ?_); rintro e w' ⟨rfl, ⟨nd, rfl⟩⟩; (try first | exact ⟨rfl, _, World.drewN_drewN _ _ _⟩ | exact ⟨rfl, _, Eq.trans (World.drewN_drewN _ _ _) (congrArg (World.drewN _) (Nat.add_assoc _ _ _))⟩)) | (go_at_call 90; (with_reducible refine (spec_l1In.calls ((rd_T129 l0 x10_2).f3) 1 100000000000 true _ A24.out).mono ?_); rintro e w' ⟨rfl, ⟨nd, rfl⟩⟩; (try first | exact ⟨rfl, _, World.drewN_drewN _ _ _⟩ | exact ⟨rfl, _, Eq.trans (World.drewN_drewN _ _ _) (congrArg (World.drewN _) (Nat.add_assoc _ _ _))⟩))); try go_wp2_with (first | ((with_reducible refine qv0 (N := 11) rfl ?_); refine qw0 ?hg (N := 11) ?hd (cs := #[.int .i64 0, .int .i64 0, .int .i64 0, .int .i64 0]) (t := 129) ?hr ?_; (case hd => rfl); (case hg => rfl); (case hr => first | (go_simp; done) | (go_simp; rfl)); intro gb111 hg w26 hbox hb; have n0_ := Aside0.mk (Kd.qr0 (by (with_reducible repeat (first | apply Kd.qg0 | apply Kd.qf0 | apply Kd.qm0)); exact HO_9.out) hb); have n1_ := Aside0.mk (qo0 (by repeat (first | (with_reducible first | exact HB.out | apply qc0 | apply qa0 | apply qb0) | exact HB.out)) hb); have n2_ := Aside0.mk (hbox); have n3_ := Aside0.mk ((by rw [hg]; exact (qk0 (by repeat (first | (with_reducible first | exact HB.out | apply qc0 | apply qa0 | apply qb0) | exact HB.out))) : w.heap.size ≤ gb111)); have n4_ := Aside0.mk ((by rw [hg]; exact (qk0 (by repeat (first | (with_reducible first | exact HB.out | apply qc0 | apply qa0 | apply qb0) | exact HB.out))) : w.heap.size ≤ gb111)); clear HO_9; clear HB; have HO_9 := n0_; have HB := n1_; have BK111 := n2_; have GW111 := n3_; have GE111 := n4_; clear n0_ n1_ n2_ n3_ n4_; clear hb hbox hg; have hcz27_0 : w26.cell? ⟨gb111, 0, none⟩ = some (.int .i64 0) := (qe0 BK111.out 0).trans rfl; have hcz27_1 : w26.cell? ⟨gb111, 1, none⟩ = some (.int .i64 0) := (qe0 BK111.out 1).trans rfl; have hcz27_2 : w26.cell? ⟨gb111, 2, none⟩ = some (.int .i64 0) := (qe0 BK111.out 2).trans rfl; have hcz27_3 : w26.cell? ⟨gb111, 3, none⟩ = some (.int .i64 0) := (qe0 BK111.out 3).trans rfl; have hfz27_0 := qd0 BK111.out 0; have hfz27_1 := qd0 BK111.out 1; have hfz27_2 := qd0 BK111.out 2; have hfz27_3 := qd0 BK111.out 3) | (go_at_call 89; (with_reducible refine (spec_l2Day.calls ((rd_T129 l0 x10_2).f0) true _ A18.out).mono ?_); rintro e w' ⟨rfl, ⟨nd, rfl⟩⟩; (try first | exact ⟨rfl, _, World.drewN_drewN _ _ _⟩ | exact ⟨rfl, _, Eq.trans (World.drewN_drewN _ _ _) (congrArg (World.drewN _) (Nat.add_assoc _ _ _))⟩)) | (go_at_call 89; (with_reducible refine (spec_l2Day.calls ((rd_T129 l0 x10_2).f1) true _ A20.out).mono ?_); rintro e w' ⟨rfl, ⟨nd, rfl⟩⟩; (try first | exact ⟨rfl, _, World.drewN_drewN _ _ _⟩ | exact ⟨rfl, _, Eq.trans (World.drewN_drewN _ _ _) (congrArg (World.drewN _) (Nat.add_assoc _ _ _))⟩)) | (go_at_call 91; (with_reducible refine (spec_l13Rate.calls ((rd_T129 l0 x10_2).f2) true _ A22.out).mono ?_); rintro e w' ⟨rfl, ⟨nd, rfl⟩⟩; (try first | exact ⟨rfl, _, World.drewN_drewN _ _ _⟩ | exact ⟨rfl, _, Eq.trans (World.drewN_drewN _ _ _) (congrArg (World.drewN _) (Nat.add_assoc _ _ _))⟩)) | (go_at_call 90; (with_reducible refine (spec_l1In.calls ((rd_T129 l0 x10_2).f3) 1 100000000000 true _ A24.out).mono ?_); rintro e w' ⟨rfl, ⟨nd, rfl⟩⟩; (try first | exact ⟨rfl, _, World.drewN_drewN _ _ _⟩ | exact ⟨rfl, _, Eq.trans (World.drewN_drewN _ _ _) (congrArg (World.drewN _) (Nat.add_assoc _ _ _))⟩))))
          go_roundg k2
          case measure => have := HJ4.out; have := HK2.out; omega
          case rel => exact ⟨(wrap64 (x10_2 + 1)), (by first | rfl | (simp; done) | (simp [*]; done)), H', ⟨by have := HJ4.out; have := HK2.out; omega⟩, ⟨by (with_reducible repeat (first | apply Kd.qg0 | apply Kd.qf0 | apply Kd.qm0)); exact Kd.qs0 (Kd.R_far (p := ⟨gb111, 3, none⟩) (Kd.R_far (p := ⟨gb111, 2, none⟩) (Kd.R_far (p := ⟨gb111, 1, none⟩) (Kd.R_far (p := ⟨gb111, 0, none⟩) (Kd.qj1 HO_9.out BK111.out (by decide)) (fun _ hk => hk.2) (.int .i64 ((rd_T129 l0 x10_2).f0))) (fun _ hk => hk.2) (.int .i64 ((rd_T129 l0 x10_2).f1))) (fun _ hk => hk.2) (.int .i64 ((rd_T129 l0 x10_2).f2))) (fun _ hk => hk.2) (.int .i64 ((rd_T129 l0 x10_2).f3))) (fun _ hk => trivial)⟩, ⟨by repeat (first | (with_reducible first | exact HB.out | apply qc0 | apply qa0 | apply qb0 | refine qh0 ?_ GE111.out) | exact HB.out)⟩⟩
         replace c25 := Bool.eq_false_iff.mpr c25
         subst c25
         have H1 : (some y104) = some r := by rw [if_neg (show ¬ (false = true) by decide)] at H; exact H
         clear H
         have H := H1
         clear H1
         obtain rfl := Option.some.inj H
         have p110 : 0 ≤ (x10_2 : Int) := of_decide_eq_true (by first | (with_reducible assumption) | assumption)
         have q110 : x10_2 < (l0.length : Int) := of_decide_eq_true (by first | (with_reducible assumption) | assumption)
         obtain ⟨ad110, e110, hx110_0, hx110_1, hx110_2, hx110_3⟩ := at_T129 HR0.out x10_2 p110 q110
         cases e110
         replace hx110_0 := (HB.out.cell (World.block_lt_of_cell? w _ hx110_0)).trans hx110_0
         replace hx110_1 := (HB.out.cell (World.block_lt_of_cell? w _ hx110_1)).trans hx110_1
         replace hx110_2 := (HB.out.cell (World.block_lt_of_cell? w _ hx110_2)).trans hx110_2
         replace hx110_3 := (HB.out.cell (World.block_lt_of_cell? w _ hx110_3)).trans hx110_3
         replace p110 := eq_true p110
         replace q110 := eq_true q110
         go_wp2_with (first | ((with_reducible refine qv0 (N := 11) rfl ?_); refine qw0 ?hg (N := 11) ?hd (cs := #[.int .i64 0, .int .i64 0, .int .i64 0, .int .i64 0]) (t := 129) ?hr ?_; (case hd => rfl); (case hg => rfl); (case hr => first | (go_simp; done) | (go_simp; rfl)); intro gb111 hg w28 hbox hb; have n0_ := Aside0.mk (Kd.qr0 (by (with_reducible repeat (first | apply Kd.qg0 | apply Kd.qf0 | apply Kd.qm0)); exact HO_9.out) hb); have n1_ := Aside0.mk (qo0 (by repeat (first | (with_reducible first | exact HB.out | apply qc0 | apply qa0 | apply qb0) | exact HB.out)) hb); have n2_ := Aside0.mk (hbox); have n3_ := Aside0.mk ((by rw [hg]; exact (qk0 (by repeat (first | (with_reducible first | exact HB.out | apply qc0 | apply qa0 | apply qb0) | exact HB.out))) : w.heap.size ≤ gb111)); have n4_ := Aside0.mk ((by rw [hg]; exact (qk0 (by repeat (first | (with_reducible first | exact HB.out | apply qc0 | apply qa0 | apply qb0) | exact HB.out))) : w.heap.size ≤ gb111)); clear HO_9; clear HB; have HO_9 := n0_; have HB := n1_; have BK111 := n2_; have GW111 := n3_; have GE111 := n4_; clear n0_ n1_ n2_ n3_ n4_; clear hb hbox hg; have hcz29_0 : w28.cell? ⟨gb111, 0, none⟩ = some (.int .i64 0) := (qe0 BK111.out 0).trans rfl; have hcz29_1 : w28.cell? ⟨gb111, 1, none⟩ = some (.int .i64 0) := (qe0 BK111.out 1).trans rfl; have hcz29_2 : w28.cell? ⟨gb111, 2, none⟩ = some (.int .i64 0) := (qe0 BK111.out 2).trans rfl; have hcz29_3 : w28.cell? ⟨gb111, 3, none⟩ = some (.int .i64 0) := (qe0 BK111.out 3).trans rfl; have hfz29_0 := qd0 BK111.out 0; have hfz29_1 := qd0 BK111.out 1; have hfz29_2 := qd0 BK111.out 2; have hfz29_3 := qd0 BK111.out 3) | (go_at_call 89; (with_reducible refine (spec_l2Day.calls ((rd_T129 l0 x10_2).f0) true _ A18.out).mono ?_); rintro e w' ⟨rfl, ⟨nd, rfl⟩⟩; (try first | exact ⟨rfl, _, World.drewN_drewN _ _ _⟩ | exact ⟨rfl, _, Eq.trans (World.drewN_drewN _ _ _) (congrArg (World.drewN _) (Nat.add_assoc _ _ _))⟩)) | (go_at_call 89; (with_reducible refine (spec_l2Day.calls ((rd_T129 l0 x10_2).f1) true _ A20.out).mono ?_); rintro e w' ⟨rfl, ⟨nd, rfl⟩⟩; (try first | exact ⟨rfl, _, World.drewN_drewN _ _ _⟩ | exact ⟨rfl, _, Eq.trans (World.drewN_drewN _ _ _) (congrArg (World.drewN _) (Nat.add_assoc _ _ _))⟩)) | (go_at_call 91; (with_reducible refine (spec_l13Rate.calls ((rd_T129 l0 x10_2).f2) true _ A22.out).mono ?_); rintro e w' ⟨rfl, ⟨nd, rfl⟩⟩; (try first | exact ⟨rfl, _, World.drewN_drewN _ _ _⟩ | exact ⟨rfl, _, Eq.trans (World.drewN_drewN _ _ _) (congrArg (World.drewN _) (Nat.add_assoc _ _ _))⟩)) | (go_at_call 90; (with_reducible refine (spec_l1In.calls ((rd_T129 l0 x10_2).f3) 1 100000000000 false _ A24.out).mono ?_); rintro e w' ⟨rfl, ⟨nd, rfl⟩⟩; (try first | exact ⟨rfl, _, World.drewN_drewN _ _ _⟩ | exact ⟨rfl, _, Eq.trans (World.drewN_drewN _ _ _) (congrArg (World.drewN _) (Nat.add_assoc _ _ _))⟩)))
         repeat (go_quiet (first | ((with_reducible refine qv0 (N := 11) rfl ?_); refine qw0 ?hg (N := 11) ?hd (cs := #[.int .i64 0, .int .i64 0, .int .i64 0, .int .i64 0]) (t := 129) ?hr ?_; (case hd => rfl); (case hg => rfl); (case hr => first | (go_simp; done) | (go_simp; rfl)); intro gb111 hg w28 hbox hb; have n0_ := Aside0.mk (Kd.qr0 (by (with_reducible repeat (first | apply Kd.qg0 | apply Kd.qf0 | apply Kd.qm0)); exact HO_9.out) hb); have n1_ := Aside0.mk (qo0 (by repeat (first | (with_reducible first | exact HB.out | apply qc0 | apply qa0 | apply qb0) | exact HB.out)) hb); have n2_ := Aside0.mk (hbox); have n3_ := Aside0.mk ((by rw [hg]; exact (qk0 (by repeat (first | (with_reducible first | exact HB.out | apply qc0 | apply qa0 | apply qb0) | exact HB.out))) : w.heap.size ≤ gb111)); have n4_ := Aside0.mk ((by rw [hg]; exact (qk0 (by repeat (first | (with_reducible first | exact HB.out | apply qc0 | apply qa0 | apply qb0) | exact HB.out))) : w.heap.size ≤ gb111)); clear HO_9; clear HB; have HO_9 := n0_; have HB := n1_; have BK111 := n2_; have GW111 := n3_; have GE111 := n4_; clear n0_ n1_ n2_ n3_ n4_; clear hb hbox hg; have hcz29_0 : w28.cell? ⟨gb111, 0, none⟩ = some (.int .i64 0) := (qe0 BK111.out 0).trans rfl; have hcz29_1 : w28.cell? ⟨gb111, 1, none⟩ = some (.int .i64 0) := (qe0 BK111.out 1).trans rfl; have hcz29_2 : w28.cell? ⟨gb111, 2, none⟩ = some (.int .i64 0) := (qe0 BK111.out 2).trans rfl; have hcz29_3 : w28.cell? ⟨gb111, 3, none⟩ = some (.int .i64 0) := (qe0 BK111.out 3).trans rfl; have hfz29_0 := qd0 BK111.out 0; have hfz29_1 := qd0 BK111.out 1; have hfz29_2 := qd0 BK111.out 2; have hfz29_3 := qd0 BK111.out 3) | (go_at_call 89; (with_reducible refine (spec_l2Day.calls ((rd_T129 l0 x10_2).f0) true _ A18.out).mono ?_); rintro e w' ⟨rfl, ⟨nd, rfl⟩⟩; (try first | exact ⟨rfl, _, World.drewN_drewN _ _ _⟩ | exact ⟨rfl, _, Eq.trans (World.drewN_drewN _ _ _) (congrArg (World.drewN _) (Nat.add_assoc _ _ _))⟩)) | (go_at_call 89; (with_reducible refine (spec_l2Day.calls ((rd_T129 l0 x10_2).f1) true _ A20.out).mono ?_); rintro e w' ⟨rfl, ⟨nd, rfl⟩⟩; (try first | exact ⟨rfl, _, World.drewN_drewN _ _ _⟩ | exact ⟨rfl, _, Eq.trans (World.drewN_drewN _ _ _) (congrArg (World.drewN _) (Nat.add_assoc _ _ _))⟩)) | (go_at_call 91; (with_reducible refine (spec_l13Rate.calls ((rd_T129 l0 x10_2).f2) true _ A22.out).mono ?_); rintro e w' ⟨rfl, ⟨nd, rfl⟩⟩; (try first | exact ⟨rfl, _, World.drewN_drewN _ _ _⟩ | exact ⟨rfl, _, Eq.trans (World.drewN_drewN _ _ _) (congrArg (World.drewN _) (Nat.add_assoc _ _ _))⟩)) | (go_at_call 90; (with_reducible refine (spec_l1In.calls ((rd_T129 l0 x10_2).f3) 1 100000000000 false _ A24.out).mono ?_); rintro e w' ⟨rfl, ⟨nd, rfl⟩⟩; (try first | exact ⟨rfl, _, World.drewN_drewN _ _ _⟩ | exact ⟨rfl, _, Eq.trans (World.drewN_drewN _ _ _) (congrArg (World.drewN _) (Nat.add_assoc _ _ _))⟩))); try go_wp2_with (first | ((with_reducible refine qv0 (N := 11) rfl ?_); refine qw0 ?hg (N := 11) ?hd (cs := #[.int .i64 0, .int .i64 0, .int .i64 0, .int .i64 0]) (t := 129) ?hr ?_; (case hd => rfl); (case hg => rfl); (case hr => first | (go_simp; done) | (go_simp; rfl)); intro gb111 hg w28 hbox hb; have n0_ := Aside0.mk (Kd.qr0 (by (with_reducible repeat (first | apply Kd.qg0 | apply Kd.qf0 | apply Kd.qm0)); exact HO_9.out) hb); have n1_ := Aside0.mk (qo0 (by repeat (first | (with_reducible first | exact HB.out | apply qc0 | apply qa0 | apply qb0) | exact HB.out)) hb); have n2_ := Aside0.mk (hbox); have n3_ := Aside0.mk ((by rw [hg]; exact (qk0 (by repeat (first | (with_reducible first | exact HB.out | apply qc0 | apply qa0 | apply qb0) | exact HB.out))) : w.heap.size ≤ gb111)); have n4_ := Aside0.mk ((by rw [hg]; exact (qk0 (by repeat (first | (with_reducible first | exact HB.out | apply qc0 | apply qa0 | apply qb0) | exact HB.out))) : w.heap.size ≤ gb111)); clear HO_9; clear HB; have HO_9 := n0_; have HB := n1_; have BK111 := n2_; have GW111 := n3_; have GE111 := n4_; clear n0_ n1_ n2_ n3_ n4_; clear hb hbox hg; have hcz29_0 : w28.cell? ⟨gb111, 0, none⟩ = some (.int .i64 0) := (qe0 BK111.out 0).trans rfl; have hcz29_1 : w28.cell? ⟨gb111, 1, none⟩ = some (.int .i64 0) := (qe0 BK111.out 1).trans rfl; have hcz29_2 : w28.cell? ⟨gb111, 2, none⟩ = some (.int .i64 0) := (qe0 BK111.out 2).trans rfl; have hcz29_3 : w28.cell? ⟨gb111, 3, none⟩ = some (.int .i64 0) := (qe0 BK111.out 3).trans rfl; have hfz29_0 := qd0 BK111.out 0; have hfz29_1 := qd0 BK111.out 1; have hfz29_2 := qd0 BK111.out 2; have hfz29_3 := qd0 BK111.out 3) | (go_at_call 89; (with_reducible refine (spec_l2Day.calls ((rd_T129 l0 x10_2).f0) true _ A18.out).mono ?_); rintro e w' ⟨rfl, ⟨nd, rfl⟩⟩; (try first | exact ⟨rfl, _, World.drewN_drewN _ _ _⟩ | exact ⟨rfl, _, Eq.trans (World.drewN_drewN _ _ _) (congrArg (World.drewN _) (Nat.add_assoc _ _ _))⟩)) | (go_at_call 89; (with_reducible refine (spec_l2Day.calls ((rd_T129 l0 x10_2).f1) true _ A20.out).mono ?_); rintro e w' ⟨rfl, ⟨nd, rfl⟩⟩; (try first | exact ⟨rfl, _, World.drewN_drewN _ _ _⟩ | exact ⟨rfl, _, Eq.trans (World.drewN_drewN _ _ _) (congrArg (World.drewN _) (Nat.add_assoc _ _ _))⟩)) | (go_at_call 91; (with_reducible refine (spec_l13Rate.calls ((rd_T129 l0 x10_2).f2) true _ A22.out).mono ?_); rintro e w' ⟨rfl, ⟨nd, rfl⟩⟩; (try first | exact ⟨rfl, _, World.drewN_drewN _ _ _⟩ | exact ⟨rfl, _, Eq.trans (World.drewN_drewN _ _ _) (congrArg (World.drewN _) (Nat.add_assoc _ _ _))⟩)) | (go_at_call 90; (with_reducible refine (spec_l1In.calls ((rd_T129 l0 x10_2).f3) 1 100000000000 false _ A24.out).mono ?_); rintro e w' ⟨rfl, ⟨nd, rfl⟩⟩; (try first | exact ⟨rfl, _, World.drewN_drewN _ _ _⟩ | exact ⟨rfl, _, Eq.trans (World.drewN_drewN _ _ _) (congrArg (World.drewN _) (Nat.add_assoc _ _ _))⟩))))
         go_ret
         exact ⟨_, by first | rfl | (simp [errW_none, errW_some] <;> rfl) | (simp [*, errW_none, errW_some] <;> rfl), by (with_reducible repeat (first | apply Kd.qg0 | apply Kd.qf0 | apply Kd.qm0)); exact Kd.qs0 (Kd.R_far (p := ⟨gb111, 3, none⟩) (Kd.R_far (p := ⟨gb111, 2, none⟩) (Kd.R_far (p := ⟨gb111, 1, none⟩) (Kd.R_far (p := ⟨gb111, 0, none⟩) (Kd.qj1 HO_9.out BK111.out (by decide)) (fun _ hk => hk.2) (.int .i64 ((rd_T129 l0 x10_2).f0))) (fun _ hk => hk.2) (.int .i64 ((rd_T129 l0 x10_2).f1))) (fun _ hk => hk.2) (.int .i64 ((rd_T129 l0 x10_2).f2))) (fun _ hk => hk.2) (.int .i64 ((rd_T129 l0 x10_2).f3))) (fun _ hk => trivial), by repeat (first | (with_reducible first | exact HB.out | apply qc0 | apply qa0 | apply qb0 | refine qh0 ?_ GE111.out) | exact HB.out)⟩
        replace c23 := Bool.eq_false_iff.mpr c23
        subst c23
        have H1 : (some y104) = some r := by rw [if_neg (show ¬ (false = true) by decide)] at H; exact H
        clear H
        have H := H1
        clear H1
        obtain rfl := Option.some.inj H
        have p110 : 0 ≤ (x10_2 : Int) := of_decide_eq_true (by first | (with_reducible assumption) | assumption)
        have q110 : x10_2 < (l0.length : Int) := of_decide_eq_true (by first | (with_reducible assumption) | assumption)
        obtain ⟨ad110, e110, hx110_0, hx110_1, hx110_2, hx110_3⟩ := at_T129 HR0.out x10_2 p110 q110
        cases e110
        replace hx110_0 := (HB.out.cell (World.block_lt_of_cell? w _ hx110_0)).trans hx110_0
        replace hx110_1 := (HB.out.cell (World.block_lt_of_cell? w _ hx110_1)).trans hx110_1
        replace hx110_2 := (HB.out.cell (World.block_lt_of_cell? w _ hx110_2)).trans hx110_2
        replace hx110_3 := (HB.out.cell (World.block_lt_of_cell? w _ hx110_3)).trans hx110_3
        replace p110 := eq_true p110
        replace q110 := eq_true q110
        go_wp2_with (first | ((with_reducible refine qv0 (N := 11) rfl ?_); refine qw0 ?hg (N := 11) ?hd (cs := #[.int .i64 0, .int .i64 0, .int .i64 0, .int .i64 0]) (t := 129) ?hr ?_; (case hd => rfl); (case hg => rfl); (case hr => first | (go_simp; done) | (go_simp; rfl)); intro gb111 hg w30 hbox hb; have n0_ := Aside0.mk (Kd.qr0 (by (with_reducible repeat (first | apply Kd.qg0 | apply Kd.qf0 | apply Kd.qm0)); exact HO_9.out) hb); have n1_ := Aside0.mk (qo0 (by repeat (first | (with_reducible first | exact HB.out | apply qc0 | apply qa0 | apply qb0) | exact HB.out)) hb); have n2_ := Aside0.mk (hbox); have n3_ := Aside0.mk ((by rw [hg]; exact (qk0 (by repeat (first | (with_reducible first | exact HB.out | apply qc0 | apply qa0 | apply qb0) | exact HB.out))) : w.heap.size ≤ gb111)); have n4_ := Aside0.mk ((by rw [hg]; exact (qk0 (by repeat (first | (with_reducible first | exact HB.out | apply qc0 | apply qa0 | apply qb0) | exact HB.out))) : w.heap.size ≤ gb111)); clear HO_9; clear HB; have HO_9 := n0_; have HB := n1_; have BK111 := n2_; have GW111 := n3_; have GE111 := n4_; clear n0_ n1_ n2_ n3_ n4_; clear hb hbox hg; have hcz31_0 : w30.cell? ⟨gb111, 0, none⟩ = some (.int .i64 0) := (qe0 BK111.out 0).trans rfl; have hcz31_1 : w30.cell? ⟨gb111, 1, none⟩ = some (.int .i64 0) := (qe0 BK111.out 1).trans rfl; have hcz31_2 : w30.cell? ⟨gb111, 2, none⟩ = some (.int .i64 0) := (qe0 BK111.out 2).trans rfl; have hcz31_3 : w30.cell? ⟨gb111, 3, none⟩ = some (.int .i64 0) := (qe0 BK111.out 3).trans rfl; have hfz31_0 := qd0 BK111.out 0; have hfz31_1 := qd0 BK111.out 1; have hfz31_2 := qd0 BK111.out 2; have hfz31_3 := qd0 BK111.out 3) | (go_at_call 89; (with_reducible refine (spec_l2Day.calls ((rd_T129 l0 x10_2).f0) true _ A18.out).mono ?_); rintro e w' ⟨rfl, ⟨nd, rfl⟩⟩; (try first | exact ⟨rfl, _, World.drewN_drewN _ _ _⟩ | exact ⟨rfl, _, Eq.trans (World.drewN_drewN _ _ _) (congrArg (World.drewN _) (Nat.add_assoc _ _ _))⟩)) | (go_at_call 89; (with_reducible refine (spec_l2Day.calls ((rd_T129 l0 x10_2).f1) true _ A20.out).mono ?_); rintro e w' ⟨rfl, ⟨nd, rfl⟩⟩; (try first | exact ⟨rfl, _, World.drewN_drewN _ _ _⟩ | exact ⟨rfl, _, Eq.trans (World.drewN_drewN _ _ _) (congrArg (World.drewN _) (Nat.add_assoc _ _ _))⟩)) | (go_at_call 91; (with_reducible refine (spec_l13Rate.calls ((rd_T129 l0 x10_2).f2) false _ A22.out).mono ?_); rintro e w' ⟨rfl, ⟨nd, rfl⟩⟩; (try first | exact ⟨rfl, _, World.drewN_drewN _ _ _⟩ | exact ⟨rfl, _, Eq.trans (World.drewN_drewN _ _ _) (congrArg (World.drewN _) (Nat.add_assoc _ _ _))⟩)))
        repeat (go_quiet (first | ((with_reducible refine qv0 (N := 11) rfl ?_); refine qw0 ?hg (N := 11) ?hd (cs := #[.int .i64 0, .int .i64 0, .int .i64 0, .int .i64 0]) (t := 129) ?hr ?_; (case hd => rfl); (case hg => rfl); (case hr => first | (go_simp; done) | (go_simp; rfl)); intro gb111 hg w30 hbox hb; have n0_ := Aside0.mk (Kd.qr0 (by (with_reducible repeat (first | apply Kd.qg0 | apply Kd.qf0 | apply Kd.qm0)); exact HO_9.out) hb); have n1_ := Aside0.mk (qo0 (by repeat (first | (with_reducible first | exact HB.out | apply qc0 | apply qa0 | apply qb0) | exact HB.out)) hb); have n2_ := Aside0.mk (hbox); have n3_ := Aside0.mk ((by rw [hg]; exact (qk0 (by repeat (first | (with_reducible first | exact HB.out | apply qc0 | apply qa0 | apply qb0) | exact HB.out))) : w.heap.size ≤ gb111)); have n4_ := Aside0.mk ((by rw [hg]; exact (qk0 (by repeat (first | (with_reducible first | exact HB.out | apply qc0 | apply qa0 | apply qb0) | exact HB.out))) : w.heap.size ≤ gb111)); clear HO_9; clear HB; have HO_9 := n0_; have HB := n1_; have BK111 := n2_; have GW111 := n3_; have GE111 := n4_; clear n0_ n1_ n2_ n3_ n4_; clear hb hbox hg; have hcz31_0 : w30.cell? ⟨gb111, 0, none⟩ = some (.int .i64 0) := (qe0 BK111.out 0).trans rfl; have hcz31_1 : w30.cell? ⟨gb111, 1, none⟩ = some (.int .i64 0) := (qe0 BK111.out 1).trans rfl; have hcz31_2 : w30.cell? ⟨gb111, 2, none⟩ = some (.int .i64 0) := (qe0 BK111.out 2).trans rfl; have hcz31_3 : w30.cell? ⟨gb111, 3, none⟩ = some (.int .i64 0) := (qe0 BK111.out 3).trans rfl; have hfz31_0 := qd0 BK111.out 0; have hfz31_1 := qd0 BK111.out 1; have hfz31_2 := qd0 BK111.out 2; have hfz31_3 := qd0 BK111.out 3) | (go_at_call 89; (with_reducible refine (spec_l2Day.calls ((rd_T129 l0 x10_2).f0) true _ A18.out).mono ?_); rintro e w' ⟨rfl, ⟨nd, rfl⟩⟩; (try first | exact ⟨rfl, _, World.drewN_drewN _ _ _⟩ | exact ⟨rfl, _, Eq.trans (World.drewN_drewN _ _ _) (congrArg (World.drewN _) (Nat.add_assoc _ _ _))⟩)) | (go_at_call 89; (with_reducible refine (spec_l2Day.calls ((rd_T129 l0 x10_2).f1) true _ A20.out).mono ?_); rintro e w' ⟨rfl, ⟨nd, rfl⟩⟩; (try first | exact ⟨rfl, _, World.drewN_drewN _ _ _⟩ | exact ⟨rfl, _, Eq.trans (World.drewN_drewN _ _ _) (congrArg (World.drewN _) (Nat.add_assoc _ _ _))⟩)) | (go_at_call 91; (with_reducible refine (spec_l13Rate.calls ((rd_T129 l0 x10_2).f2) false _ A22.out).mono ?_); rintro e w' ⟨rfl, ⟨nd, rfl⟩⟩; (try first | exact ⟨rfl, _, World.drewN_drewN _ _ _⟩ | exact ⟨rfl, _, Eq.trans (World.drewN_drewN _ _ _) (congrArg (World.drewN _) (Nat.add_assoc _ _ _))⟩))); try go_wp2_with (first | ((with_reducible refine qv0 (N := 11) rfl ?_); refine qw0 ?hg (N := 11) ?hd (cs := #[.int .i64 0, .int .i64 0, .int .i64 0, .int .i64 0]) (t := 129) ?hr ?_; (case hd => rfl); (case hg => rfl); (case hr => first | (go_simp; done) | (go_simp; rfl)); intro gb111 hg w30 hbox hb; have n0_ := Aside0.mk (Kd.qr0 (by (with_reducible repeat (first | apply Kd.qg0 | apply Kd.qf0 | apply Kd.qm0)); exact HO_9.out) hb); have n1_ := Aside0.mk (qo0 (by repeat (first | (with_reducible first | exact HB.out | apply qc0 | apply qa0 | apply qb0) | exact HB.out)) hb); have n2_ := Aside0.mk (hbox); have n3_ := Aside0.mk ((by rw [hg]; exact (qk0 (by repeat (first | (with_reducible first | exact HB.out | apply qc0 | apply qa0 | apply qb0) | exact HB.out))) : w.heap.size ≤ gb111)); have n4_ := Aside0.mk ((by rw [hg]; exact (qk0 (by repeat (first | (with_reducible first | exact HB.out | apply qc0 | apply qa0 | apply qb0) | exact HB.out))) : w.heap.size ≤ gb111)); clear HO_9; clear HB; have HO_9 := n0_; have HB := n1_; have BK111 := n2_; have GW111 := n3_; have GE111 := n4_; clear n0_ n1_ n2_ n3_ n4_; clear hb hbox hg; have hcz31_0 : w30.cell? ⟨gb111, 0, none⟩ = some (.int .i64 0) := (qe0 BK111.out 0).trans rfl; have hcz31_1 : w30.cell? ⟨gb111, 1, none⟩ = some (.int .i64 0) := (qe0 BK111.out 1).trans rfl; have hcz31_2 : w30.cell? ⟨gb111, 2, none⟩ = some (.int .i64 0) := (qe0 BK111.out 2).trans rfl; have hcz31_3 : w30.cell? ⟨gb111, 3, none⟩ = some (.int .i64 0) := (qe0 BK111.out 3).trans rfl; have hfz31_0 := qd0 BK111.out 0; have hfz31_1 := qd0 BK111.out 1; have hfz31_2 := qd0 BK111.out 2; have hfz31_3 := qd0 BK111.out 3) | (go_at_call 89; (with_reducible refine (spec_l2Day.calls ((rd_T129 l0 x10_2).f0) true _ A18.out).mono ?_); rintro e w' ⟨rfl, ⟨nd, rfl⟩⟩; (try first | exact ⟨rfl, _, World.drewN_drewN _ _ _⟩ | exact ⟨rfl, _, Eq.trans (World.drewN_drewN _ _ _) (congrArg (World.drewN _) (Nat.add_assoc _ _ _))⟩)) | (go_at_call 89; (with_reducible refine (spec_l2Day.calls ((rd_T129 l0 x10_2).f1) true _ A20.out).mono ?_); rintro e w' ⟨rfl, ⟨nd, rfl⟩⟩; (try first | exact ⟨rfl, _, World.drewN_drewN _ _ _⟩ | exact ⟨rfl, _, Eq.trans (World.drewN_drewN _ _ _) (congrArg (World.drewN _) (Nat.add_assoc _ _ _))⟩)) | (go_at_call 91; (with_reducible refine (spec_l13Rate.calls ((rd_T129 l0 x10_2).f2) false _ A22.out).mono ?_); rintro e w' ⟨rfl, ⟨nd, rfl⟩⟩; (try first | exact ⟨rfl, _, World.drewN_drewN _ _ _⟩ | exact ⟨rfl, _, Eq.trans (World.drewN_drewN _ _ _) (congrArg (World.drewN _) (Nat.add_assoc _ _ _))⟩))))
        go_ret
        exact ⟨_, by first | rfl | (simp [errW_none, errW_some] <;> rfl) | (simp [*, errW_none, errW_some] <;> rfl), by (with_reducible repeat (first | apply Kd.qg0 | apply Kd.qf0 | apply Kd.qm0)); exact Kd.qs0 (Kd.R_far (p := ⟨gb111, 3, none⟩) (Kd.R_far (p := ⟨gb111, 2, none⟩) (Kd.R_far (p := ⟨gb111, 1, none⟩) (Kd.R_far (p := ⟨gb111, 0, none⟩) (Kd.qj1 HO_9.out BK111.out (by decide)) (fun _ hk => hk.2) (.int .i64 ((rd_T129 l0 x10_2).f0))) (fun _ hk => hk.2) (.int .i64 ((rd_T129 l0 x10_2).f1))) (fun _ hk => hk.2) (.int .i64 ((rd_T129 l0 x10_2).f2))) (fun _ hk => hk.2) (.int .i64 ((rd_T129 l0 x10_2).f3))) (fun _ hk => trivial), by repeat (first | (with_reducible first | exact HB.out | apply qc0 | apply qa0 | apply qb0 | refine qh0 ?_ GE111.out) | exact HB.out)⟩
       replace c21 := Bool.eq_false_iff.mpr c21
       subst c21
       have H1 : (some y104) = some r := by rw [if_neg (show ¬ (false = true) by decide)] at H; exact H
       clear H
       have H := H1
       clear H1
       obtain rfl := Option.some.inj H
       have p110 : 0 ≤ (x10_2 : Int) := of_decide_eq_true (by first | (with_reducible assumption) | assumption)
       have q110 : x10_2 < (l0.length : Int) := of_decide_eq_true (by first | (with_reducible assumption) | assumption)
       obtain ⟨ad110, e110, hx110_0, hx110_1, hx110_2, hx110_3⟩ := at_T129 HR0.out x10_2 p110 q110
       cases e110
       replace hx110_0 := (HB.out.cell (World.block_lt_of_cell? w _ hx110_0)).trans hx110_0
       replace hx110_1 := (HB.out.cell (World.block_lt_of_cell? w _ hx110_1)).trans hx110_1
       replace hx110_2 := (HB.out.cell (World.block_lt_of_cell? w _ hx110_2)).trans hx110_2
       replace hx110_3 := (HB.out.cell (World.block_lt_of_cell? w _ hx110_3)).trans hx110_3
       replace p110 := eq_true p110
       replace q110 := eq_true q110
       go_wp2_with (first | ((with_reducible refine qv0 (N := 11) rfl ?_); refine qw0 ?hg (N := 11) ?hd (cs := #[.int .i64 0, .int .i64 0, .int .i64 0, .int .i64 0]) (t := 129) ?hr ?_; (case hd => rfl); (case hg => rfl); (case hr => first | (go_simp; done) | (go_simp; rfl)); intro gb111 hg w32 hbox hb; have n0_ := Aside0.mk (Kd.qr0 (by (with_reducible repeat (first | apply Kd.qg0 | apply Kd.qf0 | apply Kd.qm0)); exact HO_9.out) hb); have n1_ := Aside0.mk (qo0 (by repeat (first | (with_reducible first | exact HB.out | apply qc0 | apply qa0 | apply qb0) | exact HB.out)) hb); have n2_ := Aside0.mk (hbox); have n3_ := Aside0.mk ((by rw [hg]; exact (qk0 (by repeat (first | (with_reducible first | exact HB.out | apply qc0 | apply qa0 | apply qb0) | exact HB.out))) : w.heap.size ≤ gb111)); have n4_ := Aside0.mk ((by rw [hg]; exact (qk0 (by repeat (first | (with_reducible first | exact HB.out | apply qc0 | apply qa0 | apply qb0) | exact HB.out))) : w.heap.size ≤ gb111)); clear HO_9; clear HB; have HO_9 := n0_; have HB := n1_; have BK111 := n2_; have GW111 := n3_; have GE111 := n4_; clear n0_ n1_ n2_ n3_ n4_; clear hb hbox hg; have hcz33_0 : w32.cell? ⟨gb111, 0, none⟩ = some (.int .i64 0) := (qe0 BK111.out 0).trans rfl; have hcz33_1 : w32.cell? ⟨gb111, 1, none⟩ = some (.int .i64 0) := (qe0 BK111.out 1).trans rfl; have hcz33_2 : w32.cell? ⟨gb111, 2, none⟩ = some (.int .i64 0) := (qe0 BK111.out 2).trans rfl; have hcz33_3 : w32.cell? ⟨gb111, 3, none⟩ = some (.int .i64 0) := (qe0 BK111.out 3).trans rfl; have hfz33_0 := qd0 BK111.out 0; have hfz33_1 := qd0 BK111.out 1; have hfz33_2 := qd0 BK111.out 2; have hfz33_3 := qd0 BK111.out 3) | (go_at_call 89; (with_reducible refine (spec_l2Day.calls ((rd_T129 l0 x10_2).f0) true _ A18.out).mono ?_); rintro e w' ⟨rfl, ⟨nd, rfl⟩⟩; (try first | exact ⟨rfl, _, World.drewN_drewN _ _ _⟩ | exact ⟨rfl, _, Eq.trans (World.drewN_drewN _ _ _) (congrArg (World.drewN _) (Nat.add_assoc _ _ _))⟩)) | (go_at_call 89; (with_reducible refine (spec_l2Day.calls ((rd_T129 l0 x10_2).f1) false _ A20.out).mono ?_); rintro e w' ⟨rfl, ⟨nd, rfl⟩⟩; (try first | exact ⟨rfl, _, World.drewN_drewN _ _ _⟩ | exact ⟨rfl, _, Eq.trans (World.drewN_drewN _ _ _) (congrArg (World.drewN _) (Nat.add_assoc _ _ _))⟩)))
       repeat (go_quiet (first | ((with_reducible refine qv0 (N := 11) rfl ?_); refine qw0 ?hg (N := 11) ?hd (cs := #[.int .i64 0, .int .i64 0, .int .i64 0, .int .i64 0]) (t := 129) ?hr ?_; (case hd => rfl); (case hg => rfl); (case hr => first | (go_simp; done) | (go_simp; rfl)); intro gb111 hg w32 hbox hb; have n0_ := Aside0.mk (Kd.qr0 (by (with_reducible repeat (first | apply Kd.qg0 | apply Kd.qf0 | apply Kd.qm0)); exact HO_9.out) hb); have n1_ := Aside0.mk (qo0 (by repeat (first | (with_reducible first | exact HB.out | apply qc0 | apply qa0 | apply qb0) | exact HB.out)) hb); have n2_ := Aside0.mk (hbox); have n3_ := Aside0.mk ((by rw [hg]; exact (qk0 (by repeat (first | (with_reducible first | exact HB.out | apply qc0 | apply qa0 | apply qb0) | exact HB.out))) : w.heap.size ≤ gb111)); have n4_ := Aside0.mk ((by rw [hg]; exact (qk0 (by repeat (first | (with_reducible first | exact HB.out | apply qc0 | apply qa0 | apply qb0) | exact HB.out))) : w.heap.size ≤ gb111)); clear HO_9; clear HB; have HO_9 := n0_; have HB := n1_; have BK111 := n2_; have GW111 := n3_; have GE111 := n4_; clear n0_ n1_ n2_ n3_ n4_; clear hb hbox hg; have hcz33_0 : w32.cell? ⟨gb111, 0, none⟩ = some (.int .i64 0) := (qe0 BK111.out 0).trans rfl; have hcz33_1 : w32.cell? ⟨gb111, 1, none⟩ = some (.int .i64 0) := (qe0 BK111.out 1).trans rfl; have hcz33_2 : w32.cell? ⟨gb111, 2, none⟩ = some (.int .i64 0) := (qe0 BK111.out 2).trans rfl; have hcz33_3 : w32.cell? ⟨gb111, 3, none⟩ = some (.int .i64 0) := (qe0 BK111.out 3).trans rfl; have hfz33_0 := qd0 BK111.out 0; have hfz33_1 := qd0 BK111.out 1; have hfz33_2 := qd0 BK111.out 2; have hfz33_3 := qd0 BK111.out 3) | (go_at_call 89; (with_reducible refine (spec_l2Day.calls ((rd_T129 l0 x10_2).f0) true _ A18.out).mono ?_); rintro e w' ⟨rfl, ⟨nd, rfl⟩⟩; (try first | exact ⟨rfl, _, World.drewN_drewN _ _ _⟩ | exact ⟨rfl, _, Eq.trans (World.drewN_drewN _ _ _) (congrArg (World.drewN _) (Nat.add_assoc _ _ _))⟩)) | (go_at_call 89; (with_reducible refine (spec_l2Day.calls ((rd_T129 l0 x10_2).f1) false _ A20.out).mono ?_); rintro e w' ⟨rfl, ⟨nd, rfl⟩⟩; (try first | exact ⟨rfl, _, World.drewN_drewN _ _ _⟩ | exact ⟨rfl, _, Eq.trans (World.drewN_drewN _ _ _) (congrArg (World.drewN _) (Nat.add_assoc _ _ _))⟩))); try go_wp2_with (first | ((with_reducible refine qv0 (N := 11) rfl ?_); refine qw0 ?hg (N := 11) ?hd (cs := #[.int .i64 0, .int .i64 0, .int .i64 0, .int .i64 0]) (t := 129) ?hr ?_; (case hd => rfl); (case hg => rfl); (case hr => first | (go_simp; done) | (go_simp; rfl)); intro gb111 hg w32 hbox hb; have n0_ := Aside0.mk (Kd.qr0 (by (with_reducible repeat (first | apply Kd.qg0 | apply Kd.qf0 | apply Kd.qm0)); exact HO_9.out) hb); have n1_ := Aside0.mk (qo0 (by repeat (first | (with_reducible first | exact HB.out | apply qc0 | apply qa0 | apply qb0) | exact HB.out)) hb); have n2_ := Aside0.mk (hbox); have n3_ := Aside0.mk ((by rw [hg]; exact (qk0 (by repeat (first | (with_reducible first | exact HB.out | apply qc0 | apply qa0 | apply qb0) | exact HB.out))) : w.heap.size ≤ gb111)); have n4_ := Aside0.mk ((by rw [hg]; exact (qk0 (by repeat (first | (with_reducible first | exact HB.out | apply qc0 | apply qa0 | apply qb0) | exact HB.out))) : w.heap.size ≤ gb111)); clear HO_9; clear HB; have HO_9 := n0_; have HB := n1_; have BK111 := n2_; have GW111 := n3_; have GE111 := n4_; clear n0_ n1_ n2_ n3_ n4_; clear hb hbox hg; have hcz33_0 : w32.cell? ⟨gb111, 0, none⟩ = some (.int .i64 0) := (qe0 BK111.out 0).trans rfl; have hcz33_1 : w32.cell? ⟨gb111, 1, none⟩ = some (.int .i64 0) := (qe0 BK111.out 1).trans rfl; have hcz33_2 : w32.cell? ⟨gb111, 2, none⟩ = some (.int .i64 0) := (qe0 BK111.out 2).trans rfl; have hcz33_3 : w32.cell? ⟨gb111, 3, none⟩ = some (.int .i64 0) := (qe0 BK111.out 3).trans rfl; have hfz33_0 := qd0 BK111.out 0; have hfz33_1 := qd0 BK111.out 1; have hfz33_2 := qd0 BK111.out 2; have hfz33_3 := qd0 BK111.out 3) | (go_at_call 89; (with_reducible refine (spec_l2Day.calls ((rd_T129 l0 x10_2).f0) true _ A18.out).mono ?_); rintro e w' ⟨rfl, ⟨nd, rfl⟩⟩; (try first | exact ⟨rfl, _, World.drewN_drewN _ _ _⟩ | exact ⟨rfl, _, Eq.trans (World.drewN_drewN _ _ _) (congrArg (World.drewN _) (Nat.add_assoc _ _ _))⟩)) | (go_at_call 89; (with_reducible refine (spec_l2Day.calls ((rd_T129 l0 x10_2).f1) false _ A20.out).mono ?_); rintro e w' ⟨rfl, ⟨nd, rfl⟩⟩; (try first | exact ⟨rfl, _, World.drewN_drewN _ _ _⟩ | exact ⟨rfl, _, Eq.trans (World.drewN_drewN _ _ _) (congrArg (World.drewN _) (Nat.add_assoc _ _ _))⟩))))
       go_ret
       exact ⟨_, by first | rfl | (simp [errW_none, errW_some] <;> rfl) | (simp [*, errW_none, errW_some] <;> rfl), by (with_reducible repeat (first | apply Kd.qg0 | apply Kd.qf0 | apply Kd.qm0)); exact Kd.qs0 (Kd.R_far (p := ⟨gb111, 3, none⟩) (Kd.R_far (p := ⟨gb111, 2, none⟩) (Kd.R_far (p := ⟨gb111, 1, none⟩) (Kd.R_far (p := ⟨gb111, 0, none⟩) (Kd.qj1 HO_9.out BK111.out (by decide)) (fun _ hk => hk.2) (.int .i64 ((rd_T129 l0 x10_2).f0))) (fun _ hk => hk.2) (.int .i64 ((rd_T129 l0 x10_2).f1))) (fun _ hk => hk.2) (.int .i64 ((rd_T129 l0 x10_2).f2))) (fun _ hk => hk.2) (.int .i64 ((rd_T129 l0 x10_2).f3))) (fun _ hk => trivial), by repeat (first | (with_reducible first | exact HB.out | apply qc0 | apply qa0 | apply qb0 | refine qh0 ?_ GE111.out) | exact HB.out)⟩
      replace c19 := Bool.eq_false_iff.mpr c19
      subst c19
      have H1 : (some y104) = some r := by rw [if_neg (show ¬ (false = true) by decide)] at H; exact H
      clear H
      have H := H1
      clear H1
      obtain rfl := Option.some.inj H
      have p110 : 0 ≤ (x10_2 : Int) := of_decide_eq_true (by first | (with_reducible assumption) | assumption)
      have q110 : x10_2 < (l0.length : Int) := of_decide_eq_true (by first | (with_reducible assumption) | assumption)
      obtain ⟨ad110, e110, hx110_0, hx110_1, hx110_2, hx110_3⟩ := at_T129 HR0.out x10_2 p110 q110
      cases e110
      replace hx110_0 := (HB.out.cell (World.block_lt_of_cell? w _ hx110_0)).trans hx110_0
      replace hx110_1 := (HB.out.cell (World.block_lt_of_cell? w _ hx110_1)).trans hx110_1
      replace hx110_2 := (HB.out.cell (World.block_lt_of_cell? w _ hx110_2)).trans hx110_2
      replace hx110_3 := (HB.out.cell (World.block_lt_of_cell? w _ hx110_3)).trans hx110_3
      replace p110 := eq_true p110
      replace q110 := eq_true q110
      go_wp2_with (first | ((with_reducible refine qv0 (N := 11) rfl ?_); refine qw0 ?hg (N := 11) ?hd (cs := #[.int .i64 0, .int .i64 0, .int .i64 0, .int .i64 0]) (t := 129) ?hr ?_; (case hd => rfl); (case hg => rfl); (case hr => first | (go_simp; done) | (go_simp; rfl)); intro gb111 hg w34 hbox hb; have n0_ := Aside0.mk (Kd.qr0 (by (with_reducible repeat (first | apply Kd.qg0 | apply Kd.qf0 | apply Kd.qm0)); exact HO_9.out) hb); have n1_ := Aside0.mk (qo0 (by repeat (first | (with_reducible first | exact HB.out | apply qc0 | apply qa0 | apply qb0) | exact HB.out)) hb); have n2_ := Aside0.mk (hbox); have n3_ := Aside0.mk ((by rw [hg]; exact (qk0 (by repeat (first | (with_reducible first | exact HB.out | apply qc0 | apply qa0 | apply qb0) | exact HB.out))) : w.heap.size ≤ gb111)); have n4_ := Aside0.mk ((by rw [hg]; exact (qk0 (by repeat (first | (with_reducible first | exact HB.out | apply qc0 | apply qa0 | apply qb0) | exact HB.out))) : w.heap.size ≤ gb111)); clear HO_9; clear HB; have HO_9 := n0_; have HB := n1_; have BK111 := n2_; have GW111 := n3_; have GE111 := n4_; clear n0_ n1_ n2_ n3_ n4_; clear hb hbox hg; have hcz35_0 : w34.cell? ⟨gb111, 0, none⟩ = some (.int .i64 0) := (qe0 BK111.out 0).trans rfl; have hcz35_1 : w34.cell? ⟨gb111, 1, none⟩ = some (.int .i64 0) := (qe0 BK111.out 1).trans rfl; have hcz35_2 : w34.cell? ⟨gb111, 2, none⟩ = some (.int .i64 0) := (qe0 BK111.out 2).trans rfl; have hcz35_3 : w34.cell? ⟨gb111, 3, none⟩ = some (.int .i64 0) := (qe0 BK111.out 3).trans rfl; have hfz35_0 := qd0 BK111.out 0; have hfz35_1 := qd0 BK111.out 1; have hfz35_2 := qd0 BK111.out 2; have hfz35_3 := qd0 BK111.out 3) | (go_at_call 89; (with_reducible refine (spec_l2Day.calls ((rd_T129 l0 x10_2).f0) false _ A18.out).mono ?_); rintro e w' ⟨rfl, ⟨nd, rfl⟩⟩; (try first | exact ⟨rfl, _, World.drewN_drewN _ _ _⟩ | exact ⟨rfl, _, Eq.trans (World.drewN_drewN _ _ _) (congrArg (World.drewN _) (Nat.add_assoc _ _ _))⟩)))
      repeat (go_quiet (first | ((with_reducible refine qv0 (N := 11) rfl ?_); refine qw0 ?hg (N := 11) ?hd (cs := #[.int .i64 0, .int .i64 0, .int .i64 0, .int .i64 0]) (t := 129) ?hr ?_; (case hd => rfl); (case hg => rfl); (case hr => first | (go_simp; done) | (go_simp; rfl)); intro gb111 hg w34 hbox hb; have n0_ := Aside0.mk (Kd.qr0 (by (with_reducible repeat (first | apply Kd.qg0 | apply Kd.qf0 | apply Kd.qm0)); exact HO_9.out) hb); have n1_ := Aside0.mk (qo0 (by repeat (first | (with_reducible first | exact HB.out | apply qc0 | apply qa0 | apply qb0) | exact HB.out)) hb); have n2_ := Aside0.mk (hbox); have n3_ := Aside0.mk ((by rw [hg]; exact (qk0 (by repeat (first | (with_reducible first | exact HB.out | apply qc0 | apply qa0 | apply qb0) | exact HB.out))) : w.heap.size ≤ gb111)); have n4_ := Aside0.mk ((by rw [hg]; exact (qk0 (by repeat (first | (with_reducible first | exact HB.out | apply qc0 | apply qa0 | apply qb0) | exact HB.out))) : w.heap.size ≤ gb111)); clear HO_9; clear HB; have HO_9 := n0_; have HB := n1_; have BK111 := n2_; have GW111 := n3_; have GE111 := n4_; clear n0_ n1_ n2_ n3_ n4_; clear hb hbox hg; have hcz35_0 : w34.cell? ⟨gb111, 0, none⟩ = some (.int .i64 0) := (qe0 BK111.out 0).trans rfl; have hcz35_1 : w34.cell? ⟨gb111, 1, none⟩ = some (.int .i64 0) := (qe0 BK111.out 1).trans rfl; have hcz35_2 : w34.cell? ⟨gb111, 2, none⟩ = some (.int .i64 0) := (qe0 BK111.out 2).trans rfl; have hcz35_3 : w34.cell? ⟨gb111, 3, none⟩ = some (.int .i64 0) := (qe0 BK111.out 3).trans rfl; have hfz35_0 := qd0 BK111.out 0; have hfz35_1 := qd0 BK111.out 1; have hfz35_2 := qd0 BK111.out 2; have hfz35_3 := qd0 BK111.out 3) | (go_at_call 89; (with_reducible refine (spec_l2Day.calls ((rd_T129 l0 x10_2).f0) false _ A18.out).mono ?_); rintro e w' ⟨rfl, ⟨nd, rfl⟩⟩; (try first | exact ⟨rfl, _, World.drewN_drewN _ _ _⟩ | exact ⟨rfl, _, Eq.trans (World.drewN_drewN _ _ _) (congrArg (World.drewN _) (Nat.add_assoc _ _ _))⟩))); try go_wp2_with (first | ((with_reducible refine qv0 (N := 11) rfl ?_); refine qw0 ?hg (N := 11) ?hd (cs := #[.int .i64 0, .int .i64 0, .int .i64 0, .int .i64 0]) (t := 129) ?hr ?_; (case hd => rfl); (case hg => rfl); (case hr => first | (go_simp; done) | (go_simp; rfl)); intro gb111 hg w34 hbox hb; have n0_ := Aside0.mk (Kd.qr0 (by (with_reducible repeat (first | apply Kd.qg0 | apply Kd.qf0 | apply Kd.qm0)); exact HO_9.out) hb); have n1_ := Aside0.mk (qo0 (by repeat (first | (with_reducible first | exact HB.out | apply qc0 | apply qa0 | apply qb0) | exact HB.out)) hb); have n2_ := Aside0.mk (hbox); have n3_ := Aside0.mk ((by rw [hg]; exact (qk0 (by repeat (first | (with_reducible first | exact HB.out | apply qc0 | apply qa0 | apply qb0) | exact HB.out))) : w.heap.size ≤ gb111)); have n4_ := Aside0.mk ((by rw [hg]; exact (qk0 (by repeat (first | (with_reducible first | exact HB.out | apply qc0 | apply qa0 | apply qb0) | exact HB.out))) : w.heap.size ≤ gb111)); clear HO_9; clear HB; have HO_9 := n0_; have HB := n1_; have BK111 := n2_; have GW111 := n3_; have GE111 := n4_; clear n0_ n1_ n2_ n3_ n4_; clear hb hbox hg; have hcz35_0 : w34.cell? ⟨gb111, 0, none⟩ = some (.int .i64 0) := (qe0 BK111.out 0).trans rfl; have hcz35_1 : w34.cell? ⟨gb111, 1, none⟩ = some (.int .i64 0) := (qe0 BK111.out 1).trans rfl; have hcz35_2 : w34.cell? ⟨gb111, 2, none⟩ = some (.int .i64 0) := (qe0 BK111.out 2).trans rfl; have hcz35_3 : w34.cell? ⟨gb111, 3, none⟩ = some (.int .i64 0) := (qe0 BK111.out 3).trans rfl; have hfz35_0 := qd0 BK111.out 0; have hfz35_1 := qd0 BK111.out 1; have hfz35_2 := qd0 BK111.out 2; have hfz35_3 := qd0 BK111.out 3) | (go_at_call 89; (with_reducible refine (spec_l2Day.calls ((rd_T129 l0 x10_2).f0) false _ A18.out).mono ?_); rintro e w' ⟨rfl, ⟨nd, rfl⟩⟩; (try first | exact ⟨rfl, _, World.drewN_drewN _ _ _⟩ | exact ⟨rfl, _, Eq.trans (World.drewN_drewN _ _ _) (congrArg (World.drewN _) (Nat.add_assoc _ _ _))⟩))))
      go_ret
      exact ⟨_, by first | rfl | (simp [errW_none, errW_some] <;> rfl) | (simp [*, errW_none, errW_some] <;> rfl), by (with_reducible repeat (first | apply Kd.qg0 | apply Kd.qf0 | apply Kd.qm0)); exact Kd.qs0 (Kd.R_far (p := ⟨gb111, 3, none⟩) (Kd.R_far (p := ⟨gb111, 2, none⟩) (Kd.R_far (p := ⟨gb111, 1, none⟩) (Kd.R_far (p := ⟨gb111, 0, none⟩) (Kd.qj1 HO_9.out BK111.out (by decide)) (fun _ hk => hk.2) (.int .i64 ((rd_T129 l0 x10_2).f0))) (fun _ hk => hk.2) (.int .i64 ((rd_T129 l0 x10_2).f1))) (fun _ hk => hk.2) (.int .i64 ((rd_T129 l0 x10_2).f2))) (fun _ hk => hk.2) (.int .i64 ((rd_T129 l0 x10_2).f3))) (fun _ hk => trivial), by repeat (first | (with_reducible first | exact HB.out | apply qc0 | apply qa0 | apply qb0 | refine qh0 ?_ GE111.out) | exact HB.out)⟩
     rw [if_neg c16] at H
     have c16b0 : decide (x10_2 < (l0.length : Int)) = false := decide_eq_false c16
     clear c16
     obtain ⟨y116, hy116⟩ : ∃ y_ : List Int, y_ = (([] : List Int)) := ⟨_, rfl⟩
     replace H : (spec_Propose.l1 k2 l0 a1 a2 a3 y104 y116) = some r := by first | (rw [hy116]; with_reducible exact H) | (have H2_ := (Option.bind_some _ _).symm.trans H; rw [hy116]; with_reducible exact H2_) | (have H2_ := (Option.bind_some _ _).symm.trans H; with_reducible exact H2_) | with_reducible exact H | (rw [hy116]; exact H) | exact H
     have Ny116 := Aside0.mk hy116
     clear hy116
     have H' := Aside0.mk H
     clear H
     go_wp2_with (first | ((with_reducible refine qv0 (N := 77) rfl ?_); refine Kd.R_lit (Kd.int .i64) _ 3 ?hg (N := 77) ?hd (xs := ([] : List Int)) (inner := []) (ok := fun _ => True) (okp := fun _ => True) ?hr ?hp (fun _ hk => hk) trivial (Below.refl _ _) (Nat.le_refl _) (by simp) ?_; (case hd => rfl); (case hg => rfl); (case hr => first | (go_simp; done) | (go_simp; rfl)); (case hp => exact (Reps.none _ _)); intro v117 w36 ho37 hb hg_ hnew_; clear hg_ hnew_; (first | rw [← Ny116.out] at ho37 | (simp only [Int.reduceToNat] at ho37; rw [← Ny116.out] at ho37)); have n0_ := Aside0.mk (Kd.qf1 (by (with_reducible repeat (first | apply Kd.qg0 | apply Kd.qf0 | apply Kd.qm0)); exact HO_9.out) (Kd.qm1 ho37) hb); have n1_ := Aside0.mk (Kd.qe1 (Kd.qo1 ho37 (Kd.R_lt (by (with_reducible repeat (first | apply Kd.qg0 | apply Kd.qf0 | apply Kd.qm0)); exact HO_9.out))) (qk0 (by repeat (first | (with_reducible first | exact HB.out | apply qc0 | apply qa0 | apply qb0) | exact HB.out)))); have n2_ := Aside0.mk (qo0 (by repeat (first | (with_reducible first | exact HB.out | apply qc0 | apply qa0 | apply qb0) | exact HB.out)) hb); clear HO_9; clear HB; have HO_9 := n0_; have HO118 := n1_; have HB := n2_; clear n0_ n1_ n2_; clear hb ho37))
     repeat (go_quiet (first | ((with_reducible refine qv0 (N := 77) rfl ?_); refine Kd.R_lit (Kd.int .i64) _ 3 ?hg (N := 77) ?hd (xs := ([] : List Int)) (inner := []) (ok := fun _ => True) (okp := fun _ => True) ?hr ?hp (fun _ hk => hk) trivial (Below.refl _ _) (Nat.le_refl _) (by simp) ?_; (case hd => rfl); (case hg => rfl); (case hr => first | (go_simp; done) | (go_simp; rfl)); (case hp => exact (Reps.none _ _)); intro v117 w36 ho37 hb hg_ hnew_; clear hg_ hnew_; (first | rw [← Ny116.out] at ho37 | (simp only [Int.reduceToNat] at ho37; rw [← Ny116.out] at ho37)); have n0_ := Aside0.mk (Kd.qf1 (by (with_reducible repeat (first | apply Kd.qg0 | apply Kd.qf0 | apply Kd.qm0)); exact HO_9.out) (Kd.qm1 ho37) hb); have n1_ := Aside0.mk (Kd.qe1 (Kd.qo1 ho37 (Kd.R_lt (by (with_reducible repeat (first | apply Kd.qg0 | apply Kd.qf0 | apply Kd.qm0)); exact HO_9.out))) (qk0 (by repeat (first | (with_reducible first | exact HB.out | apply qc0 | apply qa0 | apply qb0) | exact HB.out)))); have n2_ := Aside0.mk (qo0 (by repeat (first | (with_reducible first | exact HB.out | apply qc0 | apply qa0 | apply qb0) | exact HB.out)) hb); clear HO_9; clear HB; have HO_9 := n0_; have HO118 := n1_; have HB := n2_; clear n0_ n1_ n2_; clear hb ho37)); try go_wp2_with (first | ((with_reducible refine qv0 (N := 77) rfl ?_); refine Kd.R_lit (Kd.int .i64) _ 3 ?hg (N := 77) ?hd (xs := ([] : List Int)) (inner := []) (ok := fun _ => True) (okp := fun _ => True) ?hr ?hp (fun _ hk => hk) trivial (Below.refl _ _) (Nat.le_refl _) (by simp) ?_; (case hd => rfl); (case hg => rfl); (case hr => first | (go_simp; done) | (go_simp; rfl)); (case hp => exact (Reps.none _ _)); intro v117 w36 ho37 hb hg_ hnew_; clear hg_ hnew_; (first | rw [← Ny116.out] at ho37 | (simp only [Int.reduceToNat] at ho37; rw [← Ny116.out] at ho37)); have n0_ := Aside0.mk (Kd.qf1 (by (with_reducible repeat (first | apply Kd.qg0 | apply Kd.qf0 | apply Kd.qm0)); exact HO_9.out) (Kd.qm1 ho37) hb); have n1_ := Aside0.mk (Kd.qe1 (Kd.qo1 ho37 (Kd.R_lt (by (with_reducible repeat (first | apply Kd.qg0 | apply Kd.qf0 | apply Kd.qm0)); exact HO_9.out))) (qk0 (by repeat (first | (with_reducible first | exact HB.out | apply qc0 | apply qa0 | apply qb0) | exact HB.out)))); have n2_ := Aside0.mk (qo0 (by repeat (first | (with_reducible first | exact HB.out | apply qc0 | apply qa0 | apply qb0) | exact HB.out)) hb); clear HO_9; clear HB; have HO_9 := n0_; have HO118 := n1_; have HB := n2_; clear n0_ n1_ n2_; clear hb ho37)))
     go_loopg [3, 9, 12] k2 (fun kq v3 v9 v12 w' => ∃ (x3_3 : Int) (x9_3 : List Int) (x12_3 : List Int), v3 = .int .i64 x3_3 ∧ Aside0 (spec_Propose.l1 kq l0 a1 a2 x3_3 x9_3 x12_3 = some r) ∧ Aside0 (kq ≤ k2) ∧ Aside0 (Kd.R (Kd.int .i64) 3 w' w.heap.size (fun k_ => some k_ ≠ (v12 : Value).ownBlock) v9 x9_3) ∧ Aside0 (Kd.R (Kd.int .i64) 3 w' w.heap.size (fun k_ => some k_ ≠ (v9 : Value).ownBlock) v12 x12_3) ∧ Aside0 (Below w.heap.size w w'))
     case atStart => exact ⟨(a3), (y104), (y116), (by first | rfl | (simp; done) | (simp [*]; done)), H', ⟨Nat.le_refl _⟩, ⟨by (with_reducible repeat (first | apply Kd.qg0 | apply Kd.qf0 | apply Kd.qm0)); exact Kd.qs0 HO_9.out (fun _ hk => hk.2)⟩, ⟨by (with_reducible repeat (first | apply Kd.qg0 | apply Kd.qf0 | apply Kd.qm0)); exact Kd.qs0 HO118.out (fun _ hk => hk.2)⟩, ⟨by repeat (first | (with_reducible first | exact HB.out | apply qc0 | apply qa0 | apply qb0) | exact HB.out)⟩⟩
     case round => as_aux_lemma =>
      clear H'
      try clear c1
      try clear p1
      try clear q1
      try clear hx1
      try clear c2
      try clear p2
      try clear p6
      try clear c8
      try clear c8b0
      try clear c8b1
      try clear c10
      try clear p11
      try clear q11
      try clear hx11
      try clear c12
      try clear c13
      try clear c13b0
      try clear c15
      try clear c16
      try clear c16b0
      try clear c17
      try clear c17b0
      try clear c19
      try clear c21
      try clear c23
      try clear c25
      try clear hcz27_0
      try clear hcz27_1
      try clear hcz27_2
      try clear hcz27_3
      try clear hcz29_0
      try clear hcz29_1
      try clear hcz29_2
      try clear hcz29_3
      try clear hcz31_0
      try clear hcz31_1
      try clear hcz31_2
      try clear hcz31_3
      try clear hcz33_0
      try clear hcz33_1
      try clear hcz33_2
      try clear hcz33_3
      try clear hcz35_0
      try clear hcz35_1
      try clear hcz35_2
      try clear hcz35_3
      try clear hfz27_0
      try clear hfz27_1
      try clear hfz27_2
      try clear hfz27_3
      try clear hfz29_0
      try clear hfz29_1
      try clear hfz29_2
      try clear hfz29_3
      try clear hfz31_0
      try clear hfz31_1
      try clear hfz31_2
      try clear hfz31_3
      try clear hfz33_0
      try clear hfz33_1
      try clear hfz33_2
      try clear hfz33_3
      try clear hfz35_0
      try clear hfz35_1
      try clear hfz35_2
      try clear hfz35_3
      try clear hx110_0
      try clear hx110_1
      try clear hx110_2
      try clear hx110_3
      try clear p110
      try clear p2
      try clear q110
      obtain ⟨x3_3, x9_3, x12_3, rfl, HA, HK3, HO_9, HO_12, HB⟩ := hrel
      cases gk with
      | zero => exact absurd HA.out (by simp [spec_Propose.l1])
      | succ k3 =>
       have H := HA.out
       clear HA
       simp only [spec_Propose.l1] at H
       have H' := Aside0.mk H
       clear H
       go_wp2
       repeat (go_quiet (fail); try go_wp2)
       go_loopg [13, 14] k3 (fun kq v13 v14 w' => ∃ (x13_4 : Int) (x14_4 : Int), v13 = .int .i64 x13_4 ∧ v14 = .int .i64 x14_4 ∧ Aside0 (spec_Propose.l2 kq l0 a1 a2 x3_3 x9_3 x12_3 x13_4 x14_4 = some r) ∧ Aside0 (kq ≤ k3) ∧ Aside0 (Kd.R (Kd.int .i64) 3 w' w.heap.size (fun k_ => some k_ ≠ (u12 : Value).ownBlock) u9 x9_3) ∧ Aside0 (Kd.R (Kd.int .i64) 3 w' w.heap.size (fun k_ => some k_ ≠ (u9 : Value).ownBlock) u12 x12_3) ∧ Aside0 (Below w.heap.size w w'))
       case atStart => exact ⟨((-1)), (0), (by first | rfl | (simp; done) | (simp [*]; done)), (by first | rfl | (simp; done) | (simp [*]; done)), H', ⟨Nat.le_refl _⟩, ⟨by (with_reducible repeat (first | apply Kd.qg0 | apply Kd.qf0 | apply Kd.qm0)); exact HO_9.out⟩, ⟨by (with_reducible repeat (first | apply Kd.qg0 | apply Kd.qf0 | apply Kd.qm0)); exact HO_12.out⟩, ⟨by repeat (first | (with_reducible first | exact HB.out | apply qc0 | apply qa0 | apply qb0) | exact HB.out)⟩⟩
       case round => as_aux_lemma =>
        clear H'
        try clear c1
        try clear p1
        try clear q1
        try clear hx1
        try clear c2
        try clear p2
        try clear p6
        try clear c8
        try clear c8b0
        try clear c8b1
        try clear c10
        try clear p11
        try clear q11
        try clear hx11
        try clear c12
        try clear c13
        try clear c13b0
        try clear c15
        try clear c16
        try clear c16b0
        try clear c17
        try clear c17b0
        try clear c19
        try clear c21
        try clear c23
        try clear c25
        try clear hcz27_0
        try clear hcz27_1
        try clear hcz27_2
        try clear hcz27_3
        try clear hcz29_0
        try clear hcz29_1
        try clear hcz29_2
        try clear hcz29_3
        try clear hcz31_0
        try clear hcz31_1
        try clear hcz31_2
        try clear hcz31_3
        try clear hcz33_0
        try clear hcz33_1
        try clear hcz33_2
        try clear hcz33_3
        try clear hcz35_0
        try clear hcz35_1
        try clear hcz35_2
        try clear hcz35_3
        try clear hfz27_0
        try clear hfz27_1
        try clear hfz27_2
        try clear hfz27_3
        try clear hfz29_0
        try clear hfz29_1
        try clear hfz29_2
        try clear hfz29_3
        try clear hfz31_0
        try clear hfz31_1
        try clear hfz31_2
        try clear hfz31_3
        try clear hfz33_0
        try clear hfz33_1
        try clear hfz33_2
        try clear hfz33_3
        try clear hfz35_0
        try clear hfz35_1
        try clear hfz35_2
        try clear hfz35_3
        try clear hx110_0
        try clear hx110_1
        try clear hx110_2
        try clear hx110_3
        try clear p1
        try clear p11
        try clear p110
        try clear p2
        try clear p6
        try clear q1
        try clear q11
        try clear q110
        obtain ⟨x13_4, x14_4, rfl, rfl, HA, HK4, HO_9, HO_12, HB⟩ := hrel
        cases gk with
        | zero => exact absurd HA.out (by simp [spec_Propose.l2])
        | succ k4 =>
         have H := HA.out
         clear HA
         simp only [spec_Propose.l2] at H
         by_cases c38 : x14_4 < (l0.length : Int)
         ·rw [if_pos c38] at H
          have c38b0 : decide (x14_4 < (l0.length : Int)) = true := decide_eq_true c38
          clear c38
          by_cases c39 : 0 ≤ x14_4
          case neg => rw [if_neg c39] at H; exact absurd H (by simp)
          rw [if_pos c39] at H
          have c39b0 : decide (0 ≤ x14_4) = true := decide_eq_true c39
          clear c39
          have HC40 := Aside0.mk H
          clear H
          have p119 : 0 ≤ (x14_4 : Int) := of_decide_eq_true (by first | (with_reducible assumption) | assumption)
          have q119 : x14_4 < (l0.length : Int) := of_decide_eq_true (by first | (with_reducible assumption) | assumption)
          obtain ⟨ad119, e119, hx119_0, hx119_1, hx119_2, hx119_3⟩ := at_T129 HR0.out x14_4 p119 q119
          cases e119
          replace hx119_0 := (HB.out.cell (World.block_lt_of_cell? w _ hx119_0)).trans hx119_0
          replace hx119_1 := (HB.out.cell (World.block_lt_of_cell? w _ hx119_1)).trans hx119_1
          replace hx119_2 := (HB.out.cell (World.block_lt_of_cell? w _ hx119_2)).trans hx119_2
          replace hx119_3 := (HB.out.cell (World.block_lt_of_cell? w _ hx119_3)).trans hx119_3
          replace p119 := eq_true p119
          replace q119 := eq_true q119
          go_upto_region 16 with (fail)
          repeat (go_quiet (fail); go_upto_region 16 with (fail))
          go_cut [15, 16] (fun v15 v16 wc => ∃ (kq : Nat) (x15_39 : Bool) (x16_39 : Bool), v15 = .bool x15_39 ∧ v16 = .bool x16_39 ∧ Aside0 (spec_Propose.j4 kq l0 a1 a2 x3_3 x9_3 x12_3 x13_4 x14_4 x15_39 x16_39 = some r) ∧ Aside0 (kq ≤ k4) ∧ Aside0 (Kd.R (Kd.int .i64) 3 wc w.heap.size (fun k_ => some k_ ≠ (u12 : Value).ownBlock) u9 x9_3) ∧ Aside0 (Kd.R (Kd.int .i64) 3 wc w.heap.size (fun k_ => some k_ ≠ (u9 : Value).ownBlock) u12 x12_3) ∧ Aside0 (Below w.heap.size w wc))
          case first => as_aux_lemma =>
           have H := HC40.out
           clear HC40
           by_cases c41 : (((rd_T129 l0 x14_4).f0) ≤ a2)
           ·rw [if_pos c41] at H
            have c41b0 : decide (((rd_T129 l0 x14_4).f0) ≤ a2) = true := decide_eq_true c41
            clear c41
            (first | rw [c41b0] | (simp only [i64_w, i32_w]; rw [c41b0]) | skip)
            have H' := Aside0.mk H
            clear H
            go_wp2
            repeat (go_quiet (fail); try go_wp2)
            go_meet
            case rel => exact ⟨_, (true), (false), (by first | rfl | (simp; done) | (simp [*]; done)), (by first | rfl | (simp; done) | (simp [*]; done)), H', ⟨by have := HJ4.out; have := HK2.out; have := HK3.out; have := HK4.out; first | omega | exact Nat.le_refl _⟩, ⟨by (with_reducible repeat (first | apply Kd.qg0 | apply Kd.qf0 | apply Kd.qm0)); exact HO_9.out⟩, ⟨by (with_reducible repeat (first | apply Kd.qg0 | apply Kd.qf0 | apply Kd.qm0)); exact HO_12.out⟩, ⟨by repeat (first | (with_reducible first | exact HB.out | apply qc0 | apply qa0 | apply qb0) | exact HB.out)⟩⟩
           rw [if_neg c41] at H
           have c41b0 : decide (((rd_T129 l0 x14_4).f0) ≤ a2) = false := decide_eq_false c41
           clear c41
           (first | rw [c41b0] | (simp only [i64_w, i32_w]; rw [c41b0]) | skip)
           replace H := Option.bind_eq_some_iff.mp H
           obtain ⟨t121, A420, H⟩ := H
           replace H : (if t121 = true then (spec_Propose.j4 k4 l0 a1 a2 x3_3 x9_3 x12_3 x13_4 x14_4 false (decide (((rd_T129 l0 x14_4).f2) > 0))) else (spec_Propose.j4 k4 l0 a1 a2 x3_3 x9_3 x12_3 x13_4 x14_4 false false)) = some r := H
           have A42 := Aside0.mk A420
           clear A420
           by_cases c43 : t121 = true
           ·subst c43
            have H1 : (spec_Propose.j4 k4 l0 a1 a2 x3_3 x9_3 x12_3 x13_4 x14_4 false (decide (((rd_T129 l0 x14_4).f2) > 0))) = some r := by rw [if_pos rfl] at H; exact H
            clear H
            have H := H1
            clear H1
            have H' := Aside0.mk H
            clear H
            have p120 : 0 ≤ (x14_4 : Int) := of_decide_eq_true (by first | (with_reducible assumption) | assumption)
            have q120 : x14_4 < (l0.length : Int) := of_decide_eq_true (by first | (with_reducible assumption) | assumption)
            obtain ⟨ad120, e120, hx120_0, hx120_1, hx120_2, hx120_3⟩ := at_T129 HR0.out x14_4 p120 q120
            obtain rfl : ad119 = ad120 := (by injection e120)
            replace hx120_0 := (HB.out.cell (World.block_lt_of_cell? w _ hx120_0)).trans hx120_0
            replace hx120_1 := (HB.out.cell (World.block_lt_of_cell? w _ hx120_1)).trans hx120_1
            replace hx120_2 := (HB.out.cell (World.block_lt_of_cell? w _ hx120_2)).trans hx120_2
            replace hx120_3 := (HB.out.cell (World.block_lt_of_cell? w _ hx120_3)).trans hx120_3
            replace p120 := eq_true p120
            replace q120 := eq_true q120
            go_wp2_with (first | (go_at_call 90; (with_reducible refine (spec_l1In.calls ((rd_T129 l0 x14_4).f1) a1 a2 true _ A42.out).mono ?_); rintro e w' ⟨rfl, ⟨nd, rfl⟩⟩; (try first | exact ⟨rfl, _, World.drewN_drewN _ _ _⟩ | exact ⟨rfl, _, Eq.trans (World.drewN_drewN _ _ _) (congrArg (World.drewN _) (Nat.add_assoc _ _ _))⟩); have p122 : 0 ≤ (x14_4 : Int) := of_decide_eq_true (by first | (with_reducible assumption) | assumption); have q122 : x14_4 < (l0.length : Int) := of_decide_eq_true (by first | (with_reducible assumption) | assumption); obtain ⟨ad122, e122, hx122_0, hx122_1, hx122_2, hx122_3⟩ := at_T129 HR0.out x14_4 p122 q122; obtain rfl : ad119 = ad122 := (by injection e122); replace hx122_0 := (HB.out.cell (World.block_lt_of_cell? w _ hx122_0)).trans hx122_0; replace hx122_1 := (HB.out.cell (World.block_lt_of_cell? w _ hx122_1)).trans hx122_1; replace hx122_2 := (HB.out.cell (World.block_lt_of_cell? w _ hx122_2)).trans hx122_2; replace hx122_3 := (HB.out.cell (World.block_lt_of_cell? w _ hx122_3)).trans hx122_3; replace p122 := eq_true p122; replace q122 := eq_true q122))
            repeat (go_quiet (first | (go_at_call 90; (with_reducible refine (spec_l1In.calls ((rd_T129 l0 x14_4).f1) a1 a2 true _ A42.out).mono ?_); rintro e w' ⟨rfl, ⟨nd, rfl⟩⟩; (try first | exact ⟨rfl, _, World.drewN_drewN _ _ _⟩ | exact ⟨rfl, _, Eq.trans (World.drewN_drewN _ _ _) (congrArg (World.drewN _) (Nat.add_assoc _ _ _))⟩); have p122 : 0 ≤ (x14_4 : Int) := of_decide_eq_true (by first | (with_reducible assumption) | assumption); have q122 : x14_4 < (l0.length : Int) := of_decide_eq_true (by first | (with_reducible assumption) | assumption); obtain ⟨ad122, e122, hx122_0, hx122_1, hx122_2, hx122_3⟩ := at_T129 HR0.out x14_4 p122 q122; obtain rfl : ad119 = ad122 := (by injection e122); replace hx122_0 := (HB.out.cell (World.block_lt_of_cell? w _ hx122_0)).trans hx122_0; replace hx122_1 := (HB.out.cell (World.block_lt_of_cell? w _ hx122_1)).trans hx122_1; replace hx122_2 := (HB.out.cell (World.block_lt_of_cell? w _ hx122_2)).trans hx122_2; replace hx122_3 := (HB.out.cell (World.block_lt_of_cell? w _ hx122_3)).trans hx122_3; replace p122 := eq_true p122; replace q122 := eq_true q122)); try go_wp2_with (first | (go_at_call 90; (with_reducible refine (spec_l1In.calls ((rd_T129 l0 x14_4).f1) a1 a2 true _ A42.out).mono ?_); rintro e w' ⟨rfl, ⟨nd, rfl⟩⟩; (try first | exact ⟨rfl, _, World.drewN_drewN _ _ _⟩ | exact ⟨rfl, _, Eq.trans (World.drewN_drewN _ _ _) (congrArg (World.drewN _) (Nat.add_assoc _ _ _))⟩); have p122 : 0 ≤ (x14_4 : Int) := of_decide_eq_true (by first | (with_reducible assumption) | assumption); have q122 : x14_4 < (l0.length : Int) := of_decide_eq_true (by first | (with_reducible assumption) | assumption); obtain ⟨ad122, e122, hx122_0, hx122_1, hx122_2, hx122_3⟩ := at_T129 HR0.out x14_4 p122 q122; obtain rfl : ad119 = ad122 := (by injection e122); replace hx122_0 := (HB.out.cell (World.block_lt_of_cell? w _ hx122_0)).trans hx122_0; replace hx122_1 := (HB.out.cell (World.block_lt_of_cell? w _ hx122_1)).trans hx122_1; replace hx122_2 := (HB.out.cell (World.block_lt_of_cell? w _ hx122_2)).trans hx122_2; replace hx122_3 := (HB.out.cell (World.block_lt_of_cell? w _ hx122_3)).trans hx122_3; replace p122 := eq_true p122; replace q122 := eq_true q122)))
            go_meet
            case rel => exact ⟨_, (false), (decide (((rd_T129 l0 x14_4).f2) > 0)), (by first | rfl | (simp; done) | (simp [*]; done)), (by first | rfl | (simp; done) | (simp [*]; done)), H', ⟨by have := HJ4.out; have := HK2.out; have := HK3.out; have := HK4.out; first | omega | exact Nat.le_refl _⟩, ⟨by (with_reducible repeat (first | apply Kd.qg0 | apply Kd.qf0 | apply Kd.qm0)); exact HO_9.out⟩, ⟨by (with_reducible repeat (first | apply Kd.qg0 | apply Kd.qf0 | apply Kd.qm0)); exact HO_12.out⟩, ⟨by repeat (first | (with_reducible first | exact HB.out | apply qc0 | apply qa0 | apply qb0) | exact HB.out)⟩⟩
           replace c43 := Bool.eq_false_iff.mpr c43
           subst c43
           have H1 : (spec_Propose.j4 k4 l0 a1 a2 x3_3 x9_3 x12_3 x13_4 x14_4 false false) = some r := by rw [if_neg (show ¬ (false = true) by decide)] at H; exact H
           clear H
           have H := H1
           clear H1
           have H' := Aside0.mk H
           clear H
           have p120 : 0 ≤ (x14_4 : Int) := of_decide_eq_true (by first | (with_reducible assumption) | assumption)
           have q120 : x14_4 < (l0.length : Int) := of_decide_eq_true (by first | (with_reducible assumption) | assumption)
           obtain ⟨ad120, e120, hx120_0, hx120_1, hx120_2, hx120_3⟩ := at_T129 HR0.out x14_4 p120 q120
           obtain rfl : ad119 = ad120 := (by injection e120)
           replace hx120_0 := (HB.out.cell (World.block_lt_of_cell? w _ hx120_0)).trans hx120_0
           replace hx120_1 := (HB.out.cell (World.block_lt_of_cell? w _ hx120_1)).trans hx120_1
           replace hx120_2 := (HB.out.cell (World.block_lt_of_cell? w _ hx120_2)).trans hx120_2
           replace hx120_3 := (HB.out.cell (World.block_lt_of_cell? w _ hx120_3)).trans hx120_3
           replace p120 := eq_true p120
           replace q120 := eq_true q120
           go_wp2_with (first | (go_at_call 90; (with_reducible refine (spec_l1In.calls ((rd_T129 l0 x14_4).f1) a1 a2 false _ A42.out).mono ?_); rintro e w' ⟨rfl, ⟨nd, rfl⟩⟩; (try first | exact ⟨rfl, _, World.drewN_drewN _ _ _⟩ | exact ⟨rfl, _, Eq.trans (World.drewN_drewN _ _ _) (congrArg (World.drewN _) (Nat.add_assoc _ _ _))⟩)))
           repeat (go_quiet (first | (go_at_call 90; (with_reducible refine (spec_l1In.calls ((rd_T129 l0 x14_4).f1) a1 a2 false _ A42.out).mono ?_); rintro e w' ⟨rfl, ⟨nd, rfl⟩⟩; (try first | exact ⟨rfl, _, World.drewN_drewN _ _ _⟩ | exact ⟨rfl, _, Eq.trans (World.drewN_drewN _ _ _) (congrArg (World.drewN _) (Nat.add_assoc _ _ _))⟩))); try go_wp2_with (first | (go_at_call 90; (with_reducible refine (spec_l1In.calls ((rd_T129 l0 x14_4).f1) a1 a2 false _ A42.out).mono ?_); rintro e w' ⟨rfl, ⟨nd, rfl⟩⟩; (try first | exact ⟨rfl, _, World.drewN_drewN _ _ _⟩ | exact ⟨rfl, _, Eq.trans (World.drewN_drewN _ _ _) (congrArg (World.drewN _) (Nat.add_assoc _ _ _))⟩))))
           go_meet
           case rel => exact ⟨_, (false), (false), (by first | rfl | (simp; done) | (simp [*]; done)), (by first | rfl | (simp; done) | (simp [*]; done)), H', ⟨by have := HJ4.out; have := HK2.out; have := HK3.out; have := HK4.out; first | omega | exact Nat.le_refl _⟩, ⟨by (with_reducible repeat (first | apply Kd.qg0 | apply Kd.qf0 | apply Kd.qm0)); exact HO_9.out⟩, ⟨by (with_reducible repeat (first | apply Kd.qg0 | apply Kd.qf0 | apply Kd.qm0)); exact HO_12.out⟩, ⟨by repeat (first | (with_reducible first | exact HB.out | apply qc0 | apply qa0 | apply qb0) | exact HB.out)⟩⟩
          case rest => as_aux_lemma =>
           clear HC40
           try clear c1
           try clear p1
           try clear q1
           try clear hx1
           try clear c2
           try clear p2
           try clear c3
           try clear c4
           try clear p6
           try clear c8
           try clear c8b0
           try clear c8b1
           try clear c10
           try clear p11
           try clear q11
           try clear hx11
           try clear c12
           try clear p12
           try clear q12
           try clear hx12
           try clear c13
           try clear c13b0
           try clear c15
           try clear c16
           try clear c16b0
           try clear c17
           try clear c17b0
           try clear c19
           try clear c21
           try clear c23
           try clear c25
           try clear c38
           try clear c38b0
           try clear c39
           try clear c39b0
           try clear c41
           try clear c41b0
           try clear c43
           try clear hcz27_0
           try clear hcz27_1
           try clear hcz27_2
           try clear hcz27_3
           try clear hcz29_0
           try clear hcz29_1
           try clear hcz29_2
           try clear hcz29_3
           try clear hcz31_0
           try clear hcz31_1
           try clear hcz31_2
           try clear hcz31_3
           try clear hcz33_0
           try clear hcz33_1
           try clear hcz33_2
           try clear hcz33_3
           try clear hcz35_0
           try clear hcz35_1
           try clear hcz35_2
           try clear hcz35_3
           try clear hfz27_0
           try clear hfz27_1
           try clear hfz27_2
           try clear hfz27_3
           try clear hfz29_0
           try clear hfz29_1
           try clear hfz29_2
           try clear hfz29_3
           try clear hfz31_0
           try clear hfz31_1
           try clear hfz31_2
           try clear hfz31_3
           try clear hfz33_0
           try clear hfz33_1
           try clear hfz33_2
           try clear hfz33_3
           try clear hfz35_0
           try clear hfz35_1
           try clear hfz35_2
           try clear hfz35_3
           try clear hx110_0
           try clear hx110_1
           try clear hx110_2
           try clear hx110_3
           try clear hx119_0
           try clear hx119_1
           try clear hx119_2
           try clear hx119_3
           try clear hx120_0
           try clear hx120_1
           try clear hx120_2
           try clear hx120_3
           try clear hx122_0
           try clear hx122_1
           try clear hx122_2
           try clear hx122_3
           try clear p1
           try clear p11
           try clear p110
           try clear p119
           try clear p120
           try clear p122
           try clear p2
           try clear p6
           try clear q1
           try clear q11
           try clear q110
           try clear q119
           try clear q120
           try clear q122
           obtain ⟨kq, x15_39, x16_39, rfl, rfl, HA, HJ39, HO_9, HO_12, HB⟩ := hcut
           cases kq with
           | zero => exact absurd HA.out (by simp [spec_Propose.j4])
           | succ kj39 =>
            have H := HA.out
            clear HA
            simp only [spec_Propose.j4] at H
            have HC44 := Aside0.mk H
            clear H
            go_upto_region 17 with (fail)
            repeat (go_quiet (fail); go_upto_region 17 with (fail))
            go_cut [121] (fun v121 wc => ∃ (kq : Nat) (x121_43 : Bool), v121 = .bool x121_43 ∧ Aside0 (spec_Propose.j5 kq l0 a1 a2 x3_3 x9_3 x12_3 x13_4 x14_4 x15_39 x121_43 = some r) ∧ Aside0 (kq ≤ kj39) ∧ Aside0 (Kd.R (Kd.int .i64) 3 wc w.heap.size (fun k_ => some k_ ≠ (u12 : Value).ownBlock) u9 x9_3) ∧ Aside0 (Kd.R (Kd.int .i64) 3 wc w.heap.size (fun k_ => some k_ ≠ (u9 : Value).ownBlock) u12 x12_3) ∧ Aside0 (Below w.heap.size w wc))
            case first => as_aux_lemma =>
             have H := HC44.out
             clear HC44
             replace H := Option.bind_eq_some_iff.mp H
             obtain ⟨t123, A450, H⟩ := H
             replace H : (if t123 = true then (spec_Propose.j5 kj39 l0 a1 a2 x3_3 x9_3 x12_3 x13_4 x14_4 x15_39 true) else (if x15_39 = true then (spec_Propose.j5 kj39 l0 a1 a2 x3_3 x9_3 x12_3 x13_4 x14_4 x15_39 false) else (spec_Propose.j5 kj39 l0 a1 a2 x3_3 x9_3 x12_3 x13_4 x14_4 x15_39 (!x16_39)))) = some r := H
             have A45 := Aside0.mk A450
             clear A450
             by_cases c46 : t123 = true
             ·subst c46
              have H1 : (spec_Propose.j5 kj39 l0 a1 a2 x3_3 x9_3 x12_3 x13_4 x14_4 x15_39 true) = some r := by rw [if_pos rfl] at H; exact H
              clear H
              have H := H1
              clear H1
              have H' := Aside0.mk H
              clear H
              obtain ⟨Ao47, co47, eo47⟩ := Kd.qd1 HO_12.out
              subst eo47
              go_wp2_with (first | (go_at_call 92; (with_reducible refine (spec_l7Has.calls kj39 _ _ x12_3 x14_4 true _ ?side1 ?side2 A45.out).mono ?_); (case side1 => repeat (first | exact (Kd.qn0 HO_12.out).2.2 | (with_reducible refine Kd.qu0 ?_ _) | (with_reducible refine Kd.qt0 ?_ _) | (with_reducible refine Kd.qx0 ?_))); (case side2 => exact (Kd.qn0 HO_12.out).2.1); rintro e w' ⟨rfl, ⟨nd, rfl⟩⟩; (try first | exact ⟨rfl, _, World.drewN_drewN _ _ _⟩ | exact ⟨rfl, _, Eq.trans (World.drewN_drewN _ _ _) (congrArg (World.drewN _) (Nat.add_assoc _ _ _))⟩)))
              repeat (go_quiet (first | (go_at_call 92; (with_reducible refine (spec_l7Has.calls kj39 _ _ x12_3 x14_4 true _ ?side1 ?side2 A45.out).mono ?_); (case side1 => repeat (first | exact (Kd.qn0 HO_12.out).2.2 | (with_reducible refine Kd.qu0 ?_ _) | (with_reducible refine Kd.qt0 ?_ _) | (with_reducible refine Kd.qx0 ?_))); (case side2 => exact (Kd.qn0 HO_12.out).2.1); rintro e w' ⟨rfl, ⟨nd, rfl⟩⟩; (try first | exact ⟨rfl, _, World.drewN_drewN _ _ _⟩ | exact ⟨rfl, _, Eq.trans (World.drewN_drewN _ _ _) (congrArg (World.drewN _) (Nat.add_assoc _ _ _))⟩))); try go_wp2_with (first | (go_at_call 92; (with_reducible refine (spec_l7Has.calls kj39 _ _ x12_3 x14_4 true _ ?side1 ?side2 A45.out).mono ?_); (case side1 => repeat (first | exact (Kd.qn0 HO_12.out).2.2 | (with_reducible refine Kd.qu0 ?_ _) | (with_reducible refine Kd.qt0 ?_ _) | (with_reducible refine Kd.qx0 ?_))); (case side2 => exact (Kd.qn0 HO_12.out).2.1); rintro e w' ⟨rfl, ⟨nd, rfl⟩⟩; (try first | exact ⟨rfl, _, World.drewN_drewN _ _ _⟩ | exact ⟨rfl, _, Eq.trans (World.drewN_drewN _ _ _) (congrArg (World.drewN _) (Nat.add_assoc _ _ _))⟩))))
              go_meet
              case rel => exact ⟨_, (true), (by first | rfl | (simp; done) | (simp [*]; done)), H', ⟨by have := HJ4.out; have := HK2.out; have := HK3.out; have := HK4.out; have := HJ39.out; first | omega | exact Nat.le_refl _⟩, ⟨by (with_reducible repeat (first | apply Kd.qg0 | apply Kd.qf0 | apply Kd.qm0)); exact HO_9.out⟩, ⟨by (with_reducible repeat (first | apply Kd.qg0 | apply Kd.qf0 | apply Kd.qm0)); exact HO_12.out⟩, ⟨by repeat (first | (with_reducible first | exact HB.out | apply qc0 | apply qa0 | apply qb0) | exact HB.out)⟩⟩
             replace c46 := Bool.eq_false_iff.mpr c46
             subst c46
             have H1 : (if x15_39 = true then (spec_Propose.j5 kj39 l0 a1 a2 x3_3 x9_3 x12_3 x13_4 x14_4 x15_39 false) else (spec_Propose.j5 kj39 l0 a1 a2 x3_3 x9_3 x12_3 x13_4 x14_4 x15_39 (!x16_39))) = some r := by rw [if_neg (show ¬ (false = true) by decide)] at H; exact H
             clear H
             have H := H1
             clear H1
             by_cases c48 : x15_39 = true
             ·subst c48
              have H1 : (spec_Propose.j5 kj39 l0 a1 a2 x3_3 x9_3 x12_3 x13_4 x14_4 true false) = some r := by rw [if_pos rfl] at H; exact H
              clear H
              have H := H1
              clear H1
              have H' := Aside0.mk H
              clear H
              obtain ⟨Ao49, co49, eo49⟩ := Kd.qd1 HO_12.out
              subst eo49
              go_wp2_with (first | (go_at_call 92; (with_reducible refine (spec_l7Has.calls kj39 _ _ x12_3 x14_4 false _ ?side1 ?side2 A45.out).mono ?_); (case side1 => repeat (first | exact (Kd.qn0 HO_12.out).2.2 | (with_reducible refine Kd.qu0 ?_ _) | (with_reducible refine Kd.qt0 ?_ _) | (with_reducible refine Kd.qx0 ?_))); (case side2 => exact (Kd.qn0 HO_12.out).2.1); rintro e w' ⟨rfl, ⟨nd, rfl⟩⟩; (try first | exact ⟨rfl, _, World.drewN_drewN _ _ _⟩ | exact ⟨rfl, _, Eq.trans (World.drewN_drewN _ _ _) (congrArg (World.drewN _) (Nat.add_assoc _ _ _))⟩)))
              repeat (go_quiet (first | (go_at_call 92; (with_reducible refine (spec_l7Has.calls kj39 _ _ x12_3 x14_4 false _ ?side1 ?side2 A45.out).mono ?_); (case side1 => repeat (first | exact (Kd.qn0 HO_12.out).2.2 | (with_reducible refine Kd.qu0 ?_ _) | (with_reducible refine Kd.qt0 ?_ _) | (with_reducible refine Kd.qx0 ?_))); (case side2 => exact (Kd.qn0 HO_12.out).2.1); rintro e w' ⟨rfl, ⟨nd, rfl⟩⟩; (try first | exact ⟨rfl, _, World.drewN_drewN _ _ _⟩ | exact ⟨rfl, _, Eq.trans (World.drewN_drewN _ _ _) (congrArg (World.drewN _) (Nat.add_assoc _ _ _))⟩))); try go_wp2_with (first | (go_at_call 92; (with_reducible refine (spec_l7Has.calls kj39 _ _ x12_3 x14_4 false _ ?side1 ?side2 A45.out).mono ?_); (case side1 => repeat (first | exact (Kd.qn0 HO_12.out).2.2 | (with_reducible refine Kd.qu0 ?_ _) | (with_reducible refine Kd.qt0 ?_ _) | (with_reducible refine Kd.qx0 ?_))); (case side2 => exact (Kd.qn0 HO_12.out).2.1); rintro e w' ⟨rfl, ⟨nd, rfl⟩⟩; (try first | exact ⟨rfl, _, World.drewN_drewN _ _ _⟩ | exact ⟨rfl, _, Eq.trans (World.drewN_drewN _ _ _) (congrArg (World.drewN _) (Nat.add_assoc _ _ _))⟩))))
              go_meet
              case rel => exact ⟨_, (false), (by first | rfl | (simp; done) | (simp [*]; done)), H', ⟨by have := HJ4.out; have := HK2.out; have := HK3.out; have := HK4.out; have := HJ39.out; first | omega | exact Nat.le_refl _⟩, ⟨by (with_reducible repeat (first | apply Kd.qg0 | apply Kd.qf0 | apply Kd.qm0)); exact HO_9.out⟩, ⟨by (with_reducible repeat (first | apply Kd.qg0 | apply Kd.qf0 | apply Kd.qm0)); exact HO_12.out⟩, ⟨by repeat (first | (with_reducible first | exact HB.out | apply qc0 | apply qa0 | apply qb0) | exact HB.out)⟩⟩
             replace c48 := Bool.eq_false_iff.mpr c48
             subst c48
             have H1 : (spec_Propose.j5 kj39 l0 a1 a2 x3_3 x9_3 x12_3 x13_4 x14_4 false (!x16_39)) = some r := by rw [if_neg (show ¬ (false = true) by decide)] at H; exact H
             clear H
             have H := H1
             clear H1
             have H' := Aside0.mk H
             clear H
             obtain ⟨Ao50, co50, eo50⟩ := Kd.qd1 HO_12.out
             subst eo50
             go_wp2_with (first | (go_at_call 92; (with_reducible refine (spec_l7Has.calls kj39 _ _ x12_3 x14_4 false _ ?side1 ?side2 A45.out).mono ?_); (case side1 => repeat (first | exact (Kd.qn0 HO_12.out).2.2 | (with_reducible refine Kd.qu0 ?_ _) | (with_reducible refine Kd.qt0 ?_ _) | (with_reducible refine Kd.qx0 ?_))); (case side2 => exact (Kd.qn0 HO_12.out).2.1); rintro e w' ⟨rfl, ⟨nd, rfl⟩⟩; (try first | exact ⟨rfl, _, World.drewN_drewN _ _ _⟩ | exact ⟨rfl, _, Eq.trans (World.drewN_drewN _ _ _) (congrArg (World.drewN _) (Nat.add_assoc _ _ _))⟩)))
             repeat (go_quiet (first | (go_at_call 92; (with_reducible refine (spec_l7Has.calls kj39 _ _ x12_3 x14_4 false _ ?side1 ?side2 A45.out).mono ?_); (case side1 => repeat (first | exact (Kd.qn0 HO_12.out).2.2 | (with_reducible refine Kd.qu0 ?_ _) | (with_reducible refine Kd.qt0 ?_ _) | (with_reducible refine Kd.qx0 ?_))); (case side2 => exact (Kd.qn0 HO_12.out).2.1); rintro e w' ⟨rfl, ⟨nd, rfl⟩⟩; (try first | exact ⟨rfl, _, World.drewN_drewN _ _ _⟩ | exact ⟨rfl, _, Eq.trans (World.drewN_drewN _ _ _) (congrArg (World.drewN _) (Nat.add_assoc _ _ _))⟩))); try go_wp2_with (first | (go_at_call 92; (with_reducible refine (spec_l7Has.calls kj39 _ _ x12_3 x14_4 false _ ?side1 ?side2 A45.out).mono ?_); (case side1 => repeat (first | exact (Kd.qn0 HO_12.out).2.2 | (with_reducible refine Kd.qu0 ?_ _) | (with_reducible refine Kd.qt0 ?_ _) | (with_reducible refine Kd.qx0 ?_))); (case side2 => exact (Kd.qn0 HO_12.out).2.1); rintro e w' ⟨rfl, ⟨nd, rfl⟩⟩; (try first | exact ⟨rfl, _, World.drewN_drewN _ _ _⟩ | exact ⟨rfl, _, Eq.trans (World.drewN_drewN _ _ _) (congrArg (World.drewN _) (Nat.add_assoc _ _ _))⟩))))
             go_meet
             case rel => exact ⟨_, (!x16_39), (by first | rfl | (simp; done) | (simp [*]; done)), H', ⟨by have := HJ4.out; have := HK2.out; have := HK3.out; have := HK4.out; have := HJ39.out; first | omega | exact Nat.le_refl _⟩, ⟨by (with_reducible repeat (first | apply Kd.qg0 | apply Kd.qf0 | apply Kd.qm0)); exact HO_9.out⟩, ⟨by (with_reducible repeat (first | apply Kd.qg0 | apply Kd.qf0 | apply Kd.qm0)); exact HO_12.out⟩, ⟨by repeat (first | (with_reducible first | exact HB.out | apply qc0 | apply qa0 | apply qb0) | exact HB.out)⟩⟩
            case rest => as_aux_lemma =>
             clear HC44
             try clear c1
             try clear p1
             try clear q1
             try clear hx1
             try clear c2
             try clear p2
             try clear c3
             try clear c4
             try clear p6
             try clear c8
             try clear c8b0
             try clear c8b1
             try clear c10
             try clear p11
             try clear q11
             try clear hx11
             try clear c12
             try clear p12
             try clear q12
             try clear hx12
             try clear c13
             try clear c13b0
             try clear c15
             try clear c16
             try clear c16b0
             try clear c17
             try clear c17b0
             try clear c19
             try clear c21
             try clear c23
             try clear c25
             try clear c38
             try clear c38b0
             try clear c39
             try clear c39b0
             try clear c41
             try clear c41b0
             try clear c43
             try clear c46
             try clear c48
             try clear hcz27_0
             try clear hcz27_1
             try clear hcz27_2
             try clear hcz27_3
             try clear hcz29_0
             try clear hcz29_1
             try clear hcz29_2
             try clear hcz29_3
             try clear hcz31_0
             try clear hcz31_1
             try clear hcz31_2
             try clear hcz31_3
             try clear hcz33_0
             try clear hcz33_1
             try clear hcz33_2
             try clear hcz33_3
             try clear hcz35_0
             try clear hcz35_1
             try clear hcz35_2
             try clear hcz35_3
             try clear hfz27_0
             try clear hfz27_1
             try clear hfz27_2
             try clear hfz27_3
             try clear hfz29_0
             try clear hfz29_1
             try clear hfz29_2
             try clear hfz29_3
             try clear hfz31_0
             try clear hfz31_1
             try clear hfz31_2
             try clear hfz31_3
             try clear hfz33_0
             try clear hfz33_1
             try clear hfz33_2
             try clear hfz33_3
             try clear hfz35_0
             try clear hfz35_1
             try clear hfz35_2
             try clear hfz35_3
             try clear hx110_0
             try clear hx110_1
             try clear hx110_2
             try clear hx110_3
             try clear hx119_0
             try clear hx119_1
             try clear hx119_2
             try clear hx119_3
             try clear hx120_0
             try clear hx120_1
             try clear hx120_2
             try clear hx120_3
             try clear hx122_0
             try clear hx122_1
             try clear hx122_2
             try clear hx122_3
             try clear p1
             try clear p11
             try clear p110
             try clear p119
             try clear p12
             try clear p120
             try clear p122
             try clear p2
             try clear p6
             try clear q1
             try clear q11
             try clear q110
             try clear q119
             try clear q12
             try clear q120
             try clear q122
             obtain ⟨kq, x121_43, rfl, HA, HJ43, HO_9, HO_12, HB⟩ := hcut
             cases kq with
             | zero => exact absurd HA.out (by simp [spec_Propose.j5])
             | succ kj43 =>
              have H := HA.out
              clear HA
              simp only [spec_Propose.j5] at H
              by_cases c51 : x121_43 = true
              ·subst c51
               have H1 : (spec_Propose.l2 kj43 l0 a1 a2 x3_3 x9_3 x12_3 x13_4 (wrap64 (x14_4 + 1))) = some r := by rw [if_pos rfl] at H; exact H
               clear H
               have H := H1
               clear H1
               have H' := Aside0.mk H
               clear H
               go_wp2
               repeat (go_quiet (fail); try go_wp2)
               go_roundg kj43
               case measure => have := HJ4.out; have := HK2.out; have := HK3.out; have := HK4.out; have := HJ39.out; have := HJ43.out; omega
               case rel => exact ⟨(x13_4), (wrap64 (x14_4 + 1)), (by first | rfl | (simp; done) | (simp [*]; done)), (by first | rfl | (simp; done) | (simp [*]; done)), H', ⟨by have := HJ4.out; have := HK2.out; have := HK3.out; have := HK4.out; have := HJ39.out; have := HJ43.out; omega⟩, ⟨by (with_reducible repeat (first | apply Kd.qg0 | apply Kd.qf0 | apply Kd.qm0)); exact HO_9.out⟩, ⟨by (with_reducible repeat (first | apply Kd.qg0 | apply Kd.qf0 | apply Kd.qm0)); exact HO_12.out⟩, ⟨by repeat (first | (with_reducible first | exact HB.out | apply qc0 | apply qa0 | apply qb0) | exact HB.out)⟩⟩
              replace c51 := Bool.eq_false_iff.mpr c51
              subst c51
              have H1 : (if x13_4 < 0 then (spec_Propose.l2 kj43 l0 a1 a2 x3_3 x9_3 x12_3 x14_4 (wrap64 (x14_4 + 1))) else (if 0 ≤ x13_4 then (if x13_4 < (l0.length : Int) then (if (x15_39 != (decide (((rd_T129 l0 x13_4).f0) ≤ a2))) = true then (if x15_39 = true then (spec_Propose.l2 kj43 l0 a1 a2 x3_3 x9_3 x12_3 x14_4 (wrap64 (x14_4 + 1))) else (spec_Propose.l2 kj43 l0 a1 a2 x3_3 x9_3 x12_3 x13_4 (wrap64 (x14_4 + 1)))) else (if x15_39 = true then (if 0 ≤ x14_4 then (if x14_4 < (l0.length : Int) then (if ((rd_T129 l0 x14_4).f0) < ((rd_T129 l0 x13_4).f0) then (spec_Propose.j6 kj43 l0 a1 a2 x3_3 x9_3 x12_3 x13_4 x14_4 x15_39 true ((rd_T129 l0 x13_4).f0) ((rd_T129 l0 x13_4).f1) ((rd_T129 l0 x13_4).f2) ((rd_T129 l0 x13_4).f3)) else (if ((rd_T129 l0 x14_4).f0) = ((rd_T129 l0 x13_4).f0) then (spec_Propose.j6 kj43 l0 a1 a2 x3_3 x9_3 x12_3 x13_4 x14_4 x15_39 (decide (((rd_T129 l0 x14_4).f3) > ((rd_T129 l0 x13_4).f3))) ((rd_T129 l0 x13_4).f0) ((rd_T129 l0 x13_4).f1) ((rd_T129 l0 x13_4).f2) ((rd_T129 l0 x13_4).f3)) else (spec_Propose.j6 kj43 l0 a1 a2 x3_3 x9_3 x12_3 x13_4 x14_4 x15_39 false ((rd_T129 l0 x13_4).f0) ((rd_T129 l0 x13_4).f1) ((rd_T129 l0 x13_4).f2) ((rd_T129 l0 x13_4).f3)))) else (none)) else (none)) else (spec_Propose.j6 kj43 l0 a1 a2 x3_3 x9_3 x12_3 x13_4 x14_4 x15_39 false ((rd_T129 l0 x13_4).f0) ((rd_T129 l0 x13_4).f1) ((rd_T129 l0 x13_4).f2) ((rd_T129 l0 x13_4).f3)))) else (none)) else (none))) = some r := by rw [if_neg (show ¬ (false = true) by decide)] at H; exact H
              clear H
              have H := H1
              clear H1
              by_cases c52 : x13_4 < 0
              ·rw [if_pos c52] at H
               have c52b0 : decide (x13_4 < 0) = true := decide_eq_true c52
               clear c52
               have H' := Aside0.mk H
               clear H
               go_wp2
               repeat (go_quiet (fail); try go_wp2)
               go_roundg kj43
               case measure => have := HJ4.out; have := HK2.out; have := HK3.out; have := HK4.out; have := HJ39.out; have := HJ43.out; omega
               case rel => exact ⟨(x14_4), (wrap64 (x14_4 + 1)), (by first | rfl | (simp; done) | (simp [*]; done)), (by first | rfl | (simp; done) | (simp [*]; done)), H', ⟨by have := HJ4.out; have := HK2.out; have := HK3.out; have := HK4.out; have := HJ39.out; have := HJ43.out; omega⟩, ⟨by (with_reducible repeat (first | apply Kd.qg0 | apply Kd.qf0 | apply Kd.qm0)); exact HO_9.out⟩, ⟨by (with_reducible repeat (first | apply Kd.qg0 | apply Kd.qf0 | apply Kd.qm0)); exact HO_12.out⟩, ⟨by repeat (first | (with_reducible first | exact HB.out | apply qc0 | apply qa0 | apply qb0) | exact HB.out)⟩⟩
              rw [if_neg c52] at H
              have c52b0 : decide (x13_4 < 0) = false := decide_eq_false c52
              clear c52
              by_cases c53 : 0 ≤ x13_4
              case neg => rw [if_neg c53] at H; exact absurd H (by simp)
              rw [if_pos c53] at H
              have c53b0 : decide (0 ≤ x13_4) = true := decide_eq_true c53
              clear c53
              by_cases c54 : x13_4 < (l0.length : Int)
              case neg => rw [if_neg c54] at H; exact absurd H (by simp)
              rw [if_pos c54] at H
              have c54b0 : decide (x13_4 < (l0.length : Int)) = true := decide_eq_true c54
              clear c54
              by_cases c55 : (x15_39 != (decide (((rd_T129 l0 x13_4).f0) ≤ a2))) = true
              ·rw [if_pos c55] at H
               have c55b0 : (x15_39 != (decide (((rd_T129 l0 x13_4).f0) ≤ a2))) = true := c55
               (try (have c55b1 : decide (x15_39 = (decide (((rd_T129 l0 x13_4).f0) ≤ a2))) = false := by simpa using c55))
               (try (have c55b2 : (x15_39 == (decide (((rd_T129 l0 x13_4).f0) ≤ a2))) = false := by simpa using c55))
               (try (have c55b3 : ¬ (x15_39 = (decide (((rd_T129 l0 x13_4).f0) ≤ a2))) := by simpa using c55))
               clear c55
               by_cases c56 : x15_39 = true
               ·subst c56
                have H1 : (spec_Propose.l2 kj43 l0 a1 a2 x3_3 x9_3 x12_3 x14_4 (wrap64 (x14_4 + 1))) = some r := by rw [if_pos rfl] at H; exact H
                clear H
                have H := H1
                clear H1
                have H' := Aside0.mk H
                clear H
                have p124 : 0 ≤ (x13_4 : Int) := of_decide_eq_true (by first | (with_reducible assumption) | assumption)
                have q124 : x13_4 < (l0.length : Int) := of_decide_eq_true (by first | (with_reducible assumption) | assumption)
                obtain ⟨ad124, e124, hx124_0, hx124_1, hx124_2, hx124_3⟩ := at_T129 HR0.out x13_4 p124 q124
                obtain rfl : ad119 = ad124 := (by injection e124)
                replace hx124_0 := (HB.out.cell (World.block_lt_of_cell? w _ hx124_0)).trans hx124_0
                replace hx124_1 := (HB.out.cell (World.block_lt_of_cell? w _ hx124_1)).trans hx124_1
                replace hx124_2 := (HB.out.cell (World.block_lt_of_cell? w _ hx124_2)).trans hx124_2
                replace hx124_3 := (HB.out.cell (World.block_lt_of_cell? w _ hx124_3)).trans hx124_3
                replace p124 := eq_true p124
                replace q124 := eq_true q124
                go_wp2_with (first | ((with_reducible refine qv0 (N := 17) rfl ?_); refine qw0 ?hg (N := 17) ?hd (cs := #[.int .i64 0, .int .i64 0, .int .i64 0, .int .i64 0]) (t := 129) ?hr ?_; (case hd => rfl); (case hg => rfl); (case hr => first | (go_simp; done) | (go_simp; rfl)); intro gb125 hg w57 hbox hb; have n0_ := Aside0.mk (Kd.qr0 (by (with_reducible repeat (first | apply Kd.qg0 | apply Kd.qf0 | apply Kd.qm0)); exact HO_9.out) hb); have n1_ := Aside0.mk (Kd.qr0 (by (with_reducible repeat (first | apply Kd.qg0 | apply Kd.qf0 | apply Kd.qm0)); exact HO_12.out) hb); have n2_ := Aside0.mk (qo0 (by repeat (first | (with_reducible first | exact HB.out | apply qc0 | apply qa0 | apply qb0) | exact HB.out)) hb); have n3_ := Aside0.mk (hbox); have n4_ := Aside0.mk ((by rw [hg]; exact (qk0 (by repeat (first | (with_reducible first | exact HB.out | apply qc0 | apply qa0 | apply qb0) | exact HB.out))) : w.heap.size ≤ gb125)); have n5_ := Aside0.mk ((by rw [hg]; exact (qk0 (by repeat (first | (with_reducible first | exact HB.out | apply qc0 | apply qa0 | apply qb0) | exact HB.out))) : w.heap.size ≤ gb125)); clear HO_9; clear HO_12; clear HB; have HO_9 := n0_; have HO_12 := n1_; have HB := n2_; have BK125 := n3_; have GW125 := n4_; have GE125 := n5_; clear n0_ n1_ n2_ n3_ n4_ n5_; clear hb hbox hg; have hcz58_0 : w57.cell? ⟨gb125, 0, none⟩ = some (.int .i64 0) := (qe0 BK125.out 0).trans rfl; have hcz58_1 : w57.cell? ⟨gb125, 1, none⟩ = some (.int .i64 0) := (qe0 BK125.out 1).trans rfl; have hcz58_2 : w57.cell? ⟨gb125, 2, none⟩ = some (.int .i64 0) := (qe0 BK125.out 2).trans rfl; have hcz58_3 : w57.cell? ⟨gb125, 3, none⟩ = some (.int .i64 0) := (qe0 BK125.out 3).trans rfl; have hfz58_0 := qd0 BK125.out 0; have hfz58_1 := qd0 BK125.out 1; have hfz58_2 := qd0 BK125.out 2; have hfz58_3 := qd0 BK125.out 3))
                repeat (go_quiet (first | ((with_reducible refine qv0 (N := 17) rfl ?_); refine qw0 ?hg (N := 17) ?hd (cs := #[.int .i64 0, .int .i64 0, .int .i64 0, .int .i64 0]) (t := 129) ?hr ?_; (case hd => rfl); (case hg => rfl); (case hr => first | (go_simp; done) | (go_simp; rfl)); intro gb125 hg w57 hbox hb; have n0_ := Aside0.mk (Kd.qr0 (by (with_reducible repeat (first | apply Kd.qg0 | apply Kd.qf0 | apply Kd.qm0)); exact HO_9.out) hb); have n1_ := Aside0.mk (Kd.qr0 (by (with_reducible repeat (first | apply Kd.qg0 | apply Kd.qf0 | apply Kd.qm0)); exact HO_12.out) hb); have n2_ := Aside0.mk (qo0 (by repeat (first | (with_reducible first | exact HB.out | apply qc0 | apply qa0 | apply qb0) | exact HB.out)) hb); have n3_ := Aside0.mk (hbox); have n4_ := Aside0.mk ((by rw [hg]; exact (qk0 (by repeat (first | (with_reducible first | exact HB.out | apply qc0 | apply qa0 | apply qb0) | exact HB.out))) : w.heap.size ≤ gb125)); have n5_ := Aside0.mk ((by rw [hg]; exact (qk0 (by repeat (first | (with_reducible first | exact HB.out | apply qc0 | apply qa0 | apply qb0) | exact HB.out))) : w.heap.size ≤ gb125)); clear HO_9; clear HO_12; clear HB; have HO_9 := n0_; have HO_12 := n1_; have HB := n2_; have BK125 := n3_; have GW125 := n4_; have GE125 := n5_; clear n0_ n1_ n2_ n3_ n4_ n5_; clear hb hbox hg; have hcz58_0 : w57.cell? ⟨gb125, 0, none⟩ = some (.int .i64 0) := (qe0 BK125.out 0).trans rfl; have hcz58_1 : w57.cell? ⟨gb125, 1, none⟩ = some (.int .i64 0) := (qe0 BK125.out 1).trans rfl; have hcz58_2 : w57.cell? ⟨gb125, 2, none⟩ = some (.int .i64 0) := (qe0 BK125.out 2).trans rfl; have hcz58_3 : w57.cell? ⟨gb125, 3, none⟩ = some (.int .i64 0) := (qe0 BK125.out 3).trans rfl; have hfz58_0 := qd0 BK125.out 0; have hfz58_1 := qd0 BK125.out 1; have hfz58_2 := qd0 BK125.out 2; have hfz58_3 := qd0 BK125.out 3)); try go_wp2_with (first | ((with_reducible refine qv0 (N := 17) rfl ?_); refine qw0 ?hg (N := 17) ?hd (cs := #[.int .i64 0, .int .i64 0, .int .i64 0, .int .i64 0]) (t := 129) ?hr ?_; (case hd => rfl); (case hg => rfl); (case hr => first | (go_simp; done) | (go_simp; rfl)); intro gb125 hg w57 hbox hb; have n0_ := Aside0.mk (Kd.qr0 (by (with_reducible repeat (first | apply Kd.qg0 | apply Kd.qf0 | apply Kd.qm0)); exact HO_9.out) hb); have n1_ := Aside0.mk (Kd.qr0 (by (with_reducible repeat (first | apply Kd.qg0 | apply Kd.qf0 | apply Kd.qm0)); exact HO_12.out) hb); have n2_ := Aside0.mk (qo0 (by repeat (first | (with_reducible first | exact HB.out | apply qc0 | apply qa0 | apply qb0) | exact HB.out)) hb); have n3_ := Aside0.mk (hbox); have n4_ := Aside0.mk ((by rw [hg]; exact (qk0 (by repeat (first | (with_reducible first | exact HB.out | apply qc0 | apply qa0 | apply qb0) | exact HB.out))) : w.heap.size ≤ gb125)); have n5_ := Aside0.mk ((by rw [hg]; exact (qk0 (by repeat (first | (with_reducible first | exact HB.out | apply qc0 | apply qa0 | apply qb0) | exact HB.out))) : w.heap.size ≤ gb125)); clear HO_9; clear HO_12; clear HB; have HO_9 := n0_; have HO_12 := n1_; have HB := n2_; have BK125 := n3_; have GW125 := n4_; have GE125 := n5_; clear n0_ n1_ n2_ n3_ n4_ n5_; clear hb hbox hg; have hcz58_0 : w57.cell? ⟨gb125, 0, none⟩ = some (.int .i64 0) := (qe0 BK125.out 0).trans rfl; have hcz58_1 : w57.cell? ⟨gb125, 1, none⟩ = some (.int .i64 0) := (qe0 BK125.out 1).trans rfl; have hcz58_2 : w57.cell? ⟨gb125, 2, none⟩ = some (.int .i64 0) := (qe0 BK125.out 2).trans rfl; have hcz58_3 : w57.cell? ⟨gb125, 3, none⟩ = some (.int .i64 0) := (qe0 BK125.out 3).trans rfl; have hfz58_0 := qd0 BK125.out 0; have hfz58_1 := qd0 BK125.out 1; have hfz58_2 := qd0 BK125.out 2; have hfz58_3 := qd0 BK125.out 3)))
                go_roundg kj43
                case measure => have := HJ4.out; have := HK2.out; have := HK3.out; have := HK4.out; have := HJ39.out; have := HJ43.out; omega
                case rel => exact ⟨(x14_4), (wrap64 (x14_4 + 1)), (by first | rfl | (simp; done) | (simp [*]; done)), (by first | rfl | (simp; done) | (simp [*]; done)), H', ⟨by have := HJ4.out; have := HK2.out; have := HK3.out; have := HK4.out; have := HJ39.out; have := HJ43.out; omega⟩, ⟨by (with_reducible repeat (first | apply Kd.qg0 | apply Kd.qf0 | apply Kd.qm0)); exact Kd.qs0 (Kd.R_far (p := ⟨gb125, 3, none⟩) (Kd.R_far (p := ⟨gb125, 2, none⟩) (Kd.R_far (p := ⟨gb125, 1, none⟩) (Kd.R_far (p := ⟨gb125, 0, none⟩) (Kd.qj1 HO_9.out BK125.out (by decide)) (fun _ hk => hk.2) (.int .i64 ((rd_T129 l0 x13_4).f0))) (fun _ hk => hk.2) (.int .i64 ((rd_T129 l0 x13_4).f1))) (fun _ hk => hk.2) (.int .i64 ((rd_T129 l0 x13_4).f2))) (fun _ hk => hk.2) (.int .i64 ((rd_T129 l0 x13_4).f3))) (fun _ hk => hk.1)⟩, ⟨by (with_reducible repeat (first | apply Kd.qg0 | apply Kd.qf0 | apply Kd.qm0)); exact Kd.qs0 (Kd.R_far (p := ⟨gb125, 3, none⟩) (Kd.R_far (p := ⟨gb125, 2, none⟩) (Kd.R_far (p := ⟨gb125, 1, none⟩) (Kd.R_far (p := ⟨gb125, 0, none⟩) (Kd.qj1 HO_12.out BK125.out (by decide)) (fun _ hk => hk.2) (.int .i64 ((rd_T129 l0 x13_4).f0))) (fun _ hk => hk.2) (.int .i64 ((rd_T129 l0 x13_4).f1))) (fun _ hk => hk.2) (.int .i64 ((rd_T129 l0 x13_4).f2))) (fun _ hk => hk.2) (.int .i64 ((rd_T129 l0 x13_4).f3))) (fun _ hk => hk.1)⟩, ⟨by repeat (first | (with_reducible first | exact HB.out | apply qc0 | apply qa0 | apply qb0 | refine qh0 ?_ GE125.out) | exact HB.out)⟩⟩
               replace c56 := Bool.eq_false_iff.mpr c56
               subst c56
               have H1 : (spec_Propose.l2 kj43 l0 a1 a2 x3_3 x9_3 x12_3 x13_4 (wrap64 (x14_4 + 1))) = some r := by rw [if_neg (show ¬ (false = true) by decide)] at H; exact H
               clear H
               have H := H1
               clear H1
               have H' := Aside0.mk H
               clear H
               have p124 : 0 ≤ (x13_4 : Int) := of_decide_eq_true (by first | (with_reducible assumption) | assumption)
               have q124 : x13_4 < (l0.length : Int) := of_decide_eq_true (by first | (with_reducible assumption) | assumption)
               obtain ⟨ad124, e124, hx124_0, hx124_1, hx124_2, hx124_3⟩ := at_T129 HR0.out x13_4 p124 q124
               obtain rfl : ad119 = ad124 := (by injection e124)
               replace hx124_0 := (HB.out.cell (World.block_lt_of_cell? w _ hx124_0)).trans hx124_0
               replace hx124_1 := (HB.out.cell (World.block_lt_of_cell? w _ hx124_1)).trans hx124_1
               replace hx124_2 := (HB.out.cell (World.block_lt_of_cell? w _ hx124_2)).trans hx124_2
               replace hx124_3 := (HB.out.cell (World.block_lt_of_cell? w _ hx124_3)).trans hx124_3
               replace p124 := eq_true p124
               replace q124 := eq_true q124
               go_wp2_with (first | ((with_reducible refine qv0 (N := 17) rfl ?_); refine qw0 ?hg (N := 17) ?hd (cs := #[.int .i64 0, .int .i64 0, .int .i64 0, .int .i64 0]) (t := 129) ?hr ?_; (case hd => rfl); (case hg => rfl); (case hr => first | (go_simp; done) | (go_simp; rfl)); intro gb125 hg w59 hbox hb; have n0_ := Aside0.mk (Kd.qr0 (by (with_reducible repeat (first | apply Kd.qg0 | apply Kd.qf0 | apply Kd.qm0)); exact HO_9.out) hb); have n1_ := Aside0.mk (Kd.qr0 (by (with_reducible repeat (first | apply Kd.qg0 | apply Kd.qf0 | apply Kd.qm0)); exact HO_12.out) hb); have n2_ := Aside0.mk (qo0 (by repeat (first | (with_reducible first | exact HB.out | apply qc0 | apply qa0 | apply qb0) | exact HB.out)) hb); have n3_ := Aside0.mk (hbox); have n4_ := Aside0.mk ((by rw [hg]; exact (qk0 (by repeat (first | (with_reducible first | exact HB.out | apply qc0 | apply qa0 | apply qb0) | exact HB.out))) : w.heap.size ≤ gb125)); have n5_ := Aside0.mk ((by rw [hg]; exact (qk0 (by repeat (first | (with_reducible first | exact HB.out | apply qc0 | apply qa0 | apply qb0) | exact HB.out))) : w.heap.size ≤ gb125)); clear HO_9; clear HO_12; clear HB; have HO_9 := n0_; have HO_12 := n1_; have HB := n2_; have BK125 := n3_; have GW125 := n4_; have GE125 := n5_; clear n0_ n1_ n2_ n3_ n4_ n5_; clear hb hbox hg; have hcz60_0 : w59.cell? ⟨gb125, 0, none⟩ = some (.int .i64 0) := (qe0 BK125.out 0).trans rfl; have hcz60_1 : w59.cell? ⟨gb125, 1, none⟩ = some (.int .i64 0) := (qe0 BK125.out 1).trans rfl; have hcz60_2 : w59.cell? ⟨gb125, 2, none⟩ = some (.int .i64 0) := (qe0 BK125.out 2).trans rfl; have hcz60_3 : w59.cell? ⟨gb125, 3, none⟩ = some (.int .i64 0) := (qe0 BK125.out 3).trans rfl; have hfz60_0 := qd0 BK125.out 0; have hfz60_1 := qd0 BK125.out 1; have hfz60_2 := qd0 BK125.out 2; have hfz60_3 := qd0 BK125.out 3))
               repeat (go_quiet (first | ((with_reducible refine qv0 (N := 17) rfl ?_); refine qw0 ?hg (N := 17) ?hd (cs := #[.int .i64 0, .int .i64 0, .int .i64 0, .int .i64 0]) (t := 129) ?hr ?_; (case hd => rfl); (case hg => rfl); (case hr => first | (go_simp; done) | (go_simp; rfl)); intro gb125 hg w59 hbox hb; have n0_ := Aside0.mk (Kd.qr0 (by (with_reducible repeat (first | apply Kd.qg0 | apply Kd.qf0 | apply Kd.qm0)); exact HO_9.out) hb); have n1_ := Aside0.mk (Kd.qr0 (by (with_reducible repeat (first | apply Kd.qg0 | apply Kd.qf0 | apply Kd.qm0)); exact HO_12.out) hb); have n2_ := Aside0.mk (qo0 (by repeat (first | (with_reducible first | exact HB.out | apply qc0 | apply qa0 | apply qb0) | exact HB.out)) hb); have n3_ := Aside0.mk (hbox); have n4_ := Aside0.mk ((by rw [hg]; exact (qk0 (by repeat (first | (with_reducible first | exact HB.out | apply qc0 | apply qa0 | apply qb0) | exact HB.out))) : w.heap.size ≤ gb125)); have n5_ := Aside0.mk ((by rw [hg]; exact (qk0 (by repeat (first | (with_reducible first | exact HB.out | apply qc0 | apply qa0 | apply qb0) | exact HB.out))) : w.heap.size ≤ gb125)); clear HO_9; clear HO_12; clear HB; have HO_9 := n0_; have HO_12 := n1_; have HB := n2_; have BK125 := n3_; have GW125 := n4_; have GE125 := n5_; clear n0_ n1_ n2_ n3_ n4_ n5_; clear hb hbox hg; have hcz60_0 : w59.cell? ⟨gb125, 0, none⟩ = some (.int .i64 0) := (qe0 BK125.out 0).trans rfl; have hcz60_1 : w59.cell? ⟨gb125, 1, none⟩ = some (.int .i64 0) := (qe0 BK125.out 1).trans rfl; have hcz60_2 : w59.cell? ⟨gb125, 2, none⟩ = some (.int .i64 0) := (qe0 BK125.out 2).trans rfl; have hcz60_3 : w59.cell? ⟨gb125, 3, none⟩ = some (.int .i64 0) := (qe0 BK125.out 3).trans rfl; have hfz60_0 := qd0 BK125.out 0; have hfz60_1 := qd0 BK125.out 1; have hfz60_2 := qd0 BK125.out 2; have hfz60_3 := qd0 BK125.out 3)); try go_wp2_with (first | ((with_reducible refine qv0 (N := 17) rfl ?_); refine qw0 ?hg (N := 17) ?hd (cs := #[.int .i64 0, .int .i64 0, .int .i64 0, .int .i64 0]) (t := 129) ?hr ?_; (case hd => rfl); (case hg => rfl); (case hr => first | (go_simp; done) | (go_simp; rfl)); intro gb125 hg w59 hbox hb; have n0_ := Aside0.mk (Kd.qr0 (by (with_reducible repeat (first | apply Kd.qg0 | apply Kd.qf0 | apply Kd.qm0)); exact HO_9.out) hb); have n1_ := Aside0.mk (Kd.qr0 (by (with_reducible repeat (first | apply Kd.qg0 | apply Kd.qf0 | apply Kd.qm0)); exact HO_12.out) hb); have n2_ := Aside0.mk (qo0 (by repeat (first | (with_reducible first | exact HB.out | apply qc0 | apply qa0 | apply qb0) | exact HB.out)) hb); have n3_ := Aside0.mk (hbox); have n4_ := Aside0.mk ((by rw [hg]; exact (qk0 (by repeat (first | (with_reducible first | exact HB.out | apply qc0 | apply qa0 | apply qb0) | exact HB.out))) : w.heap.size ≤ gb125)); have n5_ := Aside0.mk ((by rw [hg]; exact (qk0 (by repeat (first | (with_reducible first | exact HB.out | apply qc0 | apply qa0 | apply qb0) | exact HB.out))) : w.heap.size ≤ gb125)); clear HO_9; clear HO_12; clear HB; have HO_9 := n0_; have HO_12 := n1_; have HB := n2_; have BK125 := n3_; have GW125 := n4_; have GE125 := n5_; clear n0_ n1_ n2_ n3_ n4_ n5_; clear hb hbox hg; have hcz60_0 : w59.cell? ⟨gb125, 0, none⟩ = some (.int .i64 0) := (qe0 BK125.out 0).trans rfl; have hcz60_1 : w59.cell? ⟨gb125, 1, none⟩ = some (.int .i64 0) := (qe0 BK125.out 1).trans rfl; have hcz60_2 : w59.cell? ⟨gb125, 2, none⟩ = some (.int .i64 0) := (qe0 BK125.out 2).trans rfl; have hcz60_3 : w59.cell? ⟨gb125, 3, none⟩ = some (.int .i64 0) := (qe0 BK125.out 3).trans rfl; have hfz60_0 := qd0 BK125.out 0; have hfz60_1 := qd0 BK125.out 1; have hfz60_2 := qd0 BK125.out 2; have hfz60_3 := qd0 BK125.out 3)))
               go_roundg kj43
               case measure => have := HJ4.out; have := HK2.out; have := HK3.out; have := HK4.out; have := HJ39.out; have := HJ43.out; omega
               case rel => exact ⟨(x13_4), (wrap64 (x14_4 + 1)), (by first | rfl | (simp; done) | (simp [*]; done)), (by first | rfl | (simp; done) | (simp [*]; done)), H', ⟨by have := HJ4.out; have := HK2.out; have := HK3.out; have := HK4.out; have := HJ39.out; have := HJ43.out; omega⟩, ⟨by (with_reducible repeat (first | apply Kd.qg0 | apply Kd.qf0 | apply Kd.qm0)); exact Kd.qs0 (Kd.R_far (p := ⟨gb125, 3, none⟩) (Kd.R_far (p := ⟨gb125, 2, none⟩) (Kd.R_far (p := ⟨gb125, 1, none⟩) (Kd.R_far (p := ⟨gb125, 0, none⟩) (Kd.qj1 HO_9.out BK125.out (by decide)) (fun _ hk => hk.2) (.int .i64 ((rd_T129 l0 x13_4).f0))) (fun _ hk => hk.2) (.int .i64 ((rd_T129 l0 x13_4).f1))) (fun _ hk => hk.2) (.int .i64 ((rd_T129 l0 x13_4).f2))) (fun _ hk => hk.2) (.int .i64 ((rd_T129 l0 x13_4).f3))) (fun _ hk => hk.1)⟩, ⟨by (with_reducible repeat (first | apply Kd.qg0 | apply Kd.qf0 | apply Kd.qm0)); exact Kd.qs0 (Kd.R_far (p := ⟨gb125, 3, none⟩) (Kd.R_far (p := ⟨gb125, 2, none⟩) (Kd.R_far (p := ⟨gb125, 1, none⟩) (Kd.R_far (p := ⟨gb125, 0, none⟩) (Kd.qj1 HO_12.out BK125.out (by decide)) (fun _ hk => hk.2) (.int .i64 ((rd_T129 l0 x13_4).f0))) (fun _ hk => hk.2) (.int .i64 ((rd_T129 l0 x13_4).f1))) (fun _ hk => hk.2) (.int .i64 ((rd_T129 l0 x13_4).f2))) (fun _ hk => hk.2) (.int .i64 ((rd_T129 l0 x13_4).f3))) (fun _ hk => hk.1)⟩, ⟨by repeat (first | (with_reducible first | exact HB.out | apply qc0 | apply qa0 | apply qb0 | refine qh0 ?_ GE125.out) | exact HB.out)⟩⟩
              rw [if_neg c55] at H
              have c55b0 : (x15_39 != (decide (((rd_T129 l0 x13_4).f0) ≤ a2))) = false := by simpa using c55
              (try (have c55b1 : decide (x15_39 = (decide (((rd_T129 l0 x13_4).f0) ≤ a2))) = true := by simpa using c55))
              (try (have c55b2 : (x15_39 == (decide (((rd_T129 l0 x13_4).f0) ≤ a2))) = true := by simpa using c55))
              clear c55
              have HC61 := Aside0.mk H
              clear H
              have p124 : 0 ≤ (x13_4 : Int) := of_decide_eq_true (by first | (with_reducible assumption) | assumption)
              have q124 : x13_4 < (l0.length : Int) := of_decide_eq_true (by first | (with_reducible assumption) | assumption)
              obtain ⟨ad124, e124, hx124_0, hx124_1, hx124_2, hx124_3⟩ := at_T129 HR0.out x13_4 p124 q124
              obtain rfl : ad119 = ad124 := (by injection e124)
              replace hx124_0 := (HB.out.cell (World.block_lt_of_cell? w _ hx124_0)).trans hx124_0
              replace hx124_1 := (HB.out.cell (World.block_lt_of_cell? w _ hx124_1)).trans hx124_1
              replace hx124_2 := (HB.out.cell (World.block_lt_of_cell? w _ hx124_2)).trans hx124_2
              replace hx124_3 := (HB.out.cell (World.block_lt_of_cell? w _ hx124_3)).trans hx124_3
              replace p124 := eq_true p124
              replace q124 := eq_true q124
              go_upto_region 25 with (first | ((with_reducible refine qv0 (N := 17) rfl ?_); refine qw0 ?hg (N := 17) ?hd (cs := #[.int .i64 0, .int .i64 0, .int .i64 0, .int .i64 0]) (t := 129) ?hr ?_; (case hd => rfl); (case hg => rfl); (case hr => first | (go_simp; done) | (go_simp; rfl)); intro gb125 hg w62 hbox hb; have n0_ := Aside0.mk (Kd.qr0 (by (with_reducible repeat (first | apply Kd.qg0 | apply Kd.qf0 | apply Kd.qm0)); exact HO_9.out) hb); have n1_ := Aside0.mk (Kd.qr0 (by (with_reducible repeat (first | apply Kd.qg0 | apply Kd.qf0 | apply Kd.qm0)); exact HO_12.out) hb); have n2_ := Aside0.mk (qo0 (by repeat (first | (with_reducible first | exact HB.out | apply qc0 | apply qa0 | apply qb0) | exact HB.out)) hb); have n3_ := Aside0.mk (hbox); have n4_ := Aside0.mk ((by rw [hg]; exact (qk0 (by repeat (first | (with_reducible first | exact HB.out | apply qc0 | apply qa0 | apply qb0) | exact HB.out))) : w.heap.size ≤ gb125)); have n5_ := Aside0.mk ((by rw [hg]; exact (qk0 (by repeat (first | (with_reducible first | exact HB.out | apply qc0 | apply qa0 | apply qb0) | exact HB.out))) : w.heap.size ≤ gb125)); clear HO_9; clear HO_12; clear HB; have HO_9 := n0_; have HO_12 := n1_; have HB := n2_; have BK125 := n3_; have GW125 := n4_; have GE125 := n5_; clear n0_ n1_ n2_ n3_ n4_ n5_; clear hb hbox hg; have hcz63_0 : w62.cell? ⟨gb125, 0, none⟩ = some (.int .i64 0) := (qe0 BK125.out 0).trans rfl; have hcz63_1 : w62.cell? ⟨gb125, 1, none⟩ = some (.int .i64 0) := (qe0 BK125.out 1).trans rfl; have hcz63_2 : w62.cell? ⟨gb125, 2, none⟩ = some (.int .i64 0) := (qe0 BK125.out 2).trans rfl; have hcz63_3 : w62.cell? ⟨gb125, 3, none⟩ = some (.int .i64 0) := (qe0 BK125.out 3).trans rfl; have hfz63_0 := qd0 BK125.out 0; have hfz63_1 := qd0 BK125.out 1; have hfz63_2 := qd0 BK125.out 2; have hfz63_3 := qd0 BK125.out 3))
              repeat (go_quiet (first | ((with_reducible refine qv0 (N := 17) rfl ?_); refine qw0 ?hg (N := 17) ?hd (cs := #[.int .i64 0, .int .i64 0, .int .i64 0, .int .i64 0]) (t := 129) ?hr ?_; (case hd => rfl); (case hg => rfl); (case hr => first | (go_simp; done) | (go_simp; rfl)); intro gb125 hg w62 hbox hb; have n0_ := Aside0.mk (Kd.qr0 (by (with_reducible repeat (first | apply Kd.qg0 | apply Kd.qf0 | apply Kd.qm0)); exact HO_9.out) hb); have n1_ := Aside0.mk (Kd.qr0 (by (with_reducible repeat (first | apply Kd.qg0 | apply Kd.qf0 | apply Kd.qm0)); exact HO_12.out) hb); have n2_ := Aside0.mk (qo0 (by repeat (first | (with_reducible first | exact HB.out | apply qc0 | apply qa0 | apply qb0) | exact HB.out)) hb); have n3_ := Aside0.mk (hbox); have n4_ := Aside0.mk ((by rw [hg]; exact (qk0 (by repeat (first | (with_reducible first | exact HB.out | apply qc0 | apply qa0 | apply qb0) | exact HB.out))) : w.heap.size ≤ gb125)); have n5_ := Aside0.mk ((by rw [hg]; exact (qk0 (by repeat (first | (with_reducible first | exact HB.out | apply qc0 | apply qa0 | apply qb0) | exact HB.out))) : w.heap.size ≤ gb125)); clear HO_9; clear HO_12; clear HB; have HO_9 := n0_; have HO_12 := n1_; have HB := n2_; have BK125 := n3_; have GW125 := n4_; have GE125 := n5_; clear n0_ n1_ n2_ n3_ n4_ n5_; clear hb hbox hg; have hcz63_0 : w62.cell? ⟨gb125, 0, none⟩ = some (.int .i64 0) := (qe0 BK125.out 0).trans rfl; have hcz63_1 : w62.cell? ⟨gb125, 1, none⟩ = some (.int .i64 0) := (qe0 BK125.out 1).trans rfl; have hcz63_2 : w62.cell? ⟨gb125, 2, none⟩ = some (.int .i64 0) := (qe0 BK125.out 2).trans rfl; have hcz63_3 : w62.cell? ⟨gb125, 3, none⟩ = some (.int .i64 0) := (qe0 BK125.out 3).trans rfl; have hfz63_0 := qd0 BK125.out 0; have hfz63_1 := qd0 BK125.out 1; have hfz63_2 := qd0 BK125.out 2; have hfz63_3 := qd0 BK125.out 3)); go_upto_region 25 with (first | ((with_reducible refine qv0 (N := 17) rfl ?_); refine qw0 ?hg (N := 17) ?hd (cs := #[.int .i64 0, .int .i64 0, .int .i64 0, .int .i64 0]) (t := 129) ?hr ?_; (case hd => rfl); (case hg => rfl); (case hr => first | (go_simp; done) | (go_simp; rfl)); intro gb125 hg w62 hbox hb; have n0_ := Aside0.mk (Kd.qr0 (by (with_reducible repeat (first | apply Kd.qg0 | apply Kd.qf0 | apply Kd.qm0)); exact HO_9.out) hb); have n1_ := Aside0.mk (Kd.qr0 (by (with_reducible repeat (first | apply Kd.qg0 | apply Kd.qf0 | apply Kd.qm0)); exact HO_12.out) hb); have n2_ := Aside0.mk (qo0 (by repeat (first | (with_reducible first | exact HB.out | apply qc0 | apply qa0 | apply qb0) | exact HB.out)) hb); have n3_ := Aside0.mk (hbox); have n4_ := Aside0.mk ((by rw [hg]; exact (qk0 (by repeat (first | (with_reducible first | exact HB.out | apply qc0 | apply qa0 | apply qb0) | exact HB.out))) : w.heap.size ≤ gb125)); have n5_ := Aside0.mk ((by rw [hg]; exact (qk0 (by repeat (first | (with_reducible first | exact HB.out | apply qc0 | apply qa0 | apply qb0) | exact HB.out))) : w.heap.size ≤ gb125)); clear HO_9; clear HO_12; clear HB; have HO_9 := n0_; have HO_12 := n1_; have HB := n2_; have BK125 := n3_; have GW125 := n4_; have GE125 := n5_; clear n0_ n1_ n2_ n3_ n4_ n5_; clear hb hbox hg; have hcz63_0 : w62.cell? ⟨gb125, 0, none⟩ = some (.int .i64 0) := (qe0 BK125.out 0).trans rfl; have hcz63_1 : w62.cell? ⟨gb125, 1, none⟩ = some (.int .i64 0) := (qe0 BK125.out 1).trans rfl; have hcz63_2 : w62.cell? ⟨gb125, 2, none⟩ = some (.int .i64 0) := (qe0 BK125.out 2).trans rfl; have hcz63_3 : w62.cell? ⟨gb125, 3, none⟩ = some (.int .i64 0) := (qe0 BK125.out 3).trans rfl; have hfz63_0 := qd0 BK125.out 0; have hfz63_1 := qd0 BK125.out 1; have hfz63_2 := qd0 BK125.out 2; have hfz63_3 := qd0 BK125.out 3)))
              (try simp only [Act.put, List.setIfInBounds_toArray, List.set_cons_zero, List.set_cons_succ])
              go_cut [139] (fun v139 wc => ∃ (kq : Nat) (x139_60 : Bool), v139 = .bool x139_60 ∧ Aside0 (spec_Propose.j6 kq l0 a1 a2 x3_3 x9_3 x12_3 x13_4 x14_4 x15_39 x139_60 ((rd_T129 l0 x13_4).f0) ((rd_T129 l0 x13_4).f1) ((rd_T129 l0 x13_4).f2) ((rd_T129 l0 x13_4).f3) = some r) ∧ Aside0 (kq ≤ kj43) ∧ Aside0 (Kd.R (Kd.int .i64) 3 wc w.heap.size (fun k_ => some k_ ≠ (u12 : Value).ownBlock) u9 x9_3) ∧ Aside0 (Kd.R (Kd.int .i64) 3 wc w.heap.size (fun k_ => some k_ ≠ (u9 : Value).ownBlock) u12 x12_3) ∧ Aside0 (wc.heap[gb125]? = some (.cells #[.int .i64 ((rd_T129 l0 x13_4).f0), .int .i64 ((rd_T129 l0 x13_4).f1), .int .i64 ((rd_T129 l0 x13_4).f2), .int .i64 ((rd_T129 l0 x13_4).f3)] 129 (0, 0))) ∧ Aside0 (Below w.heap.size w wc))
              case first => as_aux_lemma =>
               have H := HC61.out
               clear HC61
               by_cases c64 : x15_39 = true
               ·subst c64
                have H1 : (if 0 ≤ x14_4 then (if x14_4 < (l0.length : Int) then (if ((rd_T129 l0 x14_4).f0) < ((rd_T129 l0 x13_4).f0) then (spec_Propose.j6 kj43 l0 a1 a2 x3_3 x9_3 x12_3 x13_4 x14_4 true true ((rd_T129 l0 x13_4).f0) ((rd_T129 l0 x13_4).f1) ((rd_T129 l0 x13_4).f2) ((rd_T129 l0 x13_4).f3)) else (if ((rd_T129 l0 x14_4).f0) = ((rd_T129 l0 x13_4).f0) then (spec_Propose.j6 kj43 l0 a1 a2 x3_3 x9_3 x12_3 x13_4 x14_4 true (decide (((rd_T129 l0 x14_4).f3) > ((rd_T129 l0 x13_4).f3))) ((rd_T129 l0 x13_4).f0) ((rd_T129 l0 x13_4).f1) ((rd_T129 l0 x13_4).f2) ((rd_T129 l0 x13_4).f3)) else (spec_Propose.j6 kj43 l0 a1 a2 x3_3 x9_3 x12_3 x13_4 x14_4 true false ((rd_T129 l0 x13_4).f0) ((rd_T129 l0 x13_4).f1) ((rd_T129 l0 x13_4).f2) ((rd_T129 l0 x13_4).f3)))) else (none)) else (none)) = some r := by rw [if_pos rfl] at H; exact H
                clear H
                have H := H1
                clear H1
                by_cases c65 : 0 ≤ x14_4
                case neg => rw [if_neg c65] at H; exact absurd H (by simp)
                rw [if_pos c65] at H
                have c65b0 : decide (0 ≤ x14_4) = true := decide_eq_true c65
                clear c65
                (first | rw [c65b0] | (simp only [i64_w, i32_w]; rw [c65b0]) | skip)
                by_cases c66 : x14_4 < (l0.length : Int)
                case neg => rw [if_neg c66] at H; exact absurd H (by simp)
                rw [if_pos c66] at H
                have c66b0 : decide (x14_4 < (l0.length : Int)) = true := decide_eq_true c66
                clear c66
                by_cases c67 : ((rd_T129 l0 x14_4).f0) < ((rd_T129 l0 x13_4).f0)
                ·rw [if_pos c67] at H
                 have c67b0 : decide (((rd_T129 l0 x14_4).f0) < ((rd_T129 l0 x13_4).f0)) = true := decide_eq_true c67
                 clear c67
                 have H' := Aside0.mk H
                 clear H
                 have p126 : 0 ≤ (x14_4 : Int) := of_decide_eq_true (by first | (with_reducible assumption) | assumption)
                 have q126 : x14_4 < (l0.length : Int) := of_decide_eq_true (by first | (with_reducible assumption) | assumption)
                 obtain ⟨ad126, e126, hx126_0, hx126_1, hx126_2, hx126_3⟩ := at_T129 HR0.out x14_4 p126 q126
                 obtain rfl : ad119 = ad126 := (by injection e126)
                 have hn126_0 : ad119.block ≠ gb125 := Nat.ne_of_lt (Nat.lt_of_lt_of_le (by have := World.block_lt_of_cell? _ _ hx126_0; first | rwa [add_block] at this | exact this) GW125.out)
                 have hn126_1 : ad119.block ≠ gb125 := Nat.ne_of_lt (Nat.lt_of_lt_of_le (by have := World.block_lt_of_cell? _ _ hx126_0; first | rwa [add_block] at this | exact this) GW125.out)
                 have hn126_2 : ad119.block ≠ gb125 := Nat.ne_of_lt (Nat.lt_of_lt_of_le (by have := World.block_lt_of_cell? _ _ hx126_0; first | rwa [add_block] at this | exact this) GW125.out)
                 have hn126_3 : ad119.block ≠ gb125 := Nat.ne_of_lt (Nat.lt_of_lt_of_le (by have := World.block_lt_of_cell? _ _ hx126_0; first | rwa [add_block] at this | exact this) GW125.out)
                 replace hx126_0 := (HB.out.cell (World.block_lt_of_cell? w _ hx126_0)).trans hx126_0
                 replace hx126_1 := (HB.out.cell (World.block_lt_of_cell? w _ hx126_1)).trans hx126_1
                 replace hx126_2 := (HB.out.cell (World.block_lt_of_cell? w _ hx126_2)).trans hx126_2
                 replace hx126_3 := (HB.out.cell (World.block_lt_of_cell? w _ hx126_3)).trans hx126_3
                 replace hx126_0 := (cell_far (p := ⟨gb125, 0, none⟩) (by first | (rw [add_block]; exact hn126_0) | (show (Addr.add _ _).block ≠ _; rw [add_block]; exact hn126_0) | exact hn126_0) (.int .i64 ((rd_T129 l0 x13_4).f0))).trans hx126_0
                 replace hx126_1 := (cell_far (p := ⟨gb125, 0, none⟩) (by first | (rw [add_block]; exact hn126_0) | (show (Addr.add _ _).block ≠ _; rw [add_block]; exact hn126_0) | exact hn126_0) (.int .i64 ((rd_T129 l0 x13_4).f0))).trans hx126_1
                 replace hx126_2 := (cell_far (p := ⟨gb125, 0, none⟩) (by first | (rw [add_block]; exact hn126_0) | (show (Addr.add _ _).block ≠ _; rw [add_block]; exact hn126_0) | exact hn126_0) (.int .i64 ((rd_T129 l0 x13_4).f0))).trans hx126_2
                 replace hx126_3 := (cell_far (p := ⟨gb125, 0, none⟩) (by first | (rw [add_block]; exact hn126_0) | (show (Addr.add _ _).block ≠ _; rw [add_block]; exact hn126_0) | exact hn126_0) (.int .i64 ((rd_T129 l0 x13_4).f0))).trans hx126_3
                 replace hx126_0 := (cell_far (p := ⟨gb125, 1, none⟩) (by first | (rw [add_block]; exact hn126_1) | (show (Addr.add _ _).block ≠ _; rw [add_block]; exact hn126_1) | exact hn126_1) (.int .i64 ((rd_T129 l0 x13_4).f1))).trans hx126_0
                 replace hx126_1 := (cell_far (p := ⟨gb125, 1, none⟩) (by first | (rw [add_block]; exact hn126_1) | (show (Addr.add _ _).block ≠ _; rw [add_block]; exact hn126_1) | exact hn126_1) (.int .i64 ((rd_T129 l0 x13_4).f1))).trans hx126_1
                 replace hx126_2 := (cell_far (p := ⟨gb125, 1, none⟩) (by first | (rw [add_block]; exact hn126_1) | (show (Addr.add _ _).block ≠ _; rw [add_block]; exact hn126_1) | exact hn126_1) (.int .i64 ((rd_T129 l0 x13_4).f1))).trans hx126_2
                 replace hx126_3 := (cell_far (p := ⟨gb125, 1, none⟩) (by first | (rw [add_block]; exact hn126_1) | (show (Addr.add _ _).block ≠ _; rw [add_block]; exact hn126_1) | exact hn126_1) (.int .i64 ((rd_T129 l0 x13_4).f1))).trans hx126_3
                 replace hx126_0 := (cell_far (p := ⟨gb125, 2, none⟩) (by first | (rw [add_block]; exact hn126_2) | (show (Addr.add _ _).block ≠ _; rw [add_block]; exact hn126_2) | exact hn126_2) (.int .i64 ((rd_T129 l0 x13_4).f2))).trans hx126_0
                 replace hx126_1 := (cell_far (p := ⟨gb125, 2, none⟩) (by first | (rw [add_block]; exact hn126_2) | (show (Addr.add _ _).block ≠ _; rw [add_block]; exact hn126_2) | exact hn126_2) (.int .i64 ((rd_T129 l0 x13_4).f2))).trans hx126_1
                 replace hx126_2 := (cell_far (p := ⟨gb125, 2, none⟩) (by first | (rw [add_block]; exact hn126_2) | (show (Addr.add _ _).block ≠ _; rw [add_block]; exact hn126_2) | exact hn126_2) (.int .i64 ((rd_T129 l0 x13_4).f2))).trans hx126_2
                 replace hx126_3 := (cell_far (p := ⟨gb125, 2, none⟩) (by first | (rw [add_block]; exact hn126_2) | (show (Addr.add _ _).block ≠ _; rw [add_block]; exact hn126_2) | exact hn126_2) (.int .i64 ((rd_T129 l0 x13_4).f2))).trans hx126_3
                 replace hx126_0 := (cell_far (p := ⟨gb125, 3, none⟩) (by first | (rw [add_block]; exact hn126_3) | (show (Addr.add _ _).block ≠ _; rw [add_block]; exact hn126_3) | exact hn126_3) (.int .i64 ((rd_T129 l0 x13_4).f3))).trans hx126_0
                 replace hx126_1 := (cell_far (p := ⟨gb125, 3, none⟩) (by first | (rw [add_block]; exact hn126_3) | (show (Addr.add _ _).block ≠ _; rw [add_block]; exact hn126_3) | exact hn126_3) (.int .i64 ((rd_T129 l0 x13_4).f3))).trans hx126_1
                 replace hx126_2 := (cell_far (p := ⟨gb125, 3, none⟩) (by first | (rw [add_block]; exact hn126_3) | (show (Addr.add _ _).block ≠ _; rw [add_block]; exact hn126_3) | exact hn126_3) (.int .i64 ((rd_T129 l0 x13_4).f3))).trans hx126_2
                 replace hx126_3 := (cell_far (p := ⟨gb125, 3, none⟩) (by first | (rw [add_block]; exact hn126_3) | (show (Addr.add _ _).block ≠ _; rw [add_block]; exact hn126_3) | exact hn126_3) (.int .i64 ((rd_T129 l0 x13_4).f3))).trans hx126_3
                 (try have hy126_0 := fun (n_ : Nat) => (show ((((((w62.drewN n_).setCell ⟨gb125, 0, none⟩ (.int .i64 ((rd_T129 l0 x13_4).f0))).setCell ⟨gb125, 1, none⟩ (.int .i64 ((rd_T129 l0 x13_4).f1))).setCell ⟨gb125, 2, none⟩ (.int .i64 ((rd_T129 l0 x13_4).f2))).setCell ⟨gb125, 3, none⟩ (.int .i64 ((rd_T129 l0 x13_4).f3)))).cell? _ = some _ from hx126_0))
                 (try have hy126_1 := fun (n_ : Nat) => (show ((((((w62.drewN n_).setCell ⟨gb125, 0, none⟩ (.int .i64 ((rd_T129 l0 x13_4).f0))).setCell ⟨gb125, 1, none⟩ (.int .i64 ((rd_T129 l0 x13_4).f1))).setCell ⟨gb125, 2, none⟩ (.int .i64 ((rd_T129 l0 x13_4).f2))).setCell ⟨gb125, 3, none⟩ (.int .i64 ((rd_T129 l0 x13_4).f3)))).cell? _ = some _ from hx126_1))
                 (try have hy126_2 := fun (n_ : Nat) => (show ((((((w62.drewN n_).setCell ⟨gb125, 0, none⟩ (.int .i64 ((rd_T129 l0 x13_4).f0))).setCell ⟨gb125, 1, none⟩ (.int .i64 ((rd_T129 l0 x13_4).f1))).setCell ⟨gb125, 2, none⟩ (.int .i64 ((rd_T129 l0 x13_4).f2))).setCell ⟨gb125, 3, none⟩ (.int .i64 ((rd_T129 l0 x13_4).f3)))).cell? _ = some _ from hx126_2))
                 (try have hy126_3 := fun (n_ : Nat) => (show ((((((w62.drewN n_).setCell ⟨gb125, 0, none⟩ (.int .i64 ((rd_T129 l0 x13_4).f0))).setCell ⟨gb125, 1, none⟩ (.int .i64 ((rd_T129 l0 x13_4).f1))).setCell ⟨gb125, 2, none⟩ (.int .i64 ((rd_T129 l0 x13_4).f2))).setCell ⟨gb125, 3, none⟩ (.int .i64 ((rd_T129 l0 x13_4).f3)))).cell? _ = some _ from hx126_3))
                 clear hn126_0
                 clear hn126_1
                 clear hn126_2
                 clear hn126_3
                 replace p126 := eq_true p126
                 replace q126 := eq_true q126
                 have hcz68_0 : w62.cell? ⟨gb125, 0, none⟩ = some (.int .i64 0) := (qe0 BK125.out 0).trans rfl
                 have hcz68_1 : w62.cell? ⟨gb125, 1, none⟩ = some (.int .i64 0) := (qe0 BK125.out 1).trans rfl
                 have hcz68_2 : w62.cell? ⟨gb125, 2, none⟩ = some (.int .i64 0) := (qe0 BK125.out 2).trans rfl
                 have hcz68_3 : w62.cell? ⟨gb125, 3, none⟩ = some (.int .i64 0) := (qe0 BK125.out 3).trans rfl
                 have hfz68_0 := qd0 BK125.out 0
                 have hfz68_1 := qd0 BK125.out 1
                 have hfz68_2 := qd0 BK125.out 2
                 have hfz68_3 := qd0 BK125.out 3
                 go_wp2
                 repeat (go_quiet (fail); try go_wp2)
                 go_meet
                 case rel => exact ⟨_, (true), (by first | rfl | (simp; done) | (simp [*]; done)), H', ⟨by have := HJ4.out; have := HK2.out; have := HK3.out; have := HK4.out; have := HJ39.out; have := HJ43.out; first | omega | exact Nat.le_refl _⟩, ⟨by (with_reducible repeat (first | apply Kd.qg0 | apply Kd.qf0 | apply Kd.qm0)); exact Kd.qs0 (Kd.R_far (p := ⟨gb125, 3, none⟩) (Kd.R_far (p := ⟨gb125, 2, none⟩) (Kd.R_far (p := ⟨gb125, 1, none⟩) (Kd.R_far (p := ⟨gb125, 0, none⟩) (Kd.qj1 HO_9.out BK125.out (by decide)) (fun _ hk => hk.2) (.int .i64 ((rd_T129 l0 x13_4).f0))) (fun _ hk => hk.2) (.int .i64 ((rd_T129 l0 x13_4).f1))) (fun _ hk => hk.2) (.int .i64 ((rd_T129 l0 x13_4).f2))) (fun _ hk => hk.2) (.int .i64 ((rd_T129 l0 x13_4).f3))) (fun _ hk => hk.1)⟩, ⟨by (with_reducible repeat (first | apply Kd.qg0 | apply Kd.qf0 | apply Kd.qm0)); exact Kd.qs0 (Kd.R_far (p := ⟨gb125, 3, none⟩) (Kd.R_far (p := ⟨gb125, 2, none⟩) (Kd.R_far (p := ⟨gb125, 1, none⟩) (Kd.R_far (p := ⟨gb125, 0, none⟩) (Kd.qj1 HO_12.out BK125.out (by decide)) (fun _ hk => hk.2) (.int .i64 ((rd_T129 l0 x13_4).f0))) (fun _ hk => hk.2) (.int .i64 ((rd_T129 l0 x13_4).f1))) (fun _ hk => hk.2) (.int .i64 ((rd_T129 l0 x13_4).f2))) (fun _ hk => hk.2) (.int .i64 ((rd_T129 l0 x13_4).f3))) (fun _ hk => hk.1)⟩, ⟨by (with_reducible repeat (first | refine qi0 ?_ _ | refine ql0 ?_ | refine qj0 ?_ _)); refine blk_put (cs := #[.int .i64 ((rd_T129 l0 x13_4).f0), .int .i64 ((rd_T129 l0 x13_4).f1), .int .i64 ((rd_T129 l0 x13_4).f2), .int .i64 0]) ?_ 3 _ rfl; (with_reducible repeat (first | refine qi0 ?_ _ | refine ql0 ?_ | refine qj0 ?_ _)); refine blk_put (cs := #[.int .i64 ((rd_T129 l0 x13_4).f0), .int .i64 ((rd_T129 l0 x13_4).f1), .int .i64 0, .int .i64 0]) ?_ 2 _ rfl; (with_reducible repeat (first | refine qi0 ?_ _ | refine ql0 ?_ | refine qj0 ?_ _)); refine blk_put (cs := #[.int .i64 ((rd_T129 l0 x13_4).f0), .int .i64 0, .int .i64 0, .int .i64 0]) ?_ 1 _ rfl; (with_reducible repeat (first | refine qi0 ?_ _ | refine ql0 ?_ | refine qj0 ?_ _)); refine blk_put (cs := #[.int .i64 0, .int .i64 0, .int .i64 0, .int .i64 0]) ?_ 0 _ rfl; (with_reducible repeat (first | refine qi0 ?_ _ | refine ql0 ?_ | refine qj0 ?_ _)); exact BK125.out⟩, ⟨by repeat (first | (with_reducible first | exact HB.out | apply qc0 | apply qa0 | apply qb0 | refine qh0 ?_ GE125.out) | exact HB.out)⟩⟩
                rw [if_neg c67] at H
                have c67b0 : decide (((rd_T129 l0 x14_4).f0) < ((rd_T129 l0 x13_4).f0)) = false := decide_eq_false c67
                clear c67
                by_cases c69 : ((rd_T129 l0 x14_4).f0) = ((rd_T129 l0 x13_4).f0)
                ·rw [if_pos c69] at H
                 have c69b0 : (((rd_T129 l0 x14_4).f0) == ((rd_T129 l0 x13_4).f0)) = true := beq_iff_eq.mpr c69
                 have c69b1 : (((rd_T129 l0 x14_4).f0) != ((rd_T129 l0 x13_4).f0)) = false := bne_eq_false_iff_eq.mpr c69
                 clear c69
                 have H' := Aside0.mk H
                 clear H
                 have p126 : 0 ≤ (x14_4 : Int) := of_decide_eq_true (by first | (with_reducible assumption) | assumption)
                 have q126 : x14_4 < (l0.length : Int) := of_decide_eq_true (by first | (with_reducible assumption) | assumption)
                 obtain ⟨ad126, e126, hx126_0, hx126_1, hx126_2, hx126_3⟩ := at_T129 HR0.out x14_4 p126 q126
                 obtain rfl : ad119 = ad126 := (by injection e126)
                 have hn126_0 : ad119.block ≠ gb125 := Nat.ne_of_lt (Nat.lt_of_lt_of_le (by have := World.block_lt_of_cell? _ _ hx126_0; first | rwa [add_block] at this | exact this) GW125.out)
                 have hn126_1 : ad119.block ≠ gb125 := Nat.ne_of_lt (Nat.lt_of_lt_of_le (by have := World.block_lt_of_cell? _ _ hx126_0; first | rwa [add_block] at this | exact this) GW125.out)
                 have hn126_2 : ad119.block ≠ gb125 := Nat.ne_of_lt (Nat.lt_of_lt_of_le (by have := World.block_lt_of_cell? _ _ hx126_0; first | rwa [add_block] at this | exact this) GW125.out)
                 have hn126_3 : ad119.block ≠ gb125 := Nat.ne_of_lt (Nat.lt_of_lt_of_le (by have := World.block_lt_of_cell? _ _ hx126_0; first | rwa [add_block] at this | exact this) GW125.out)
                 replace hx126_0 := (HB.out.cell (World.block_lt_of_cell? w _ hx126_0)).trans hx126_0
                 replace hx126_1 := (HB.out.cell (World.block_lt_of_cell? w _ hx126_1)).trans hx126_1
                 replace hx126_2 := (HB.out.cell (World.block_lt_of_cell? w _ hx126_2)).trans hx126_2
                 replace hx126_3 := (HB.out.cell (World.block_lt_of_cell? w _ hx126_3)).trans hx126_3
                 replace hx126_0 := (cell_far (p := ⟨gb125, 0, none⟩) (by first | (rw [add_block]; exact hn126_0) | (show (Addr.add _ _).block ≠ _; rw [add_block]; exact hn126_0) | exact hn126_0) (.int .i64 ((rd_T129 l0 x13_4).f0))).trans hx126_0
                 replace hx126_1 := (cell_far (p := ⟨gb125, 0, none⟩) (by first | (rw [add_block]; exact hn126_0) | (show (Addr.add _ _).block ≠ _; rw [add_block]; exact hn126_0) | exact hn126_0) (.int .i64 ((rd_T129 l0 x13_4).f0))).trans hx126_1
                 replace hx126_2 := (cell_far (p := ⟨gb125, 0, none⟩) (by first | (rw [add_block]; exact hn126_0) | (show (Addr.add _ _).block ≠ _; rw [add_block]; exact hn126_0) | exact hn126_0) (.int .i64 ((rd_T129 l0 x13_4).f0))).trans hx126_2
                 replace hx126_3 := (cell_far (p := ⟨gb125, 0, none⟩) (by first | (rw [add_block]; exact hn126_0) | (show (Addr.add _ _).block ≠ _; rw [add_block]; exact hn126_0) | exact hn126_0) (.int .i64 ((rd_T129 l0 x13_4).f0))).trans hx126_3
                 replace hx126_0 := (cell_far (p := ⟨gb125, 1, none⟩) (by first | (rw [add_block]; exact hn126_1) | (show (Addr.add _ _).block ≠ _; rw [add_block]; exact hn126_1) | exact hn126_1) (.int .i64 ((rd_T129 l0 x13_4).f1))).trans hx126_0
                 replace hx126_1 := (cell_far (p := ⟨gb125, 1, none⟩) (by first | (rw [add_block]; exact hn126_1) | (show (Addr.add _ _).block ≠ _; rw [add_block]; exact hn126_1) | exact hn126_1) (.int .i64 ((rd_T129 l0 x13_4).f1))).trans hx126_1
                 replace hx126_2 := (cell_far (p := ⟨gb125, 1, none⟩) (by first | (rw [add_block]; exact hn126_1) | (show (Addr.add _ _).block ≠ _; rw [add_block]; exact hn126_1) | exact hn126_1) (.int .i64 ((rd_T129 l0 x13_4).f1))).trans hx126_2
                 replace hx126_3 := (cell_far (p := ⟨gb125, 1, none⟩) (by first | (rw [add_block]; exact hn126_1) | (show (Addr.add _ _).block ≠ _; rw [add_block]; exact hn126_1) | exact hn126_1) (.int .i64 ((rd_T129 l0 x13_4).f1))).trans hx126_3
                 replace hx126_0 := (cell_far (p := ⟨gb125, 2, none⟩) (by first | (rw [add_block]; exact hn126_2) | (show (Addr.add _ _).block ≠ _; rw [add_block]; exact hn126_2) | exact hn126_2) (.int .i64 ((rd_T129 l0 x13_4).f2))).trans hx126_0
                 replace hx126_1 := (cell_far (p := ⟨gb125, 2, none⟩) (by first | (rw [add_block]; exact hn126_2) | (show (Addr.add _ _).block ≠ _; rw [add_block]; exact hn126_2) | exact hn126_2) (.int .i64 ((rd_T129 l0 x13_4).f2))).trans hx126_1
                 replace hx126_2 := (cell_far (p := ⟨gb125, 2, none⟩) (by first | (rw [add_block]; exact hn126_2) | (show (Addr.add _ _).block ≠ _; rw [add_block]; exact hn126_2) | exact hn126_2) (.int .i64 ((rd_T129 l0 x13_4).f2))).trans hx126_2
                 replace hx126_3 := (cell_far (p := ⟨gb125, 2, none⟩) (by first | (rw [add_block]; exact hn126_2) | (show (Addr.add _ _).block ≠ _; rw [add_block]; exact hn126_2) | exact hn126_2) (.int .i64 ((rd_T129 l0 x13_4).f2))).trans hx126_3
                 replace hx126_0 := (cell_far (p := ⟨gb125, 3, none⟩) (by first | (rw [add_block]; exact hn126_3) | (show (Addr.add _ _).block ≠ _; rw [add_block]; exact hn126_3) | exact hn126_3) (.int .i64 ((rd_T129 l0 x13_4).f3))).trans hx126_0
                 replace hx126_1 := (cell_far (p := ⟨gb125, 3, none⟩) (by first | (rw [add_block]; exact hn126_3) | (show (Addr.add _ _).block ≠ _; rw [add_block]; exact hn126_3) | exact hn126_3) (.int .i64 ((rd_T129 l0 x13_4).f3))).trans hx126_1
                 replace hx126_2 := (cell_far (p := ⟨gb125, 3, none⟩) (by first | (rw [add_block]; exact hn126_3) | (show (Addr.add _ _).block ≠ _; rw [add_block]; exact hn126_3) | exact hn126_3) (.int .i64 ((rd_T129 l0 x13_4).f3))).trans hx126_2
                 replace hx126_3 := (cell_far (p := ⟨gb125, 3, none⟩) (by first | (rw [add_block]; exact hn126_3) | (show (Addr.add _ _).block ≠ _; rw [add_block]; exact hn126_3) | exact hn126_3) (.int .i64 ((rd_T129 l0 x13_4).f3))).trans hx126_3
                 (try have hy126_0 := fun (n_ : Nat) => (show ((((((w62.drewN n_).setCell ⟨gb125, 0, none⟩ (.int .i64 ((rd_T129 l0 x13_4).f0))).setCell ⟨gb125, 1, none⟩ (.int .i64 ((rd_T129 l0 x13_4).f1))).setCell ⟨gb125, 2, none⟩ (.int .i64 ((rd_T129 l0 x13_4).f2))).setCell ⟨gb125, 3, none⟩ (.int .i64 ((rd_T129 l0 x13_4).f3)))).cell? _ = some _ from hx126_0))
                 (try have hy126_1 := fun (n_ : Nat) => (show ((((((w62.drewN n_).setCell ⟨gb125, 0, none⟩ (.int .i64 ((rd_T129 l0 x13_4).f0))).setCell ⟨gb125, 1, none⟩ (.int .i64 ((rd_T129 l0 x13_4).f1))).setCell ⟨gb125, 2, none⟩ (.int .i64 ((rd_T129 l0 x13_4).f2))).setCell ⟨gb125, 3, none⟩ (.int .i64 ((rd_T129 l0 x13_4).f3)))).cell? _ = some _ from hx126_1))
                 (try have hy126_2 := fun (n_ : Nat) => (show ((((((w62.drewN n_).setCell ⟨gb125, 0, none⟩ (.int .i64 ((rd_T129 l0 x13_4).f0))).setCell ⟨gb125, 1, none⟩ (.int .i64 ((rd_T129 l0 x13_4).f1))).setCell ⟨gb125, 2, none⟩ (.int .i64 ((rd_T129 l0 x13_4).f2))).setCell ⟨gb125, 3, none⟩ (.int .i64 ((rd_T129 l0 x13_4).f3)))).cell? _ = some _ from hx126_2))
                 (try have hy126_3 := fun (n_ : Nat) => (show ((((((w62.drewN n_).setCell ⟨gb125, 0, none⟩ (.int .i64 ((rd_T129 l0 x13_4).f0))).setCell ⟨gb125, 1, none⟩ (.int .i64 ((rd_T129 l0 x13_4).f1))).setCell ⟨gb125, 2, none⟩ (.int .i64 ((rd_T129 l0 x13_4).f2))).setCell ⟨gb125, 3, none⟩ (.int .i64 ((rd_T129 l0 x13_4).f3)))).cell? _ = some _ from hx126_3))
                 clear hn126_0
                 clear hn126_1
                 clear hn126_2
                 clear hn126_3
                 replace p126 := eq_true p126
                 replace q126 := eq_true q126
                 have hcz70_0 : w62.cell? ⟨gb125, 0, none⟩ = some (.int .i64 0) := (qe0 BK125.out 0).trans rfl
                 have hcz70_1 : w62.cell? ⟨gb125, 1, none⟩ = some (.int .i64 0) := (qe0 BK125.out 1).trans rfl
                 have hcz70_2 : w62.cell? ⟨gb125, 2, none⟩ = some (.int .i64 0) := (qe0 BK125.out 2).trans rfl
                 have hcz70_3 : w62.cell? ⟨gb125, 3, none⟩ = some (.int .i64 0) := (qe0 BK125.out 3).trans rfl
                 have hfz70_0 := qd0 BK125.out 0
                 have hfz70_1 := qd0 BK125.out 1
                 have hfz70_2 := qd0 BK125.out 2
                 have hfz70_3 := qd0 BK125.out 3
                 have p127 : 0 ≤ (x14_4 : Int) := of_decide_eq_true (by first | (with_reducible assumption) | assumption)
                 have q127 : x14_4 < (l0.length : Int) := of_decide_eq_true (by first | (with_reducible assumption) | assumption)
                 obtain ⟨ad127, e127, hx127_0, hx127_1, hx127_2, hx127_3⟩ := at_T129 HR0.out x14_4 p127 q127
                 obtain rfl : ad119 = ad127 := (by injection e127)
                 have hn127_0 : ad119.block ≠ gb125 := Nat.ne_of_lt (Nat.lt_of_lt_of_le (by have := World.block_lt_of_cell? _ _ hx127_0; first | rwa [add_block] at this | exact this) GW125.out)
                 have hn127_1 : ad119.block ≠ gb125 := Nat.ne_of_lt (Nat.lt_of_lt_of_le (by have := World.block_lt_of_cell? _ _ hx127_0; first | rwa [add_block] at this | exact this) GW125.out)
                 have hn127_2 : ad119.block ≠ gb125 := Nat.ne_of_lt (Nat.lt_of_lt_of_le (by have := World.block_lt_of_cell? _ _ hx127_0; first | rwa [add_block] at this | exact this) GW125.out)
                 have hn127_3 : ad119.block ≠ gb125 := Nat.ne_of_lt (Nat.lt_of_lt_of_le (by have := World.block_lt_of_cell? _ _ hx127_0; first | rwa [add_block] at this | exact this) GW125.out)
                 replace hx127_0 := (HB.out.cell (World.block_lt_of_cell? w _ hx127_0)).trans hx127_0
                 replace hx127_1 := (HB.out.cell (World.block_lt_of_cell? w _ hx127_1)).trans hx127_1
                 replace hx127_2 := (HB.out.cell (World.block_lt_of_cell? w _ hx127_2)).trans hx127_2
                 replace hx127_3 := (HB.out.cell (World.block_lt_of_cell? w _ hx127_3)).trans hx127_3
                 replace hx127_0 := (cell_far (p := ⟨gb125, 0, none⟩) (by first | (rw [add_block]; exact hn127_0) | (show (Addr.add _ _).block ≠ _; rw [add_block]; exact hn127_0) | exact hn127_0) (.int .i64 ((rd_T129 l0 x13_4).f0))).trans hx127_0
                 replace hx127_1 := (cell_far (p := ⟨gb125, 0, none⟩) (by first | (rw [add_block]; exact hn127_0) | (show (Addr.add _ _).block ≠ _; rw [add_block]; exact hn127_0) | exact hn127_0) (.int .i64 ((rd_T129 l0 x13_4).f0))).trans hx127_1
                 replace hx127_2 := (cell_far (p := ⟨gb125, 0, none⟩) (by first | (rw [add_block]; exact hn127_0) | (show (Addr.add _ _).block ≠ _; rw [add_block]; exact hn127_0) | exact hn127_0) (.int .i64 ((rd_T129 l0 x13_4).f0))).trans hx127_2
                 replace hx127_3 := (cell_far (p := ⟨gb125, 0, none⟩) (by first | (rw [add_block]; exact hn127_0) | (show (Addr.add _ _).block ≠ _; rw [add_block]; exact hn127_0) | exact hn127_0) (.int .i64 ((rd_T129 l0 x13_4).f0))).trans hx127_3
                 replace hx127_0 := (cell_far (p := ⟨gb125, 1, none⟩) (by first | (rw [add_block]; exact hn127_1) | (show (Addr.add _ _).block ≠ _; rw [add_block]; exact hn127_1) | exact hn127_1) (.int .i64 ((rd_T129 l0 x13_4).f1))).trans hx127_0
                 replace hx127_1 := (cell_far (p := ⟨gb125, 1, none⟩) (by first | (rw [add_block]; exact hn127_1) | (show (Addr.add _ _).block ≠ _; rw [add_block]; exact hn127_1) | exact hn127_1) (.int .i64 ((rd_T129 l0 x13_4).f1))).trans hx127_1
                 replace hx127_2 := (cell_far (p := ⟨gb125, 1, none⟩) (by first | (rw [add_block]; exact hn127_1) | (show (Addr.add _ _).block ≠ _; rw [add_block]; exact hn127_1) | exact hn127_1) (.int .i64 ((rd_T129 l0 x13_4).f1))).trans hx127_2
                 replace hx127_3 := (cell_far (p := ⟨gb125, 1, none⟩) (by first | (rw [add_block]; exact hn127_1) | (show (Addr.add _ _).block ≠ _; rw [add_block]; exact hn127_1) | exact hn127_1) (.int .i64 ((rd_T129 l0 x13_4).f1))).trans hx127_3
                 replace hx127_0 := (cell_far (p := ⟨gb125, 2, none⟩) (by first | (rw [add_block]; exact hn127_2) | (show (Addr.add _ _).block ≠ _; rw [add_block]; exact hn127_2) | exact hn127_2) (.int .i64 ((rd_T129 l0 x13_4).f2))).trans hx127_0
                 replace hx127_1 := (cell_far (p := ⟨gb125, 2, none⟩) (by first | (rw [add_block]; exact hn127_2) | (show (Addr.add _ _).block ≠ _; rw [add_block]; exact hn127_2) | exact hn127_2) (.int .i64 ((rd_T129 l0 x13_4).f2))).trans hx127_1
                 replace hx127_2 := (cell_far (p := ⟨gb125, 2, none⟩) (by first | (rw [add_block]; exact hn127_2) | (show (Addr.add _ _).block ≠ _; rw [add_block]; exact hn127_2) | exact hn127_2) (.int .i64 ((rd_T129 l0 x13_4).f2))).trans hx127_2
                 replace hx127_3 := (cell_far (p := ⟨gb125, 2, none⟩) (by first | (rw [add_block]; exact hn127_2) | (show (Addr.add _ _).block ≠ _; rw [add_block]; exact hn127_2) | exact hn127_2) (.int .i64 ((rd_T129 l0 x13_4).f2))).trans hx127_3
                 replace hx127_0 := (cell_far (p := ⟨gb125, 3, none⟩) (by first | (rw [add_block]; exact hn127_3) | (show (Addr.add _ _).block ≠ _; rw [add_block]; exact hn127_3) | exact hn127_3) (.int .i64 ((rd_T129 l0 x13_4).f3))).trans hx127_0
                 replace hx127_1 := (cell_far (p := ⟨gb125, 3, none⟩) (by first | (rw [add_block]; exact hn127_3) | (show (Addr.add _ _).block ≠ _; rw [add_block]; exact hn127_3) | exact hn127_3) (.int .i64 ((rd_T129 l0 x13_4).f3))).trans hx127_1
                 replace hx127_2 := (cell_far (p := ⟨gb125, 3, none⟩) (by first | (rw [add_block]; exact hn127_3) | (show (Addr.add _ _).block ≠ _; rw [add_block]; exact hn127_3) | exact hn127_3) (.int .i64 ((rd_T129 l0 x13_4).f3))).trans hx127_2
                 replace hx127_3 := (cell_far (p := ⟨gb125, 3, none⟩) (by first | (rw [add_block]; exact hn127_3) | (show (Addr.add _ _).block ≠ _; rw [add_block]; exact hn127_3) | exact hn127_3) (.int .i64 ((rd_T129 l0 x13_4).f3))).trans hx127_3
                 (try have hy127_0 := fun (n_ : Nat) => (show ((((((w62.drewN n_).setCell ⟨gb125, 0, none⟩ (.int .i64 ((rd_T129 l0 x13_4).f0))).setCell ⟨gb125, 1, none⟩ (.int .i64 ((rd_T129 l0 x13_4).f1))).setCell ⟨gb125, 2, none⟩ (.int .i64 ((rd_T129 l0 x13_4).f2))).setCell ⟨gb125, 3, none⟩ (.int .i64 ((rd_T129 l0 x13_4).f3)))).cell? _ = some _ from hx127_0))
                 (try have hy127_1 := fun (n_ : Nat) => (show ((((((w62.drewN n_).setCell ⟨gb125, 0, none⟩ (.int .i64 ((rd_T129 l0 x13_4).f0))).setCell ⟨gb125, 1, none⟩ (.int .i64 ((rd_T129 l0 x13_4).f1))).setCell ⟨gb125, 2, none⟩ (.int .i64 ((rd_T129 l0 x13_4).f2))).setCell ⟨gb125, 3, none⟩ (.int .i64 ((rd_T129 l0 x13_4).f3)))).cell? _ = some _ from hx127_1))
                 (try have hy127_2 := fun (n_ : Nat) => (show ((((((w62.drewN n_).setCell ⟨gb125, 0, none⟩ (.int .i64 ((rd_T129 l0 x13_4).f0))).setCell ⟨gb125, 1, none⟩ (.int .i64 ((rd_T129 l0 x13_4).f1))).setCell ⟨gb125, 2, none⟩ (.int .i64 ((rd_T129 l0 x13_4).f2))).setCell ⟨gb125, 3, none⟩ (.int .i64 ((rd_T129 l0 x13_4).f3)))).cell? _ = some _ from hx127_2))
                 (try have hy127_3 := fun (n_ : Nat) => (show ((((((w62.drewN n_).setCell ⟨gb125, 0, none⟩ (.int .i64 ((rd_T129 l0 x13_4).f0))).setCell ⟨gb125, 1, none⟩ (.int .i64 ((rd_T129 l0 x13_4).f1))).setCell ⟨gb125, 2, none⟩ (.int .i64 ((rd_T129 l0 x13_4).f2))).setCell ⟨gb125, 3, none⟩ (.int .i64 ((rd_T129 l0 x13_4).f3)))).cell? _ = some _ from hx127_3))
                 clear hn127_0
                 clear hn127_1
                 clear hn127_2
                 clear hn127_3
                 replace p127 := eq_true p127
                 replace q127 := eq_true q127
                 have p128 : 0 ≤ (x14_4 : Int) := of_decide_eq_true (by first | (with_reducible assumption) | assumption)
                 have q128 : x14_4 < (l0.length : Int) := of_decide_eq_true (by first | (with_reducible assumption) | assumption)
                 obtain ⟨ad128, e128, hx128_0, hx128_1, hx128_2, hx128_3⟩ := at_T129 HR0.out x14_4 p128 q128
                 obtain rfl : ad119 = ad128 := (by injection e128)
                 have hn128_0 : ad119.block ≠ gb125 := Nat.ne_of_lt (Nat.lt_of_lt_of_le (by have := World.block_lt_of_cell? _ _ hx128_0; first | rwa [add_block] at this | exact this) GW125.out)
                 have hn128_1 : ad119.block ≠ gb125 := Nat.ne_of_lt (Nat.lt_of_lt_of_le (by have := World.block_lt_of_cell? _ _ hx128_0; first | rwa [add_block] at this | exact this) GW125.out)
                 have hn128_2 : ad119.block ≠ gb125 := Nat.ne_of_lt (Nat.lt_of_lt_of_le (by have := World.block_lt_of_cell? _ _ hx128_0; first | rwa [add_block] at this | exact this) GW125.out)
                 have hn128_3 : ad119.block ≠ gb125 := Nat.ne_of_lt (Nat.lt_of_lt_of_le (by have := World.block_lt_of_cell? _ _ hx128_0; first | rwa [add_block] at this | exact this) GW125.out)
                 replace hx128_0 := (HB.out.cell (World.block_lt_of_cell? w _ hx128_0)).trans hx128_0
                 replace hx128_1 := (HB.out.cell (World.block_lt_of_cell? w _ hx128_1)).trans hx128_1
                 replace hx128_2 := (HB.out.cell (World.block_lt_of_cell? w _ hx128_2)).trans hx128_2
                 replace hx128_3 := (HB.out.cell (World.block_lt_of_cell? w _ hx128_3)).trans hx128_3
                 replace hx128_0 := (cell_far (p := ⟨gb125, 0, none⟩) (by first | (rw [add_block]; exact hn128_0) | (show (Addr.add _ _).block ≠ _; rw [add_block]; exact hn128_0) | exact hn128_0) (.int .i64 ((rd_T129 l0 x13_4).f0))).trans hx128_0
                 replace hx128_1 := (cell_far (p := ⟨gb125, 0, none⟩) (by first | (rw [add_block]; exact hn128_0) | (show (Addr.add _ _).block ≠ _; rw [add_block]; exact hn128_0) | exact hn128_0) (.int .i64 ((rd_T129 l0 x13_4).f0))).trans hx128_1
                 replace hx128_2 := (cell_far (p := ⟨gb125, 0, none⟩) (by first | (rw [add_block]; exact hn128_0) | (show (Addr.add _ _).block ≠ _; rw [add_block]; exact hn128_0) | exact hn128_0) (.int .i64 ((rd_T129 l0 x13_4).f0))).trans hx128_2
                 replace hx128_3 := (cell_far (p := ⟨gb125, 0, none⟩) (by first | (rw [add_block]; exact hn128_0) | (show (Addr.add _ _).block ≠ _; rw [add_block]; exact hn128_0) | exact hn128_0) (.int .i64 ((rd_T129 l0 x13_4).f0))).trans hx128_3
                 replace hx128_0 := (cell_far (p := ⟨gb125, 1, none⟩) (by first | (rw [add_block]; exact hn128_1) | (show (Addr.add _ _).block ≠ _; rw [add_block]; exact hn128_1) | exact hn128_1) (.int .i64 ((rd_T129 l0 x13_4).f1))).trans hx128_0
                 replace hx128_1 := (cell_far (p := ⟨gb125, 1, none⟩) (by first | (rw [add_block]; exact hn128_1) | (show (Addr.add _ _).block ≠ _; rw [add_block]; exact hn128_1) | exact hn128_1) (.int .i64 ((rd_T129 l0 x13_4).f1))).trans hx128_1
                 replace hx128_2 := (cell_far (p := ⟨gb125, 1, none⟩) (by first | (rw [add_block]; exact hn128_1) | (show (Addr.add _ _).block ≠ _; rw [add_block]; exact hn128_1) | exact hn128_1) (.int .i64 ((rd_T129 l0 x13_4).f1))).trans hx128_2
                 replace hx128_3 := (cell_far (p := ⟨gb125, 1, none⟩) (by first | (rw [add_block]; exact hn128_1) | (show (Addr.add _ _).block ≠ _; rw [add_block]; exact hn128_1) | exact hn128_1) (.int .i64 ((rd_T129 l0 x13_4).f1))).trans hx128_3
                 replace hx128_0 := (cell_far (p := ⟨gb125, 2, none⟩) (by first | (rw [add_block]; exact hn128_2) | (show (Addr.add _ _).block ≠ _; rw [add_block]; exact hn128_2) | exact hn128_2) (.int .i64 ((rd_T129 l0 x13_4).f2))).trans hx128_0
                 replace hx128_1 := (cell_far (p := ⟨gb125, 2, none⟩) (by first | (rw [add_block]; exact hn128_2) | (show (Addr.add _ _).block ≠ _; rw [add_block]; exact hn128_2) | exact hn128_2) (.int .i64 ((rd_T129 l0 x13_4).f2))).trans hx128_1
                 replace hx128_2 := (cell_far (p := ⟨gb125, 2, none⟩) (by first | (rw [add_block]; exact hn128_2) | (show (Addr.add _ _).block ≠ _; rw [add_block]; exact hn128_2) | exact hn128_2) (.int .i64 ((rd_T129 l0 x13_4).f2))).trans hx128_2
                 replace hx128_3 := (cell_far (p := ⟨gb125, 2, none⟩) (by first | (rw [add_block]; exact hn128_2) | (show (Addr.add _ _).block ≠ _; rw [add_block]; exact hn128_2) | exact hn128_2) (.int .i64 ((rd_T129 l0 x13_4).f2))).trans hx128_3
                 replace hx128_0 := (cell_far (p := ⟨gb125, 3, none⟩) (by first | (rw [add_block]; exact hn128_3) | (show (Addr.add _ _).block ≠ _; rw [add_block]; exact hn128_3) | exact hn128_3) (.int .i64 ((rd_T129 l0 x13_4).f3))).trans hx128_0
                 replace hx128_1 := (cell_far (p := ⟨gb125, 3, none⟩) (by first | (rw [add_block]; exact hn128_3) | (show (Addr.add _ _).block ≠ _; rw [add_block]; exact hn128_3) | exact hn128_3) (.int .i64 ((rd_T129 l0 x13_4).f3))).trans hx128_1
                 replace hx128_2 := (cell_far (p := ⟨gb125, 3, none⟩) (by first | (rw [add_block]; exact hn128_3) | (show (Addr.add _ _).block ≠ _; rw [add_block]; exact hn128_3) | exact hn128_3) (.int .i64 ((rd_T129 l0 x13_4).f3))).trans hx128_2
                 replace hx128_3 := (cell_far (p := ⟨gb125, 3, none⟩) (by first | (rw [add_block]; exact hn128_3) | (show (Addr.add _ _).block ≠ _; rw [add_block]; exact hn128_3) | exact hn128_3) (.int .i64 ((rd_T129 l0 x13_4).f3))).trans hx128_3
                 (try have hy128_0 := fun (n_ : Nat) => (show ((((((w62.drewN n_).setCell ⟨gb125, 0, none⟩ (.int .i64 ((rd_T129 l0 x13_4).f0))).setCell ⟨gb125, 1, none⟩ (.int .i64 ((rd_T129 l0 x13_4).f1))).setCell ⟨gb125, 2, none⟩ (.int .i64 ((rd_T129 l0 x13_4).f2))).setCell ⟨gb125, 3, none⟩ (.int .i64 ((rd_T129 l0 x13_4).f3)))).cell? _ = some _ from hx128_0))
                 (try have hy128_1 := fun (n_ : Nat) => (show ((((((w62.drewN n_).setCell ⟨gb125, 0, none⟩ (.int .i64 ((rd_T129 l0 x13_4).f0))).setCell ⟨gb125, 1, none⟩ (.int .i64 ((rd_T129 l0 x13_4).f1))).setCell ⟨gb125, 2, none⟩ (.int .i64 ((rd_T129 l0 x13_4).f2))).setCell ⟨gb125, 3, none⟩ (.int .i64 ((rd_T129 l0 x13_4).f3)))).cell? _ = some _ from hx128_1))
                 (try have hy128_2 := fun (n_ : Nat) => (show ((((((w62.drewN n_).setCell ⟨gb125, 0, none⟩ (.int .i64 ((rd_T129 l0 x13_4).f0))).setCell ⟨gb125, 1, none⟩ (.int .i64 ((rd_T129 l0 x13_4).f1))).setCell ⟨gb125, 2, none⟩ (.int .i64 ((rd_T129 l0 x13_4).f2))).setCell ⟨gb125, 3, none⟩ (.int .i64 ((rd_T129 l0 x13_4).f3)))).cell? _ = some _ from hx128_2))
                 (try have hy128_3 := fun (n_ : Nat) => (show ((((((w62.drewN n_).setCell ⟨gb125, 0, none⟩ (.int .i64 ((rd_T129 l0 x13_4).f0))).setCell ⟨gb125, 1, none⟩ (.int .i64 ((rd_T129 l0 x13_4).f1))).setCell ⟨gb125, 2, none⟩ (.int .i64 ((rd_T129 l0 x13_4).f2))).setCell ⟨gb125, 3, none⟩ (.int .i64 ((rd_T129 l0 x13_4).f3)))).cell? _ = some _ from hx128_3))
                 clear hn128_0
                 clear hn128_1
                 clear hn128_2
                 clear hn128_3
                 replace p128 := eq_true p128
                 replace q128 := eq_true q128
                 go_wp2
                 repeat (go_quiet (fail); try go_wp2)
                 go_meet
                 case rel => exact ⟨_, (decide (((rd_T129 l0 x14_4).f3) > ((rd_T129 l0 x13_4).f3))), (by first | rfl | (simp; done) | (simp [*]; done)), H', ⟨by have := HJ4.out; have := HK2.out; have := HK3.out; have := HK4.out; have := HJ39.out; have := HJ43.out; first | omega | exact Nat.le_refl _⟩, ⟨by (with_reducible repeat (first | apply Kd.qg0 | apply Kd.qf0 | apply Kd.qm0)); exact Kd.qs0 (Kd.R_far (p := ⟨gb125, 3, none⟩) (Kd.R_far (p := ⟨gb125, 2, none⟩) (Kd.R_far (p := ⟨gb125, 1, none⟩) (Kd.R_far (p := ⟨gb125, 0, none⟩) (Kd.qj1 HO_9.out BK125.out (by decide)) (fun _ hk => hk.2) (.int .i64 ((rd_T129 l0 x13_4).f0))) (fun _ hk => hk.2) (.int .i64 ((rd_T129 l0 x13_4).f1))) (fun _ hk => hk.2) (.int .i64 ((rd_T129 l0 x13_4).f2))) (fun _ hk => hk.2) (.int .i64 ((rd_T129 l0 x13_4).f3))) (fun _ hk => hk.1)⟩, ⟨by (with_reducible repeat (first | apply Kd.qg0 | apply Kd.qf0 | apply Kd.qm0)); exact Kd.qs0 (Kd.R_far (p := ⟨gb125, 3, none⟩) (Kd.R_far (p := ⟨gb125, 2, none⟩) (Kd.R_far (p := ⟨gb125, 1, none⟩) (Kd.R_far (p := ⟨gb125, 0, none⟩) (Kd.qj1 HO_12.out BK125.out (by decide)) (fun _ hk => hk.2) (.int .i64 ((rd_T129 l0 x13_4).f0))) (fun _ hk => hk.2) (.int .i64 ((rd_T129 l0 x13_4).f1))) (fun _ hk => hk.2) (.int .i64 ((rd_T129 l0 x13_4).f2))) (fun _ hk => hk.2) (.int .i64 ((rd_T129 l0 x13_4).f3))) (fun _ hk => hk.1)⟩, ⟨by (with_reducible repeat (first | refine qi0 ?_ _ | refine ql0 ?_ | refine qj0 ?_ _)); refine blk_put (cs := #[.int .i64 ((rd_T129 l0 x13_4).f0), .int .i64 ((rd_T129 l0 x13_4).f1), .int .i64 ((rd_T129 l0 x13_4).f2), .int .i64 0]) ?_ 3 _ rfl; (with_reducible repeat (first | refine qi0 ?_ _ | refine ql0 ?_ | refine qj0 ?_ _)); refine blk_put (cs := #[.int .i64 ((rd_T129 l0 x13_4).f0), .int .i64 ((rd_T129 l0 x13_4).f1), .int .i64 0, .int .i64 0]) ?_ 2 _ rfl; (with_reducible repeat (first | refine qi0 ?_ _ | refine ql0 ?_ | refine qj0 ?_ _)); refine blk_put (cs := #[.int .i64 ((rd_T129 l0 x13_4).f0), .int .i64 0, .int .i64 0, .int .i64 0]) ?_ 1 _ rfl; (with_reducible repeat (first | refine qi0 ?_ _ | refine ql0 ?_ | refine qj0 ?_ _)); refine blk_put (cs := #[.int .i64 0, .int .i64 0, .int .i64 0, .int .i64 0]) ?_ 0 _ rfl; (with_reducible repeat (first | refine qi0 ?_ _ | refine ql0 ?_ | refine qj0 ?_ _)); exact BK125.out⟩, ⟨by repeat (first | (with_reducible first | exact HB.out | apply qc0 | apply qa0 | apply qb0 | refine qh0 ?_ GE125.out) | exact HB.out)⟩⟩
                rw [if_neg c69] at H
                have c69b0 : (((rd_T129 l0 x14_4).f0) == ((rd_T129 l0 x13_4).f0)) = false := beq_eq_false_iff_ne.mpr c69
                have c69b1 : (((rd_T129 l0 x14_4).f0) != ((rd_T129 l0 x13_4).f0)) = true := bne_iff_ne.mpr c69
                have H' := Aside0.mk H
                clear H
                have p126 : 0 ≤ (x14_4 : Int) := of_decide_eq_true (by first | (with_reducible assumption) | assumption)
                have q126 : x14_4 < (l0.length : Int) := of_decide_eq_true (by first | (with_reducible assumption) | assumption)
                obtain ⟨ad126, e126, hx126_0, hx126_1, hx126_2, hx126_3⟩ := at_T129 HR0.out x14_4 p126 q126
                obtain rfl : ad119 = ad126 := (by injection e126)
                have hn126_0 : ad119.block ≠ gb125 := Nat.ne_of_lt (Nat.lt_of_lt_of_le (by have := World.block_lt_of_cell? _ _ hx126_0; first | rwa [add_block] at this | exact this) GW125.out)
                have hn126_1 : ad119.block ≠ gb125 := Nat.ne_of_lt (Nat.lt_of_lt_of_le (by have := World.block_lt_of_cell? _ _ hx126_0; first | rwa [add_block] at this | exact this) GW125.out)
                have hn126_2 : ad119.block ≠ gb125 := Nat.ne_of_lt (Nat.lt_of_lt_of_le (by have := World.block_lt_of_cell? _ _ hx126_0; first | rwa [add_block] at this | exact this) GW125.out)
                have hn126_3 : ad119.block ≠ gb125 := Nat.ne_of_lt (Nat.lt_of_lt_of_le (by have := World.block_lt_of_cell? _ _ hx126_0; first | rwa [add_block] at this | exact this) GW125.out)
                replace hx126_0 := (HB.out.cell (World.block_lt_of_cell? w _ hx126_0)).trans hx126_0
                replace hx126_1 := (HB.out.cell (World.block_lt_of_cell? w _ hx126_1)).trans hx126_1
                replace hx126_2 := (HB.out.cell (World.block_lt_of_cell? w _ hx126_2)).trans hx126_2
                replace hx126_3 := (HB.out.cell (World.block_lt_of_cell? w _ hx126_3)).trans hx126_3
                replace hx126_0 := (cell_far (p := ⟨gb125, 0, none⟩) (by first | (rw [add_block]; exact hn126_0) | (show (Addr.add _ _).block ≠ _; rw [add_block]; exact hn126_0) | exact hn126_0) (.int .i64 ((rd_T129 l0 x13_4).f0))).trans hx126_0
                replace hx126_1 := (cell_far (p := ⟨gb125, 0, none⟩) (by first | (rw [add_block]; exact hn126_0) | (show (Addr.add _ _).block ≠ _; rw [add_block]; exact hn126_0) | exact hn126_0) (.int .i64 ((rd_T129 l0 x13_4).f0))).trans hx126_1
                replace hx126_2 := (cell_far (p := ⟨gb125, 0, none⟩) (by first | (rw [add_block]; exact hn126_0) | (show (Addr.add _ _).block ≠ _; rw [add_block]; exact hn126_0) | exact hn126_0) (.int .i64 ((rd_T129 l0 x13_4).f0))).trans hx126_2
                replace hx126_3 := (cell_far (p := ⟨gb125, 0, none⟩) (by first | (rw [add_block]; exact hn126_0) | (show (Addr.add _ _).block ≠ _; rw [add_block]; exact hn126_0) | exact hn126_0) (.int .i64 ((rd_T129 l0 x13_4).f0))).trans hx126_3
                replace hx126_0 := (cell_far (p := ⟨gb125, 1, none⟩) (by first | (rw [add_block]; exact hn126_1) | (show (Addr.add _ _).block ≠ _; rw [add_block]; exact hn126_1) | exact hn126_1) (.int .i64 ((rd_T129 l0 x13_4).f1))).trans hx126_0
                replace hx126_1 := (cell_far (p := ⟨gb125, 1, none⟩) (by first | (rw [add_block]; exact hn126_1) | (show (Addr.add _ _).block ≠ _; rw [add_block]; exact hn126_1) | exact hn126_1) (.int .i64 ((rd_T129 l0 x13_4).f1))).trans hx126_1
                replace hx126_2 := (cell_far (p := ⟨gb125, 1, none⟩) (by first | (rw [add_block]; exact hn126_1) | (show (Addr.add _ _).block ≠ _; rw [add_block]; exact hn126_1) | exact hn126_1) (.int .i64 ((rd_T129 l0 x13_4).f1))).trans hx126_2
                replace hx126_3 := (cell_far (p := ⟨gb125, 1, none⟩) (by first | (rw [add_block]; exact hn126_1) | (show (Addr.add _ _).block ≠ _; rw [add_block]; exact hn126_1) | exact hn126_1) (.int .i64 ((rd_T129 l0 x13_4).f1))).trans hx126_3
                replace hx126_0 := (cell_far (p := ⟨gb125, 2, none⟩) (by first | (rw [add_block]; exact hn126_2) | (show (Addr.add _ _).block ≠ _; rw [add_block]; exact hn126_2) | exact hn126_2) (.int .i64 ((rd_T129 l0 x13_4).f2))).trans hx126_0
                replace hx126_1 := (cell_far (p := ⟨gb125, 2, none⟩) (by first | (rw [add_block]; exact hn126_2) | (show (Addr.add _ _).block ≠ _; rw [add_block]; exact hn126_2) | exact hn126_2) (.int .i64 ((rd_T129 l0 x13_4).f2))).trans hx126_1
                replace hx126_2 := (cell_far (p := ⟨gb125, 2, none⟩) (by first | (rw [add_block]; exact hn126_2) | (show (Addr.add _ _).block ≠ _; rw [add_block]; exact hn126_2) | exact hn126_2) (.int .i64 ((rd_T129 l0 x13_4).f2))).trans hx126_2
                replace hx126_3 := (cell_far (p := ⟨gb125, 2, none⟩) (by first | (rw [add_block]; exact hn126_2) | (show (Addr.add _ _).block ≠ _; rw [add_block]; exact hn126_2) | exact hn126_2) (.int .i64 ((rd_T129 l0 x13_4).f2))).trans hx126_3
                replace hx126_0 := (cell_far (p := ⟨gb125, 3, none⟩) (by first | (rw [add_block]; exact hn126_3) | (show (Addr.add _ _).block ≠ _; rw [add_block]; exact hn126_3) | exact hn126_3) (.int .i64 ((rd_T129 l0 x13_4).f3))).trans hx126_0
                replace hx126_1 := (cell_far (p := ⟨gb125, 3, none⟩) (by first | (rw [add_block]; exact hn126_3) | (show (Addr.add _ _).block ≠ _; rw [add_block]; exact hn126_3) | exact hn126_3) (.int .i64 ((rd_T129 l0 x13_4).f3))).trans hx126_1
                replace hx126_2 := (cell_far (p := ⟨gb125, 3, none⟩) (by first | (rw [add_block]; exact hn126_3) | (show (Addr.add _ _).block ≠ _; rw [add_block]; exact hn126_3) | exact hn126_3) (.int .i64 ((rd_T129 l0 x13_4).f3))).trans hx126_2
                replace hx126_3 := (cell_far (p := ⟨gb125, 3, none⟩) (by first | (rw [add_block]; exact hn126_3) | (show (Addr.add _ _).block ≠ _; rw [add_block]; exact hn126_3) | exact hn126_3) (.int .i64 ((rd_T129 l0 x13_4).f3))).trans hx126_3
                (try have hy126_0 := fun (n_ : Nat) => (show ((((((w62.drewN n_).setCell ⟨gb125, 0, none⟩ (.int .i64 ((rd_T129 l0 x13_4).f0))).setCell ⟨gb125, 1, none⟩ (.int .i64 ((rd_T129 l0 x13_4).f1))).setCell ⟨gb125, 2, none⟩ (.int .i64 ((rd_T129 l0 x13_4).f2))).setCell ⟨gb125, 3, none⟩ (.int .i64 ((rd_T129 l0 x13_4).f3)))).cell? _ = some _ from hx126_0))
                (try have hy126_1 := fun (n_ : Nat) => (show ((((((w62.drewN n_).setCell ⟨gb125, 0, none⟩ (.int .i64 ((rd_T129 l0 x13_4).f0))).setCell ⟨gb125, 1, none⟩ (.int .i64 ((rd_T129 l0 x13_4).f1))).setCell ⟨gb125, 2, none⟩ (.int .i64 ((rd_T129 l0 x13_4).f2))).setCell ⟨gb125, 3, none⟩ (.int .i64 ((rd_T129 l0 x13_4).f3)))).cell? _ = some _ from hx126_1))
                (try have hy126_2 := fun (n_ : Nat) => (show ((((((w62.drewN n_).setCell ⟨gb125, 0, none⟩ (.int .i64 ((rd_T129 l0 x13_4).f0))).setCell ⟨gb125, 1, none⟩ (.int .i64 ((rd_T129 l0 x13_4).f1))).setCell ⟨gb125, 2, none⟩ (.int .i64 ((rd_T129 l0 x13_4).f2))).setCell ⟨gb125, 3, none⟩ (.int .i64 ((rd_T129 l0 x13_4).f3)))).cell? _ = some _ from hx126_2))
                (try have hy126_3 := fun (n_ : Nat) => (show ((((((w62.drewN n_).setCell ⟨gb125, 0, none⟩ (.int .i64 ((rd_T129 l0 x13_4).f0))).setCell ⟨gb125, 1, none⟩ (.int .i64 ((rd_T129 l0 x13_4).f1))).setCell ⟨gb125, 2, none⟩ (.int .i64 ((rd_T129 l0 x13_4).f2))).setCell ⟨gb125, 3, none⟩ (.int .i64 ((rd_T129 l0 x13_4).f3)))).cell? _ = some _ from hx126_3))
                clear hn126_0
                clear hn126_1
                clear hn126_2
                clear hn126_3
                replace p126 := eq_true p126
                replace q126 := eq_true q126
                have hcz71_0 : w62.cell? ⟨gb125, 0, none⟩ = some (.int .i64 0) := (qe0 BK125.out 0).trans rfl
                have hcz71_1 : w62.cell? ⟨gb125, 1, none⟩ = some (.int .i64 0) := (qe0 BK125.out 1).trans rfl
                have hcz71_2 : w62.cell? ⟨gb125, 2, none⟩ = some (.int .i64 0) := (qe0 BK125.out 2).trans rfl
                have hcz71_3 : w62.cell? ⟨gb125, 3, none⟩ = some (.int .i64 0) := (qe0 BK125.out 3).trans rfl
                have hfz71_0 := qd0 BK125.out 0
                have hfz71_1 := qd0 BK125.out 1
                have hfz71_2 := qd0 BK125.out 2
                have hfz71_3 := qd0 BK125.out 3
                have p127 : 0 ≤ (x14_4 : Int) := of_decide_eq_true (by first | (with_reducible assumption) | assumption)
                have q127 : x14_4 < (l0.length : Int) := of_decide_eq_true (by first | (with_reducible assumption) | assumption)
                obtain ⟨ad127, e127, hx127_0, hx127_1, hx127_2, hx127_3⟩ := at_T129 HR0.out x14_4 p127 q127
                obtain rfl : ad119 = ad127 := (by injection e127)
                have hn127_0 : ad119.block ≠ gb125 := Nat.ne_of_lt (Nat.lt_of_lt_of_le (by have := World.block_lt_of_cell? _ _ hx127_0; first | rwa [add_block] at this | exact this) GW125.out)
                have hn127_1 : ad119.block ≠ gb125 := Nat.ne_of_lt (Nat.lt_of_lt_of_le (by have := World.block_lt_of_cell? _ _ hx127_0; first | rwa [add_block] at this | exact this) GW125.out)
                have hn127_2 : ad119.block ≠ gb125 := Nat.ne_of_lt (Nat.lt_of_lt_of_le (by have := World.block_lt_of_cell? _ _ hx127_0; first | rwa [add_block] at this | exact this) GW125.out)
                have hn127_3 : ad119.block ≠ gb125 := Nat.ne_of_lt (Nat.lt_of_lt_of_le (by have := World.block_lt_of_cell? _ _ hx127_0; first | rwa [add_block] at this | exact this) GW125.out)
                replace hx127_0 := (HB.out.cell (World.block_lt_of_cell? w _ hx127_0)).trans hx127_0
                replace hx127_1 := (HB.out.cell (World.block_lt_of_cell? w _ hx127_1)).trans hx127_1
                replace hx127_2 := (HB.out.cell (World.block_lt_of_cell? w _ hx127_2)).trans hx127_2
                replace hx127_3 := (HB.out.cell (World.block_lt_of_cell? w _ hx127_3)).trans hx127_3
                replace hx127_0 := (cell_far (p := ⟨gb125, 0, none⟩) (by first | (rw [add_block]; exact hn127_0) | (show (Addr.add _ _).block ≠ _; rw [add_block]; exact hn127_0) | exact hn127_0) (.int .i64 ((rd_T129 l0 x13_4).f0))).trans hx127_0
                replace hx127_1 := (cell_far (p := ⟨gb125, 0, none⟩) (by first | (rw [add_block]; exact hn127_0) | (show (Addr.add _ _).block ≠ _; rw [add_block]; exact hn127_0) | exact hn127_0) (.int .i64 ((rd_T129 l0 x13_4).f0))).trans hx127_1
                replace hx127_2 := (cell_far (p := ⟨gb125, 0, none⟩) (by first | (rw [add_block]; exact hn127_0) | (show (Addr.add _ _).block ≠ _; rw [add_block]; exact hn127_0) | exact hn127_0) (.int .i64 ((rd_T129 l0 x13_4).f0))).trans hx127_2
                replace hx127_3 := (cell_far (p := ⟨gb125, 0, none⟩) (by first | (rw [add_block]; exact hn127_0) | (show (Addr.add _ _).block ≠ _; rw [add_block]; exact hn127_0) | exact hn127_0) (.int .i64 ((rd_T129 l0 x13_4).f0))).trans hx127_3
                replace hx127_0 := (cell_far (p := ⟨gb125, 1, none⟩) (by first | (rw [add_block]; exact hn127_1) | (show (Addr.add _ _).block ≠ _; rw [add_block]; exact hn127_1) | exact hn127_1) (.int .i64 ((rd_T129 l0 x13_4).f1))).trans hx127_0
                replace hx127_1 := (cell_far (p := ⟨gb125, 1, none⟩) (by first | (rw [add_block]; exact hn127_1) | (show (Addr.add _ _).block ≠ _; rw [add_block]; exact hn127_1) | exact hn127_1) (.int .i64 ((rd_T129 l0 x13_4).f1))).trans hx127_1
                replace hx127_2 := (cell_far (p := ⟨gb125, 1, none⟩) (by first | (rw [add_block]; exact hn127_1) | (show (Addr.add _ _).block ≠ _; rw [add_block]; exact hn127_1) | exact hn127_1) (.int .i64 ((rd_T129 l0 x13_4).f1))).trans hx127_2
                replace hx127_3 := (cell_far (p := ⟨gb125, 1, none⟩) (by first | (rw [add_block]; exact hn127_1) | (show (Addr.add _ _).block ≠ _; rw [add_block]; exact hn127_1) | exact hn127_1) (.int .i64 ((rd_T129 l0 x13_4).f1))).trans hx127_3
                replace hx127_0 := (cell_far (p := ⟨gb125, 2, none⟩) (by first | (rw [add_block]; exact hn127_2) | (show (Addr.add _ _).block ≠ _; rw [add_block]; exact hn127_2) | exact hn127_2) (.int .i64 ((rd_T129 l0 x13_4).f2))).trans hx127_0
                replace hx127_1 := (cell_far (p := ⟨gb125, 2, none⟩) (by first | (rw [add_block]; exact hn127_2) | (show (Addr.add _ _).block ≠ _; rw [add_block]; exact hn127_2) | exact hn127_2) (.int .i64 ((rd_T129 l0 x13_4).f2))).trans hx127_1
                replace hx127_2 := (cell_far (p := ⟨gb125, 2, none⟩) (by first | (rw [add_block]; exact hn127_2) | (show (Addr.add _ _).block ≠ _; rw [add_block]; exact hn127_2) | exact hn127_2) (.int .i64 ((rd_T129 l0 x13_4).f2))).trans hx127_2
                replace hx127_3 := (cell_far (p := ⟨gb125, 2, none⟩) (by first | (rw [add_block]; exact hn127_2) | (show (Addr.add _ _).block ≠ _; rw [add_block]; exact hn127_2) | exact hn127_2) (.int .i64 ((rd_T129 l0 x13_4).f2))).trans hx127_3
                replace hx127_0 := (cell_far (p := ⟨gb125, 3, none⟩) (by first | (rw [add_block]; exact hn127_3) | (show (Addr.add _ _).block ≠ _; rw [add_block]; exact hn127_3) | exact hn127_3) (.int .i64 ((rd_T129 l0 x13_4).f3))).trans hx127_0
                replace hx127_1 := (cell_far (p := ⟨gb125, 3, none⟩) (by first | (rw [add_block]; exact hn127_3) | (show (Addr.add _ _).block ≠ _; rw [add_block]; exact hn127_3) | exact hn127_3) (.int .i64 ((rd_T129 l0 x13_4).f3))).trans hx127_1
                replace hx127_2 := (cell_far (p := ⟨gb125, 3, none⟩) (by first | (rw [add_block]; exact hn127_3) | (show (Addr.add _ _).block ≠ _; rw [add_block]; exact hn127_3) | exact hn127_3) (.int .i64 ((rd_T129 l0 x13_4).f3))).trans hx127_2
                replace hx127_3 := (cell_far (p := ⟨gb125, 3, none⟩) (by first | (rw [add_block]; exact hn127_3) | (show (Addr.add _ _).block ≠ _; rw [add_block]; exact hn127_3) | exact hn127_3) (.int .i64 ((rd_T129 l0 x13_4).f3))).trans hx127_3
                (try have hy127_0 := fun (n_ : Nat) => (show ((((((w62.drewN n_).setCell ⟨gb125, 0, none⟩ (.int .i64 ((rd_T129 l0 x13_4).f0))).setCell ⟨gb125, 1, none⟩ (.int .i64 ((rd_T129 l0 x13_4).f1))).setCell ⟨gb125, 2, none⟩ (.int .i64 ((rd_T129 l0 x13_4).f2))).setCell ⟨gb125, 3, none⟩ (.int .i64 ((rd_T129 l0 x13_4).f3)))).cell? _ = some _ from hx127_0))
                (try have hy127_1 := fun (n_ : Nat) => (show ((((((w62.drewN n_).setCell ⟨gb125, 0, none⟩ (.int .i64 ((rd_T129 l0 x13_4).f0))).setCell ⟨gb125, 1, none⟩ (.int .i64 ((rd_T129 l0 x13_4).f1))).setCell ⟨gb125, 2, none⟩ (.int .i64 ((rd_T129 l0 x13_4).f2))).setCell ⟨gb125, 3, none⟩ (.int .i64 ((rd_T129 l0 x13_4).f3)))).cell? _ = some _ from hx127_1))
                (try have hy127_2 := fun (n_ : Nat) => (show ((((((w62.drewN n_).setCell ⟨gb125, 0, none⟩ (.int .i64 ((rd_T129 l0 x13_4).f0))).setCell ⟨gb125, 1, none⟩ (.int .i64 ((rd_T129 l0 x13_4).f1))).setCell ⟨gb125, 2, none⟩ (.int .i64 ((rd_T129 l0 x13_4).f2))).setCell ⟨gb125, 3, none⟩ (.int .i64 ((rd_T129 l0 x13_4).f3)))).cell? _ = some _ from hx127_2))
                (try have hy127_3 := fun (n_ : Nat) => (show ((((((w62.drewN n_).setCell ⟨gb125, 0, none⟩ (.int .i64 ((rd_T129 l0 x13_4).f0))).setCell ⟨gb125, 1, none⟩ (.int .i64 ((rd_T129 l0 x13_4).f1))).setCell ⟨gb125, 2, none⟩ (.int .i64 ((rd_T129 l0 x13_4).f2))).setCell ⟨gb125, 3, none⟩ (.int .i64 ((rd_T129 l0 x13_4).f3)))).cell? _ = some _ from hx127_3))
                clear hn127_0
                clear hn127_1
                clear hn127_2
                clear hn127_3
                replace p127 := eq_true p127
                replace q127 := eq_true q127
                go_wp2
                repeat (go_quiet (fail); try go_wp2)
                go_meet
                case rel => exact ⟨_, (false), (by first | rfl | (simp; done) | (simp [*]; done)), H', ⟨by have := HJ4.out; have := HK2.out; have := HK3.out; have := HK4.out; have := HJ39.out; have := HJ43.out; first | omega | exact Nat.le_refl _⟩, ⟨by (with_reducible repeat (first | apply Kd.qg0 | apply Kd.qf0 | apply Kd.qm0)); exact Kd.qs0 (Kd.R_far (p := ⟨gb125, 3, none⟩) (Kd.R_far (p := ⟨gb125, 2, none⟩) (Kd.R_far (p := ⟨gb125, 1, none⟩) (Kd.R_far (p := ⟨gb125, 0, none⟩) (Kd.qj1 HO_9.out BK125.out (by decide)) (fun _ hk => hk.2) (.int .i64 ((rd_T129 l0 x13_4).f0))) (fun _ hk => hk.2) (.int .i64 ((rd_T129 l0 x13_4).f1))) (fun _ hk => hk.2) (.int .i64 ((rd_T129 l0 x13_4).f2))) (fun _ hk => hk.2) (.int .i64 ((rd_T129 l0 x13_4).f3))) (fun _ hk => hk.1)⟩, ⟨by (with_reducible repeat (first | apply Kd.qg0 | apply Kd.qf0 | apply Kd.qm0)); exact Kd.qs0 (Kd.R_far (p := ⟨gb125, 3, none⟩) (Kd.R_far (p := ⟨gb125, 2, none⟩) (Kd.R_far (p := ⟨gb125, 1, none⟩) (Kd.R_far (p := ⟨gb125, 0, none⟩) (Kd.qj1 HO_12.out BK125.out (by decide)) (fun _ hk => hk.2) (.int .i64 ((rd_T129 l0 x13_4).f0))) (fun _ hk => hk.2) (.int .i64 ((rd_T129 l0 x13_4).f1))) (fun _ hk => hk.2) (.int .i64 ((rd_T129 l0 x13_4).f2))) (fun _ hk => hk.2) (.int .i64 ((rd_T129 l0 x13_4).f3))) (fun _ hk => hk.1)⟩, ⟨by (with_reducible repeat (first | refine qi0 ?_ _ | refine ql0 ?_ | refine qj0 ?_ _)); refine blk_put (cs := #[.int .i64 ((rd_T129 l0 x13_4).f0), .int .i64 ((rd_T129 l0 x13_4).f1), .int .i64 ((rd_T129 l0 x13_4).f2), .int .i64 0]) ?_ 3 _ rfl; (with_reducible repeat (first | refine qi0 ?_ _ | refine ql0 ?_ | refine qj0 ?_ _)); refine blk_put (cs := #[.int .i64 ((rd_T129 l0 x13_4).f0), .int .i64 ((rd_T129 l0 x13_4).f1), .int .i64 0, .int .i64 0]) ?_ 2 _ rfl; (with_reducible repeat (first | refine qi0 ?_ _ | refine ql0 ?_ | refine qj0 ?_ _)); refine blk_put (cs := #[.int .i64 ((rd_T129 l0 x13_4).f0), .int .i64 0, .int .i64 0, .int .i64 0]) ?_ 1 _ rfl; (with_reducible repeat (first | refine qi0 ?_ _ | refine ql0 ?_ | refine qj0 ?_ _)); refine blk_put (cs := #[.int .i64 0, .int .i64 0, .int .i64 0, .int .i64 0]) ?_ 0 _ rfl; (with_reducible repeat (first | refine qi0 ?_ _ | refine ql0 ?_ | refine qj0 ?_ _)); exact BK125.out⟩, ⟨by repeat (first | (with_reducible first | exact HB.out | apply qc0 | apply qa0 | apply qb0 | refine qh0 ?_ GE125.out) | exact HB.out)⟩⟩
               replace c64 := Bool.eq_false_iff.mpr c64
               subst c64
               have H1 : (spec_Propose.j6 kj43 l0 a1 a2 x3_3 x9_3 x12_3 x13_4 x14_4 false false ((rd_T129 l0 x13_4).f0) ((rd_T129 l0 x13_4).f1) ((rd_T129 l0 x13_4).f2) ((rd_T129 l0 x13_4).f3)) = some r := by rw [if_neg (show ¬ (false = true) by decide)] at H; exact H
               clear H
               have H := H1
               clear H1
               have H' := Aside0.mk H
               clear H
               go_wp2
               repeat (go_quiet (fail); try go_wp2)
               go_meet
               case rel => exact ⟨_, (false), (by first | rfl | (simp; done) | (simp [*]; done)), H', ⟨by have := HJ4.out; have := HK2.out; have := HK3.out; have := HK4.out; have := HJ39.out; have := HJ43.out; first | omega | exact Nat.le_refl _⟩, ⟨by (with_reducible repeat (first | apply Kd.qg0 | apply Kd.qf0 | apply Kd.qm0)); exact Kd.qs0 (Kd.R_far (p := ⟨gb125, 3, none⟩) (Kd.R_far (p := ⟨gb125, 2, none⟩) (Kd.R_far (p := ⟨gb125, 1, none⟩) (Kd.R_far (p := ⟨gb125, 0, none⟩) (Kd.qj1 HO_9.out BK125.out (by decide)) (fun _ hk => hk.2) (.int .i64 ((rd_T129 l0 x13_4).f0))) (fun _ hk => hk.2) (.int .i64 ((rd_T129 l0 x13_4).f1))) (fun _ hk => hk.2) (.int .i64 ((rd_T129 l0 x13_4).f2))) (fun _ hk => hk.2) (.int .i64 ((rd_T129 l0 x13_4).f3))) (fun _ hk => hk.1)⟩, ⟨by (with_reducible repeat (first | apply Kd.qg0 | apply Kd.qf0 | apply Kd.qm0)); exact Kd.qs0 (Kd.R_far (p := ⟨gb125, 3, none⟩) (Kd.R_far (p := ⟨gb125, 2, none⟩) (Kd.R_far (p := ⟨gb125, 1, none⟩) (Kd.R_far (p := ⟨gb125, 0, none⟩) (Kd.qj1 HO_12.out BK125.out (by decide)) (fun _ hk => hk.2) (.int .i64 ((rd_T129 l0 x13_4).f0))) (fun _ hk => hk.2) (.int .i64 ((rd_T129 l0 x13_4).f1))) (fun _ hk => hk.2) (.int .i64 ((rd_T129 l0 x13_4).f2))) (fun _ hk => hk.2) (.int .i64 ((rd_T129 l0 x13_4).f3))) (fun _ hk => hk.1)⟩, ⟨by (with_reducible repeat (first | refine qi0 ?_ _ | refine ql0 ?_ | refine qj0 ?_ _)); refine blk_put (cs := #[.int .i64 ((rd_T129 l0 x13_4).f0), .int .i64 ((rd_T129 l0 x13_4).f1), .int .i64 ((rd_T129 l0 x13_4).f2), .int .i64 0]) ?_ 3 _ rfl; (with_reducible repeat (first | refine qi0 ?_ _ | refine ql0 ?_ | refine qj0 ?_ _)); refine blk_put (cs := #[.int .i64 ((rd_T129 l0 x13_4).f0), .int .i64 ((rd_T129 l0 x13_4).f1), .int .i64 0, .int .i64 0]) ?_ 2 _ rfl; (with_reducible repeat (first | refine qi0 ?_ _ | refine ql0 ?_ | refine qj0 ?_ _)); refine blk_put (cs := #[.int .i64 ((rd_T129 l0 x13_4).f0), .int .i64 0, .int .i64 0, .int .i64 0]) ?_ 1 _ rfl; (with_reducible repeat (first | refine qi0 ?_ _ | refine ql0 ?_ | refine qj0 ?_ _)); refine blk_put (cs := #[.int .i64 0, .int .i64 0, .int .i64 0, .int .i64 0]) ?_ 0 _ rfl; (with_reducible repeat (first | refine qi0 ?_ _ | refine ql0 ?_ | refine qj0 ?_ _)); exact BK125.out⟩, ⟨by repeat (first | (with_reducible first | exact HB.out | apply qc0 | apply qa0 | apply qb0 | refine qh0 ?_ GE125.out) | exact HB.out)⟩⟩
              case rest => as_aux_lemma =>
               clear HC61
               try clear c1
               try clear p1
               try clear q1
               try clear hx1
               try clear c2
               try clear p2
               try clear c3
               try clear c4
               try clear c5
               try clear c6
               try clear p6
               try clear c8
               try clear c8b0
               try clear c8b1
               try clear c10
               try clear p11
               try clear q11
               try clear hx11
               try clear c12
               try clear p12
               try clear q12
               try clear hx12
               try clear c13
               try clear c13b0
               try clear c15
               try clear c16
               try clear c16b0
               try clear c17
               try clear c17b0
               try clear c19
               try clear c21
               try clear c23
               try clear c25
               try clear c38
               try clear c38b0
               try clear c39
               try clear c39b0
               try clear c41
               try clear c41b0
               try clear c43
               try clear c46
               try clear c48
               try clear c51
               try clear c52
               try clear c52b0
               try clear c53
               try clear c53b0
               try clear c54
               try clear c54b0
               try clear c55
               try clear c55b0
               try clear c55b1
               try clear c55b2
               try clear c56
               try clear c64
               try clear p64
               try clear c65
               try clear c65b0
               try clear c66
               try clear c66b0
               try clear c67
               try clear c67b0
               try clear c69
               try clear c69b0
               try clear c69b1
               try clear hcz27_0
               try clear hcz27_1
               try clear hcz27_2
               try clear hcz27_3
               try clear hcz29_0
               try clear hcz29_1
               try clear hcz29_2
               try clear hcz29_3
               try clear hcz31_0
               try clear hcz31_1
               try clear hcz31_2
               try clear hcz31_3
               try clear hcz33_0
               try clear hcz33_1
               try clear hcz33_2
               try clear hcz33_3
               try clear hcz35_0
               try clear hcz35_1
               try clear hcz35_2
               try clear hcz35_3
               try clear hcz58_0
               try clear hcz58_1
               try clear hcz58_2
               try clear hcz58_3
               try clear hcz60_0
               try clear hcz60_1
               try clear hcz60_2
               try clear hcz60_3
               try clear hcz63_0
               try clear hcz63_1
               try clear hcz63_2
               try clear hcz63_3
               try clear hcz68_0
               try clear hcz68_1
               try clear hcz68_2
               try clear hcz68_3
               try clear hcz70_0
               try clear hcz70_1
               try clear hcz70_2
               try clear hcz70_3
               try clear hcz71_0
               try clear hcz71_1
               try clear hcz71_2
               try clear hcz71_3
               try clear hfz27_0
               try clear hfz27_1
               try clear hfz27_2
               try clear hfz27_3
               try clear hfz29_0
               try clear hfz29_1
               try clear hfz29_2
               try clear hfz29_3
               try clear hfz31_0
               try clear hfz31_1
               try clear hfz31_2
               try clear hfz31_3
               try clear hfz33_0
               try clear hfz33_1
               try clear hfz33_2
               try clear hfz33_3
               try clear hfz35_0
               try clear hfz35_1
               try clear hfz35_2
               try clear hfz35_3
               try clear hfz58_0
               try clear hfz58_1
               try clear hfz58_2
               try clear hfz58_3
               try clear hfz60_0
               try clear hfz60_1
               try clear hfz60_2
               try clear hfz60_3
               try clear hfz63_0
               try clear hfz63_1
               try clear hfz63_2
               try clear hfz63_3
               try clear hfz68_0
               try clear hfz68_1
               try clear hfz68_2
               try clear hfz68_3
               try clear hfz70_0
               try clear hfz70_1
               try clear hfz70_2
               try clear hfz70_3
               try clear hfz71_0
               try clear hfz71_1
               try clear hfz71_2
               try clear hfz71_3
               try clear hx110_0
               try clear hx110_1
               try clear hx110_2
               try clear hx110_3
               try clear hx119_0
               try clear hx119_1
               try clear hx119_2
               try clear hx119_3
               try clear hx120_0
               try clear hx120_1
               try clear hx120_2
               try clear hx120_3
               try clear hx122_0
               try clear hx122_1
               try clear hx122_2
               try clear hx122_3
               try clear hx124_0
               try clear hx124_1
               try clear hx124_2
               try clear hx124_3
               try clear hx126_0
               try clear hx126_1
               try clear hx126_2
               try clear hx126_3
               try clear hx127_0
               try clear hx127_1
               try clear hx127_2
               try clear hx127_3
               try clear hx128_0
               try clear hx128_1
               try clear hx128_2
               try clear hx128_3
               try clear p1
               try clear p11
               try clear p110
               try clear p119
               try clear p12
               try clear p120
               try clear p122
               try clear p124
               try clear p126
               try clear p127
               try clear p128
               try clear p2
               try clear p6
               try clear q1
               try clear q11
               try clear q110
               try clear q119
               try clear q12
               try clear q120
               try clear q122
               try clear q124
               try clear q126
               try clear q127
               try clear q128
               obtain ⟨kq, x139_60, rfl, HA, HJ60, HO_9, HO_12, BK125, HB⟩ := hcut
               cases kq with
               | zero => exact absurd HA.out (by simp [spec_Propose.j6])
               | succ kj60 =>
                have H := HA.out
                clear HA
                simp only [spec_Propose.j6] at H
                by_cases c72 : x139_60 = true
                ·subst c72
                 have H1 : (spec_Propose.l2 kj60 l0 a1 a2 x3_3 x9_3 x12_3 x14_4 (wrap64 (x14_4 + 1))) = some r := by rw [if_pos rfl] at H; exact H
                 clear H
                 have H := H1
                 clear H1
                 have H' := Aside0.mk H
                 clear H
                 go_wp2
                 repeat (go_quiet (fail); try go_wp2)
                 go_roundg kj60
                 case measure => have := HJ4.out; have := HK2.out; have := HK3.out; have := HK4.out; have := HJ39.out; have := HJ43.out; have := HJ60.out; omega
                 case rel => exact ⟨(x14_4), (wrap64 (x14_4 + 1)), (by first | rfl | (simp; done) | (simp [*]; done)), (by first | rfl | (simp; done) | (simp [*]; done)), H', ⟨by have := HJ4.out; have := HK2.out; have := HK3.out; have := HK4.out; have := HJ39.out; have := HJ43.out; have := HJ60.out; omega⟩, ⟨by (with_reducible repeat (first | apply Kd.qg0 | apply Kd.qf0 | apply Kd.qm0)); exact HO_9.out⟩, ⟨by (with_reducible repeat (first | apply Kd.qg0 | apply Kd.qf0 | apply Kd.qm0)); exact HO_12.out⟩, ⟨by repeat (first | (with_reducible first | exact HB.out | apply qc0 | apply qa0 | apply qb0 | refine qh0 ?_ GE125.out) | exact HB.out)⟩⟩
                replace c72 := Bool.eq_false_iff.mpr c72
                subst c72
                have H1 : (if x15_39 = true then (spec_Propose.l2 kj60 l0 a1 a2 x3_3 x9_3 x12_3 x13_4 (wrap64 (x14_4 + 1))) else (if 0 ≤ x14_4 then (if x14_4 < (l0.length : Int) then (if ((rd_T129 l0 x14_4).f2) > ((rd_T129 l0 x13_4).f2) then (spec_Propose.l2 kj60 l0 a1 a2 x3_3 x9_3 x12_3 x14_4 (wrap64 (x14_4 + 1))) else (spec_Propose.l2 kj60 l0 a1 a2 x3_3 x9_3 x12_3 x13_4 (wrap64 (x14_4 + 1)))) else (none)) else (none))) = some r := by rw [if_neg (show ¬ (false = true) by decide)] at H; exact H
                clear H
                have H := H1
                clear H1
                by_cases c73 : x15_39 = true
                ·subst c73
                 have H1 : (spec_Propose.l2 kj60 l0 a1 a2 x3_3 x9_3 x12_3 x13_4 (wrap64 (x14_4 + 1))) = some r := by rw [if_pos rfl] at H; exact H
                 clear H
                 have H := H1
                 clear H1
                 have H' := Aside0.mk H
                 clear H
                 go_wp2
                 repeat (go_quiet (fail); try go_wp2)
                 go_roundg kj60
                 case measure => have := HJ4.out; have := HK2.out; have := HK3.out; have := HK4.out; have := HJ39.out; have := HJ43.out; have := HJ60.out; omega
                 case rel => exact ⟨(x13_4), (wrap64 (x14_4 + 1)), (by first | rfl | (simp; done) | (simp [*]; done)), (by first | rfl | (simp; done) | (simp [*]; done)), H', ⟨by have := HJ4.out; have := HK2.out; have := HK3.out; have := HK4.out; have := HJ39.out; have := HJ43.out; have := HJ60.out; omega⟩, ⟨by (with_reducible repeat (first | apply Kd.qg0 | apply Kd.qf0 | apply Kd.qm0)); exact HO_9.out⟩, ⟨by (with_reducible repeat (first | apply Kd.qg0 | apply Kd.qf0 | apply Kd.qm0)); exact HO_12.out⟩, ⟨by repeat (first | (with_reducible first | exact HB.out | apply qc0 | apply qa0 | apply qb0 | refine qh0 ?_ GE125.out) | exact HB.out)⟩⟩
                replace c73 := Bool.eq_false_iff.mpr c73
                subst c73
                have H1 : (if 0 ≤ x14_4 then (if x14_4 < (l0.length : Int) then (if ((rd_T129 l0 x14_4).f2) > ((rd_T129 l0 x13_4).f2) then (spec_Propose.l2 kj60 l0 a1 a2 x3_3 x9_3 x12_3 x14_4 (wrap64 (x14_4 + 1))) else (spec_Propose.l2 kj60 l0 a1 a2 x3_3 x9_3 x12_3 x13_4 (wrap64 (x14_4 + 1)))) else (none)) else (none)) = some r := by rw [if_neg (show ¬ (false = true) by decide)] at H; exact H
                clear H
                have H := H1
                clear H1
                by_cases c74 : 0 ≤ x14_4
                case neg => rw [if_neg c74] at H; exact absurd H (by simp)
                rw [if_pos c74] at H
                have c74b0 : decide (0 ≤ x14_4) = true := decide_eq_true c74
                clear c74
                by_cases c75 : x14_4 < (l0.length : Int)
                case neg => rw [if_neg c75] at H; exact absurd H (by simp)
                rw [if_pos c75] at H
                have c75b0 : decide (x14_4 < (l0.length : Int)) = true := decide_eq_true c75
                clear c75
                by_cases c76 : ((rd_T129 l0 x14_4).f2) > ((rd_T129 l0 x13_4).f2)
                ·rw [if_pos c76] at H
                 have c76b0 : decide (((rd_T129 l0 x13_4).f2) < ((rd_T129 l0 x14_4).f2)) = true := decide_eq_true c76
                 clear c76
                 have H' := Aside0.mk H
                 clear H
                 have p129 : 0 ≤ (x14_4 : Int) := of_decide_eq_true (by first | (with_reducible assumption) | assumption)
                 have q129 : x14_4 < (l0.length : Int) := of_decide_eq_true (by first | (with_reducible assumption) | assumption)
                 obtain ⟨ad129, e129, hx129_0, hx129_1, hx129_2, hx129_3⟩ := at_T129 HR0.out x14_4 p129 q129
                 obtain rfl : ad119 = ad129 := (by injection e129)
                 replace hx129_0 := (HB.out.cell (World.block_lt_of_cell? w _ hx129_0)).trans hx129_0
                 replace hx129_1 := (HB.out.cell (World.block_lt_of_cell? w _ hx129_1)).trans hx129_1
                 replace hx129_2 := (HB.out.cell (World.block_lt_of_cell? w _ hx129_2)).trans hx129_2
                 replace hx129_3 := (HB.out.cell (World.block_lt_of_cell? w _ hx129_3)).trans hx129_3
                 replace p129 := eq_true p129
                 replace q129 := eq_true q129
                 have hcz77_0 : wc.cell? ⟨gb125, 0, none⟩ = some (.int .i64 ((rd_T129 l0 x13_4).f0)) := (qe0 BK125.out 0).trans rfl
                 have hcz77_1 : wc.cell? ⟨gb125, 1, none⟩ = some (.int .i64 ((rd_T129 l0 x13_4).f1)) := (qe0 BK125.out 1).trans rfl
                 have hcz77_2 : wc.cell? ⟨gb125, 2, none⟩ = some (.int .i64 ((rd_T129 l0 x13_4).f2)) := (qe0 BK125.out 2).trans rfl
                 have hcz77_3 : wc.cell? ⟨gb125, 3, none⟩ = some (.int .i64 ((rd_T129 l0 x13_4).f3)) := (qe0 BK125.out 3).trans rfl
                 have hfz77_0 := qd0 BK125.out 0
                 have hfz77_1 := qd0 BK125.out 1
                 have hfz77_2 := qd0 BK125.out 2
                 have hfz77_3 := qd0 BK125.out 3
                 go_wp2
                 repeat (go_quiet (fail); try go_wp2)
                 go_roundg kj60
                 case measure => have := HJ4.out; have := HK2.out; have := HK3.out; have := HK4.out; have := HJ39.out; have := HJ43.out; have := HJ60.out; omega
                 case rel => exact ⟨(x14_4), (wrap64 (x14_4 + 1)), (by first | rfl | (simp; done) | (simp [*]; done)), (by first | rfl | (simp; done) | (simp [*]; done)), H', ⟨by have := HJ4.out; have := HK2.out; have := HK3.out; have := HK4.out; have := HJ39.out; have := HJ43.out; have := HJ60.out; omega⟩, ⟨by (with_reducible repeat (first | apply Kd.qg0 | apply Kd.qf0 | apply Kd.qm0)); exact HO_9.out⟩, ⟨by (with_reducible repeat (first | apply Kd.qg0 | apply Kd.qf0 | apply Kd.qm0)); exact HO_12.out⟩, ⟨by repeat (first | (with_reducible first | exact HB.out | apply qc0 | apply qa0 | apply qb0 | refine qh0 ?_ GE125.out) | exact HB.out)⟩⟩
                rw [if_neg c76] at H
                have c76b0 : decide (((rd_T129 l0 x13_4).f2) < ((rd_T129 l0 x14_4).f2)) = false := decide_eq_false c76
                clear c76
                have H' := Aside0.mk H
                clear H
                have p129 : 0 ≤ (x14_4 : Int) := of_decide_eq_true (by first | (with_reducible assumption) | assumption)
                have q129 : x14_4 < (l0.length : Int) := of_decide_eq_true (by first | (with_reducible assumption) | assumption)
                obtain ⟨ad129, e129, hx129_0, hx129_1, hx129_2, hx129_3⟩ := at_T129 HR0.out x14_4 p129 q129
                obtain rfl : ad119 = ad129 := (by injection e129)
                replace hx129_0 := (HB.out.cell (World.block_lt_of_cell? w _ hx129_0)).trans hx129_0
                replace hx129_1 := (HB.out.cell (World.block_lt_of_cell? w _ hx129_1)).trans hx129_1
                replace hx129_2 := (HB.out.cell (World.block_lt_of_cell? w _ hx129_2)).trans hx129_2
                replace hx129_3 := (HB.out.cell (World.block_lt_of_cell? w _ hx129_3)).trans hx129_3
                replace p129 := eq_true p129
                replace q129 := eq_true q129
                have hcz78_0 : wc.cell? ⟨gb125, 0, none⟩ = some (.int .i64 ((rd_T129 l0 x13_4).f0)) := (qe0 BK125.out 0).trans rfl
                have hcz78_1 : wc.cell? ⟨gb125, 1, none⟩ = some (.int .i64 ((rd_T129 l0 x13_4).f1)) := (qe0 BK125.out 1).trans rfl
                have hcz78_2 : wc.cell? ⟨gb125, 2, none⟩ = some (.int .i64 ((rd_T129 l0 x13_4).f2)) := (qe0 BK125.out 2).trans rfl
                have hcz78_3 : wc.cell? ⟨gb125, 3, none⟩ = some (.int .i64 ((rd_T129 l0 x13_4).f3)) := (qe0 BK125.out 3).trans rfl
                have hfz78_0 := qd0 BK125.out 0
                have hfz78_1 := qd0 BK125.out 1
                have hfz78_2 := qd0 BK125.out 2
                have hfz78_3 := qd0 BK125.out 3
                go_wp2
                repeat (go_quiet (fail); try go_wp2)
                go_roundg kj60
                case measure => have := HJ4.out; have := HK2.out; have := HK3.out; have := HK4.out; have := HJ39.out; have := HJ43.out; have := HJ60.out; omega
                case rel => exact ⟨(x13_4), (wrap64 (x14_4 + 1)), (by first | rfl | (simp; done) | (simp [*]; done)), (by first | rfl | (simp; done) | (simp [*]; done)), H', ⟨by have := HJ4.out; have := HK2.out; have := HK3.out; have := HK4.out; have := HJ39.out; have := HJ43.out; have := HJ60.out; omega⟩, ⟨by (with_reducible repeat (first | apply Kd.qg0 | apply Kd.qf0 | apply Kd.qm0)); exact HO_9.out⟩, ⟨by (with_reducible repeat (first | apply Kd.qg0 | apply Kd.qf0 | apply Kd.qm0)); exact HO_12.out⟩, ⟨by repeat (first | (with_reducible first | exact HB.out | apply qc0 | apply qa0 | apply qb0 | refine qh0 ?_ GE125.out) | exact HB.out)⟩⟩
         rw [if_neg c38] at H
         have c38b0 : decide (x14_4 < (l0.length : Int)) = false := decide_eq_false c38
         clear c38
         by_cases c79 : x13_4 < 0
         ·rw [if_pos c79] at H
          have c79b0 : decide (x13_4 < 0) = true := decide_eq_true c79
          clear c79
          obtain rfl := Option.some.inj H
          go_wp2
          repeat (go_quiet (fail); try go_wp2)
          go_ret
          exact ⟨_, by first | rfl | (simp [errW_none, errW_some] <;> rfl) | (simp [*, errW_none, errW_some] <;> rfl), by (with_reducible repeat (first | apply Kd.qg0 | apply Kd.qf0 | apply Kd.qm0)); exact Kd.qs0 HO_9.out (fun _ hk => trivial), by repeat (first | (with_reducible first | exact HB.out | apply qc0 | apply qa0 | apply qb0) | exact HB.out)⟩
         rw [if_neg c79] at H
         have c79b0 : decide (x13_4 < 0) = false := decide_eq_false c79
         clear c79
         by_cases c80 : x12_3.length < 17592186044416
         case neg => rw [if_neg c80] at H; exact absurd H (by simp)
         rw [if_pos c80] at H
         have LMc80 := Aside0.mk c80
         clear c80
         obtain ⟨y130, hy130⟩ : ∃ y_ : List Int, y_ = (x12_3 ++ [x13_4]) := ⟨_, rfl⟩
         replace H : (if 0 ≤ x13_4 then (if x13_4 < (l0.length : Int) then (if ((rd_T129 l0 x13_4).f3) ≤ x3_3 then (if x9_3.length < 17592186044416 then (spec_Propose.l1 k4 l0 a1 a2 (wrap64 (x3_3 - ((rd_T129 l0 x13_4).f3))) (x9_3 ++ [x13_4]) y130) else (none)) else (spec_Propose.l1 k4 l0 a1 a2 x3_3 x9_3 y130)) else (none)) else (none)) = some r := by first | (rw [hy130]; with_reducible exact H) | (have H2_ := (Option.bind_some _ _).symm.trans H; rw [hy130]; with_reducible exact H2_) | (have H2_ := (Option.bind_some _ _).symm.trans H; with_reducible exact H2_) | with_reducible exact H | (rw [hy130]; exact H) | exact H
         have Ny130 := Aside0.mk hy130
         clear hy130
         by_cases c81 : 0 ≤ x13_4
         case neg => rw [if_neg c81] at H; exact absurd H (by simp)
         rw [if_pos c81] at H
         have c81b0 : decide (0 ≤ x13_4) = true := decide_eq_true c81
         clear c81
         by_cases c82 : x13_4 < (l0.length : Int)
         case neg => rw [if_neg c82] at H; exact absurd H (by simp)
         rw [if_pos c82] at H
         have c82b0 : decide (x13_4 < (l0.length : Int)) = true := decide_eq_true c82
         clear c82
         by_cases c83 : ((rd_T129 l0 x13_4).f3) ≤ x3_3
         ·rw [if_pos c83] at H
          have c83b0 : decide (((rd_T129 l0 x13_4).f3) ≤ x3_3) = true := decide_eq_true c83
          clear c83
          by_cases c84 : x9_3.length < 17592186044416
          case neg => rw [if_neg c84] at H; exact absurd H (by simp)
          rw [if_pos c84] at H
          have LMc84 := Aside0.mk c84
          clear c84
          obtain ⟨y135, hy135⟩ : ∃ y_ : List Int, y_ = (x9_3 ++ [x13_4]) := ⟨_, rfl⟩
          replace H : (spec_Propose.l1 k4 l0 a1 a2 (wrap64 (x3_3 - ((rd_T129 l0 x13_4).f3))) y135 y130) = some r := by first | (rw [hy135]; with_reducible exact H) | (have H2_ := (Option.bind_some _ _).symm.trans H; rw [hy135]; with_reducible exact H2_) | (have H2_ := (Option.bind_some _ _).symm.trans H; with_reducible exact H2_) | with_reducible exact H | (rw [hy135]; exact H) | exact H
          have Ny135 := Aside0.mk hy135
          clear hy135
          have H' := Aside0.mk H
          clear H
          go_wp2_with (first | ((with_reducible refine gate_builtin (b := .append) (xs := #[.tmp 189, .tmp 191]) rfl ?_); at_builtin; refine Kd.R_append (Kd.int .i64) (w0 := w) w.heap.size rfl (.tmp 189) (.tmp 191) 33 3 (.int .i64 0) 8 rfl Try.underlying33 info3 rfl (by decide) (by omega) u12 x12_3 x13_4 [.int .i64 x13_4] (fun k_ => some k_ ≠ (u9 : Value).ownBlock) (fun _ => False) rfl rfl ?aP (fun _ hk => hk.elim) ?aF ?aO ?aB ?aS ?aL ?_; (case aP => exact rfl); (case aB => exact (by repeat (first | (with_reducible first | exact HB.out | apply qc0 | apply qa0 | apply qb0) | exact HB.out))); (case aF => exact (fun k_ hk => Kd.fresh' (Kd.R_lt (by (with_reducible repeat (first | apply Kd.qg0 | apply Kd.qf0 | apply Kd.qm0)); exact HO_9.out)) k_ hk)); (case aO => exact (by (with_reducible repeat (first | apply Kd.qg0 | apply Kd.qf0 | apply Kd.qm0)); exact HO_12.out)); (case aS => exact (qk0 (by repeat (first | (with_reducible first | exact HB.out | apply qc0 | apply qa0 | apply qb0) | exact HB.out)))); (case aL => have := LMc80.out; omega); intro v131 w85 ho hb hg hat; rw [← Ny130.out] at ho; have n0_ := Aside0.mk (Kd.qg1 (ok := (fun _ => True)) (by (with_reducible repeat (first | apply Kd.qg0 | apply Kd.qf0 | apply Kd.qm0)); exact Kd.qs0 HO_9.out (fun _ hk => ⟨trivial, hk⟩)) hg hat); have n1_ := Aside0.mk (hb); have n2_ := Aside0.mk (ho); clear HO_9; clear HB; clear HO_12; have HO_9 := n0_; have HB := n1_; have HO132 := n2_; clear n0_ n1_ n2_; clear ho hb hg hat; have p133 : 0 ≤ (x13_4 : Int) := of_decide_eq_true (by first | (with_reducible assumption) | assumption); have q133 : x13_4 < (l0.length : Int) := of_decide_eq_true (by first | (with_reducible assumption) | assumption); obtain ⟨ad133, e133, hx133_0, hx133_1, hx133_2, hx133_3⟩ := at_T129 HR0.out x13_4 p133 q133; cases e133; replace hx133_0 := (HB.out.cell (World.block_lt_of_cell? w _ hx133_0)).trans hx133_0; replace hx133_1 := (HB.out.cell (World.block_lt_of_cell? w _ hx133_1)).trans hx133_1; replace hx133_2 := (HB.out.cell (World.block_lt_of_cell? w _ hx133_2)).trans hx133_2; replace hx133_3 := (HB.out.cell (World.block_lt_of_cell? w _ hx133_3)).trans hx133_3; replace p133 := eq_true p133; replace q133 := eq_true q133; have p134 : 0 ≤ (x13_4 : Int) := of_decide_eq_true (by first | (with_reducible assumption) | assumption); have q134 : x13_4 < (l0.length : Int) := of_decide_eq_true (by first | (with_reducible assumption) | assumption); obtain ⟨ad134, e134, hx134_0, hx134_1, hx134_2, hx134_3⟩ := at_T129 HR0.out x13_4 p134 q134; obtain rfl : ad133 = ad134 := (by injection e134); replace hx134_0 := (HB.out.cell (World.block_lt_of_cell? w _ hx134_0)).trans hx134_0; replace hx134_1 := (HB.out.cell (World.block_lt_of_cell? w _ hx134_1)).trans hx134_1; replace hx134_2 := (HB.out.cell (World.block_lt_of_cell? w _ hx134_2)).trans hx134_2; replace hx134_3 := (HB.out.cell (World.block_lt_of_cell? w _ hx134_3)).trans hx134_3; replace p134 := eq_true p134; replace q134 := eq_true q134) | ((with_reducible refine gate_builtin (b := .append) (xs := #[.tmp 207, .tmp 209]) rfl ?_); at_builtin; refine Kd.R_append (Kd.int .i64) (w0 := w) w.heap.size rfl (.tmp 207) (.tmp 209) 33 3 (.int .i64 0) 8 rfl Try.underlying33 info3 rfl (by decide) (by omega) u9 x9_3 x13_4 [.int .i64 x13_4] (fun k_ => some k_ ≠ (v131 : Value).ownBlock) (fun _ => False) rfl rfl ?aP (fun _ hk => hk.elim) ?aF ?aO ?aB ?aS ?aL ?_; (case aP => exact rfl); (case aB => exact (by repeat (first | (with_reducible first | exact HB.out | apply qc0 | apply qa0 | apply qb0) | exact HB.out))); (case aF => exact (fun k_ hk => Kd.fresh' (Kd.R_lt (by (with_reducible repeat (first | apply Kd.qg0 | apply Kd.qf0 | apply Kd.qm0)); exact HO132.out)) k_ hk)); (case aO => exact (by (with_reducible repeat (first | apply Kd.qg0 | apply Kd.qf0 | apply Kd.qm0)); exact Kd.qs0 HO_9.out (fun _ hk => hk.2))); (case aS => exact (qk0 (by repeat (first | (with_reducible first | exact HB.out | apply qc0 | apply qa0 | apply qb0) | exact HB.out)))); (case aL => have := LMc84.out; omega); intro v136 w86 ho hb hg hat; rw [← Ny135.out] at ho; have n0_ := Aside0.mk (Kd.qg1 (ok := (fun _ => True)) (by (with_reducible repeat (first | apply Kd.qg0 | apply Kd.qf0 | apply Kd.qm0)); exact Kd.qs0 HO132.out (fun _ hk => ⟨trivial, hk⟩)) hg hat); have n1_ := Aside0.mk (hb); have n2_ := Aside0.mk (ho); clear HO132; clear HB; clear HO_9; have HO132 := n0_; have HB := n1_; have HO137 := n2_; clear n0_ n1_ n2_; clear ho hb hg hat))
          repeat (go_quiet (first | ((with_reducible refine gate_builtin (b := .append) (xs := #[.tmp 189, .tmp 191]) rfl ?_); at_builtin; refine Kd.R_append (Kd.int .i64) (w0 := w) w.heap.size rfl (.tmp 189) (.tmp 191) 33 3 (.int .i64 0) 8 rfl Try.underlying33 info3 rfl (by decide) (by omega) u12 x12_3 x13_4 [.int .i64 x13_4] (fun k_ => some k_ ≠ (u9 : Value).ownBlock) (fun _ => False) rfl rfl ?aP (fun _ hk => hk.elim) ?aF ?aO ?aB ?aS ?aL ?_; (case aP => exact rfl); (case aB => exact (by repeat (first | (with_reducible first | exact HB.out | apply qc0 | apply qa0 | apply qb0) | exact HB.out))); (case aF => exact (fun k_ hk => Kd.fresh' (Kd.R_lt (by (with_reducible repeat (first | apply Kd.qg0 | apply Kd.qf0 | apply Kd.qm0)); exact HO_9.out)) k_ hk)); (case aO => exact (by (with_reducible repeat (first | apply Kd.qg0 | apply Kd.qf0 | apply Kd.qm0)); exact HO_12.out)); (case aS => exact (qk0 (by repeat (first | (with_reducible first | exact HB.out | apply qc0 | apply qa0 | apply qb0) | exact HB.out)))); (case aL => have := LMc80.out; omega); intro v131 w85 ho hb hg hat; rw [← Ny130.out] at ho; have n0_ := Aside0.mk (Kd.qg1 (ok := (fun _ => True)) (by (with_reducible repeat (first | apply Kd.qg0 | apply Kd.qf0 | apply Kd.qm0)); exact Kd.qs0 HO_9.out (fun _ hk => ⟨trivial, hk⟩)) hg hat); have n1_ := Aside0.mk (hb); have n2_ := Aside0.mk (ho); clear HO_9; clear HB; clear HO_12; have HO_9 := n0_; have HB := n1_; have HO132 := n2_; clear n0_ n1_ n2_; clear ho hb hg hat; have p133 : 0 ≤ (x13_4 : Int) := of_decide_eq_true (by first | (with_reducible assumption) | assumption); have q133 : x13_4 < (l0.length : Int) := of_decide_eq_true (by first | (with_reducible assumption) | assumption); obtain ⟨ad133, e133, hx133_0, hx133_1, hx133_2, hx133_3⟩ := at_T129 HR0.out x13_4 p133 q133; cases e133; replace hx133_0 := (HB.out.cell (World.block_lt_of_cell? w _ hx133_0)).trans hx133_0; replace hx133_1 := (HB.out.cell (World.block_lt_of_cell? w _ hx133_1)).trans hx133_1; replace hx133_2 := (HB.out.cell (World.block_lt_of_cell? w _ hx133_2)).trans hx133_2; replace hx133_3 := (HB.out.cell (World.block_lt_of_cell? w _ hx133_3)).trans hx133_3; replace p133 := eq_true p133; replace q133 := eq_true q133; have p134 : 0 ≤ (x13_4 : Int) := of_decide_eq_true (by first | (with_reducible assumption) | assumption); have q134 : x13_4 < (l0.length : Int) := of_decide_eq_true (by first | (with_reducible assumption) | assumption); obtain ⟨ad134, e134, hx134_0, hx134_1, hx134_2, hx134_3⟩ := at_T129 HR0.out x13_4 p134 q134; obtain rfl : ad133 = ad134 := (by injection e134); replace hx134_0 := (HB.out.cell (World.block_lt_of_cell? w _ hx134_0)).trans hx134_0; replace hx134_1 := (HB.out.cell (World.block_lt_of_cell? w _ hx134_1)).trans hx134_1; replace hx134_2 := (HB.out.cell (World.block_lt_of_cell? w _ hx134_2)).trans hx134_2; replace hx134_3 := (HB.out.cell (World.block_lt_of_cell? w _ hx134_3)).trans hx134_3; replace p134 := eq_true p134; replace q134 := eq_true q134) | ((with_reducible refine gate_builtin (b := .append) (xs := #[.tmp 207, .tmp 209]) rfl ?_); at_builtin; refine Kd.R_append (Kd.int .i64) (w0 := w) w.heap.size rfl (.tmp 207) (.tmp 209) 33 3 (.int .i64 0) 8 rfl Try.underlying33 info3 rfl (by decide) (by omega) u9 x9_3 x13_4 [.int .i64 x13_4] (fun k_ => some k_ ≠ (v131 : Value).ownBlock) (fun _ => False) rfl rfl ?aP (fun _ hk => hk.elim) ?aF ?aO ?aB ?aS ?aL ?_; (case aP => exact rfl); (case aB => exact (by repeat (first | (with_reducible first | exact HB.out | apply qc0 | apply qa0 | apply qb0) | exact HB.out))); (case aF => exact (fun k_ hk => Kd.fresh' (Kd.R_lt (by (with_reducible repeat (first | apply Kd.qg0 | apply Kd.qf0 | apply Kd.qm0)); exact HO132.out)) k_ hk)); (case aO => exact (by (with_reducible repeat (first | apply Kd.qg0 | apply Kd.qf0 | apply Kd.qm0)); exact Kd.qs0 HO_9.out (fun _ hk => hk.2))); (case aS => exact (qk0 (by repeat (first | (with_reducible first | exact HB.out | apply qc0 | apply qa0 | apply qb0) | exact HB.out)))); (case aL => have := LMc84.out; omega); intro v136 w86 ho hb hg hat; rw [← Ny135.out] at ho; have n0_ := Aside0.mk (Kd.qg1 (ok := (fun _ => True)) (by (with_reducible repeat (first | apply Kd.qg0 | apply Kd.qf0 | apply Kd.qm0)); exact Kd.qs0 HO132.out (fun _ hk => ⟨trivial, hk⟩)) hg hat); have n1_ := Aside0.mk (hb); have n2_ := Aside0.mk (ho); clear HO132; clear HB; clear HO_9; have HO132 := n0_; have HB := n1_; have HO137 := n2_; clear n0_ n1_ n2_; clear ho hb hg hat)); try go_wp2_with (first | ((with_reducible refine gate_builtin (b := .append) (xs := #[.tmp 189, .tmp 191]) rfl ?_); at_builtin; refine Kd.R_append (Kd.int .i64) (w0 := w) w.heap.size rfl (.tmp 189) (.tmp 191) 33 3 (.int .i64 0) 8 rfl Try.underlying33 info3 rfl (by decide) (by omega) u12 x12_3 x13_4 [.int .i64 x13_4] (fun k_ => some k_ ≠ (u9 : Value).ownBlock) (fun _ => False) rfl rfl ?aP (fun _ hk => hk.elim) ?aF ?aO ?aB ?aS ?aL ?_; (case aP => exact rfl); (case aB => exact (by repeat (first | (with_reducible first | exact HB.out | apply qc0 | apply qa0 | apply qb0) | exact HB.out))); (case aF => exact (fun k_ hk => Kd.fresh' (Kd.R_lt (by (with_reducible repeat (first | apply Kd.qg0 | apply Kd.qf0 | apply Kd.qm0)); exact HO_9.out)) k_ hk)); (case aO => exact (by (with_reducible repeat (first | apply Kd.qg0 | apply Kd.qf0 | apply Kd.qm0)); exact HO_12.out)); (case aS => exact (qk0 (by repeat (first | (with_reducible first | exact HB.out | apply qc0 | apply qa0 | apply qb0) | exact HB.out)))); (case aL => have := LMc80.out; omega); intro v131 w85 ho hb hg hat; rw [← Ny130.out] at ho; have n0_ := Aside0.mk (Kd.qg1 (ok := (fun _ => True)) (by (with_reducible repeat (first | apply Kd.qg0 | apply Kd.qf0 | apply Kd.qm0)); exact Kd.qs0 HO_9.out (fun _ hk => ⟨trivial, hk⟩)) hg hat); have n1_ := Aside0.mk (hb); have n2_ := Aside0.mk (ho); clear HO_9; clear HB; clear HO_12; have HO_9 := n0_; have HB := n1_; have HO132 := n2_; clear n0_ n1_ n2_; clear ho hb hg hat; have p133 : 0 ≤ (x13_4 : Int) := of_decide_eq_true (by first | (with_reducible assumption) | assumption); have q133 : x13_4 < (l0.length : Int) := of_decide_eq_true (by first | (with_reducible assumption) | assumption); obtain ⟨ad133, e133, hx133_0, hx133_1, hx133_2, hx133_3⟩ := at_T129 HR0.out x13_4 p133 q133; cases e133; replace hx133_0 := (HB.out.cell (World.block_lt_of_cell? w _ hx133_0)).trans hx133_0; replace hx133_1 := (HB.out.cell (World.block_lt_of_cell? w _ hx133_1)).trans hx133_1; replace hx133_2 := (HB.out.cell (World.block_lt_of_cell? w _ hx133_2)).trans hx133_2; replace hx133_3 := (HB.out.cell (World.block_lt_of_cell? w _ hx133_3)).trans hx133_3; replace p133 := eq_true p133; replace q133 := eq_true q133; have p134 : 0 ≤ (x13_4 : Int) := of_decide_eq_true (by first | (with_reducible assumption) | assumption); have q134 : x13_4 < (l0.length : Int) := of_decide_eq_true (by first | (with_reducible assumption) | assumption); obtain ⟨ad134, e134, hx134_0, hx134_1, hx134_2, hx134_3⟩ := at_T129 HR0.out x13_4 p134 q134; obtain rfl : ad133 = ad134 := (by injection e134); replace hx134_0 := (HB.out.cell (World.block_lt_of_cell? w _ hx134_0)).trans hx134_0; replace hx134_1 := (HB.out.cell (World.block_lt_of_cell? w _ hx134_1)).trans hx134_1; replace hx134_2 := (HB.out.cell (World.block_lt_of_cell? w _ hx134_2)).trans hx134_2; replace hx134_3 := (HB.out.cell (World.block_lt_of_cell? w _ hx134_3)).trans hx134_3; replace p134 := eq_true p134; replace q134 := eq_true q134) | ((with_reducible refine gate_builtin (b := .append) (xs := #[.tmp 207, .tmp 209]) rfl ?_); at_builtin; refine Kd.R_append (Kd.int .i64) (w0 := w) w.heap.size rfl (.tmp 207) (.tmp 209) 33 3 (.int .i64 0) 8 rfl Try.underlying33 info3 rfl (by decide) (by omega) u9 x9_3 x13_4 [.int .i64 x13_4] (fun k_ => some k_ ≠ (v131 : Value).ownBlock) (fun _ => False) rfl rfl ?aP (fun _ hk => hk.elim) ?aF ?aO ?aB ?aS ?aL ?_; (case aP => exact rfl); (case aB => exact (by repeat (first | (with_reducible first | exact HB.out | apply qc0 | apply qa0 | apply qb0) | exact HB.out))); (case aF => exact (fun k_ hk => Kd.fresh' (Kd.R_lt (by (with_reducible repeat (first | apply Kd.qg0 | apply Kd.qf0 | apply Kd.qm0)); exact HO132.out)) k_ hk)); (case aO => exact (by (with_reducible repeat (first | apply Kd.qg0 | apply Kd.qf0 | apply Kd.qm0)); exact Kd.qs0 HO_9.out (fun _ hk => hk.2))); (case aS => exact (qk0 (by repeat (first | (with_reducible first | exact HB.out | apply qc0 | apply qa0 | apply qb0) | exact HB.out)))); (case aL => have := LMc84.out; omega); intro v136 w86 ho hb hg hat; rw [← Ny135.out] at ho; have n0_ := Aside0.mk (Kd.qg1 (ok := (fun _ => True)) (by (with_reducible repeat (first | apply Kd.qg0 | apply Kd.qf0 | apply Kd.qm0)); exact Kd.qs0 HO132.out (fun _ hk => ⟨trivial, hk⟩)) hg hat); have n1_ := Aside0.mk (hb); have n2_ := Aside0.mk (ho); clear HO132; clear HB; clear HO_9; have HO132 := n0_; have HB := n1_; have HO137 := n2_; clear n0_ n1_ n2_; clear ho hb hg hat)))
          go_roundg k4
          case measure => have := HJ4.out; have := HK2.out; have := HK3.out; have := HK4.out; omega
          case rel => exact ⟨(wrap64 (x3_3 - ((rd_T129 l0 x13_4).f3))), (y135), (y130), (by first | rfl | (simp; done) | (simp [*]; done)), H', ⟨by have := HJ4.out; have := HK2.out; have := HK3.out; have := HK4.out; omega⟩, ⟨by (with_reducible repeat (first | apply Kd.qg0 | apply Kd.qf0 | apply Kd.qm0)); exact HO137.out⟩, ⟨by (with_reducible repeat (first | apply Kd.qg0 | apply Kd.qf0 | apply Kd.qm0)); exact Kd.qs0 HO132.out (fun _ hk => hk.2)⟩, ⟨by repeat (first | (with_reducible first | exact HB.out | apply qc0 | apply qa0 | apply qb0) | exact HB.out)⟩⟩
         rw [if_neg c83] at H
         have c83b0 : decide (((rd_T129 l0 x13_4).f3) ≤ x3_3) = false := decide_eq_false c83
         clear c83
         have H' := Aside0.mk H
         clear H
         go_wp2_with (first | ((with_reducible refine gate_builtin (b := .append) (xs := #[.tmp 189, .tmp 191]) rfl ?_); at_builtin; refine Kd.R_append (Kd.int .i64) (w0 := w) w.heap.size rfl (.tmp 189) (.tmp 191) 33 3 (.int .i64 0) 8 rfl Try.underlying33 info3 rfl (by decide) (by omega) u12 x12_3 x13_4 [.int .i64 x13_4] (fun k_ => some k_ ≠ (u9 : Value).ownBlock) (fun _ => False) rfl rfl ?aP (fun _ hk => hk.elim) ?aF ?aO ?aB ?aS ?aL ?_; (case aP => exact rfl); (case aB => exact (by repeat (first | (with_reducible first | exact HB.out | apply qc0 | apply qa0 | apply qb0) | exact HB.out))); (case aF => exact (fun k_ hk => Kd.fresh' (Kd.R_lt (by (with_reducible repeat (first | apply Kd.qg0 | apply Kd.qf0 | apply Kd.qm0)); exact HO_9.out)) k_ hk)); (case aO => exact (by (with_reducible repeat (first | apply Kd.qg0 | apply Kd.qf0 | apply Kd.qm0)); exact HO_12.out)); (case aS => exact (qk0 (by repeat (first | (with_reducible first | exact HB.out | apply qc0 | apply qa0 | apply qb0) | exact HB.out)))); (case aL => have := LMc80.out; omega); intro v131 w87 ho hb hg hat; rw [← Ny130.out] at ho; have n0_ := Aside0.mk (Kd.qg1 (ok := (fun _ => True)) (by (with_reducible repeat (first | apply Kd.qg0 | apply Kd.qf0 | apply Kd.qm0)); exact Kd.qs0 HO_9.out (fun _ hk => ⟨trivial, hk⟩)) hg hat); have n1_ := Aside0.mk (hb); have n2_ := Aside0.mk (ho); clear HO_9; clear HB; clear HO_12; have HO_9 := n0_; have HB := n1_; have HO132 := n2_; clear n0_ n1_ n2_; clear ho hb hg hat; have p133 : 0 ≤ (x13_4 : Int) := of_decide_eq_true (by first | (with_reducible assumption) | assumption); have q133 : x13_4 < (l0.length : Int) := of_decide_eq_true (by first | (with_reducible assumption) | assumption); obtain ⟨ad133, e133, hx133_0, hx133_1, hx133_2, hx133_3⟩ := at_T129 HR0.out x13_4 p133 q133; cases e133; replace hx133_0 := (HB.out.cell (World.block_lt_of_cell? w _ hx133_0)).trans hx133_0; replace hx133_1 := (HB.out.cell (World.block_lt_of_cell? w _ hx133_1)).trans hx133_1; replace hx133_2 := (HB.out.cell (World.block_lt_of_cell? w _ hx133_2)).trans hx133_2; replace hx133_3 := (HB.out.cell (World.block_lt_of_cell? w _ hx133_3)).trans hx133_3; replace p133 := eq_true p133; replace q133 := eq_true q133))
         repeat (go_quiet (first | ((with_reducible refine gate_builtin (b := .append) (xs := #[.tmp 189, .tmp 191]) rfl ?_); at_builtin; refine Kd.R_append (Kd.int .i64) (w0 := w) w.heap.size rfl (.tmp 189) (.tmp 191) 33 3 (.int .i64 0) 8 rfl Try.underlying33 info3 rfl (by decide) (by omega) u12 x12_3 x13_4 [.int .i64 x13_4] (fun k_ => some k_ ≠ (u9 : Value).ownBlock) (fun _ => False) rfl rfl ?aP (fun _ hk => hk.elim) ?aF ?aO ?aB ?aS ?aL ?_; (case aP => exact rfl); (case aB => exact (by repeat (first | (with_reducible first | exact HB.out | apply qc0 | apply qa0 | apply qb0) | exact HB.out))); (case aF => exact (fun k_ hk => Kd.fresh' (Kd.R_lt (by (with_reducible repeat (first | apply Kd.qg0 | apply Kd.qf0 | apply Kd.qm0)); exact HO_9.out)) k_ hk)); (case aO => exact (by (with_reducible repeat (first | apply Kd.qg0 | apply Kd.qf0 | apply Kd.qm0)); exact HO_12.out)); (case aS => exact (qk0 (by repeat (first | (with_reducible first | exact HB.out | apply qc0 | apply qa0 | apply qb0) | exact HB.out)))); (case aL => have := LMc80.out; omega); intro v131 w87 ho hb hg hat; rw [← Ny130.out] at ho; have n0_ := Aside0.mk (Kd.qg1 (ok := (fun _ => True)) (by (with_reducible repeat (first | apply Kd.qg0 | apply Kd.qf0 | apply Kd.qm0)); exact Kd.qs0 HO_9.out (fun _ hk => ⟨trivial, hk⟩)) hg hat); have n1_ := Aside0.mk (hb); have n2_ := Aside0.mk (ho); clear HO_9; clear HB; clear HO_12; have HO_9 := n0_; have HB := n1_; have HO132 := n2_; clear n0_ n1_ n2_; clear ho hb hg hat; have p133 : 0 ≤ (x13_4 : Int) := of_decide_eq_true (by first | (with_reducible assumption) | assumption); have q133 : x13_4 < (l0.length : Int) := of_decide_eq_true (by first | (with_reducible assumption) | assumption); obtain ⟨ad133, e133, hx133_0, hx133_1, hx133_2, hx133_3⟩ := at_T129 HR0.out x13_4 p133 q133; cases e133; replace hx133_0 := (HB.out.cell (World.block_lt_of_cell? w _ hx133_0)).trans hx133_0; replace hx133_1 := (HB.out.cell (World.block_lt_of_cell? w _ hx133_1)).trans hx133_1; replace hx133_2 := (HB.out.cell (World.block_lt_of_cell? w _ hx133_2)).trans hx133_2; replace hx133_3 := (HB.out.cell (World.block_lt_of_cell? w _ hx133_3)).trans hx133_3; replace p133 := eq_true p133; replace q133 := eq_true q133)); try go_wp2_with (first | ((with_reducible refine gate_builtin (b := .append) (xs := #[.tmp 189, .tmp 191]) rfl ?_); at_builtin; refine Kd.R_append (Kd.int .i64) (w0 := w) w.heap.size rfl (.tmp 189) (.tmp 191) 33 3 (.int .i64 0) 8 rfl Try.underlying33 info3 rfl (by decide) (by omega) u12 x12_3 x13_4 [.int .i64 x13_4] (fun k_ => some k_ ≠ (u9 : Value).ownBlock) (fun _ => False) rfl rfl ?aP (fun _ hk => hk.elim) ?aF ?aO ?aB ?aS ?aL ?_; (case aP => exact rfl); (case aB => exact (by repeat (first | (with_reducible first | exact HB.out | apply qc0 | apply qa0 | apply qb0) | exact HB.out))); (case aF => exact (fun k_ hk => Kd.fresh' (Kd.R_lt (by (with_reducible repeat (first | apply Kd.qg0 | apply Kd.qf0 | apply Kd.qm0)); exact HO_9.out)) k_ hk)); (case aO => exact (by (with_reducible repeat (first | apply Kd.qg0 | apply Kd.qf0 | apply Kd.qm0)); exact HO_12.out)); (case aS => exact (qk0 (by repeat (first | (with_reducible first | exact HB.out | apply qc0 | apply qa0 | apply qb0) | exact HB.out)))); (case aL => have := LMc80.out; omega); intro v131 w87 ho hb hg hat; rw [← Ny130.out] at ho; have n0_ := Aside0.mk (Kd.qg1 (ok := (fun _ => True)) (by (with_reducible repeat (first | apply Kd.qg0 | apply Kd.qf0 | apply Kd.qm0)); exact Kd.qs0 HO_9.out (fun _ hk => ⟨trivial, hk⟩)) hg hat); have n1_ := Aside0.mk (hb); have n2_ := Aside0.mk (ho); clear HO_9; clear HB; clear HO_12; have HO_9 := n0_; have HB := n1_; have HO132 := n2_; clear n0_ n1_ n2_; clear ho hb hg hat; have p133 : 0 ≤ (x13_4 : Int) := of_decide_eq_true (by first | (with_reducible assumption) | assumption); have q133 : x13_4 < (l0.length : Int) := of_decide_eq_true (by first | (with_reducible assumption) | assumption); obtain ⟨ad133, e133, hx133_0, hx133_1, hx133_2, hx133_3⟩ := at_T129 HR0.out x13_4 p133 q133; cases e133; replace hx133_0 := (HB.out.cell (World.block_lt_of_cell? w _ hx133_0)).trans hx133_0; replace hx133_1 := (HB.out.cell (World.block_lt_of_cell? w _ hx133_1)).trans hx133_1; replace hx133_2 := (HB.out.cell (World.block_lt_of_cell? w _ hx133_2)).trans hx133_2; replace hx133_3 := (HB.out.cell (World.block_lt_of_cell? w _ hx133_3)).trans hx133_3; replace p133 := eq_true p133; replace q133 := eq_true q133)))
         go_roundg k4
         case measure => have := HJ4.out; have := HK2.out; have := HK3.out; have := HK4.out; omega
         case rel => exact ⟨(x3_3), (x9_3), (y130), (by first | rfl | (simp; done) | (simp [*]; done)), H', ⟨by have := HJ4.out; have := HK2.out; have := HK3.out; have := HK4.out; omega⟩, ⟨by (with_reducible repeat (first | apply Kd.qg0 | apply Kd.qf0 | apply Kd.qm0)); exact Kd.qs0 HO_9.out (fun _ hk => hk.2)⟩, ⟨by (with_reducible repeat (first | apply Kd.qg0 | apply Kd.qf0 | apply Kd.qm0)); exact HO132.out⟩, ⟨by repeat (first | (with_reducible first | exact HB.out | apply qc0 | apply qa0 | apply qb0) | exact HB.out)⟩⟩

end Go.Proofs.Ytlodndejipjceaa.PFnExactPropose
