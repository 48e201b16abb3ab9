/- Lines by a program (a changed copy of the kit's print: this repo's wip/tools): Go functions as Lean functions, and proofs that the calls answer so. -/
import Derived.Test.YtkkdmmefnicmaaaZPFnLevelledx0
import Derived.Test.YtkkdmmefnicmaaaZPFnLevelledx1
import Derived.Test.YtkkdmmefnicmaaaZPFnLevelledx4
import Derived.Test.YtkkdmmefnicmaaaZPFnLevelledx9
import Derived.Test.YtkkdmmefnicmaaaZPFnLevelledx11
namespace Go.Proofs.Ytkkdmmefnicmaaa.PFnLevelled
open Go.RowKit Go.Proofs.YtkkdmmefnicmaaaW.PrintWords Go.Proofs.YtkkdmmefnicmaaaW.PrintLast Go.Proofs.YtkkdmmefnicmaaaW.PrintMore
attribute [local go_sem] max2_int min2_int max_two min_two max_three min_three max_four min_four   -- for this text's walks alone
set_option linter.unusedVariables false
set_option linter.unusedSimpArgs false

/-! ### laws_FnLevelled: function 6 -/
mutual
def laws_FnLevelled.l0 : Nat → List (S52) → List Int → List Bool → List Bool → Int → Option (Bool)
 | 0, _, _, _, _, _ => none
 | k + 1, x3, x4, x5, x6, x7 => if x7 < (x3.length : Int) then (laws_FnLevelled.l1 k x3 x4 x5 x6 x7 0) else (laws_FnLevelled.l2 k x3 x4 x5 x6 0)
def laws_FnLevelled.l1 : Nat → List (S52) → List Int → List Bool → List Bool → Int → Int → Option (Bool)
 | 0, _, _, _, _, _, _ => none
 | k + 1, x3, x4, x5, x6, x7, x8 => if 0 ≤ x7 then (if x7 < (x3.length : Int) then (if x8 < (((rd_T52 x3 x7).f3).length : Int) then (if 0 ≤ x8 then (if 0 ≤ ((rd_T54 ((rd_T52 x3 x7).f3) x8).f0) then (if ((rd_T54 ((rd_T52 x3 x7).f3) x8).f0) < (x6.length : Int) then ((some (x6.set (((rd_T54 ((rd_T52 x3 x7).f3) x8).f0) : Int).toNat true : List Bool)).bind fun y315 => (if ((rd_T54 ((rd_T52 x3 x7).f3) x8).f0) < (x4.length : Int) then (if x7 < (x4.length : Int) then (if (rd x4 ((rd_T54 ((rd_T52 x3 x7).f3) x8).f0)) < (wrap64 ((rd x4 x7) + 1)) then (some false) else (if (rd x4 ((rd_T54 ((rd_T52 x3 x7).f3) x8).f0)) = (wrap64 ((rd x4 x7) + 1)) then (if ((rd_T54 ((rd_T52 x3 x7).f3) x8).f0) < (x5.length : Int) then (laws_FnLevelled.l1 k x3 x4 (x5.set (((rd_T54 ((rd_T52 x3 x7).f3) x8).f0) : Int).toNat true) y315 x7 (wrap64 (x8 + 1))) else (none)) else (laws_FnLevelled.l1 k x3 x4 x5 y315 x7 (wrap64 (x8 + 1))))) else (none)) else (none))) else (none)) else (none)) else (none)) else (laws_FnLevelled.l0 k x3 x4 x5 x6 (wrap64 (x7 + 1)))) else (none)) else (none)
def laws_FnLevelled.l2 : Nat → List (S52) → List Int → List Bool → List Bool → Int → Option (Bool)
 | 0, _, _, _, _, _ => none
 | k + 1, x3, x4, x5, x6, x10 => if x10 < (x3.length : Int) then (if 0 ≤ x10 then (if x10 < (x6.length : Int) then (if x10 < (x5.length : Int) then (if ((rdOf false x6 x10) != (rdOf false x5 x10)) = true then (some false) else (if rdOf false x6 x10 = true then (laws_FnLevelled.l2 k x3 x4 x5 x6 (wrap64 (x10 + 1))) else (if x10 < (x4.length : Int) then (if (rd x4 x10) = 0 then (laws_FnLevelled.l2 k x3 x4 x5 x6 (wrap64 (x10 + 1))) else (some false)) else (none)))) else (none)) else (none)) else (none)) else (some true)
end
def laws_FnLevelled.f (k : Nat) (l0 : List Int) : Option (Bool) := (laws_big.f l0).bind fun t298 => (if t298 = true then (some true) else ((spec_DrawLevels.f k l0).bind fun t299 => ((impl_Levels.f k t299).bind fun t302 => ((spec_ItemsOk.f k t299).bind fun t305 => (if t305 = true then (if (t302.length : Int) = (t299.length : Int) then (if 0 ≤ (t299.length : Int) then (if ((t299.length : Int) : Int).toNat ≤ 281474976710656 then (laws_FnLevelled.l0 k t299 t302 (List.replicate ((t299.length : Int) : Int).toNat false) (List.replicate ((t299.length : Int) : Int).toNat false) 0) else (none)) else (none)) else (some false)) else (some ((t302.length : Int) == 0)))))))
theorem laws_FnLevelled.mono_l : ∀ k, (∀ y0 y1 y2 y3 y4, LeO (laws_FnLevelled.l0 k y0 y1 y2 y3 y4) (laws_FnLevelled.l0 (k + 1) y0 y1 y2 y3 y4)) ∧ (∀ y0 y1 y2 y3 y4 y5, LeO (laws_FnLevelled.l1 k y0 y1 y2 y3 y4 y5) (laws_FnLevelled.l1 (k + 1) y0 y1 y2 y3 y4 y5)) ∧ (∀ y0 y1 y2 y3 y4, LeO (laws_FnLevelled.l2 k y0 y1 y2 y3 y4) (laws_FnLevelled.l2 (k + 1) y0 y1 y2 y3 y4))
 | 0 => ⟨fun _ _ _ _ _ r h => by simp [laws_FnLevelled.l0] at h, fun _ _ _ _ _ _ r h => by simp [laws_FnLevelled.l1] at h, fun _ _ _ _ _ r h => by simp [laws_FnLevelled.l2] at h⟩
 | k + 1 => by
  obtain ⟨ih0, ih1, ih2⟩ := laws_FnLevelled.mono_l k
  refine ⟨?_, ?_, ?_⟩
  ·intro y0 y1 y2 y3 y4
   unfold laws_FnLevelled.l0
   repeat' first
   | (with_reducible exact ih0 _ _ _ _ _)
   | (with_reducible exact ih1 _ _ _ _ _ _)
   | (with_reducible exact ih2 _ _ _ _ _)
   | (with_reducible exact impl_Levels.mono _ _)
   | (with_reducible exact spec_DrawLevels.mono _ _)
   | (with_reducible exact spec_ItemsOk.mono _ _)
   | (with_reducible exact LeO.refl _)
   | (with_reducible exact LeO.none _)
   | (with_reducible refine LeO.ite ?_ ?_)
   | (with_reducible refine LeO.bind ?_ (fun _ => ?_))
   | exact ih0 _ _ _ _ _
   | exact ih1 _ _ _ _ _ _
   | exact ih2 _ _ _ _ _
   | exact impl_Levels.mono _ _
   | exact spec_DrawLevels.mono _ _
   | exact spec_ItemsOk.mono _ _
   | exact LeO.none _
   | refine LeO.ite ?_ ?_
   | refine LeO.bind ?_ (fun _ => ?_)
  ·intro y0 y1 y2 y3 y4 y5
   unfold laws_FnLevelled.l1
   repeat' first
   | (with_reducible exact ih0 _ _ _ _ _)
   | (with_reducible exact ih1 _ _ _ _ _ _)
   | (with_reducible exact ih2 _ _ _ _ _)
   | (with_reducible exact impl_Levels.mono _ _)
   | (with_reducible exact spec_DrawLevels.mono _ _)
   | (with_reducible exact spec_ItemsOk.mono _ _)
   | (with_reducible exact LeO.refl _)
   | (with_reducible exact LeO.none _)
   | (with_reducible refine LeO.ite ?_ ?_)
   | (with_reducible refine LeO.bind ?_ (fun _ => ?_))
   | exact ih0 _ _ _ _ _
   | exact ih1 _ _ _ _ _ _
   | exact ih2 _ _ _ _ _
   | exact impl_Levels.mono _ _
   | exact spec_DrawLevels.mono _ _
   | exact spec_ItemsOk.mono _ _
   | exact LeO.none _
   | refine LeO.ite ?_ ?_
   | refine LeO.bind ?_ (fun _ => ?_)
  ·intro y0 y1 y2 y3 y4
   unfold laws_FnLevelled.l2
   repeat' first
   | (with_reducible exact ih0 _ _ _ _ _)
   | (with_reducible exact ih1 _ _ _ _ _ _)
   | (with_reducible exact ih2 _ _ _ _ _)
   | (with_reducible exact impl_Levels.mono _ _)
   | (with_reducible exact spec_DrawLevels.mono _ _)
   | (with_reducible exact spec_ItemsOk.mono _ _)
   | (with_reducible exact LeO.refl _)
   | (with_reducible exact LeO.none _)
   | (with_reducible refine LeO.ite ?_ ?_)
   | (with_reducible refine LeO.bind ?_ (fun _ => ?_))
   | exact ih0 _ _ _ _ _
   | exact ih1 _ _ _ _ _ _
   | exact ih2 _ _ _ _ _
   | exact impl_Levels.mono _ _
   | exact spec_DrawLevels.mono _ _
   | exact spec_ItemsOk.mono _ _
   | exact LeO.none _
   | refine LeO.ite ?_ ?_
   | refine LeO.bind ?_ (fun _ => ?_)
theorem laws_FnLevelled.mono : ∀ a0 k, LeO (laws_FnLevelled.f k a0) (laws_FnLevelled.f (k + 1) a0) := by
 intro a0 k
 obtain ⟨ih0, ih1, ih2⟩ := laws_FnLevelled.mono_l k
 unfold laws_FnLevelled.f
 repeat' first
   | (with_reducible exact ih0 _ _ _ _ _)
   | (with_reducible exact ih1 _ _ _ _ _ _)
   | (with_reducible exact ih2 _ _ _ _ _)
   | (with_reducible exact impl_Levels.mono _ _)
   | (with_reducible exact spec_DrawLevels.mono _ _)
   | (with_reducible exact spec_ItemsOk.mono _ _)
   | (with_reducible exact LeO.refl _)
   | (with_reducible exact LeO.none _)
   | (with_reducible refine LeO.ite ?_ ?_)
   | (with_reducible refine LeO.bind ?_ (fun _ => ?_))
   | exact ih0 _ _ _ _ _
   | exact ih1 _ _ _ _ _ _
   | exact ih2 _ _ _ _ _
   | exact impl_Levels.mono _ _
   | exact spec_DrawLevels.mono _ _
   | exact spec_ItemsOk.mono _ _
   | exact LeO.none _
   | refine LeO.ite ?_ ?_
   | refine LeO.bind ?_ (fun _ => ?_)
set_option maxHeartbeats 8000000 in
set_option maxRecDepth 100000 in
theorem laws_FnLevelled.calls (k : Nat) (A0 : Option Addr) (c0 : Nat) (l0 : List Int) (r : Bool) (w : World) (hr0 : Kd.C (Kd.int .u8) w A0 l0.length l0) (hc0 : l0.length ≤ c0) (h : laws_FnLevelled.f k l0 = some r) :
  Calls Try.prog 6 #[.slice A0 l0.length c0] w fun e w' => e = .returned (.bool r) ∧ Below w.heap.size w w' := by
 have HR0 := Aside0.mk hr0
 have HC0 := Aside0.mk hc0
 clear hr0 hc0
 have HB := Aside0.mk (Below.refl w.heap.size w)
 have H : ((laws_big.f l0).bind fun t298 => (if t298 = true then (some true) else ((spec_DrawLevels.f k l0).bind fun t299 => ((impl_Levels.f k t299).bind fun t302 => ((spec_ItemsOk.f k t299).bind fun t305 => (if t305 = true then (if (t302.length : Int) = (t299.length : Int) then (if 0 ≤ (t299.length : Int) then (if ((t299.length : Int) : Int).toNat ≤ 281474976710656 then (laws_FnLevelled.l0 k t299 t302 (List.replicate ((t299.length : Int) : Int).toNat false) (List.replicate ((t299.length : Int) : Int).toNat false) 0) else (none)) else (none)) else (some false)) else (some ((t302.length : Int) == 0)))))))) = some r := h
 clear h
 replace H := Option.bind_eq_some_iff.mp H
 obtain ⟨t298, A20, H⟩ := H
 replace H : (if t298 = true then (some true) else ((spec_DrawLevels.f k l0).bind fun t299 => ((impl_Levels.f k t299).bind fun t302 => ((spec_ItemsOk.f k t299).bind fun t305 => (if t305 = true then (if (t302.length : Int) = (t299.length : Int) then (if 0 ≤ (t299.length : Int) then (if ((t299.length : Int) : Int).toNat ≤ 281474976710656 then (laws_FnLevelled.l0 k t299 t302 (List.replicate ((t299.length : Int) : Int).toNat false) (List.replicate ((t299.length : Int) : Int).toNat false) 0) else (none)) else (none)) else (some false)) else (some ((t302.length : Int) == 0))))))) = some r := H
 have A2 := Aside0.mk A20
 clear A20
 by_cases c3 : t298 = true
 ·subst c3
  have H1 : (some true) = some r := by rw [if_pos rfl] at H; exact H
  clear H
  have H := H1
  clear H1
  obtain rfl := Option.some.inj H
  go_enter Try.func6, Try.ntmps6
  go_wp2_with (first | (go_at_call 12; (with_reducible refine (laws_big.calls _ _ l0 true _ ?side1 ?side2 A2.out).mono ?_); (case side1 => repeat (first | exact HR0.out | (with_reducible refine Kd.qj1 ?_ _) | (with_reducible refine Kd.qi1 ?_ _) | (with_reducible refine Kd.qn1 ?_))); (case side2 => exact HC0.out); rintro e w' ⟨rfl, ⟨nd, rfl⟩⟩; (try first | exact ⟨rfl, _, World.drewN_drewN _ _ _⟩ | exact ⟨rfl, _, Eq.trans (World.drewN_drewN _ _ _) (congrArg (World.drewN _) (Nat.add_assoc _ _ _))⟩)))
  repeat (go_quiet (first | (go_at_call 12; (with_reducible refine (laws_big.calls _ _ l0 true _ ?side1 ?side2 A2.out).mono ?_); (case side1 => repeat (first | exact HR0.out | (with_reducible refine Kd.qj1 ?_ _) | (with_reducible refine Kd.qi1 ?_ _) | (with_reducible refine Kd.qn1 ?_))); (case side2 => exact HC0.out); rintro e w' ⟨rfl, ⟨nd, rfl⟩⟩; (try first | exact ⟨rfl, _, World.drewN_drewN _ _ _⟩ | exact ⟨rfl, _, Eq.trans (World.drewN_drewN _ _ _) (congrArg (World.drewN _) (Nat.add_assoc _ _ _))⟩))); try go_wp2_with (first | (go_at_call 12; (with_reducible refine (laws_big.calls _ _ l0 true _ ?side1 ?side2 A2.out).mono ?_); (case side1 => repeat (first | exact HR0.out | (with_reducible refine Kd.qj1 ?_ _) | (with_reducible refine Kd.qi1 ?_ _) | (with_reducible refine Kd.qn1 ?_))); (case side2 => exact HC0.out); rintro e w' ⟨rfl, ⟨nd, rfl⟩⟩; (try first | exact ⟨rfl, _, World.drewN_drewN _ _ _⟩ | exact ⟨rfl, _, Eq.trans (World.drewN_drewN _ _ _) (congrArg (World.drewN _) (Nat.add_assoc _ _ _))⟩))))
  go_ret
  exact ⟨by first | rfl | (simp [errW_none, errW_some] <;> rfl) | (simp [*, errW_none, errW_some] <;> rfl), by repeat (first | (with_reducible first | exact HB.out | apply qc0 | apply qa0 | apply qd0) | exact HB.out)⟩
 replace c3 := Bool.eq_false_iff.mpr c3
 subst c3
 have H1 : ((spec_DrawLevels.f k l0).bind fun t299 => ((impl_Levels.f k t299).bind fun t302 => ((spec_ItemsOk.f k t299).bind fun t305 => (if t305 = true then (if (t302.length : Int) = (t299.length : Int) then (if 0 ≤ (t299.length : Int) then (if ((t299.length : Int) : Int).toNat ≤ 281474976710656 then (laws_FnLevelled.l0 k t299 t302 (List.replicate ((t299.length : Int) : Int).toNat false) (List.replicate ((t299.length : Int) : Int).toNat false) 0) else (none)) else (none)) else (some false)) else (some ((t302.length : Int) == 0)))))) = some r := by rw [if_neg (show ¬ (false = true) by decide)] at H; exact H
 clear H
 have H := H1
 clear H1
 replace H := Option.bind_eq_some_iff.mp H
 obtain ⟨t299, A40, H⟩ := H
 replace H : ((impl_Levels.f k t299).bind fun t302 => ((spec_ItemsOk.f k t299).bind fun t305 => (if t305 = true then (if (t302.length : Int) = (t299.length : Int) then (if 0 ≤ (t299.length : Int) then (if ((t299.length : Int) : Int).toNat ≤ 281474976710656 then (laws_FnLevelled.l0 k t299 t302 (List.replicate ((t299.length : Int) : Int).toNat false) (List.replicate ((t299.length : Int) : Int).toNat false) 0) else (none)) else (none)) else (some false)) else (some ((t302.length : Int) == 0))))) = some r := H
 have A4 := Aside0.mk A40
 clear A40
 replace H := Option.bind_eq_some_iff.mp H
 obtain ⟨t302, A50, H⟩ := H
 replace H : ((spec_ItemsOk.f k t299).bind fun t305 => (if t305 = true then (if (t302.length : Int) = (t299.length : Int) then (if 0 ≤ (t299.length : Int) then (if ((t299.length : Int) : Int).toNat ≤ 281474976710656 then (laws_FnLevelled.l0 k t299 t302 (List.replicate ((t299.length : Int) : Int).toNat false) (List.replicate ((t299.length : Int) : Int).toNat false) 0) else (none)) else (none)) else (some false)) else (some ((t302.length : Int) == 0)))) = some r := H
 have A5 := Aside0.mk A50
 clear A50
 replace H := Option.bind_eq_some_iff.mp H
 obtain ⟨t305, A60, H⟩ := H
 replace H : (if t305 = true then (if (t302.length : Int) = (t299.length : Int) then (if 0 ≤ (t299.length : Int) then (if ((t299.length : Int) : Int).toNat ≤ 281474976710656 then (laws_FnLevelled.l0 k t299 t302 (List.replicate ((t299.length : Int) : Int).toNat false) (List.replicate ((t299.length : Int) : Int).toNat false) 0) else (none)) else (none)) else (some false)) else (some ((t302.length : Int) == 0))) = some r := H
 have A6 := Aside0.mk A60
 clear A60
 by_cases c7 : t305 = true
 ·subst c7
  have H1 : (if (t302.length : Int) = (t299.length : Int) then (if 0 ≤ (t299.length : Int) then (if ((t299.length : Int) : Int).toNat ≤ 281474976710656 then (laws_FnLevelled.l0 k t299 t302 (List.replicate ((t299.length : Int) : Int).toNat false) (List.replicate ((t299.length : Int) : Int).toNat false) 0) else (none)) else (none)) else (some false)) = some r := by rw [if_pos rfl] at H; exact H
  clear H
  have H := H1
  clear H1
  by_cases c8 : (t302.length : Int) = (t299.length : Int)
  ·rw [if_pos c8] at H
   have c8b0 : ((t302.length : Int) == (t299.length : Int)) = true := beq_iff_eq.mpr c8
   have c8b1 : ((t302.length : Int) != (t299.length : Int)) = false := bne_eq_false_iff_eq.mpr c8
   have c8b2 : (t302.length == t299.length) = true := by first | simpa using c8 | (simp at c8 ⊢; omega)
   clear c8
   by_cases c9 : 0 ≤ (t299.length : Int)
   case neg => rw [if_neg c9] at H; exact absurd H (by simp)
   rw [if_pos c9] at H
   have c9b0 := eq_true c9
   have c9b1 : decide (0 ≤ (t299.length : Int)) = true := decide_eq_true c9
   clear c9
   by_cases c10 : ((t299.length : Int) : Int).toNat ≤ 281474976710656
   case neg => rw [if_neg c10] at H; exact absurd H (by simp)
   rw [if_pos c10] at H
   have c10b0 := eq_true c10
   have c10b1 : decide (((t299.length : Int) : Int).toNat ≤ 281474976710656) = true := decide_eq_true c10
   clear c10
   obtain ⟨y306, hy306⟩ : ∃ y_ : List Bool, y_ = (List.replicate ((t299.length : Int) : Int).toNat false) := ⟨_, rfl⟩
   replace H : (laws_FnLevelled.l0 k t299 t302 y306 (List.replicate ((t299.length : Int) : Int).toNat false) 0) = some r := by first | (rw [hy306]; with_reducible exact H) | (have H2_ := (Option.bind_some _ _).symm.trans H; rw [hy306]; with_reducible exact H2_) | (have H2_ := (Option.bind_some _ _).symm.trans H; with_reducible exact H2_) | with_reducible exact H | (rw [hy306]; exact H) | exact H
   have Ny306 := Aside0.mk hy306
   clear hy306
   obtain ⟨y309, hy309⟩ : ∃ y_ : List Bool, y_ = (List.replicate ((t299.length : Int) : Int).toNat false) := ⟨_, rfl⟩
   replace H : (laws_FnLevelled.l0 k t299 t302 y306 y309 0) = some r := by first | (rw [hy309]; with_reducible exact H) | (have H2_ := (Option.bind_some _ _).symm.trans H; rw [hy309]; with_reducible exact H2_) | (have H2_ := (Option.bind_some _ _).symm.trans H; with_reducible exact H2_) | with_reducible exact H | (rw [hy309]; exact H) | exact H
   have Ny309 := Aside0.mk hy309
   clear hy309
   have H' := Aside0.mk H
   clear H
   go_enter Try.func6, Try.ntmps6
   go_wp2_with (first | (go_at_call 12; (with_reducible refine (laws_big.calls _ _ l0 false _ ?side1 ?side2 A2.out).mono ?_); (case side1 => repeat (first | exact HR0.out | (with_reducible refine Kd.qj1 ?_ _) | (with_reducible refine Kd.qi1 ?_ _) | (with_reducible refine Kd.qn1 ?_))); (case side2 => exact HC0.out); rintro e w' ⟨rfl, ⟨nd, rfl⟩⟩; (try first | exact ⟨rfl, _, World.drewN_drewN _ _ _⟩ | exact ⟨rfl, _, Eq.trans (World.drewN_drewN _ _ _) (congrArg (World.drewN _) (Nat.add_assoc _ _ _))⟩)) | (go_at_call 25; (with_reducible refine (spec_DrawLevels.calls k _ _ l0 t299 _ ?side1 ?side2 A4.out).mono ?_); (case side1 => repeat (first | exact HR0.out | (with_reducible refine Kd.qj1 ?_ _) | (with_reducible refine Kd.qi1 ?_ _) | (with_reducible refine Kd.qn1 ?_))); (case side2 => exact HC0.out); rintro e w11 ⟨v300, rfl, ho0, hb⟩; have n0_ := Aside0.mk (Kd.S_lower ho0 (qm0 (by repeat (first | (with_reducible first | exact HB.out | apply qc0 | apply qa0 | apply qd0) | exact HB.out)))); have n1_ := Aside0.mk (qk0 (by repeat (first | (with_reducible first | exact HB.out | apply qc0 | apply qa0 | apply qd0) | exact HB.out)) hb); clear HB; have HO301 := n0_; have HB := n1_; clear n0_ n1_; (try clear hb); (try clear hb2); (try clear hk); (try clear hi); (try clear ho0); obtain ⟨Ao12, co12, eo12⟩ := Kd.S_slice HO301.out; subst eo12) | (go_at_call 26; (with_reducible refine (impl_Levels.calls k _ _ t299 t302 _ ?side1 ?side2 A5.out).mono ?_); (case side1 => repeat (first | exact (Kd.qa1 HO301.out).2.2 | (with_reducible refine Kd.qj1 ?_ _) | (with_reducible refine Kd.qi1 ?_ _) | (with_reducible refine Kd.qn1 ?_))); (case side2 => exact (Kd.qa1 HO301.out).2.1); rintro e w13 ⟨v303, rfl, ho0, hb⟩; have n0_ := Aside0.mk (Kd.qr1 (by (with_reducible repeat (first | apply Kd.qx0 | apply Kd.qw0 | apply Kd.qd1)); exact HO301.out) hb); have n1_ := Aside0.mk (Kd.qw1 ho0 (qm0 (by repeat (first | (with_reducible first | exact HB.out | apply qc0 | apply qa0 | apply qd0) | exact HB.out)))); have n2_ := Aside0.mk (qk0 (by repeat (first | (with_reducible first | exact HB.out | apply qc0 | apply qa0 | apply qd0) | exact HB.out)) hb); clear HO301; clear HB; have HO301 := n0_; have HO304 := n1_; have HB := n2_; clear n0_ n1_ n2_; (try clear hb); (try clear hb2); (try clear hk); (try clear hi); (try clear ho0)) | (go_at_call 27; (with_reducible refine (spec_ItemsOk.calls k _ _ t299 true _ ?side1 ?side2 A6.out).mono ?_); (case side1 => repeat (first | exact (Kd.qa1 HO301.out).2.2 | (with_reducible refine Kd.qj1 ?_ _) | (with_reducible refine Kd.qi1 ?_ _) | (with_reducible refine Kd.qn1 ?_))); (case side2 => exact (Kd.qa1 HO301.out).2.1); rintro e w14 ⟨rfl, hb⟩; have n0_ := Aside0.mk (Kd.qr1 (by (with_reducible repeat (first | apply Kd.qx0 | apply Kd.qw0 | apply Kd.qd1)); exact HO301.out) hb); have n1_ := Aside0.mk (Kd.qs1 (by (with_reducible repeat (first | apply Kd.qo0 | apply Kd.qn0 | apply Kd.qt0)); exact HO304.out) hb); have n2_ := Aside0.mk (qk0 (by repeat (first | (with_reducible first | exact HB.out | apply qc0 | apply qa0 | apply qd0) | exact HB.out)) hb); clear HO301; clear HO304; clear HB; have HO301 := n0_; have HO304 := n1_; have HB := n2_; clear n0_ n1_ n2_; (try clear hb); (try clear hb2); (try clear hk); (try clear hi); obtain ⟨Ao15, co15, eo15⟩ := Kd.qm1 HO304.out; subst eo15) | ((with_reducible refine qz0 (N := 30) rfl ?_); refine Kd.R_make Kd.bool _ 4 rfl (N := 30) rfl 49 _ _ rfl (t299.length : Int) rfl rfl Try.underlying49 (.bool false) 1 info4 rfl (by decide) (by omega) false (ok := fun _ => True) (okp := fun _ => True) rfl (fun _ hk => hk) trivial (of_decide_eq_true (by first | (with_reducible assumption) | assumption)) (Nat.le_trans (Nat.mul_le_mul_right _ (of_decide_eq_true (by first | (with_reducible assumption) | assumption) : (t299.length : Int).toNat ≤ 281474976710656)) (by omega)) (Below.refl _ _) (Nat.le_refl _) ?_; intro v307 w16 ho17 hb hg_ hnew_; clear hg_ hnew_; (first | rw [← Ny306.out] at ho17 | (simp only [Int.reduceToNat] at ho17; rw [← Ny306.out] at ho17)); have n0_ := Aside0.mk (Kd.qr1 (by (with_reducible repeat (first | apply Kd.qx0 | apply Kd.qw0 | apply Kd.qd1)); exact HO301.out) hb); have n1_ := Aside0.mk (Kd.qs1 (by (with_reducible repeat (first | apply Kd.qo0 | apply Kd.qn0 | apply Kd.qt0)); exact HO304.out) hb); have n2_ := Aside0.mk (Kd.qw1 ho17 (qm0 (by repeat (first | (with_reducible first | exact HB.out | apply qc0 | apply qa0 | apply qd0) | exact HB.out)))); have n3_ := Aside0.mk (qk0 (by repeat (first | (with_reducible first | exact HB.out | apply qc0 | apply qa0 | apply qd0) | exact HB.out)) hb); clear HO301; clear HO304; clear HB; have HO301 := n0_; have HO304 := n1_; have HO308 := n2_; have HB := n3_; clear n0_ n1_ n2_ n3_; clear hb ho17) | ((with_reducible refine qz0 (N := 33) rfl ?_); refine Kd.R_make Kd.bool _ 4 rfl (N := 33) rfl 49 _ _ rfl (t299.length : Int) rfl rfl Try.underlying49 (.bool false) 1 info4 rfl (by decide) (by omega) false (ok := fun _ => True) (okp := fun _ => True) rfl (fun _ hk => hk) trivial (of_decide_eq_true (by first | (with_reducible assumption) | assumption)) (Nat.le_trans (Nat.mul_le_mul_right _ (of_decide_eq_true (by first | (with_reducible assumption) | assumption) : (t299.length : Int).toNat ≤ 281474976710656)) (by omega)) (Below.refl _ _) (Nat.le_refl _) ?_; intro v310 w18 ho19 hb hg_ hnew_; clear hg_ hnew_; (first | rw [← Ny309.out] at ho19 | (simp only [Int.reduceToNat] at ho19; rw [← Ny309.out] at ho19)); have n0_ := Aside0.mk (Kd.qr1 (by (with_reducible repeat (first | apply Kd.qx0 | apply Kd.qw0 | apply Kd.qd1)); exact HO301.out) hb); have n1_ := Aside0.mk (Kd.qs1 (by (with_reducible repeat (first | apply Kd.qo0 | apply Kd.qn0 | apply Kd.qt0)); exact HO304.out) hb); have n2_ := Aside0.mk (Kd.R_elder' (by (with_reducible repeat (first | apply Kd.qo0 | apply Kd.qn0 | apply Kd.qt0)); exact HO308.out) (Kd.R_base ho19) hb); have n3_ := Aside0.mk (Kd.qw1 (Kd.R_new' ho19 (Kd.R_lt (by (with_reducible repeat (first | apply Kd.qo0 | apply Kd.qn0 | apply Kd.qt0)); exact HO308.out))) (qm0 (by repeat (first | (with_reducible first | exact HB.out | apply qc0 | apply qa0 | apply qd0) | exact HB.out)))); have n4_ := Aside0.mk (qk0 (by repeat (first | (with_reducible first | exact HB.out | apply qc0 | apply qa0 | apply qd0) | exact HB.out)) hb); clear HO301; clear HO304; clear HO308; clear HB; have HO301 := n0_; have HO304 := n1_; have HO308 := n2_; have HO311 := n3_; have HB := n4_; clear n0_ n1_ n2_ n3_ n4_; clear hb ho19))
   repeat (go_quiet (first | (go_at_call 12; (with_reducible refine (laws_big.calls _ _ l0 false _ ?side1 ?side2 A2.out).mono ?_); (case side1 => repeat (first | exact HR0.out | (with_reducible refine Kd.qj1 ?_ _) | (with_reducible refine Kd.qi1 ?_ _) | (with_reducible refine Kd.qn1 ?_))); (case side2 => exact HC0.out); rintro e w' ⟨rfl, ⟨nd, rfl⟩⟩; (try first | exact ⟨rfl, _, World.drewN_drewN _ _ _⟩ | exact ⟨rfl, _, Eq.trans (World.drewN_drewN _ _ _) (congrArg (World.drewN _) (Nat.add_assoc _ _ _))⟩)) | (go_at_call 25; (with_reducible refine (spec_DrawLevels.calls k _ _ l0 t299 _ ?side1 ?side2 A4.out).mono ?_); (case side1 => repeat (first | exact HR0.out | (with_reducible refine Kd.qj1 ?_ _) | (with_reducible refine Kd.qi1 ?_ _) | (with_reducible refine Kd.qn1 ?_))); (case side2 => exact HC0.out); rintro e w11 ⟨v300, rfl, ho0, hb⟩; have n0_ := Aside0.mk (Kd.S_lower ho0 (qm0 (by repeat (first | (with_reducible first | exact HB.out | apply qc0 | apply qa0 | apply qd0) | exact HB.out)))); have n1_ := Aside0.mk (qk0 (by repeat (first | (with_reducible first | exact HB.out | apply qc0 | apply qa0 | apply qd0) | exact HB.out)) hb); clear HB; have HO301 := n0_; have HB := n1_; clear n0_ n1_; (try clear hb); (try clear hb2); (try clear hk); (try clear hi); (try clear ho0); obtain ⟨Ao12, co12, eo12⟩ := Kd.S_slice HO301.out; subst eo12) | (go_at_call 26; (with_reducible refine (impl_Levels.calls k _ _ t299 t302 _ ?side1 ?side2 A5.out).mono ?_); (case side1 => repeat (first | exact (Kd.qa1 HO301.out).2.2 | (with_reducible refine Kd.qj1 ?_ _) | (with_reducible refine Kd.qi1 ?_ _) | (with_reducible refine Kd.qn1 ?_))); (case side2 => exact (Kd.qa1 HO301.out).2.1); rintro e w13 ⟨v303, rfl, ho0, hb⟩; have n0_ := Aside0.mk (Kd.qr1 (by (with_reducible repeat (first | apply Kd.qx0 | apply Kd.qw0 | apply Kd.qd1)); exact HO301.out) hb); have n1_ := Aside0.mk (Kd.qw1 ho0 (qm0 (by repeat (first | (with_reducible first | exact HB.out | apply qc0 | apply qa0 | apply qd0) | exact HB.out)))); have n2_ := Aside0.mk (qk0 (by repeat (first | (with_reducible first | exact HB.out | apply qc0 | apply qa0 | apply qd0) | exact HB.out)) hb); clear HO301; clear HB; have HO301 := n0_; have HO304 := n1_; have HB := n2_; clear n0_ n1_ n2_; (try clear hb); (try clear hb2); (try clear hk); (try clear hi); (try clear ho0)) | (go_at_call 27; (with_reducible refine (spec_ItemsOk.calls k _ _ t299 true _ ?side1 ?side2 A6.out).mono ?_); (case side1 => repeat (first | exact (Kd.qa1 HO301.out).2.2 | (with_reducible refine Kd.qj1 ?_ _) | (with_reducible refine Kd.qi1 ?_ _) | (with_reducible refine Kd.qn1 ?_))); (case side2 => exact (Kd.qa1 HO301.out).2.1); rintro e w14 ⟨rfl, hb⟩; have n0_ := Aside0.mk (Kd.qr1 (by (with_reducible repeat (first | apply Kd.qx0 | apply Kd.qw0 | apply Kd.qd1)); exact HO301.out) hb); have n1_ := Aside0.mk (Kd.qs1 (by (with_reducible repeat (first | apply Kd.qo0 | apply Kd.qn0 | apply Kd.qt0)); exact HO304.out) hb); have n2_ := Aside0.mk (qk0 (by repeat (first | (with_reducible first | exact HB.out | apply qc0 | apply qa0 | apply qd0) | exact HB.out)) hb); clear HO301; clear HO304; clear HB; have HO301 := n0_; have HO304 := n1_; have HB := n2_; clear n0_ n1_ n2_; (try clear hb); (try clear hb2); (try clear hk); (try clear hi); obtain ⟨Ao15, co15, eo15⟩ := Kd.qm1 HO304.out; subst eo15) | ((with_reducible refine qz0 (N := 30) rfl ?_); refine Kd.R_make Kd.bool _ 4 rfl (N := 30) rfl 49 _ _ rfl (t299.length : Int) rfl rfl Try.underlying49 (.bool false) 1 info4 rfl (by decide) (by omega) false (ok := fun _ => True) (okp := fun _ => True) rfl (fun _ hk => hk) trivial (of_decide_eq_true (by first | (with_reducible assumption) | assumption)) (Nat.le_trans (Nat.mul_le_mul_right _ (of_decide_eq_true (by first | (with_reducible assumption) | assumption) : (t299.length : Int).toNat ≤ 281474976710656)) (by omega)) (Below.refl _ _) (Nat.le_refl _) ?_; intro v307 w16 ho17 hb hg_ hnew_; clear hg_ hnew_; (first | rw [← Ny306.out] at ho17 | (simp only [Int.reduceToNat] at ho17; rw [← Ny306.out] at ho17)); have n0_ := Aside0.mk (Kd.qr1 (by (with_reducible repeat (first | apply Kd.qx0 | apply Kd.qw0 | apply Kd.qd1)); exact HO301.out) hb); have n1_ := Aside0.mk (Kd.qs1 (by (with_reducible repeat (first | apply Kd.qo0 | apply Kd.qn0 | apply Kd.qt0)); exact HO304.out) hb); have n2_ := Aside0.mk (Kd.qw1 ho17 (qm0 (by repeat (first | (with_reducible first | exact HB.out | apply qc0 | apply qa0 | apply qd0) | exact HB.out)))); have n3_ := Aside0.mk (qk0 (by repeat (first | (with_reducible first | exact HB.out | apply qc0 | apply qa0 | apply qd0) | exact HB.out)) hb); clear HO301; clear HO304; clear HB; have HO301 := n0_; have HO304 := n1_; have HO308 := n2_; have HB := n3_; clear n0_ n1_ n2_ n3_; clear hb ho17) | ((with_reducible refine qz0 (N := 33) rfl ?_); refine Kd.R_make Kd.bool _ 4 rfl (N := 33) rfl 49 _ _ rfl (t299.length : Int) rfl rfl Try.underlying49 (.bool false) 1 info4 rfl (by decide) (by omega) false (ok := fun _ => True) (okp := fun _ => True) rfl (fun _ hk => hk) trivial (of_decide_eq_true (by first | (with_reducible assumption) | assumption)) (Nat.le_trans (Nat.mul_le_mul_right _ (of_decide_eq_true (by first | (with_reducible assumption) | assumption) : (t299.length : Int).toNat ≤ 281474976710656)) (by omega)) (Below.refl _ _) (Nat.le_refl _) ?_; intro v310 w18 ho19 hb hg_ hnew_; clear hg_ hnew_; (first | rw [← Ny309.out] at ho19 | (simp only [Int.reduceToNat] at ho19; rw [← Ny309.out] at ho19)); have n0_ := Aside0.mk (Kd.qr1 (by (with_reducible repeat (first | apply Kd.qx0 | apply Kd.qw0 | apply Kd.qd1)); exact HO301.out) hb); have n1_ := Aside0.mk (Kd.qs1 (by (with_reducible repeat (first | apply Kd.qo0 | apply Kd.qn0 | apply Kd.qt0)); exact HO304.out) hb); have n2_ := Aside0.mk (Kd.R_elder' (by (with_reducible repeat (first | apply Kd.qo0 | apply Kd.qn0 | apply Kd.qt0)); exact HO308.out) (Kd.R_base ho19) hb); have n3_ := Aside0.mk (Kd.qw1 (Kd.R_new' ho19 (Kd.R_lt (by (with_reducible repeat (first | apply Kd.qo0 | apply Kd.qn0 | apply Kd.qt0)); exact HO308.out))) (qm0 (by repeat (first | (with_reducible first | exact HB.out | apply qc0 | apply qa0 | apply qd0) | exact HB.out)))); have n4_ := Aside0.mk (qk0 (by repeat (first | (with_reducible first | exact HB.out | apply qc0 | apply qa0 | apply qd0) | exact HB.out)) hb); clear HO301; clear HO304; clear HO308; clear HB; have HO301 := n0_; have HO304 := n1_; have HO308 := n2_; have HO311 := n3_; have HB := n4_; clear n0_ n1_ n2_ n3_ n4_; clear hb ho19)); try go_wp2_with (first | (go_at_call 12; (with_reducible refine (laws_big.calls _ _ l0 false _ ?side1 ?side2 A2.out).mono ?_); (case side1 => repeat (first | exact HR0.out | (with_reducible refine Kd.qj1 ?_ _) | (with_reducible refine Kd.qi1 ?_ _) | (with_reducible refine Kd.qn1 ?_))); (case side2 => exact HC0.out); rintro e w' ⟨rfl, ⟨nd, rfl⟩⟩; (try first | exact ⟨rfl, _, World.drewN_drewN _ _ _⟩ | exact ⟨rfl, _, Eq.trans (World.drewN_drewN _ _ _) (congrArg (World.drewN _) (Nat.add_assoc _ _ _))⟩)) | (go_at_call 25; (with_reducible refine (spec_DrawLevels.calls k _ _ l0 t299 _ ?side1 ?side2 A4.out).mono ?_); (case side1 => repeat (first | exact HR0.out | (with_reducible refine Kd.qj1 ?_ _) | (with_reducible refine Kd.qi1 ?_ _) | (with_reducible refine Kd.qn1 ?_))); (case side2 => exact HC0.out); rintro e w11 ⟨v300, rfl, ho0, hb⟩; have n0_ := Aside0.mk (Kd.S_lower ho0 (qm0 (by repeat (first | (with_reducible first | exact HB.out | apply qc0 | apply qa0 | apply qd0) | exact HB.out)))); have n1_ := Aside0.mk (qk0 (by repeat (first | (with_reducible first | exact HB.out | apply qc0 | apply qa0 | apply qd0) | exact HB.out)) hb); clear HB; have HO301 := n0_; have HB := n1_; clear n0_ n1_; (try clear hb); (try clear hb2); (try clear hk); (try clear hi); (try clear ho0); obtain ⟨Ao12, co12, eo12⟩ := Kd.S_slice HO301.out; subst eo12) | (go_at_call 26; (with_reducible refine (impl_Levels.calls k _ _ t299 t302 _ ?side1 ?side2 A5.out).mono ?_); (case side1 => repeat (first | exact (Kd.qa1 HO301.out).2.2 | (with_reducible refine Kd.qj1 ?_ _) | (with_reducible refine Kd.qi1 ?_ _) | (with_reducible refine Kd.qn1 ?_))); (case side2 => exact (Kd.qa1 HO301.out).2.1); rintro e w13 ⟨v303, rfl, ho0, hb⟩; have n0_ := Aside0.mk (Kd.qr1 (by (with_reducible repeat (first | apply Kd.qx0 | apply Kd.qw0 | apply Kd.qd1)); exact HO301.out) hb); have n1_ := Aside0.mk (Kd.qw1 ho0 (qm0 (by repeat (first | (with_reducible first | exact HB.out | apply qc0 | apply qa0 | apply qd0) | exact HB.out)))); have n2_ := Aside0.mk (qk0 (by repeat (first | (with_reducible first | exact HB.out | apply qc0 | apply qa0 | apply qd0) | exact HB.out)) hb); clear HO301; clear HB; have HO301 := n0_; have HO304 := n1_; have HB := n2_; clear n0_ n1_ n2_; (try clear hb); (try clear hb2); (try clear hk); (try clear hi); (try clear ho0)) | (go_at_call 27; (with_reducible refine (spec_ItemsOk.calls k _ _ t299 true _ ?side1 ?side2 A6.out).mono ?_); (case side1 => repeat (first | exact (Kd.qa1 HO301.out).2.2 | (with_reducible refine Kd.qj1 ?_ _) | (with_reducible refine Kd.qi1 ?_ _) | (with_reducible refine Kd.qn1 ?_))); (case side2 => exact (Kd.qa1 HO301.out).2.1); rintro e w14 ⟨rfl, hb⟩; have n0_ := Aside0.mk (Kd.qr1 (by (with_reducible repeat (first | apply Kd.qx0 | apply Kd.qw0 | apply Kd.qd1)); exact HO301.out) hb); have n1_ := Aside0.mk (Kd.qs1 (by (with_reducible repeat (first | apply Kd.qo0 | apply Kd.qn0 | apply Kd.qt0)); exact HO304.out) hb); have n2_ := Aside0.mk (qk0 (by repeat (first | (with_reducible first | exact HB.out | apply qc0 | apply qa0 | apply qd0) | exact HB.out)) hb); clear HO301; clear HO304; clear HB; have HO301 := n0_; have HO304 := n1_; have HB := n2_; clear n0_ n1_ n2_; (try clear hb); (try clear hb2); (try clear hk); (try clear hi); obtain ⟨Ao15, co15, eo15⟩ := Kd.qm1 HO304.out; subst eo15) | ((with_reducible refine qz0 (N := 30) rfl ?_); refine Kd.R_make Kd.bool _ 4 rfl (N := 30) rfl 49 _ _ rfl (t299.length : Int) rfl rfl Try.underlying49 (.bool false) 1 info4 rfl (by decide) (by omega) false (ok := fun _ => True) (okp := fun _ => True) rfl (fun _ hk => hk) trivial (of_decide_eq_true (by first | (with_reducible assumption) | assumption)) (Nat.le_trans (Nat.mul_le_mul_right _ (of_decide_eq_true (by first | (with_reducible assumption) | assumption) : (t299.length : Int).toNat ≤ 281474976710656)) (by omega)) (Below.refl _ _) (Nat.le_refl _) ?_; intro v307 w16 ho17 hb hg_ hnew_; clear hg_ hnew_; (first | rw [← Ny306.out] at ho17 | (simp only [Int.reduceToNat] at ho17; rw [← Ny306.out] at ho17)); have n0_ := Aside0.mk (Kd.qr1 (by (with_reducible repeat (first | apply Kd.qx0 | apply Kd.qw0 | apply Kd.qd1)); exact HO301.out) hb); have n1_ := Aside0.mk (Kd.qs1 (by (with_reducible repeat (first | apply Kd.qo0 | apply Kd.qn0 | apply Kd.qt0)); exact HO304.out) hb); have n2_ := Aside0.mk (Kd.qw1 ho17 (qm0 (by repeat (first | (with_reducible first | exact HB.out | apply qc0 | apply qa0 | apply qd0) | exact HB.out)))); have n3_ := Aside0.mk (qk0 (by repeat (first | (with_reducible first | exact HB.out | apply qc0 | apply qa0 | apply qd0) | exact HB.out)) hb); clear HO301; clear HO304; clear HB; have HO301 := n0_; have HO304 := n1_; have HO308 := n2_; have HB := n3_; clear n0_ n1_ n2_ n3_; clear hb ho17) | ((with_reducible refine qz0 (N := 33) rfl ?_); refine Kd.R_make Kd.bool _ 4 rfl (N := 33) rfl 49 _ _ rfl (t299.length : Int) rfl rfl Try.underlying49 (.bool false) 1 info4 rfl (by decide) (by omega) false (ok := fun _ => True) (okp := fun _ => True) rfl (fun _ hk => hk) trivial (of_decide_eq_true (by first | (with_reducible assumption) | assumption)) (Nat.le_trans (Nat.mul_le_mul_right _ (of_decide_eq_true (by first | (with_reducible assumption) | assumption) : (t299.length : Int).toNat ≤ 281474976710656)) (by omega)) (Below.refl _ _) (Nat.le_refl _) ?_; intro v310 w18 ho19 hb hg_ hnew_; clear hg_ hnew_; (first | rw [← Ny309.out] at ho19 | (simp only [Int.reduceToNat] at ho19; rw [← Ny309.out] at ho19)); have n0_ := Aside0.mk (Kd.qr1 (by (with_reducible repeat (first | apply Kd.qx0 | apply Kd.qw0 | apply Kd.qd1)); exact HO301.out) hb); have n1_ := Aside0.mk (Kd.qs1 (by (with_reducible repeat (first | apply Kd.qo0 | apply Kd.qn0 | apply Kd.qt0)); exact HO304.out) hb); have n2_ := Aside0.mk (Kd.R_elder' (by (with_reducible repeat (first | apply Kd.qo0 | apply Kd.qn0 | apply Kd.qt0)); exact HO308.out) (Kd.R_base ho19) hb); have n3_ := Aside0.mk (Kd.qw1 (Kd.R_new' ho19 (Kd.R_lt (by (with_reducible repeat (first | apply Kd.qo0 | apply Kd.qn0 | apply Kd.qt0)); exact HO308.out))) (qm0 (by repeat (first | (with_reducible first | exact HB.out | apply qc0 | apply qa0 | apply qd0) | exact HB.out)))); have n4_ := Aside0.mk (qk0 (by repeat (first | (with_reducible first | exact HB.out | apply qc0 | apply qa0 | apply qd0) | exact HB.out)) hb); clear HO301; clear HO304; clear HO308; clear HB; have HO301 := n0_; have HO304 := n1_; have HO308 := n2_; have HO311 := n3_; have HB := n4_; clear n0_ n1_ n2_ n3_ n4_; clear hb ho19)))
   go_loopg [7] k (fun kq v7 w' => ∃ (x5_1 : List Bool) (x6_1 : List Bool) (x7_1 : Int), v7 = .int .i64 x7_1 ∧ Aside0 (laws_FnLevelled.l0 kq t299 t302 x5_1 x6_1 x7_1 = some r) ∧ Aside0 (kq ≤ k) ∧ Aside0 (Kd.S k52 52 w' w.heap.size (fun _ => True) (.slice Ao12 t299.length co12) t299) ∧ Aside0 (Kd.R (Kd.int .i64) 3 w' w.heap.size (fun _ => True) (.slice Ao15 t302.length co15) t302) ∧ Aside0 (Kd.R Kd.bool 4 w' w.heap.size (fun k_ => some k_ ≠ (v310 : Value).ownBlock) v307 x5_1) ∧ Aside0 (Kd.R Kd.bool 4 w' w.heap.size (fun k_ => some k_ ≠ (v307 : Value).ownBlock) v310 x6_1) ∧ Aside0 (Below w.heap.size w w'))
   case atStart => exact ⟨(y306), (y309), (0), (by first | rfl | (simp; done) | (simp [*]; done)), H', ⟨Nat.le_refl _⟩, ⟨by (with_reducible repeat (first | apply Kd.qx0 | apply Kd.qw0 | apply Kd.qd1)); exact HO301.out⟩, ⟨by (with_reducible repeat (first | apply Kd.qo0 | apply Kd.qn0 | apply Kd.qt0)); exact HO304.out⟩, ⟨by (with_reducible repeat (first | apply Kd.qo0 | apply Kd.qn0 | apply Kd.qt0)); exact Kd.R_mono HO308.out (fun _ hk => hk.2)⟩, ⟨by (with_reducible repeat (first | apply Kd.qo0 | apply Kd.qn0 | apply Kd.qt0)); exact Kd.R_mono HO311.out (fun _ hk => hk.2)⟩, ⟨by repeat (first | (with_reducible first | exact HB.out | apply qc0 | apply qa0 | apply qd0) | exact HB.out)⟩⟩
   case round =>
    clear H'
    try clear c1
    try clear p2
    try clear c3
    try clear c6
    try clear c7
    try clear c8
    try clear c8b0
    try clear c8b1
    try clear c8b2
    try clear c9
    try clear c9b0
    try clear c9b1
    try clear c10
    try clear c10b0
    try clear c10b1
    obtain ⟨x5_1, x6_1, x7_1, rfl, HA, HK1, HO_3, HO_4, HO_5, HO_6, HB⟩ := hrel
    cases gk with
    | zero => exact absurd HA.out (by simp [laws_FnLevelled.l0])
    | succ k1 =>
     have H := HA.out
     clear HA
     simp only [laws_FnLevelled.l0] at H
     by_cases c20 : x7_1 < (t299.length : Int)
     ·rw [if_pos c20] at H
      have c20b0 : decide (x7_1 < (t299.length : Int)) = true := decide_eq_true c20
      clear c20
      have H' := Aside0.mk H
      clear H
      go_wp2
      repeat (go_quiet (fail); try go_wp2)
      go_loopg [8] k1 (fun kq v8 w' => ∃ (x5_2 : List Bool) (x6_2 : List Bool) (x8_2 : Int), v8 = .int .i64 x8_2 ∧ Aside0 (laws_FnLevelled.l1 kq t299 t302 x5_2 x6_2 x7_1 x8_2 = some r) ∧ Aside0 (kq ≤ k1) ∧ Aside0 (Kd.S k52 52 w' w.heap.size (fun _ => True) (.slice Ao12 t299.length co12) t299) ∧ Aside0 (Kd.R (Kd.int .i64) 3 w' w.heap.size (fun _ => True) (.slice Ao15 t302.length co15) t302) ∧ Aside0 (Kd.R Kd.bool 4 w' w.heap.size (fun k_ => some k_ ≠ (v310 : Value).ownBlock) v307 x5_2) ∧ Aside0 (Kd.R Kd.bool 4 w' w.heap.size (fun k_ => some k_ ≠ (v307 : Value).ownBlock) v310 x6_2) ∧ Aside0 (Below w.heap.size w w'))
      case atStart => exact ⟨(x5_1), (x6_1), (0), (by first | rfl | (simp; done) | (simp [*]; done)), H', ⟨Nat.le_refl _⟩, ⟨by (with_reducible repeat (first | apply Kd.qx0 | apply Kd.qw0 | apply Kd.qd1)); exact HO_3.out⟩, ⟨by (with_reducible repeat (first | apply Kd.qo0 | apply Kd.qn0 | apply Kd.qt0)); exact HO_4.out⟩, ⟨by (with_reducible repeat (first | apply Kd.qo0 | apply Kd.qn0 | apply Kd.qt0)); exact HO_5.out⟩, ⟨by (with_reducible repeat (first | apply Kd.qo0 | apply Kd.qn0 | apply Kd.qt0)); exact HO_6.out⟩, ⟨by repeat (first | (with_reducible first | exact HB.out | apply qc0 | apply qa0 | apply qd0) | exact HB.out)⟩⟩
      case round =>
       clear H'
       try clear c1
       try clear c2
       try clear p2
       try clear c3
       try clear c6
       try clear c7
       try clear c8
       try clear c8b0
       try clear c8b1
       try clear c8b2
       try clear c9
       try clear c9b0
       try clear c9b1
       try clear c10
       try clear c10b0
       try clear c10b1
       try clear c20
       try clear c20b0
       try clear p2
       obtain ⟨x5_2, x6_2, x8_2, rfl, HA, HK2, HO_3, HO_4, HO_5, HO_6, HB⟩ := hrel
       cases gk with
       | zero => exact absurd HA.out (by simp [laws_FnLevelled.l1])
       | succ k2 =>
        have H := HA.out
        clear HA
        simp only [laws_FnLevelled.l1] at H
        by_cases c21 : 0 ≤ x7_1
        case neg => rw [if_neg c21] at H; exact absurd H (by simp)
        rw [if_pos c21] at H
        have c21b0 : decide (0 ≤ x7_1) = true := decide_eq_true c21
        clear c21
        by_cases c22 : x7_1 < (t299.length : Int)
        case neg => rw [if_neg c22] at H; exact absurd H (by simp)
        rw [if_pos c22] at H
        have c22b0 : decide (x7_1 < (t299.length : Int)) = true := decide_eq_true c22
        clear c22
        by_cases c23 : x8_2 < (((rd_T52 t299 x7_1).f3).length : Int)
        ·rw [if_pos c23] at H
         have c23b0 : decide (x8_2 < (((rd_T52 t299 x7_1).f3).length : Int)) = true := decide_eq_true c23
         clear c23
         by_cases c24 : 0 ≤ x8_2
         case neg => rw [if_neg c24] at H; exact absurd H (by simp)
         rw [if_pos c24] at H
         have c24b0 : decide (0 ≤ x8_2) = true := decide_eq_true c24
         clear c24
         by_cases c25 : 0 ≤ ((rd_T54 ((rd_T52 t299 x7_1).f3) x8_2).f0)
         case neg => rw [if_neg c25] at H; exact absurd H (by simp)
         rw [if_pos c25] at H
         have c25b0 : decide (0 ≤ ((rd_T54 ((rd_T52 t299 x7_1).f3) x8_2).f0)) = true := decide_eq_true c25
         clear c25
         by_cases c26 : ((rd_T54 ((rd_T52 t299 x7_1).f3) x8_2).f0) < (x6_2.length : Int)
         case neg => rw [if_neg c26] at H; exact absurd H (by simp)
         rw [if_pos c26] at H
         have c26b0 : decide (((rd_T54 ((rd_T52 t299 x7_1).f3) x8_2).f0) < (x6_2.length : Int)) = true := decide_eq_true c26
         clear c26
         obtain ⟨y315, hy315⟩ : ∃ y_ : List Bool, y_ = (x6_2.set (((rd_T54 ((rd_T52 t299 x7_1).f3) x8_2).f0) : Int).toNat true) := ⟨_, rfl⟩
         replace H : (if ((rd_T54 ((rd_T52 t299 x7_1).f3) x8_2).f0) < (t302.length : Int) then (if x7_1 < (t302.length : Int) then (if (rd t302 ((rd_T54 ((rd_T52 t299 x7_1).f3) x8_2).f0)) < (wrap64 ((rd t302 x7_1) + 1)) then (some false) else (if (rd t302 ((rd_T54 ((rd_T52 t299 x7_1).f3) x8_2).f0)) = (wrap64 ((rd t302 x7_1) + 1)) then (if ((rd_T54 ((rd_T52 t299 x7_1).f3) x8_2).f0) < (x5_2.length : Int) then (laws_FnLevelled.l1 k2 t299 t302 (x5_2.set (((rd_T54 ((rd_T52 t299 x7_1).f3) x8_2).f0) : Int).toNat true) y315 x7_1 (wrap64 (x8_2 + 1))) else (none)) else (laws_FnLevelled.l1 k2 t299 t302 x5_2 y315 x7_1 (wrap64 (x8_2 + 1))))) else (none)) else (none)) = some r := by first | (rw [hy315]; with_reducible exact H) | (have H2_ := (Option.bind_some _ _).symm.trans H; rw [hy315]; with_reducible exact H2_) | (have H2_ := (Option.bind_some _ _).symm.trans H; with_reducible exact H2_) | with_reducible exact H | (rw [hy315]; exact H) | exact H
         have Ny315 := Aside0.mk hy315
         clear hy315
         by_cases c28 : ((rd_T54 ((rd_T52 t299 x7_1).f3) x8_2).f0) < (t302.length : Int)
         case neg => rw [if_neg c28] at H; exact absurd H (by simp)
         rw [if_pos c28] at H
         have c28b0 : decide (((rd_T54 ((rd_T52 t299 x7_1).f3) x8_2).f0) < (t302.length : Int)) = true := decide_eq_true c28
         clear c28
         by_cases c29 : x7_1 < (t302.length : Int)
         case neg => rw [if_neg c29] at H; exact absurd H (by simp)
         rw [if_pos c29] at H
         have c29b0 : decide (x7_1 < (t302.length : Int)) = true := decide_eq_true c29
         clear c29
         by_cases c30 : (rd t302 ((rd_T54 ((rd_T52 t299 x7_1).f3) x8_2).f0)) < (wrap64 ((rd t302 x7_1) + 1))
         ·rw [if_pos c30] at H
          have c30b0 : decide ((rd t302 ((rd_T54 ((rd_T52 t299 x7_1).f3) x8_2).f0)) < (wrap64 ((rd t302 x7_1) + 1))) = true := decide_eq_true c30
          clear c30
          obtain rfl := Option.some.inj H
          have p312 : 0 ≤ (x7_1 : Int) := of_decide_eq_true (by first | (with_reducible assumption) | assumption)
          have q312 : x7_1 < (t299.length : Int) := of_decide_eq_true (by first | (with_reducible assumption) | assumption)
          obtain ⟨ad312, A312_3, c312_3, A312_4, c312_4, e312, hx312_0, hx312_1, hx312_2, hx312_3, hx312_4, hl312_3, hi312_3, hl312_4, hi312_4⟩ := at_T52 (Kd.qa1 HO_3.out).2.2 x7_1 p312 q312
          cases e312
          obtain ⟨ce312, hce312, hMe312, hcc312⟩ := Kd.S_get HO_3.out z52 x7_1 p312 (by first | exact q312 | exact of_decide_eq_true (by first | (with_reducible assumption) | assumption) | (have e_ := (Kd.qa1 HO_3.out).1; omega))
          obtain ⟨ve312_3, ve312_4, rfl, ge312_3, ge312_4⟩ := k52_openM hMe312
          have hv312_3 := hcc312 3 _ rfl
          rw [qp1 _ _ 3 (by omega)] at hv312_3
          replace hv312_3 := Option.some.inj (hv312_3.symm.trans hx312_3)
          rw [hv312_3] at ge312_3
          have HL312_3 := Aside0.mk (show Kd.R k54 54 _ _ _ _ ((rd_T52 t299 x7_1).f3) from ge312_3)
          clear hv312_3 ge312_3
          have hv312_4 := hcc312 4 _ rfl
          rw [qp1 _ _ 4 (by omega)] at hv312_4
          replace hv312_4 := Option.some.inj (hv312_4.symm.trans hx312_4)
          rw [hv312_4] at ge312_4
          have HL312_4 := Aside0.mk (show Kd.R k54 54 _ _ _ _ ((rd_T52 t299 x7_1).f4) from ge312_4)
          clear hv312_4 ge312_4
          clear hcc312 hce312
          have HR312_3 := Aside0.mk hi312_3
          have HC312_3 := Aside0.mk hl312_3
          clear hi312_3 hl312_3
          have HR312_4 := Aside0.mk hi312_4
          have HC312_4 := Aside0.mk hl312_4
          clear hi312_4 hl312_4
          replace p312 := eq_true p312
          replace q312 := eq_true q312
          have p313 : 0 ≤ (x7_1 : Int) := of_decide_eq_true (by first | (with_reducible assumption) | assumption)
          have q313 : x7_1 < (t299.length : Int) := of_decide_eq_true (by first | (with_reducible assumption) | assumption)
          obtain ⟨ad313, A313_3, c313_3, A313_4, c313_4, e313, hx313_0, hx313_1, hx313_2, hx313_3, hx313_4, hl313_3, hi313_3, hl313_4, hi313_4⟩ := at_T52 (Kd.qa1 HO_3.out).2.2 x7_1 p313 q313
          obtain rfl : ad312 = ad313 := (by injection e313)
          obtain ⟨ce313, hce313, hMe313, hcc313⟩ := Kd.S_get HO_3.out z52 x7_1 p313 (by first | exact q313 | exact of_decide_eq_true (by first | (with_reducible assumption) | assumption) | (have e_ := (Kd.qa1 HO_3.out).1; omega))
          obtain ⟨ve313_3, ve313_4, rfl, ge313_3, ge313_4⟩ := k52_openM hMe313
          have hv313_3 := hcc313 3 _ rfl
          rw [qp1 _ _ 3 (by omega)] at hv313_3
          replace hv313_3 := Option.some.inj (hv313_3.symm.trans hx313_3)
          rw [hv313_3] at ge313_3
          have HL313_3 := Aside0.mk (show Kd.R k54 54 _ _ _ _ ((rd_T52 t299 x7_1).f3) from ge313_3)
          clear hv313_3 ge313_3
          have hv313_4 := hcc313 4 _ rfl
          rw [qp1 _ _ 4 (by omega)] at hv313_4
          replace hv313_4 := Option.some.inj (hv313_4.symm.trans hx313_4)
          rw [hv313_4] at ge313_4
          have HL313_4 := Aside0.mk (show Kd.R k54 54 _ _ _ _ ((rd_T52 t299 x7_1).f4) from ge313_4)
          clear hv313_4 ge313_4
          clear hcc313 hce313
          have HR313_3 := Aside0.mk hi313_3
          have HC313_3 := Aside0.mk hl313_3
          clear hi313_3 hl313_3
          have HR313_4 := Aside0.mk hi313_4
          have HC313_4 := Aside0.mk hl313_4
          clear hi313_4 hl313_4
          replace p313 := eq_true p313
          replace q313 := eq_true q313
          have ea_ := Option.some.inj (hx312_3.symm.trans hx313_3)
          injection ea_ with ea_ en_ ec_
          subst ea_
          subst ec_
          clear en_
          have ea_ := Option.some.inj (hx312_4.symm.trans hx313_4)
          injection ea_ with ea_ en_ ec_
          subst ea_
          subst ec_
          clear en_
          have p314 : 0 ≤ (x8_2 : Int) := of_decide_eq_true (by first | (with_reducible assumption) | assumption)
          have q314 : x8_2 < (((rd_T52 t299 x7_1).f3).length : Int) := of_decide_eq_true (by first | (with_reducible assumption) | assumption)
          obtain ⟨ad314, e314, hx314_0, hx314_1, hx314_2, hx314_3, hx314_4, hx314_5⟩ := at_T54 (by repeat (first | (with_reducible exact HR313_3.out) | (with_reducible refine Kd.qj1 ?_ _) | (with_reducible refine Kd.qi1 ?_ _) | (with_reducible refine Kd.qn1 ?_) | exact HR313_3.out)) x8_2 p314 q314
          cases e314
          replace p314 := eq_true p314
          replace q314 := eq_true q314
          have p27 : 0 ≤ (((rd_T54 ((rd_T52 t299 x7_1).f3) x8_2).f0) : Int) := of_decide_eq_true (by first | (with_reducible assumption) | assumption)
          have q27 : (((rd_T54 ((rd_T52 t299 x7_1).f3) x8_2).f0) : Int) < ((x6_2.length : Int) : Int) := of_decide_eq_true (by first | (with_reducible assumption) | assumption)
          obtain ⟨go27, co27, eo27, gb27, gl27, cl27, HG27⟩ := Kd.R_form HO_6.out (by omega)
          (first | cases eo27 | (injection eo27 with ea_ en_ ec_; (first | subst ea_ | (injection ea_ with ea_; subst ea_)); subst ec_; clear en_))
          have GB27 := Aside0.mk gb27
          have GG27 := Aside0.mk HG27
          clear gb27 gl27 HG27
          obtain ⟨hx27_0, hf27_0⟩ := Kd.qv1 false HO_6.out (((rd_T54 ((rd_T52 t299 x7_1).f3) x8_2).f0) : Int) p27 q27
          replace p27 := eq_true p27
          replace q27 := eq_true q27
          have HP31 := Kd.R_putg HO_6.out (((rd_T54 ((rd_T52 t299 x7_1).f3) x8_2).f0) : Int) true
          go_wp2_with (first | ((with_reducible refine gate_store (t := 4) (p := 61) rfl ?_); (try (rw [drewN_self wr]; generalize hq_ : World.drewN wr _ = wr; have n0_ := Aside0.mk (Kd.S_at hq_ HO_3.out); have n1_ := Aside0.mk (Kd.R_at hq_ HO_4.out); have n2_ := Aside0.mk (Kd.R_at hq_ HO_5.out); have n3_ := Aside0.mk (Kd.R_at hq_ HO_6.out); have n4_ := Aside0.mk (Kd.R_at hq_ HL312_3.out); have n5_ := Aside0.mk (Kd.R_at hq_ HL312_4.out); have n6_ := Aside0.mk (Kd.R_at hq_ HL313_3.out); have n7_ := Aside0.mk (Kd.R_at hq_ HL313_4.out); have n8_ := Aside0.mk (below_at hq_ HB.out); clear hq_ HO_3 HO_4 HO_5 HO_6 HL312_3 HL312_4 HL313_3 HL313_4 HB; have HO_3 := n0_; have HO_4 := n1_; have HO_5 := n2_; have HO_6 := n3_; have HL312_3 := n4_; have HL312_4 := n5_; have HL313_3 := n6_; have HL313_4 := n7_; have HB := n8_; clear n0_ n1_ n2_ n3_ n4_ n5_ n6_ n7_ n8_; (try (have HP31 := Kd.R_putg HO_6.out (((rd_T54 ((rd_T52 t299 x7_1).f3) x8_2).f0) : Int) true)); (try (obtain ⟨hx27_0, hf27_0⟩ := Kd.qv1 false HO_6.out (((rd_T54 ((rd_T52 t299 x7_1).f3) x8_2).f0) : Int) (of_eq_true p27) (of_eq_true q27))))); refine store_event (t := 4) (p := 61) (v := ?vo_w32) (w1 := (wr.setCell ⟨go27, (((rd_T54 ((rd_T52 t299 x7_1).f3) x8_2).f0) : Int).toNat, none⟩ (.bool true))) ?hg ?ho ?hn ?hr ?_; (case ho => rfl); (case hg => rfl); (case hn => rfl); (case hr => first | (go_simp; done) | (go_simp; rfl)); intro w32 hw; have hg : wr.grownBy w32 (some go27) := (by rw [hw]; exact HP31.2); have hp_ : Kd.R Kd.bool 4 w32 w.heap.size (fun k_ => some k_ ≠ (v307 : Value).ownBlock) (.slice (some ⟨go27, 0, none⟩) x6_2.length co27) y315 := (by rw [hw, Ny315.out]; exact HP31.1); clear HP31; have n0_ := Aside0.mk (Kd.S_over' (v := (.slice (some ⟨go27, 0, none⟩) x6_2.length co27)) (by (with_reducible repeat (first | apply Kd.qx0 | apply Kd.qw0 | apply Kd.qd1)); exact HO_3.out) (Kd.qy0 HO_6.out) (by decide) hg); have n1_ := Aside0.mk (Kd.qb1 (v := (.slice (some ⟨go27, 0, none⟩) x6_2.length co27)) (by (with_reducible repeat (first | apply Kd.qo0 | apply Kd.qn0 | apply Kd.qt0)); exact HO_4.out) (Kd.qy0 HO_6.out) (by decide) hg); have n2_ := Aside0.mk (Kd.R_after (v := (.slice (some ⟨go27, 0, none⟩) x6_2.length co27)) (v1 := (.slice (some ⟨go27, 0, none⟩) x6_2.length co27)) (ok := (fun _ => True)) (by (with_reducible repeat (first | apply Kd.qo0 | apply Kd.qn0 | apply Kd.qt0)); exact Kd.R_mono HO_5.out (fun _ hk => ⟨trivial, hk⟩)) hg (.inl rfl)); have n3_ := Aside0.mk (hp_); have n4_ := Aside0.mk (Kd.qb1 (v := (.slice (some ⟨go27, 0, none⟩) x6_2.length co27)) (by (with_reducible repeat (first | apply Kd.qo0 | apply Kd.qn0 | apply Kd.qt0)); exact HL312_3.out) (Kd.qy0 HO_6.out) (by decide) hg); have n5_ := Aside0.mk (Kd.qb1 (v := (.slice (some ⟨go27, 0, none⟩) x6_2.length co27)) (by (with_reducible repeat (first | apply Kd.qo0 | apply Kd.qn0 | apply Kd.qt0)); exact HL312_4.out) (Kd.qy0 HO_6.out) (by decide) hg); have n6_ := Aside0.mk (Kd.qb1 (v := (.slice (some ⟨go27, 0, none⟩) x6_2.length co27)) (by (with_reducible repeat (first | apply Kd.qo0 | apply Kd.qn0 | apply Kd.qt0)); exact HL313_3.out) (Kd.qy0 HO_6.out) (by decide) hg); have n7_ := Aside0.mk (Kd.qb1 (v := (.slice (some ⟨go27, 0, none⟩) x6_2.length co27)) (by (with_reducible repeat (first | apply Kd.qo0 | apply Kd.qn0 | apply Kd.qt0)); exact HL313_4.out) (Kd.qy0 HO_6.out) (by decide) hg); have n8_ := Aside0.mk ((by rw [hw]; exact qi0 (HB.out) GB27.out : Below w.heap.size w w32)); clear HO_3; clear HO_4; clear HO_5; clear HO_6; clear HL312_3; clear HL312_4; clear HL313_3; clear HL313_4; clear HB; have HO_3 := n0_; have HO_4 := n1_; have HO_5 := n2_; have HO_6 := n3_; have HL312_3 := n4_; have HL312_4 := n5_; have HL313_3 := n6_; have HL313_4 := n7_; have HB := n8_; clear n0_ n1_ n2_ n3_ n4_ n5_ n6_ n7_ n8_; clear hg hw hp_; have p316 : 0 ≤ (((rd_T54 ((rd_T52 t299 x7_1).f3) x8_2).f0) : Int) := of_decide_eq_true (by first | (with_reducible assumption) | assumption); have q316 : ((rd_T54 ((rd_T52 t299 x7_1).f3) x8_2).f0) < (t302.length : Int) := of_decide_eq_true (by first | (with_reducible assumption) | assumption); obtain ⟨ad316, e316, hx316_0⟩ := Kd.qq1 (Kd.qv0 HO_4.out).2.2 ((rd_T54 ((rd_T52 t299 x7_1).f3) x8_2).f0) p316 q316; cases e316; replace p316 := eq_true p316; replace q316 := eq_true q316; have p317 : 0 ≤ (x7_1 : Int) := of_decide_eq_true (by first | (with_reducible assumption) | assumption); have q317 : x7_1 < (t302.length : Int) := of_decide_eq_true (by first | (with_reducible assumption) | assumption); obtain ⟨ad317, e317, hx317_0⟩ := Kd.qq1 (Kd.qv0 HO_4.out).2.2 x7_1 p317 q317; obtain rfl : ad316 = ad317 := (by injection e317); replace p317 := eq_true p317; replace q317 := eq_true q317))
          repeat (go_quiet (first | ((with_reducible refine gate_store (t := 4) (p := 61) rfl ?_); (try (rw [drewN_self wr]; generalize hq_ : World.drewN wr _ = wr; have n0_ := Aside0.mk (Kd.S_at hq_ HO_3.out); have n1_ := Aside0.mk (Kd.R_at hq_ HO_4.out); have n2_ := Aside0.mk (Kd.R_at hq_ HO_5.out); have n3_ := Aside0.mk (Kd.R_at hq_ HO_6.out); have n4_ := Aside0.mk (Kd.R_at hq_ HL312_3.out); have n5_ := Aside0.mk (Kd.R_at hq_ HL312_4.out); have n6_ := Aside0.mk (Kd.R_at hq_ HL313_3.out); have n7_ := Aside0.mk (Kd.R_at hq_ HL313_4.out); have n8_ := Aside0.mk (below_at hq_ HB.out); clear hq_ HO_3 HO_4 HO_5 HO_6 HL312_3 HL312_4 HL313_3 HL313_4 HB; have HO_3 := n0_; have HO_4 := n1_; have HO_5 := n2_; have HO_6 := n3_; have HL312_3 := n4_; have HL312_4 := n5_; have HL313_3 := n6_; have HL313_4 := n7_; have HB := n8_; clear n0_ n1_ n2_ n3_ n4_ n5_ n6_ n7_ n8_; (try (have HP31 := Kd.R_putg HO_6.out (((rd_T54 ((rd_T52 t299 x7_1).f3) x8_2).f0) : Int) true)); (try (obtain ⟨hx27_0, hf27_0⟩ := Kd.qv1 false HO_6.out (((rd_T54 ((rd_T52 t299 x7_1).f3) x8_2).f0) : Int) (of_eq_true p27) (of_eq_true q27))))); refine store_event (t := 4) (p := 61) (v := ?vo_w32) (w1 := (wr.setCell ⟨go27, (((rd_T54 ((rd_T52 t299 x7_1).f3) x8_2).f0) : Int).toNat, none⟩ (.bool true))) ?hg ?ho ?hn ?hr ?_; (case ho => rfl); (case hg => rfl); (case hn => rfl); (case hr => first | (go_simp; done) | (go_simp; rfl)); intro w32 hw; have hg : wr.grownBy w32 (some go27) := (by rw [hw]; exact HP31.2); have hp_ : Kd.R Kd.bool 4 w32 w.heap.size (fun k_ => some k_ ≠ (v307 : Value).ownBlock) (.slice (some ⟨go27, 0, none⟩) x6_2.length co27) y315 := (by rw [hw, Ny315.out]; exact HP31.1); clear HP31; have n0_ := Aside0.mk (Kd.S_over' (v := (.slice (some ⟨go27, 0, none⟩) x6_2.length co27)) (by (with_reducible repeat (first | apply Kd.qx0 | apply Kd.qw0 | apply Kd.qd1)); exact HO_3.out) (Kd.qy0 HO_6.out) (by decide) hg); have n1_ := Aside0.mk (Kd.qb1 (v := (.slice (some ⟨go27, 0, none⟩) x6_2.length co27)) (by (with_reducible repeat (first | apply Kd.qo0 | apply Kd.qn0 | apply Kd.qt0)); exact HO_4.out) (Kd.qy0 HO_6.out) (by decide) hg); have n2_ := Aside0.mk (Kd.R_after (v := (.slice (some ⟨go27, 0, none⟩) x6_2.length co27)) (v1 := (.slice (some ⟨go27, 0, none⟩) x6_2.length co27)) (ok := (fun _ => True)) (by (with_reducible repeat (first | apply Kd.qo0 | apply Kd.qn0 | apply Kd.qt0)); exact Kd.R_mono HO_5.out (fun _ hk => ⟨trivial, hk⟩)) hg (.inl rfl)); have n3_ := Aside0.mk (hp_); have n4_ := Aside0.mk (Kd.qb1 (v := (.slice (some ⟨go27, 0, none⟩) x6_2.length co27)) (by (with_reducible repeat (first | apply Kd.qo0 | apply Kd.qn0 | apply Kd.qt0)); exact HL312_3.out) (Kd.qy0 HO_6.out) (by decide) hg); have n5_ := Aside0.mk (Kd.qb1 (v := (.slice (some ⟨go27, 0, none⟩) x6_2.length co27)) (by (with_reducible repeat (first | apply Kd.qo0 | apply Kd.qn0 | apply Kd.qt0)); exact HL312_4.out) (Kd.qy0 HO_6.out) (by decide) hg); have n6_ := Aside0.mk (Kd.qb1 (v := (.slice (some ⟨go27, 0, none⟩) x6_2.length co27)) (by (with_reducible repeat (first | apply Kd.qo0 | apply Kd.qn0 | apply Kd.qt0)); exact HL313_3.out) (Kd.qy0 HO_6.out) (by decide) hg); have n7_ := Aside0.mk (Kd.qb1 (v := (.slice (some ⟨go27, 0, none⟩) x6_2.length co27)) (by (with_reducible repeat (first | apply Kd.qo0 | apply Kd.qn0 | apply Kd.qt0)); exact HL313_4.out) (Kd.qy0 HO_6.out) (by decide) hg); have n8_ := Aside0.mk ((by rw [hw]; exact qi0 (HB.out) GB27.out : Below w.heap.size w w32)); clear HO_3; clear HO_4; clear HO_5; clear HO_6; clear HL312_3; clear HL312_4; clear HL313_3; clear HL313_4; clear HB; have HO_3 := n0_; have HO_4 := n1_; have HO_5 := n2_; have HO_6 := n3_; have HL312_3 := n4_; have HL312_4 := n5_; have HL313_3 := n6_; have HL313_4 := n7_; have HB := n8_; clear n0_ n1_ n2_ n3_ n4_ n5_ n6_ n7_ n8_; clear hg hw hp_; have p316 : 0 ≤ (((rd_T54 ((rd_T52 t299 x7_1).f3) x8_2).f0) : Int) := of_decide_eq_true (by first | (with_reducible assumption) | assumption); have q316 : ((rd_T54 ((rd_T52 t299 x7_1).f3) x8_2).f0) < (t302.length : Int) := of_decide_eq_true (by first | (with_reducible assumption) | assumption); obtain ⟨ad316, e316, hx316_0⟩ := Kd.qq1 (Kd.qv0 HO_4.out).2.2 ((rd_T54 ((rd_T52 t299 x7_1).f3) x8_2).f0) p316 q316; cases e316; replace p316 := eq_true p316; replace q316 := eq_true q316; have p317 : 0 ≤ (x7_1 : Int) := of_decide_eq_true (by first | (with_reducible assumption) | assumption); have q317 : x7_1 < (t302.length : Int) := of_decide_eq_true (by first | (with_reducible assumption) | assumption); obtain ⟨ad317, e317, hx317_0⟩ := Kd.qq1 (Kd.qv0 HO_4.out).2.2 x7_1 p317 q317; obtain rfl : ad316 = ad317 := (by injection e317); replace p317 := eq_true p317; replace q317 := eq_true q317)); try go_wp2_with (first | ((with_reducible refine gate_store (t := 4) (p := 61) rfl ?_); (try (rw [drewN_self wr]; generalize hq_ : World.drewN wr _ = wr; have n0_ := Aside0.mk (Kd.S_at hq_ HO_3.out); have n1_ := Aside0.mk (Kd.R_at hq_ HO_4.out); have n2_ := Aside0.mk (Kd.R_at hq_ HO_5.out); have n3_ := Aside0.mk (Kd.R_at hq_ HO_6.out); have n4_ := Aside0.mk (Kd.R_at hq_ HL312_3.out); have n5_ := Aside0.mk (Kd.R_at hq_ HL312_4.out); have n6_ := Aside0.mk (Kd.R_at hq_ HL313_3.out); have n7_ := Aside0.mk (Kd.R_at hq_ HL313_4.out); have n8_ := Aside0.mk (below_at hq_ HB.out); clear hq_ HO_3 HO_4 HO_5 HO_6 HL312_3 HL312_4 HL313_3 HL313_4 HB; have HO_3 := n0_; have HO_4 := n1_; have HO_5 := n2_; have HO_6 := n3_; have HL312_3 := n4_; have HL312_4 := n5_; have HL313_3 := n6_; have HL313_4 := n7_; have HB := n8_; clear n0_ n1_ n2_ n3_ n4_ n5_ n6_ n7_ n8_; (try (have HP31 := Kd.R_putg HO_6.out (((rd_T54 ((rd_T52 t299 x7_1).f3) x8_2).f0) : Int) true)); (try (obtain ⟨hx27_0, hf27_0⟩ := Kd.qv1 false HO_6.out (((rd_T54 ((rd_T52 t299 x7_1).f3) x8_2).f0) : Int) (of_eq_true p27) (of_eq_true q27))))); refine store_event (t := 4) (p := 61) (v := ?vo_w32) (w1 := (wr.setCell ⟨go27, (((rd_T54 ((rd_T52 t299 x7_1).f3) x8_2).f0) : Int).toNat, none⟩ (.bool true))) ?hg ?ho ?hn ?hr ?_; (case ho => rfl); (case hg => rfl); (case hn => rfl); (case hr => first | (go_simp; done) | (go_simp; rfl)); intro w32 hw; have hg : wr.grownBy w32 (some go27) := (by rw [hw]; exact HP31.2); have hp_ : Kd.R Kd.bool 4 w32 w.heap.size (fun k_ => some k_ ≠ (v307 : Value).ownBlock) (.slice (some ⟨go27, 0, none⟩) x6_2.length co27) y315 := (by rw [hw, Ny315.out]; exact HP31.1); clear HP31; have n0_ := Aside0.mk (Kd.S_over' (v := (.slice (some ⟨go27, 0, none⟩) x6_2.length co27)) (by (with_reducible repeat (first | apply Kd.qx0 | apply Kd.qw0 | apply Kd.qd1)); exact HO_3.out) (Kd.qy0 HO_6.out) (by decide) hg); have n1_ := Aside0.mk (Kd.qb1 (v := (.slice (some ⟨go27, 0, none⟩) x6_2.length co27)) (by (with_reducible repeat (first | apply Kd.qo0 | apply Kd.qn0 | apply Kd.qt0)); exact HO_4.out) (Kd.qy0 HO_6.out) (by decide) hg); have n2_ := Aside0.mk (Kd.R_after (v := (.slice (some ⟨go27, 0, none⟩) x6_2.length co27)) (v1 := (.slice (some ⟨go27, 0, none⟩) x6_2.length co27)) (ok := (fun _ => True)) (by (with_reducible repeat (first | apply Kd.qo0 | apply Kd.qn0 | apply Kd.qt0)); exact Kd.R_mono HO_5.out (fun _ hk => ⟨trivial, hk⟩)) hg (.inl rfl)); have n3_ := Aside0.mk (hp_); have n4_ := Aside0.mk (Kd.qb1 (v := (.slice (some ⟨go27, 0, none⟩) x6_2.length co27)) (by (with_reducible repeat (first | apply Kd.qo0 | apply Kd.qn0 | apply Kd.qt0)); exact HL312_3.out) (Kd.qy0 HO_6.out) (by decide) hg); have n5_ := Aside0.mk (Kd.qb1 (v := (.slice (some ⟨go27, 0, none⟩) x6_2.length co27)) (by (with_reducible repeat (first | apply Kd.qo0 | apply Kd.qn0 | apply Kd.qt0)); exact HL312_4.out) (Kd.qy0 HO_6.out) (by decide) hg); have n6_ := Aside0.mk (Kd.qb1 (v := (.slice (some ⟨go27, 0, none⟩) x6_2.length co27)) (by (with_reducible repeat (first | apply Kd.qo0 | apply Kd.qn0 | apply Kd.qt0)); exact HL313_3.out) (Kd.qy0 HO_6.out) (by decide) hg); have n7_ := Aside0.mk (Kd.qb1 (v := (.slice (some ⟨go27, 0, none⟩) x6_2.length co27)) (by (with_reducible repeat (first | apply Kd.qo0 | apply Kd.qn0 | apply Kd.qt0)); exact HL313_4.out) (Kd.qy0 HO_6.out) (by decide) hg); have n8_ := Aside0.mk ((by rw [hw]; exact qi0 (HB.out) GB27.out : Below w.heap.size w w32)); clear HO_3; clear HO_4; clear HO_5; clear HO_6; clear HL312_3; clear HL312_4; clear HL313_3; clear HL313_4; clear HB; have HO_3 := n0_; have HO_4 := n1_; have HO_5 := n2_; have HO_6 := n3_; have HL312_3 := n4_; have HL312_4 := n5_; have HL313_3 := n6_; have HL313_4 := n7_; have HB := n8_; clear n0_ n1_ n2_ n3_ n4_ n5_ n6_ n7_ n8_; clear hg hw hp_; have p316 : 0 ≤ (((rd_T54 ((rd_T52 t299 x7_1).f3) x8_2).f0) : Int) := of_decide_eq_true (by first | (with_reducible assumption) | assumption); have q316 : ((rd_T54 ((rd_T52 t299 x7_1).f3) x8_2).f0) < (t302.length : Int) := of_decide_eq_true (by first | (with_reducible assumption) | assumption); obtain ⟨ad316, e316, hx316_0⟩ := Kd.qq1 (Kd.qv0 HO_4.out).2.2 ((rd_T54 ((rd_T52 t299 x7_1).f3) x8_2).f0) p316 q316; cases e316; replace p316 := eq_true p316; replace q316 := eq_true q316; have p317 : 0 ≤ (x7_1 : Int) := of_decide_eq_true (by first | (with_reducible assumption) | assumption); have q317 : x7_1 < (t302.length : Int) := of_decide_eq_true (by first | (with_reducible assumption) | assumption); obtain ⟨ad317, e317, hx317_0⟩ := Kd.qq1 (Kd.qv0 HO_4.out).2.2 x7_1 p317 q317; obtain rfl : ad316 = ad317 := (by injection e317); replace p317 := eq_true p317; replace q317 := eq_true q317)))
          go_ret
          exact ⟨by first | rfl | (simp [errW_none, errW_some] <;> rfl) | (simp [*, errW_none, errW_some] <;> rfl), by repeat (first | (with_reducible first | exact HB.out | apply qc0 | apply qa0 | apply qd0) | exact HB.out)⟩
         rw [if_neg c30] at H
         have c30b0 : decide ((rd t302 ((rd_T54 ((rd_T52 t299 x7_1).f3) x8_2).f0)) < (wrap64 ((rd t302 x7_1) + 1))) = false := decide_eq_false c30
         clear c30
         by_cases c33 : (rd t302 ((rd_T54 ((rd_T52 t299 x7_1).f3) x8_2).f0)) = (wrap64 ((rd t302 x7_1) + 1))
         ·rw [if_pos c33] at H
          have c33b0 : ((rd t302 ((rd_T54 ((rd_T52 t299 x7_1).f3) x8_2).f0)) == (wrap64 ((rd t302 x7_1) + 1))) = true := beq_iff_eq.mpr c33
          have c33b1 : ((rd t302 ((rd_T54 ((rd_T52 t299 x7_1).f3) x8_2).f0)) != (wrap64 ((rd t302 x7_1) + 1))) = false := bne_eq_false_iff_eq.mpr c33
          clear c33
          by_cases c34 : ((rd_T54 ((rd_T52 t299 x7_1).f3) x8_2).f0) < (x5_2.length : Int)
          case neg => rw [if_neg c34] at H; exact absurd H (by simp)
          rw [if_pos c34] at H
          have c34b0 : decide (((rd_T54 ((rd_T52 t299 x7_1).f3) x8_2).f0) < (x5_2.length : Int)) = true := decide_eq_true c34
          clear c34
          obtain ⟨y320, hy320⟩ : ∃ y_ : List Bool, y_ = (x5_2.set (((rd_T54 ((rd_T52 t299 x7_1).f3) x8_2).f0) : Int).toNat true) := ⟨_, rfl⟩
          replace H : (laws_FnLevelled.l1 k2 t299 t302 y320 y315 x7_1 (wrap64 (x8_2 + 1))) = some r := by first | (rw [hy320]; with_reducible exact H) | (have H2_ := (Option.bind_some _ _).symm.trans H; rw [hy320]; with_reducible exact H2_) | (have H2_ := (Option.bind_some _ _).symm.trans H; with_reducible exact H2_) | with_reducible exact H | (rw [hy320]; exact H) | exact H
          have Ny320 := Aside0.mk hy320
          clear hy320
          have H' := Aside0.mk H
          clear H
          have p312 : 0 ≤ (x7_1 : Int) := of_decide_eq_true (by first | (with_reducible assumption) | assumption)
          have q312 : x7_1 < (t299.length : Int) := of_decide_eq_true (by first | (with_reducible assumption) | assumption)
          obtain ⟨ad312, A312_3, c312_3, A312_4, c312_4, e312, hx312_0, hx312_1, hx312_2, hx312_3, hx312_4, hl312_3, hi312_3, hl312_4, hi312_4⟩ := at_T52 (Kd.qa1 HO_3.out).2.2 x7_1 p312 q312
          cases e312
          obtain ⟨ce312, hce312, hMe312, hcc312⟩ := Kd.S_get HO_3.out z52 x7_1 p312 (by first | exact q312 | exact of_decide_eq_true (by first | (with_reducible assumption) | assumption) | (have e_ := (Kd.qa1 HO_3.out).1; omega))
          obtain ⟨ve312_3, ve312_4, rfl, ge312_3, ge312_4⟩ := k52_openM hMe312
          have hv312_3 := hcc312 3 _ rfl
          rw [qp1 _ _ 3 (by omega)] at hv312_3
          replace hv312_3 := Option.some.inj (hv312_3.symm.trans hx312_3)
          rw [hv312_3] at ge312_3
          have HL312_3 := Aside0.mk (show Kd.R k54 54 _ _ _ _ ((rd_T52 t299 x7_1).f3) from ge312_3)
          clear hv312_3 ge312_3
          have hv312_4 := hcc312 4 _ rfl
          rw [qp1 _ _ 4 (by omega)] at hv312_4
          replace hv312_4 := Option.some.inj (hv312_4.symm.trans hx312_4)
          rw [hv312_4] at ge312_4
          have HL312_4 := Aside0.mk (show Kd.R k54 54 _ _ _ _ ((rd_T52 t299 x7_1).f4) from ge312_4)
          clear hv312_4 ge312_4
          clear hcc312 hce312
          have HR312_3 := Aside0.mk hi312_3
          have HC312_3 := Aside0.mk hl312_3
          clear hi312_3 hl312_3
          have HR312_4 := Aside0.mk hi312_4
          have HC312_4 := Aside0.mk hl312_4
          clear hi312_4 hl312_4
          replace p312 := eq_true p312
          replace q312 := eq_true q312
          have p313 : 0 ≤ (x7_1 : Int) := of_decide_eq_true (by first | (with_reducible assumption) | assumption)
          have q313 : x7_1 < (t299.length : Int) := of_decide_eq_true (by first | (with_reducible assumption) | assumption)
          obtain ⟨ad313, A313_3, c313_3, A313_4, c313_4, e313, hx313_0, hx313_1, hx313_2, hx313_3, hx313_4, hl313_3, hi313_3, hl313_4, hi313_4⟩ := at_T52 (Kd.qa1 HO_3.out).2.2 x7_1 p313 q313
          obtain rfl : ad312 = ad313 := (by injection e313)
          obtain ⟨ce313, hce313, hMe313, hcc313⟩ := Kd.S_get HO_3.out z52 x7_1 p313 (by first | exact q313 | exact of_decide_eq_true (by first | (with_reducible assumption) | assumption) | (have e_ := (Kd.qa1 HO_3.out).1; omega))
          obtain ⟨ve313_3, ve313_4, rfl, ge313_3, ge313_4⟩ := k52_openM hMe313
          have hv313_3 := hcc313 3 _ rfl
          rw [qp1 _ _ 3 (by omega)] at hv313_3
          replace hv313_3 := Option.some.inj (hv313_3.symm.trans hx313_3)
          rw [hv313_3] at ge313_3
          have HL313_3 := Aside0.mk (show Kd.R k54 54 _ _ _ _ ((rd_T52 t299 x7_1).f3) from ge313_3)
          clear hv313_3 ge313_3
          have hv313_4 := hcc313 4 _ rfl
          rw [qp1 _ _ 4 (by omega)] at hv313_4
          replace hv313_4 := Option.some.inj (hv313_4.symm.trans hx313_4)
          rw [hv313_4] at ge313_4
          have HL313_4 := Aside0.mk (show Kd.R k54 54 _ _ _ _ ((rd_T52 t299 x7_1).f4) from ge313_4)
          clear hv313_4 ge313_4
          clear hcc313 hce313
          have HR313_3 := Aside0.mk hi313_3
          have HC313_3 := Aside0.mk hl313_3
          clear hi313_3 hl313_3
          have HR313_4 := Aside0.mk hi313_4
          have HC313_4 := Aside0.mk hl313_4
          clear hi313_4 hl313_4
          replace p313 := eq_true p313
          replace q313 := eq_true q313
          have ea_ := Option.some.inj (hx312_3.symm.trans hx313_3)
          injection ea_ with ea_ en_ ec_
          subst ea_
          subst ec_
          clear en_
          have ea_ := Option.some.inj (hx312_4.symm.trans hx313_4)
          injection ea_ with ea_ en_ ec_
          subst ea_
          subst ec_
          clear en_
          have p314 : 0 ≤ (x8_2 : Int) := of_decide_eq_true (by first | (with_reducible assumption) | assumption)
          have q314 : x8_2 < (((rd_T52 t299 x7_1).f3).length : Int) := of_decide_eq_true (by first | (with_reducible assumption) | assumption)
          obtain ⟨ad314, e314, hx314_0, hx314_1, hx314_2, hx314_3, hx314_4, hx314_5⟩ := at_T54 (by repeat (first | (with_reducible exact HR313_3.out) | (with_reducible refine Kd.qj1 ?_ _) | (with_reducible refine Kd.qi1 ?_ _) | (with_reducible refine Kd.qn1 ?_) | exact HR313_3.out)) x8_2 p314 q314
          cases e314
          replace p314 := eq_true p314
          replace q314 := eq_true q314
          have p27 : 0 ≤ (((rd_T54 ((rd_T52 t299 x7_1).f3) x8_2).f0) : Int) := of_decide_eq_true (by first | (with_reducible assumption) | assumption)
          have q27 : (((rd_T54 ((rd_T52 t299 x7_1).f3) x8_2).f0) : Int) < ((x6_2.length : Int) : Int) := of_decide_eq_true (by first | (with_reducible assumption) | assumption)
          obtain ⟨go27, co27, eo27, gb27, gl27, cl27, HG27⟩ := Kd.R_form HO_6.out (by omega)
          (first | cases eo27 | (injection eo27 with ea_ en_ ec_; (first | subst ea_ | (injection ea_ with ea_; subst ea_)); subst ec_; clear en_))
          have GB27 := Aside0.mk gb27
          have GG27 := Aside0.mk HG27
          clear gb27 gl27 HG27
          obtain ⟨hx27_0, hf27_0⟩ := Kd.qv1 false HO_6.out (((rd_T54 ((rd_T52 t299 x7_1).f3) x8_2).f0) : Int) p27 q27
          replace p27 := eq_true p27
          replace q27 := eq_true q27
          have HP36 := Kd.R_putg HO_6.out (((rd_T54 ((rd_T52 t299 x7_1).f3) x8_2).f0) : Int) true
          go_wp2_with (first | ((with_reducible refine gate_store (t := 4) (p := 61) rfl ?_); (try (rw [drewN_self wr]; generalize hq_ : World.drewN wr _ = wr; have n0_ := Aside0.mk (Kd.S_at hq_ HO_3.out); have n1_ := Aside0.mk (Kd.R_at hq_ HO_4.out); have n2_ := Aside0.mk (Kd.R_at hq_ HO_5.out); have n3_ := Aside0.mk (Kd.R_at hq_ HO_6.out); have n4_ := Aside0.mk (Kd.R_at hq_ HL312_3.out); have n5_ := Aside0.mk (Kd.R_at hq_ HL312_4.out); have n6_ := Aside0.mk (Kd.R_at hq_ HL313_3.out); have n7_ := Aside0.mk (Kd.R_at hq_ HL313_4.out); have n8_ := Aside0.mk (below_at hq_ HB.out); clear hq_ HO_3 HO_4 HO_5 HO_6 HL312_3 HL312_4 HL313_3 HL313_4 HB; have HO_3 := n0_; have HO_4 := n1_; have HO_5 := n2_; have HO_6 := n3_; have HL312_3 := n4_; have HL312_4 := n5_; have HL313_3 := n6_; have HL313_4 := n7_; have HB := n8_; clear n0_ n1_ n2_ n3_ n4_ n5_ n6_ n7_ n8_; (try (have HP36 := Kd.R_putg HO_6.out (((rd_T54 ((rd_T52 t299 x7_1).f3) x8_2).f0) : Int) true)); (try (obtain ⟨hx27_0, hf27_0⟩ := Kd.qv1 false HO_6.out (((rd_T54 ((rd_T52 t299 x7_1).f3) x8_2).f0) : Int) (of_eq_true p27) (of_eq_true q27))))); refine store_event (t := 4) (p := 61) (v := ?vo_w37) (w1 := (wr.setCell ⟨go27, (((rd_T54 ((rd_T52 t299 x7_1).f3) x8_2).f0) : Int).toNat, none⟩ (.bool true))) ?hg ?ho ?hn ?hr ?_; (case ho => rfl); (case hg => rfl); (case hn => rfl); (case hr => first | (go_simp; done) | (go_simp; rfl)); intro w37 hw; have hg : wr.grownBy w37 (some go27) := (by rw [hw]; exact HP36.2); have hp_ : Kd.R Kd.bool 4 w37 w.heap.size (fun k_ => some k_ ≠ (v307 : Value).ownBlock) (.slice (some ⟨go27, 0, none⟩) x6_2.length co27) y315 := (by rw [hw, Ny315.out]; exact HP36.1); clear HP36; have n0_ := Aside0.mk (Kd.S_over' (v := (.slice (some ⟨go27, 0, none⟩) x6_2.length co27)) (by (with_reducible repeat (first | apply Kd.qx0 | apply Kd.qw0 | apply Kd.qd1)); exact HO_3.out) (Kd.qy0 HO_6.out) (by decide) hg); have n1_ := Aside0.mk (Kd.qb1 (v := (.slice (some ⟨go27, 0, none⟩) x6_2.length co27)) (by (with_reducible repeat (first | apply Kd.qo0 | apply Kd.qn0 | apply Kd.qt0)); exact HO_4.out) (Kd.qy0 HO_6.out) (by decide) hg); have n2_ := Aside0.mk (Kd.R_after (v := (.slice (some ⟨go27, 0, none⟩) x6_2.length co27)) (v1 := (.slice (some ⟨go27, 0, none⟩) x6_2.length co27)) (ok := (fun _ => True)) (by (with_reducible repeat (first | apply Kd.qo0 | apply Kd.qn0 | apply Kd.qt0)); exact Kd.R_mono HO_5.out (fun _ hk => ⟨trivial, hk⟩)) hg (.inl rfl)); have n3_ := Aside0.mk (hp_); have n4_ := Aside0.mk (Kd.qb1 (v := (.slice (some ⟨go27, 0, none⟩) x6_2.length co27)) (by (with_reducible repeat (first | apply Kd.qo0 | apply Kd.qn0 | apply Kd.qt0)); exact HL312_3.out) (Kd.qy0 HO_6.out) (by decide) hg); have n5_ := Aside0.mk (Kd.qb1 (v := (.slice (some ⟨go27, 0, none⟩) x6_2.length co27)) (by (with_reducible repeat (first | apply Kd.qo0 | apply Kd.qn0 | apply Kd.qt0)); exact HL312_4.out) (Kd.qy0 HO_6.out) (by decide) hg); have n6_ := Aside0.mk (Kd.qb1 (v := (.slice (some ⟨go27, 0, none⟩) x6_2.length co27)) (by (with_reducible repeat (first | apply Kd.qo0 | apply Kd.qn0 | apply Kd.qt0)); exact HL313_3.out) (Kd.qy0 HO_6.out) (by decide) hg); have n7_ := Aside0.mk (Kd.qb1 (v := (.slice (some ⟨go27, 0, none⟩) x6_2.length co27)) (by (with_reducible repeat (first | apply Kd.qo0 | apply Kd.qn0 | apply Kd.qt0)); exact HL313_4.out) (Kd.qy0 HO_6.out) (by decide) hg); have n8_ := Aside0.mk ((by rw [hw]; exact qi0 (HB.out) GB27.out : Below w.heap.size w w37)); clear HO_3; clear HO_4; clear HO_5; clear HO_6; clear HL312_3; clear HL312_4; clear HL313_3; clear HL313_4; clear HB; have HO_3 := n0_; have HO_4 := n1_; have HO_5 := n2_; have HO_6 := n3_; have HL312_3 := n4_; have HL312_4 := n5_; have HL313_3 := n6_; have HL313_4 := n7_; have HB := n8_; clear n0_ n1_ n2_ n3_ n4_ n5_ n6_ n7_ n8_; clear hg hw hp_; have p316 : 0 ≤ (((rd_T54 ((rd_T52 t299 x7_1).f3) x8_2).f0) : Int) := of_decide_eq_true (by first | (with_reducible assumption) | assumption); have q316 : ((rd_T54 ((rd_T52 t299 x7_1).f3) x8_2).f0) < (t302.length : Int) := of_decide_eq_true (by first | (with_reducible assumption) | assumption); obtain ⟨ad316, e316, hx316_0⟩ := Kd.qq1 (Kd.qv0 HO_4.out).2.2 ((rd_T54 ((rd_T52 t299 x7_1).f3) x8_2).f0) p316 q316; cases e316; replace p316 := eq_true p316; replace q316 := eq_true q316; have p317 : 0 ≤ (x7_1 : Int) := of_decide_eq_true (by first | (with_reducible assumption) | assumption); have q317 : x7_1 < (t302.length : Int) := of_decide_eq_true (by first | (with_reducible assumption) | assumption); obtain ⟨ad317, e317, hx317_0⟩ := Kd.qq1 (Kd.qv0 HO_4.out).2.2 x7_1 p317 q317; obtain rfl : ad316 = ad317 := (by injection e317); replace p317 := eq_true p317; replace q317 := eq_true q317; have p318 : 0 ≤ (((rd_T54 ((rd_T52 t299 x7_1).f3) x8_2).f0) : Int) := of_decide_eq_true (by first | (with_reducible assumption) | assumption); have q318 : ((rd_T54 ((rd_T52 t299 x7_1).f3) x8_2).f0) < (t302.length : Int) := of_decide_eq_true (by first | (with_reducible assumption) | assumption); obtain ⟨ad318, e318, hx318_0⟩ := Kd.qq1 (Kd.qv0 HO_4.out).2.2 ((rd_T54 ((rd_T52 t299 x7_1).f3) x8_2).f0) p318 q318; obtain rfl : ad316 = ad318 := (by injection e318); replace p318 := eq_true p318; replace q318 := eq_true q318; have p319 : 0 ≤ (x7_1 : Int) := of_decide_eq_true (by first | (with_reducible assumption) | assumption); have q319 : x7_1 < (t302.length : Int) := of_decide_eq_true (by first | (with_reducible assumption) | assumption); obtain ⟨ad319, e319, hx319_0⟩ := Kd.qq1 (Kd.qv0 HO_4.out).2.2 x7_1 p319 q319; obtain rfl : ad316 = ad319 := (by injection e319); replace p319 := eq_true p319; replace q319 := eq_true q319; have p35 : 0 ≤ (((rd_T54 ((rd_T52 t299 x7_1).f3) x8_2).f0) : Int) := of_decide_eq_true (by first | (with_reducible assumption) | assumption); have q35 : (((rd_T54 ((rd_T52 t299 x7_1).f3) x8_2).f0) : Int) < ((x5_2.length : Int) : Int) := of_decide_eq_true (by first | (with_reducible assumption) | assumption); obtain ⟨go35, co35, eo35, gb35, gl35, cl35, HG35⟩ := Kd.R_form HO_5.out (by omega); (first | cases eo35 | (injection eo35 with ea_ en_ ec_; (first | subst ea_ | (injection ea_ with ea_; subst ea_)); subst ec_; clear en_)); have GB35 := Aside0.mk gb35; have GG35 := Aside0.mk HG35; clear gb35 gl35 HG35; obtain ⟨hx35_0, hf35_0⟩ := Kd.qv1 false HO_5.out (((rd_T54 ((rd_T52 t299 x7_1).f3) x8_2).f0) : Int) p35 q35; replace p35 := eq_true p35; replace q35 := eq_true q35; have n_ := Aside0.mk (Kd.R_mono (ok' := (fun k_ => some k_ ≠ (.slice (some ⟨go27, 0, none⟩) x6_2.length co27 : Value).ownBlock)) HO_5.out (fun k_ hk => hk.2)); clear HO_5; have HO_5 := n_; clear n_; obtain ⟨hy38_, hz38_⟩ := Kd.qv1 false HO_5.out (((rd_T54 ((rd_T52 t299 x7_1).f3) x8_2).f0) : Int) (of_decide_eq_true (by first | (with_reducible assumption) | assumption)) (of_decide_eq_true (by first | (with_reducible assumption) | assumption)); have HP38 := Kd.R_putg HO_5.out (((rd_T54 ((rd_T52 t299 x7_1).f3) x8_2).f0) : Int) true) | ((with_reducible refine gate_store (t := 4) (p := 84) rfl ?_); (try (rw [drewN_self w37]; generalize hq_ : World.drewN w37 _ = w37; have n0_ := Aside0.mk (Kd.S_at hq_ HO_3.out); have n1_ := Aside0.mk (Kd.R_at hq_ HO_4.out); have n2_ := Aside0.mk (Kd.R_at hq_ HO_5.out); have n3_ := Aside0.mk (Kd.R_at hq_ HO_6.out); have n4_ := Aside0.mk (Kd.R_at hq_ HL312_3.out); have n5_ := Aside0.mk (Kd.R_at hq_ HL312_4.out); have n6_ := Aside0.mk (Kd.R_at hq_ HL313_3.out); have n7_ := Aside0.mk (Kd.R_at hq_ HL313_4.out); have n8_ := Aside0.mk (below_at hq_ HB.out); clear hq_ HO_3 HO_4 HO_5 HO_6 HL312_3 HL312_4 HL313_3 HL313_4 HB; have HO_3 := n0_; have HO_4 := n1_; have HO_5 := n2_; have HO_6 := n3_; have HL312_3 := n4_; have HL312_4 := n5_; have HL313_3 := n6_; have HL313_4 := n7_; have HB := n8_; clear n0_ n1_ n2_ n3_ n4_ n5_ n6_ n7_ n8_; (try (have n_ := Aside0.mk (Kd.R_mono (ok' := (fun k_ => some k_ ≠ (.slice (some ⟨go27, 0, none⟩) x6_2.length co27 : Value).ownBlock)) HO_5.out (fun k_ hk => hk.2)); clear HO_5; have HO_5 := n_; clear n_)); (try (obtain ⟨hy38_, hz38_⟩ := Kd.qv1 false HO_5.out (((rd_T54 ((rd_T52 t299 x7_1).f3) x8_2).f0) : Int) (of_decide_eq_true (by first | (with_reducible assumption) | assumption)) (of_decide_eq_true (by first | (with_reducible assumption) | assumption)))); (try (have HP38 := Kd.R_putg HO_5.out (((rd_T54 ((rd_T52 t299 x7_1).f3) x8_2).f0) : Int) true)); (try (obtain ⟨hx27_0, hf27_0⟩ := Kd.qv1 false HO_6.out (((rd_T54 ((rd_T52 t299 x7_1).f3) x8_2).f0) : Int) (of_eq_true p27) (of_eq_true q27))))); refine store_event (t := 4) (p := 84) (v := ?vo_w39) (w1 := (w37.setCell ⟨go35, (((rd_T54 ((rd_T52 t299 x7_1).f3) x8_2).f0) : Int).toNat, none⟩ (.bool true))) ?hg ?ho ?hn ?hr ?_; (case ho => rfl); (case hg => rfl); (case hn => rfl); (case hr => first | (go_simp; done) | (go_simp; rfl)); intro w39 hw; have hg : w37.grownBy w39 (some go35) := (by rw [hw]; exact HP38.2); have hp_ : Kd.R Kd.bool 4 w39 w.heap.size (fun k_ => some k_ ≠ (.slice (some ⟨go27, 0, none⟩) x6_2.length co27 : Value).ownBlock) (.slice (some ⟨go35, 0, none⟩) x5_2.length co35) y320 := (by rw [hw, Ny320.out]; exact HP38.1); clear HP38; have n0_ := Aside0.mk (Kd.S_over' (v := (.slice (some ⟨go35, 0, none⟩) x5_2.length co35)) (by (with_reducible repeat (first | apply Kd.qx0 | apply Kd.qw0 | apply Kd.qd1)); exact HO_3.out) (Kd.qy0 HO_5.out) (by decide) hg); have n1_ := Aside0.mk (Kd.qb1 (v := (.slice (some ⟨go35, 0, none⟩) x5_2.length co35)) (by (with_reducible repeat (first | apply Kd.qo0 | apply Kd.qn0 | apply Kd.qt0)); exact HO_4.out) (Kd.qy0 HO_5.out) (by decide) hg); have n2_ := Aside0.mk (hp_); have n3_ := Aside0.mk (Kd.R_after (v := (.slice (some ⟨go35, 0, none⟩) x5_2.length co35)) (v1 := (.slice (some ⟨go35, 0, none⟩) x5_2.length co35)) (ok := (fun _ => True)) (by (with_reducible repeat (first | apply Kd.qo0 | apply Kd.qn0 | apply Kd.qt0)); exact Kd.R_mono HO_6.out (fun _ hk => ⟨trivial, hk⟩)) hg (.inl rfl)); have n4_ := Aside0.mk (Kd.qb1 (v := (.slice (some ⟨go35, 0, none⟩) x5_2.length co35)) (by (with_reducible repeat (first | apply Kd.qo0 | apply Kd.qn0 | apply Kd.qt0)); exact HL312_3.out) (Kd.qy0 HO_5.out) (by decide) hg); have n5_ := Aside0.mk (Kd.qb1 (v := (.slice (some ⟨go35, 0, none⟩) x5_2.length co35)) (by (with_reducible repeat (first | apply Kd.qo0 | apply Kd.qn0 | apply Kd.qt0)); exact HL312_4.out) (Kd.qy0 HO_5.out) (by decide) hg); have n6_ := Aside0.mk (Kd.qb1 (v := (.slice (some ⟨go35, 0, none⟩) x5_2.length co35)) (by (with_reducible repeat (first | apply Kd.qo0 | apply Kd.qn0 | apply Kd.qt0)); exact HL313_3.out) (Kd.qy0 HO_5.out) (by decide) hg); have n7_ := Aside0.mk (Kd.qb1 (v := (.slice (some ⟨go35, 0, none⟩) x5_2.length co35)) (by (with_reducible repeat (first | apply Kd.qo0 | apply Kd.qn0 | apply Kd.qt0)); exact HL313_4.out) (Kd.qy0 HO_5.out) (by decide) hg); have n8_ := Aside0.mk ((by rw [hw]; exact qi0 (HB.out) GB35.out : Below w.heap.size w w39)); clear HO_3; clear HO_4; clear HO_5; clear HO_6; clear HL312_3; clear HL312_4; clear HL313_3; clear HL313_4; clear HB; have HO_3 := n0_; have HO_4 := n1_; have HO_5 := n2_; have HO_6 := n3_; have HL312_3 := n4_; have HL312_4 := n5_; have HL313_3 := n6_; have HL313_4 := n7_; have HB := n8_; clear n0_ n1_ n2_ n3_ n4_ n5_ n6_ n7_ n8_; clear hg hw hp_))
          repeat (go_quiet (first | ((with_reducible refine gate_store (t := 4) (p := 61) rfl ?_); (try (rw [drewN_self wr]; generalize hq_ : World.drewN wr _ = wr; have n0_ := Aside0.mk (Kd.S_at hq_ HO_3.out); have n1_ := Aside0.mk (Kd.R_at hq_ HO_4.out); have n2_ := Aside0.mk (Kd.R_at hq_ HO_5.out); have n3_ := Aside0.mk (Kd.R_at hq_ HO_6.out); have n4_ := Aside0.mk (Kd.R_at hq_ HL312_3.out); have n5_ := Aside0.mk (Kd.R_at hq_ HL312_4.out); have n6_ := Aside0.mk (Kd.R_at hq_ HL313_3.out); have n7_ := Aside0.mk (Kd.R_at hq_ HL313_4.out); have n8_ := Aside0.mk (below_at hq_ HB.out); clear hq_ HO_3 HO_4 HO_5 HO_6 HL312_3 HL312_4 HL313_3 HL313_4 HB; have HO_3 := n0_; have HO_4 := n1_; have HO_5 := n2_; have HO_6 := n3_; have HL312_3 := n4_; have HL312_4 := n5_; have HL313_3 := n6_; have HL313_4 := n7_; have HB := n8_; clear n0_ n1_ n2_ n3_ n4_ n5_ n6_ n7_ n8_; (try (have HP36 := Kd.R_putg HO_6.out (((rd_T54 ((rd_T52 t299 x7_1).f3) x8_2).f0) : Int) true)); (try (obtain ⟨hx27_0, hf27_0⟩ := Kd.qv1 false HO_6.out (((rd_T54 ((rd_T52 t299 x7_1).f3) x8_2).f0) : Int) (of_eq_true p27) (of_eq_true q27))))); refine store_event (t := 4) (p := 61) (v := ?vo_w37) (w1 := (wr.setCell ⟨go27, (((rd_T54 ((rd_T52 t299 x7_1).f3) x8_2).f0) : Int).toNat, none⟩ (.bool true))) ?hg ?ho ?hn ?hr ?_; (case ho => rfl); (case hg => rfl); (case hn => rfl); (case hr => first | (go_simp; done) | (go_simp; rfl)); intro w37 hw; have hg : wr.grownBy w37 (some go27) := (by rw [hw]; exact HP36.2); have hp_ : Kd.R Kd.bool 4 w37 w.heap.size (fun k_ => some k_ ≠ (v307 : Value).ownBlock) (.slice (some ⟨go27, 0, none⟩) x6_2.length co27) y315 := (by rw [hw, Ny315.out]; exact HP36.1); clear HP36; have n0_ := Aside0.mk (Kd.S_over' (v := (.slice (some ⟨go27, 0, none⟩) x6_2.length co27)) (by (with_reducible repeat (first | apply Kd.qx0 | apply Kd.qw0 | apply Kd.qd1)); exact HO_3.out) (Kd.qy0 HO_6.out) (by decide) hg); have n1_ := Aside0.mk (Kd.qb1 (v := (.slice (some ⟨go27, 0, none⟩) x6_2.length co27)) (by (with_reducible repeat (first | apply Kd.qo0 | apply Kd.qn0 | apply Kd.qt0)); exact HO_4.out) (Kd.qy0 HO_6.out) (by decide) hg); have n2_ := Aside0.mk (Kd.R_after (v := (.slice (some ⟨go27, 0, none⟩) x6_2.length co27)) (v1 := (.slice (some ⟨go27, 0, none⟩) x6_2.length co27)) (ok := (fun _ => True)) (by (with_reducible repeat (first | apply Kd.qo0 | apply Kd.qn0 | apply Kd.qt0)); exact Kd.R_mono HO_5.out (fun _ hk => ⟨trivial, hk⟩)) hg (.inl rfl)); have n3_ := Aside0.mk (hp_); have n4_ := Aside0.mk (Kd.qb1 (v := (.slice (some ⟨go27, 0, none⟩) x6_2.length co27)) (by (with_reducible repeat (first | apply Kd.qo0 | apply Kd.qn0 | apply Kd.qt0)); exact HL312_3.out) (Kd.qy0 HO_6.out) (by decide) hg); have n5_ := Aside0.mk (Kd.qb1 (v := (.slice (some ⟨go27, 0, none⟩) x6_2.length co27)) (by (with_reducible repeat (first | apply Kd.qo0 | apply Kd.qn0 | apply Kd.qt0)); exact HL312_4.out) (Kd.qy0 HO_6.out) (by decide) hg); have n6_ := Aside0.mk (Kd.qb1 (v := (.slice (some ⟨go27, 0, none⟩) x6_2.length co27)) (by (with_reducible repeat (first | apply Kd.qo0 | apply Kd.qn0 | apply Kd.qt0)); exact HL313_3.out) (Kd.qy0 HO_6.out) (by decide) hg); have n7_ := Aside0.mk (Kd.qb1 (v := (.slice (some ⟨go27, 0, none⟩) x6_2.length co27)) (by (with_reducible repeat (first | apply Kd.qo0 | apply Kd.qn0 | apply Kd.qt0)); exact HL313_4.out) (Kd.qy0 HO_6.out) (by decide) hg); have n8_ := Aside0.mk ((by rw [hw]; exact qi0 (HB.out) GB27.out : Below w.heap.size w w37)); clear HO_3; clear HO_4; clear HO_5; clear HO_6; clear HL312_3; clear HL312_4; clear HL313_3; clear HL313_4; clear HB; have HO_3 := n0_; have HO_4 := n1_; have HO_5 := n2_; have HO_6 := n3_; have HL312_3 := n4_; have HL312_4 := n5_; have HL313_3 := n6_; have HL313_4 := n7_; have HB := n8_; clear n0_ n1_ n2_ n3_ n4_ n5_ n6_ n7_ n8_; clear hg hw hp_; have p316 : 0 ≤ (((rd_T54 ((rd_T52 t299 x7_1).f3) x8_2).f0) : Int) := of_decide_eq_true (by first | (with_reducible assumption) | assumption); have q316 : ((rd_T54 ((rd_T52 t299 x7_1).f3) x8_2).f0) < (t302.length : Int) := of_decide_eq_true (by first | (with_reducible assumption) | assumption); obtain ⟨ad316, e316, hx316_0⟩ := Kd.qq1 (Kd.qv0 HO_4.out).2.2 ((rd_T54 ((rd_T52 t299 x7_1).f3) x8_2).f0) p316 q316; cases e316; replace p316 := eq_true p316; replace q316 := eq_true q316; have p317 : 0 ≤ (x7_1 : Int) := of_decide_eq_true (by first | (with_reducible assumption) | assumption); have q317 : x7_1 < (t302.length : Int) := of_decide_eq_true (by first | (with_reducible assumption) | assumption); obtain ⟨ad317, e317, hx317_0⟩ := Kd.qq1 (Kd.qv0 HO_4.out).2.2 x7_1 p317 q317; obtain rfl : ad316 = ad317 := (by injection e317); replace p317 := eq_true p317; replace q317 := eq_true q317; have p318 : 0 ≤ (((rd_T54 ((rd_T52 t299 x7_1).f3) x8_2).f0) : Int) := of_decide_eq_true (by first | (with_reducible assumption) | assumption); have q318 : ((rd_T54 ((rd_T52 t299 x7_1).f3) x8_2).f0) < (t302.length : Int) := of_decide_eq_true (by first | (with_reducible assumption) | assumption); obtain ⟨ad318, e318, hx318_0⟩ := Kd.qq1 (Kd.qv0 HO_4.out).2.2 ((rd_T54 ((rd_T52 t299 x7_1).f3) x8_2).f0) p318 q318; obtain rfl : ad316 = ad318 := (by injection e318); replace p318 := eq_true p318; replace q318 := eq_true q318; have p319 : 0 ≤ (x7_1 : Int) := of_decide_eq_true (by first | (with_reducible assumption) | assumption); have q319 : x7_1 < (t302.length : Int) := of_decide_eq_true (by first | (with_reducible assumption) | assumption); obtain ⟨ad319, e319, hx319_0⟩ := Kd.qq1 (Kd.qv0 HO_4.out).2.2 x7_1 p319 q319; obtain rfl : ad316 = ad319 := (by injection e319); replace p319 := eq_true p319; replace q319 := eq_true q319; have p35 : 0 ≤ (((rd_T54 ((rd_T52 t299 x7_1).f3) x8_2).f0) : Int) := of_decide_eq_true (by first | (with_reducible assumption) | assumption); have q35 : (((rd_T54 ((rd_T52 t299 x7_1).f3) x8_2).f0) : Int) < ((x5_2.length : Int) : Int) := of_decide_eq_true (by first | (with_reducible assumption) | assumption); obtain ⟨go35, co35, eo35, gb35, gl35, cl35, HG35⟩ := Kd.R_form HO_5.out (by omega); (first | cases eo35 | (injection eo35 with ea_ en_ ec_; (first | subst ea_ | (injection ea_ with ea_; subst ea_)); subst ec_; clear en_)); have GB35 := Aside0.mk gb35; have GG35 := Aside0.mk HG35; clear gb35 gl35 HG35; obtain ⟨hx35_0, hf35_0⟩ := Kd.qv1 false HO_5.out (((rd_T54 ((rd_T52 t299 x7_1).f3) x8_2).f0) : Int) p35 q35; replace p35 := eq_true p35; replace q35 := eq_true q35; have n_ := Aside0.mk (Kd.R_mono (ok' := (fun k_ => some k_ ≠ (.slice (some ⟨go27, 0, none⟩) x6_2.length co27 : Value).ownBlock)) HO_5.out (fun k_ hk => hk.2)); clear HO_5; have HO_5 := n_; clear n_; obtain ⟨hy38_, hz38_⟩ := Kd.qv1 false HO_5.out (((rd_T54 ((rd_T52 t299 x7_1).f3) x8_2).f0) : Int) (of_decide_eq_true (by first | (with_reducible assumption) | assumption)) (of_decide_eq_true (by first | (with_reducible assumption) | assumption)); have HP38 := Kd.R_putg HO_5.out (((rd_T54 ((rd_T52 t299 x7_1).f3) x8_2).f0) : Int) true) | ((with_reducible refine gate_store (t := 4) (p := 84) rfl ?_); (try (rw [drewN_self w37]; generalize hq_ : World.drewN w37 _ = w37; have n0_ := Aside0.mk (Kd.S_at hq_ HO_3.out); have n1_ := Aside0.mk (Kd.R_at hq_ HO_4.out); have n2_ := Aside0.mk (Kd.R_at hq_ HO_5.out); have n3_ := Aside0.mk (Kd.R_at hq_ HO_6.out); have n4_ := Aside0.mk (Kd.R_at hq_ HL312_3.out); have n5_ := Aside0.mk (Kd.R_at hq_ HL312_4.out); have n6_ := Aside0.mk (Kd.R_at hq_ HL313_3.out); have n7_ := Aside0.mk (Kd.R_at hq_ HL313_4.out); have n8_ := Aside0.mk (below_at hq_ HB.out); clear hq_ HO_3 HO_4 HO_5 HO_6 HL312_3 HL312_4 HL313_3 HL313_4 HB; have HO_3 := n0_; have HO_4 := n1_; have HO_5 := n2_; have HO_6 := n3_; have HL312_3 := n4_; have HL312_4 := n5_; have HL313_3 := n6_; have HL313_4 := n7_; have HB := n8_; clear n0_ n1_ n2_ n3_ n4_ n5_ n6_ n7_ n8_; (try (have n_ := Aside0.mk (Kd.R_mono (ok' := (fun k_ => some k_ ≠ (.slice (some ⟨go27, 0, none⟩) x6_2.length co27 : Value).ownBlock)) HO_5.out (fun k_ hk => hk.2)); clear HO_5; have HO_5 := n_; clear n_)); (try (obtain ⟨hy38_, hz38_⟩ := Kd.qv1 false HO_5.out (((rd_T54 ((rd_T52 t299 x7_1).f3) x8_2).f0) : Int) (of_decide_eq_true (by first | (with_reducible assumption) | assumption)) (of_decide_eq_true (by first | (with_reducible assumption) | assumption)))); (try (have HP38 := Kd.R_putg HO_5.out (((rd_T54 ((rd_T52 t299 x7_1).f3) x8_2).f0) : Int) true)); (try (obtain ⟨hx27_0, hf27_0⟩ := Kd.qv1 false HO_6.out (((rd_T54 ((rd_T52 t299 x7_1).f3) x8_2).f0) : Int) (of_eq_true p27) (of_eq_true q27))))); refine store_event (t := 4) (p := 84) (v := ?vo_w39) (w1 := (w37.setCell ⟨go35, (((rd_T54 ((rd_T52 t299 x7_1).f3) x8_2).f0) : Int).toNat, none⟩ (.bool true))) ?hg ?ho ?hn ?hr ?_; (case ho => rfl); (case hg => rfl); (case hn => rfl); (case hr => first | (go_simp; done) | (go_simp; rfl)); intro w39 hw; have hg : w37.grownBy w39 (some go35) := (by rw [hw]; exact HP38.2); have hp_ : Kd.R Kd.bool 4 w39 w.heap.size (fun k_ => some k_ ≠ (.slice (some ⟨go27, 0, none⟩) x6_2.length co27 : Value).ownBlock) (.slice (some ⟨go35, 0, none⟩) x5_2.length co35) y320 := (by rw [hw, Ny320.out]; exact HP38.1); clear HP38; have n0_ := Aside0.mk (Kd.S_over' (v := (.slice (some ⟨go35, 0, none⟩) x5_2.length co35)) (by (with_reducible repeat (first | apply Kd.qx0 | apply Kd.qw0 | apply Kd.qd1)); exact HO_3.out) (Kd.qy0 HO_5.out) (by decide) hg); have n1_ := Aside0.mk (Kd.qb1 (v := (.slice (some ⟨go35, 0, none⟩) x5_2.length co35)) (by (with_reducible repeat (first | apply Kd.qo0 | apply Kd.qn0 | apply Kd.qt0)); exact HO_4.out) (Kd.qy0 HO_5.out) (by decide) hg); have n2_ := Aside0.mk (hp_); have n3_ := Aside0.mk (Kd.R_after (v := (.slice (some ⟨go35, 0, none⟩) x5_2.length co35)) (v1 := (.slice (some ⟨go35, 0, none⟩) x5_2.length co35)) (ok := (fun _ => True)) (by (with_reducible repeat (first | apply Kd.qo0 | apply Kd.qn0 | apply Kd.qt0)); exact Kd.R_mono HO_6.out (fun _ hk => ⟨trivial, hk⟩)) hg (.inl rfl)); have n4_ := Aside0.mk (Kd.qb1 (v := (.slice (some ⟨go35, 0, none⟩) x5_2.length co35)) (by (with_reducible repeat (first | apply Kd.qo0 | apply Kd.qn0 | apply Kd.qt0)); exact HL312_3.out) (Kd.qy0 HO_5.out) (by decide) hg); have n5_ := Aside0.mk (Kd.qb1 (v := (.slice (some ⟨go35, 0, none⟩) x5_2.length co35)) (by (with_reducible repeat (first | apply Kd.qo0 | apply Kd.qn0 | apply Kd.qt0)); exact HL312_4.out) (Kd.qy0 HO_5.out) (by decide) hg); have n6_ := Aside0.mk (Kd.qb1 (v := (.slice (some ⟨go35, 0, none⟩) x5_2.length co35)) (by (with_reducible repeat (first | apply Kd.qo0 | apply Kd.qn0 | apply Kd.qt0)); exact HL313_3.out) (Kd.qy0 HO_5.out) (by decide) hg); have n7_ := Aside0.mk (Kd.qb1 (v := (.slice (some ⟨go35, 0, none⟩) x5_2.length co35)) (by (with_reducible repeat (first | apply Kd.qo0 | apply Kd.qn0 | apply Kd.qt0)); exact HL313_4.out) (Kd.qy0 HO_5.out) (by decide) hg); have n8_ := Aside0.mk ((by rw [hw]; exact qi0 (HB.out) GB35.out : Below w.heap.size w w39)); clear HO_3; clear HO_4; clear HO_5; clear HO_6; clear HL312_3; clear HL312_4; clear HL313_3; clear HL313_4; clear HB; have HO_3 := n0_; have HO_4 := n1_; have HO_5 := n2_; have HO_6 := n3_; have HL312_3 := n4_; have HL312_4 := n5_; have HL313_3 := n6_; have HL313_4 := n7_; have HB := n8_; clear n0_ n1_ n2_ n3_ n4_ n5_ n6_ n7_ n8_; clear hg hw hp_)); try go_wp2_with (first | ((with_reducible refine gate_store (t := 4) (p := 61) rfl ?_); (try (rw [drewN_self wr]; generalize hq_ : World.drewN wr _ = wr; have n0_ := Aside0.mk (Kd.S_at hq_ HO_3.out); have n1_ := Aside0.mk (Kd.R_at hq_ HO_4.out); have n2_ := Aside0.mk (Kd.R_at hq_ HO_5.out); have n3_ := Aside0.mk (Kd.R_at hq_ HO_6.out); have n4_ := Aside0.mk (Kd.R_at hq_ HL312_3.out); have n5_ := Aside0.mk (Kd.R_at hq_ HL312_4.out); have n6_ := Aside0.mk (Kd.R_at hq_ HL313_3.out); have n7_ := Aside0.mk (Kd.R_at hq_ HL313_4.out); have n8_ := Aside0.mk (below_at hq_ HB.out); clear hq_ HO_3 HO_4 HO_5 HO_6 HL312_3 HL312_4 HL313_3 HL313_4 HB; have HO_3 := n0_; have HO_4 := n1_; have HO_5 := n2_; have HO_6 := n3_; have HL312_3 := n4_; have HL312_4 := n5_; have HL313_3 := n6_; have HL313_4 := n7_; have HB := n8_; clear n0_ n1_ n2_ n3_ n4_ n5_ n6_ n7_ n8_; (try (have HP36 := Kd.R_putg HO_6.out (((rd_T54 ((rd_T52 t299 x7_1).f3) x8_2).f0) : Int) true)); (try (obtain ⟨hx27_0, hf27_0⟩ := Kd.qv1 false HO_6.out (((rd_T54 ((rd_T52 t299 x7_1).f3) x8_2).f0) : Int) (of_eq_true p27) (of_eq_true q27))))); refine store_event (t := 4) (p := 61) (v := ?vo_w37) (w1 := (wr.setCell ⟨go27, (((rd_T54 ((rd_T52 t299 x7_1).f3) x8_2).f0) : Int).toNat, none⟩ (.bool true))) ?hg ?ho ?hn ?hr ?_; (case ho => rfl); (case hg => rfl); (case hn => rfl); (case hr => first | (go_simp; done) | (go_simp; rfl)); intro w37 hw; have hg : wr.grownBy w37 (some go27) := (by rw [hw]; exact HP36.2); have hp_ : Kd.R Kd.bool 4 w37 w.heap.size (fun k_ => some k_ ≠ (v307 : Value).ownBlock) (.slice (some ⟨go27, 0, none⟩) x6_2.length co27) y315 := (by rw [hw, Ny315.out]; exact HP36.1); clear HP36; have n0_ := Aside0.mk (Kd.S_over' (v := (.slice (some ⟨go27, 0, none⟩) x6_2.length co27)) (by (with_reducible repeat (first | apply Kd.qx0 | apply Kd.qw0 | apply Kd.qd1)); exact HO_3.out) (Kd.qy0 HO_6.out) (by decide) hg); have n1_ := Aside0.mk (Kd.qb1 (v := (.slice (some ⟨go27, 0, none⟩) x6_2.length co27)) (by (with_reducible repeat (first | apply Kd.qo0 | apply Kd.qn0 | apply Kd.qt0)); exact HO_4.out) (Kd.qy0 HO_6.out) (by decide) hg); have n2_ := Aside0.mk (Kd.R_after (v := (.slice (some ⟨go27, 0, none⟩) x6_2.length co27)) (v1 := (.slice (some ⟨go27, 0, none⟩) x6_2.length co27)) (ok := (fun _ => True)) (by (with_reducible repeat (first | apply Kd.qo0 | apply Kd.qn0 | apply Kd.qt0)); exact Kd.R_mono HO_5.out (fun _ hk => ⟨trivial, hk⟩)) hg (.inl rfl)); have n3_ := Aside0.mk (hp_); have n4_ := Aside0.mk (Kd.qb1 (v := (.slice (some ⟨go27, 0, none⟩) x6_2.length co27)) (by (with_reducible repeat (first | apply Kd.qo0 | apply Kd.qn0 | apply Kd.qt0)); exact HL312_3.out) (Kd.qy0 HO_6.out) (by decide) hg); have n5_ := Aside0.mk (Kd.qb1 (v := (.slice (some ⟨go27, 0, none⟩) x6_2.length co27)) (by (with_reducible repeat (first | apply Kd.qo0 | apply Kd.qn0 | apply Kd.qt0)); exact HL312_4.out) (Kd.qy0 HO_6.out) (by decide) hg); have n6_ := Aside0.mk (Kd.qb1 (v := (.slice (some ⟨go27, 0, none⟩) x6_2.length co27)) (by (with_reducible repeat (first | apply Kd.qo0 | apply Kd.qn0 | apply Kd.qt0)); exact HL313_3.out) (Kd.qy0 HO_6.out) (by decide) hg); have n7_ := Aside0.mk (Kd.qb1 (v := (.slice (some ⟨go27, 0, none⟩) x6_2.length co27)) (by (with_reducible repeat (first | apply Kd.qo0 | apply Kd.qn0 | apply Kd.qt0)); exact HL313_4.out) (Kd.qy0 HO_6.out) (by decide) hg); have n8_ := Aside0.mk ((by rw [hw]; exact qi0 (HB.out) GB27.out : Below w.heap.size w w37)); clear HO_3; clear HO_4; clear HO_5; clear HO_6; clear HL312_3; clear HL312_4; clear HL313_3; clear HL313_4; clear HB; have HO_3 := n0_; have HO_4 := n1_; have HO_5 := n2_; have HO_6 := n3_; have HL312_3 := n4_; have HL312_4 := n5_; have HL313_3 := n6_; have HL313_4 := n7_; have HB := n8_; clear n0_ n1_ n2_ n3_ n4_ n5_ n6_ n7_ n8_; clear hg hw hp_; have p316 : 0 ≤ (((rd_T54 ((rd_T52 t299 x7_1).f3) x8_2).f0) : Int) := of_decide_eq_true (by first | (with_reducible assumption) | assumption); have q316 : ((rd_T54 ((rd_T52 t299 x7_1).f3) x8_2).f0) < (t302.length : Int) := of_decide_eq_true (by first | (with_reducible assumption) | assumption); obtain ⟨ad316, e316, hx316_0⟩ := Kd.qq1 (Kd.qv0 HO_4.out).2.2 ((rd_T54 ((rd_T52 t299 x7_1).f3) x8_2).f0) p316 q316; cases e316; replace p316 := eq_true p316; replace q316 := eq_true q316; have p317 : 0 ≤ (x7_1 : Int) := of_decide_eq_true (by first | (with_reducible assumption) | assumption); have q317 : x7_1 < (t302.length : Int) := of_decide_eq_true (by first | (with_reducible assumption) | assumption); obtain ⟨ad317, e317, hx317_0⟩ := Kd.qq1 (Kd.qv0 HO_4.out).2.2 x7_1 p317 q317; obtain rfl : ad316 = ad317 := (by injection e317); replace p317 := eq_true p317; replace q317 := eq_true q317; have p318 : 0 ≤ (((rd_T54 ((rd_T52 t299 x7_1).f3) x8_2).f0) : Int) := of_decide_eq_true (by first | (with_reducible assumption) | assumption); have q318 : ((rd_T54 ((rd_T52 t299 x7_1).f3) x8_2).f0) < (t302.length : Int) := of_decide_eq_true (by first | (with_reducible assumption) | assumption); obtain ⟨ad318, e318, hx318_0⟩ := Kd.qq1 (Kd.qv0 HO_4.out).2.2 ((rd_T54 ((rd_T52 t299 x7_1).f3) x8_2).f0) p318 q318; obtain rfl : ad316 = ad318 := (by injection e318); replace p318 := eq_true p318; replace q318 := eq_true q318; have p319 : 0 ≤ (x7_1 : Int) := of_decide_eq_true (by first | (with_reducible assumption) | assumption); have q319 : x7_1 < (t302.length : Int) := of_decide_eq_true (by first | (with_reducible assumption) | assumption); obtain ⟨ad319, e319, hx319_0⟩ := Kd.qq1 (Kd.qv0 HO_4.out).2.2 x7_1 p319 q319; obtain rfl : ad316 = ad319 := (by injection e319); replace p319 := eq_true p319; replace q319 := eq_true q319; have p35 : 0 ≤ (((rd_T54 ((rd_T52 t299 x7_1).f3) x8_2).f0) : Int) := of_decide_eq_true (by first | (with_reducible assumption) | assumption); have q35 : (((rd_T54 ((rd_T52 t299 x7_1).f3) x8_2).f0) : Int) < ((x5_2.length : Int) : Int) := of_decide_eq_true (by first | (with_reducible assumption) | assumption); obtain ⟨go35, co35, eo35, gb35, gl35, cl35, HG35⟩ := Kd.R_form HO_5.out (by omega); (first | cases eo35 | (injection eo35 with ea_ en_ ec_; (first | subst ea_ | (injection ea_ with ea_; subst ea_)); subst ec_; clear en_)); have GB35 := Aside0.mk gb35; have GG35 := Aside0.mk HG35; clear gb35 gl35 HG35; obtain ⟨hx35_0, hf35_0⟩ := Kd.qv1 false HO_5.out (((rd_T54 ((rd_T52 t299 x7_1).f3) x8_2).f0) : Int) p35 q35; replace p35 := eq_true p35; replace q35 := eq_true q35; have n_ := Aside0.mk (Kd.R_mono (ok' := (fun k_ => some k_ ≠ (.slice (some ⟨go27, 0, none⟩) x6_2.length co27 : Value).ownBlock)) HO_5.out (fun k_ hk => hk.2)); clear HO_5; have HO_5 := n_; clear n_; obtain ⟨hy38_, hz38_⟩ := Kd.qv1 false HO_5.out (((rd_T54 ((rd_T52 t299 x7_1).f3) x8_2).f0) : Int) (of_decide_eq_true (by first | (with_reducible assumption) | assumption)) (of_decide_eq_true (by first | (with_reducible assumption) | assumption)); have HP38 := Kd.R_putg HO_5.out (((rd_T54 ((rd_T52 t299 x7_1).f3) x8_2).f0) : Int) true) | ((with_reducible refine gate_store (t := 4) (p := 84) rfl ?_); (try (rw [drewN_self w37]; generalize hq_ : World.drewN w37 _ = w37; have n0_ := Aside0.mk (Kd.S_at hq_ HO_3.out); have n1_ := Aside0.mk (Kd.R_at hq_ HO_4.out); have n2_ := Aside0.mk (Kd.R_at hq_ HO_5.out); have n3_ := Aside0.mk (Kd.R_at hq_ HO_6.out); have n4_ := Aside0.mk (Kd.R_at hq_ HL312_3.out); have n5_ := Aside0.mk (Kd.R_at hq_ HL312_4.out); have n6_ := Aside0.mk (Kd.R_at hq_ HL313_3.out); have n7_ := Aside0.mk (Kd.R_at hq_ HL313_4.out); have n8_ := Aside0.mk (below_at hq_ HB.out); clear hq_ HO_3 HO_4 HO_5 HO_6 HL312_3 HL312_4 HL313_3 HL313_4 HB; have HO_3 := n0_; have HO_4 := n1_; have HO_5 := n2_; have HO_6 := n3_; have HL312_3 := n4_; have HL312_4 := n5_; have HL313_3 := n6_; have HL313_4 := n7_; have HB := n8_; clear n0_ n1_ n2_ n3_ n4_ n5_ n6_ n7_ n8_; (try (have n_ := Aside0.mk (Kd.R_mono (ok' := (fun k_ => some k_ ≠ (.slice (some ⟨go27, 0, none⟩) x6_2.length co27 : Value).ownBlock)) HO_5.out (fun k_ hk => hk.2)); clear HO_5; have HO_5 := n_; clear n_)); (try (obtain ⟨hy38_, hz38_⟩ := Kd.qv1 false HO_5.out (((rd_T54 ((rd_T52 t299 x7_1).f3) x8_2).f0) : Int) (of_decide_eq_true (by first | (with_reducible assumption) | assumption)) (of_decide_eq_true (by first | (with_reducible assumption) | assumption)))); (try (have HP38 := Kd.R_putg HO_5.out (((rd_T54 ((rd_T52 t299 x7_1).f3) x8_2).f0) : Int) true)); (try (obtain ⟨hx27_0, hf27_0⟩ := Kd.qv1 false HO_6.out (((rd_T54 ((rd_T52 t299 x7_1).f3) x8_2).f0) : Int) (of_eq_true p27) (of_eq_true q27))))); refine store_event (t := 4) (p := 84) (v := ?vo_w39) (w1 := (w37.setCell ⟨go35, (((rd_T54 ((rd_T52 t299 x7_1).f3) x8_2).f0) : Int).toNat, none⟩ (.bool true))) ?hg ?ho ?hn ?hr ?_; (case ho => rfl); (case hg => rfl); (case hn => rfl); (case hr => first | (go_simp; done) | (go_simp; rfl)); intro w39 hw; have hg : w37.grownBy w39 (some go35) := (by rw [hw]; exact HP38.2); have hp_ : Kd.R Kd.bool 4 w39 w.heap.size (fun k_ => some k_ ≠ (.slice (some ⟨go27, 0, none⟩) x6_2.length co27 : Value).ownBlock) (.slice (some ⟨go35, 0, none⟩) x5_2.length co35) y320 := (by rw [hw, Ny320.out]; exact HP38.1); clear HP38; have n0_ := Aside0.mk (Kd.S_over' (v := (.slice (some ⟨go35, 0, none⟩) x5_2.length co35)) (by (with_reducible repeat (first | apply Kd.qx0 | apply Kd.qw0 | apply Kd.qd1)); exact HO_3.out) (Kd.qy0 HO_5.out) (by decide) hg); have n1_ := Aside0.mk (Kd.qb1 (v := (.slice (some ⟨go35, 0, none⟩) x5_2.length co35)) (by (with_reducible repeat (first | apply Kd.qo0 | apply Kd.qn0 | apply Kd.qt0)); exact HO_4.out) (Kd.qy0 HO_5.out) (by decide) hg); have n2_ := Aside0.mk (hp_); have n3_ := Aside0.mk (Kd.R_after (v := (.slice (some ⟨go35, 0, none⟩) x5_2.length co35)) (v1 := (.slice (some ⟨go35, 0, none⟩) x5_2.length co35)) (ok := (fun _ => True)) (by (with_reducible repeat (first | apply Kd.qo0 | apply Kd.qn0 | apply Kd.qt0)); exact Kd.R_mono HO_6.out (fun _ hk => ⟨trivial, hk⟩)) hg (.inl rfl)); have n4_ := Aside0.mk (Kd.qb1 (v := (.slice (some ⟨go35, 0, none⟩) x5_2.length co35)) (by (with_reducible repeat (first | apply Kd.qo0 | apply Kd.qn0 | apply Kd.qt0)); exact HL312_3.out) (Kd.qy0 HO_5.out) (by decide) hg); have n5_ := Aside0.mk (Kd.qb1 (v := (.slice (some ⟨go35, 0, none⟩) x5_2.length co35)) (by (with_reducible repeat (first | apply Kd.qo0 | apply Kd.qn0 | apply Kd.qt0)); exact HL312_4.out) (Kd.qy0 HO_5.out) (by decide) hg); have n6_ := Aside0.mk (Kd.qb1 (v := (.slice (some ⟨go35, 0, none⟩) x5_2.length co35)) (by (with_reducible repeat (first | apply Kd.qo0 | apply Kd.qn0 | apply Kd.qt0)); exact HL313_3.out) (Kd.qy0 HO_5.out) (by decide) hg); have n7_ := Aside0.mk (Kd.qb1 (v := (.slice (some ⟨go35, 0, none⟩) x5_2.length co35)) (by (with_reducible repeat (first | apply Kd.qo0 | apply Kd.qn0 | apply Kd.qt0)); exact HL313_4.out) (Kd.qy0 HO_5.out) (by decide) hg); have n8_ := Aside0.mk ((by rw [hw]; exact qi0 (HB.out) GB35.out : Below w.heap.size w w39)); clear HO_3; clear HO_4; clear HO_5; clear HO_6; clear HL312_3; clear HL312_4; clear HL313_3; clear HL313_4; clear HB; have HO_3 := n0_; have HO_4 := n1_; have HO_5 := n2_; have HO_6 := n3_; have HL312_3 := n4_; have HL312_4 := n5_; have HL313_3 := n6_; have HL313_4 := n7_; have HB := n8_; clear n0_ n1_ n2_ n3_ n4_ n5_ n6_ n7_ n8_; clear hg hw hp_)))
          go_roundg k2
          case measure => have := HK1.out; have := HK2.out; omega
          case rel => exact ⟨(y320), (y315), (wrap64 (x8_2 + 1)), (by first | rfl | (simp; done) | (simp [*]; done)), H', ⟨by have := HK1.out; have := HK2.out; omega⟩, ⟨by (with_reducible repeat (first | apply Kd.qx0 | apply Kd.qw0 | apply Kd.qd1)); exact HO_3.out⟩, ⟨by (with_reducible repeat (first | apply Kd.qo0 | apply Kd.qn0 | apply Kd.qt0)); exact HO_4.out⟩, ⟨by (with_reducible repeat (first | apply Kd.qo0 | apply Kd.qn0 | apply Kd.qt0)); exact HO_5.out⟩, ⟨by (with_reducible repeat (first | apply Kd.qo0 | apply Kd.qn0 | apply Kd.qt0)); exact Kd.R_mono HO_6.out (fun _ hk => hk.2)⟩, ⟨by repeat (first | (with_reducible first | exact HB.out | apply qc0 | apply qa0 | apply qd0) | exact HB.out)⟩⟩
         rw [if_neg c33] at H
         have c33b0 : ((rd t302 ((rd_T54 ((rd_T52 t299 x7_1).f3) x8_2).f0)) == (wrap64 ((rd t302 x7_1) + 1))) = false := beq_eq_false_iff_ne.mpr c33
         have c33b1 : ((rd t302 ((rd_T54 ((rd_T52 t299 x7_1).f3) x8_2).f0)) != (wrap64 ((rd t302 x7_1) + 1))) = true := bne_iff_ne.mpr c33
         have H' := Aside0.mk H
         clear H
         have p312 : 0 ≤ (x7_1 : Int) := of_decide_eq_true (by first | (with_reducible assumption) | assumption)
         have q312 : x7_1 < (t299.length : Int) := of_decide_eq_true (by first | (with_reducible assumption) | assumption)
         obtain ⟨ad312, A312_3, c312_3, A312_4, c312_4, e312, hx312_0, hx312_1, hx312_2, hx312_3, hx312_4, hl312_3, hi312_3, hl312_4, hi312_4⟩ := at_T52 (Kd.qa1 HO_3.out).2.2 x7_1 p312 q312
         cases e312
         obtain ⟨ce312, hce312, hMe312, hcc312⟩ := Kd.S_get HO_3.out z52 x7_1 p312 (by first | exact q312 | exact of_decide_eq_true (by first | (with_reducible assumption) | assumption) | (have e_ := (Kd.qa1 HO_3.out).1; omega))
         obtain ⟨ve312_3, ve312_4, rfl, ge312_3, ge312_4⟩ := k52_openM hMe312
         have hv312_3 := hcc312 3 _ rfl
         rw [qp1 _ _ 3 (by omega)] at hv312_3
         replace hv312_3 := Option.some.inj (hv312_3.symm.trans hx312_3)
         rw [hv312_3] at ge312_3
         have HL312_3 := Aside0.mk (show Kd.R k54 54 _ _ _ _ ((rd_T52 t299 x7_1).f3) from ge312_3)
         clear hv312_3 ge312_3
         have hv312_4 := hcc312 4 _ rfl
         rw [qp1 _ _ 4 (by omega)] at hv312_4
         replace hv312_4 := Option.some.inj (hv312_4.symm.trans hx312_4)
         rw [hv312_4] at ge312_4
         have HL312_4 := Aside0.mk (show Kd.R k54 54 _ _ _ _ ((rd_T52 t299 x7_1).f4) from ge312_4)
         clear hv312_4 ge312_4
         clear hcc312 hce312
         have HR312_3 := Aside0.mk hi312_3
         have HC312_3 := Aside0.mk hl312_3
         clear hi312_3 hl312_3
         have HR312_4 := Aside0.mk hi312_4
         have HC312_4 := Aside0.mk hl312_4
         clear hi312_4 hl312_4
         replace p312 := eq_true p312
         replace q312 := eq_true q312
         have p313 : 0 ≤ (x7_1 : Int) := of_decide_eq_true (by first | (with_reducible assumption) | assumption)
         have q313 : x7_1 < (t299.length : Int) := of_decide_eq_true (by first | (with_reducible assumption) | assumption)
         obtain ⟨ad313, A313_3, c313_3, A313_4, c313_4, e313, hx313_0, hx313_1, hx313_2, hx313_3, hx313_4, hl313_3, hi313_3, hl313_4, hi313_4⟩ := at_T52 (Kd.qa1 HO_3.out).2.2 x7_1 p313 q313
         obtain rfl : ad312 = ad313 := (by injection e313)
         obtain ⟨ce313, hce313, hMe313, hcc313⟩ := Kd.S_get HO_3.out z52 x7_1 p313 (by first | exact q313 | exact of_decide_eq_true (by first | (with_reducible assumption) | assumption) | (have e_ := (Kd.qa1 HO_3.out).1; omega))
         obtain ⟨ve313_3, ve313_4, rfl, ge313_3, ge313_4⟩ := k52_openM hMe313
         have hv313_3 := hcc313 3 _ rfl
         rw [qp1 _ _ 3 (by omega)] at hv313_3
         replace hv313_3 := Option.some.inj (hv313_3.symm.trans hx313_3)
         rw [hv313_3] at ge313_3
         have HL313_3 := Aside0.mk (show Kd.R k54 54 _ _ _ _ ((rd_T52 t299 x7_1).f3) from ge313_3)
         clear hv313_3 ge313_3
         have hv313_4 := hcc313 4 _ rfl
         rw [qp1 _ _ 4 (by omega)] at hv313_4
         replace hv313_4 := Option.some.inj (hv313_4.symm.trans hx313_4)
         rw [hv313_4] at ge313_4
         have HL313_4 := Aside0.mk (show Kd.R k54 54 _ _ _ _ ((rd_T52 t299 x7_1).f4) from ge313_4)
         clear hv313_4 ge313_4
         clear hcc313 hce313
         have HR313_3 := Aside0.mk hi313_3
         have HC313_3 := Aside0.mk hl313_3
         clear hi313_3 hl313_3
         have HR313_4 := Aside0.mk hi313_4
         have HC313_4 := Aside0.mk hl313_4
         clear hi313_4 hl313_4
         replace p313 := eq_true p313
         replace q313 := eq_true q313
         have ea_ := Option.some.inj (hx312_3.symm.trans hx313_3)
         injection ea_ with ea_ en_ ec_
         subst ea_
         subst ec_
         clear en_
         have ea_ := Option.some.inj (hx312_4.symm.trans hx313_4)
         injection ea_ with ea_ en_ ec_
         subst ea_
         subst ec_
         clear en_
         have p314 : 0 ≤ (x8_2 : Int) := of_decide_eq_true (by first | (with_reducible assumption) | assumption)
         have q314 : x8_2 < (((rd_T52 t299 x7_1).f3).length : Int) := of_decide_eq_true (by first | (with_reducible assumption) | assumption)
         obtain ⟨ad314, e314, hx314_0, hx314_1, hx314_2, hx314_3, hx314_4, hx314_5⟩ := at_T54 (by repeat (first | (with_reducible exact HR313_3.out) | (with_reducible refine Kd.qj1 ?_ _) | (with_reducible refine Kd.qi1 ?_ _) | (with_reducible refine Kd.qn1 ?_) | exact HR313_3.out)) x8_2 p314 q314
         cases e314
         replace p314 := eq_true p314
         replace q314 := eq_true q314
         have p27 : 0 ≤ (((rd_T54 ((rd_T52 t299 x7_1).f3) x8_2).f0) : Int) := of_decide_eq_true (by first | (with_reducible assumption) | assumption)
         have q27 : (((rd_T54 ((rd_T52 t299 x7_1).f3) x8_2).f0) : Int) < ((x6_2.length : Int) : Int) := of_decide_eq_true (by first | (with_reducible assumption) | assumption)
         obtain ⟨go27, co27, eo27, gb27, gl27, cl27, HG27⟩ := Kd.R_form HO_6.out (by omega)
         (first | cases eo27 | (injection eo27 with ea_ en_ ec_; (first | subst ea_ | (injection ea_ with ea_; subst ea_)); subst ec_; clear en_))
         have GB27 := Aside0.mk gb27
         have GG27 := Aside0.mk HG27
         clear gb27 gl27 HG27
         obtain ⟨hx27_0, hf27_0⟩ := Kd.qv1 false HO_6.out (((rd_T54 ((rd_T52 t299 x7_1).f3) x8_2).f0) : Int) p27 q27
         replace p27 := eq_true p27
         replace q27 := eq_true q27
         have HP40 := Kd.R_putg HO_6.out (((rd_T54 ((rd_T52 t299 x7_1).f3) x8_2).f0) : Int) true
         go_wp2_with (first | ((with_reducible refine gate_store (t := 4) (p := 61) rfl ?_); (try (rw [drewN_self wr]; generalize hq_ : World.drewN wr _ = wr; have n0_ := Aside0.mk (Kd.S_at hq_ HO_3.out); have n1_ := Aside0.mk (Kd.R_at hq_ HO_4.out); have n2_ := Aside0.mk (Kd.R_at hq_ HO_5.out); have n3_ := Aside0.mk (Kd.R_at hq_ HO_6.out); have n4_ := Aside0.mk (Kd.R_at hq_ HL312_3.out); have n5_ := Aside0.mk (Kd.R_at hq_ HL312_4.out); have n6_ := Aside0.mk (Kd.R_at hq_ HL313_3.out); have n7_ := Aside0.mk (Kd.R_at hq_ HL313_4.out); have n8_ := Aside0.mk (below_at hq_ HB.out); clear hq_ HO_3 HO_4 HO_5 HO_6 HL312_3 HL312_4 HL313_3 HL313_4 HB; have HO_3 := n0_; have HO_4 := n1_; have HO_5 := n2_; have HO_6 := n3_; have HL312_3 := n4_; have HL312_4 := n5_; have HL313_3 := n6_; have HL313_4 := n7_; have HB := n8_; clear n0_ n1_ n2_ n3_ n4_ n5_ n6_ n7_ n8_; (try (have HP40 := Kd.R_putg HO_6.out (((rd_T54 ((rd_T52 t299 x7_1).f3) x8_2).f0) : Int) true)); (try (obtain ⟨hx27_0, hf27_0⟩ := Kd.qv1 false HO_6.out (((rd_T54 ((rd_T52 t299 x7_1).f3) x8_2).f0) : Int) (of_eq_true p27) (of_eq_true q27))))); refine store_event (t := 4) (p := 61) (v := ?vo_w41) (w1 := (wr.setCell ⟨go27, (((rd_T54 ((rd_T52 t299 x7_1).f3) x8_2).f0) : Int).toNat, none⟩ (.bool true))) ?hg ?ho ?hn ?hr ?_; (case ho => rfl); (case hg => rfl); (case hn => rfl); (case hr => first | (go_simp; done) | (go_simp; rfl)); intro w41 hw; have hg : wr.grownBy w41 (some go27) := (by rw [hw]; exact HP40.2); have hp_ : Kd.R Kd.bool 4 w41 w.heap.size (fun k_ => some k_ ≠ (v307 : Value).ownBlock) (.slice (some ⟨go27, 0, none⟩) x6_2.length co27) y315 := (by rw [hw, Ny315.out]; exact HP40.1); clear HP40; have n0_ := Aside0.mk (Kd.S_over' (v := (.slice (some ⟨go27, 0, none⟩) x6_2.length co27)) (by (with_reducible repeat (first | apply Kd.qx0 | apply Kd.qw0 | apply Kd.qd1)); exact HO_3.out) (Kd.qy0 HO_6.out) (by decide) hg); have n1_ := Aside0.mk (Kd.qb1 (v := (.slice (some ⟨go27, 0, none⟩) x6_2.length co27)) (by (with_reducible repeat (first | apply Kd.qo0 | apply Kd.qn0 | apply Kd.qt0)); exact HO_4.out) (Kd.qy0 HO_6.out) (by decide) hg); have n2_ := Aside0.mk (Kd.R_after (v := (.slice (some ⟨go27, 0, none⟩) x6_2.length co27)) (v1 := (.slice (some ⟨go27, 0, none⟩) x6_2.length co27)) (ok := (fun _ => True)) (by (with_reducible repeat (first | apply Kd.qo0 | apply Kd.qn0 | apply Kd.qt0)); exact Kd.R_mono HO_5.out (fun _ hk => ⟨trivial, hk⟩)) hg (.inl rfl)); have n3_ := Aside0.mk (hp_); have n4_ := Aside0.mk (Kd.qb1 (v := (.slice (some ⟨go27, 0, none⟩) x6_2.length co27)) (by (with_reducible repeat (first | apply Kd.qo0 | apply Kd.qn0 | apply Kd.qt0)); exact HL312_3.out) (Kd.qy0 HO_6.out) (by decide) hg); have n5_ := Aside0.mk (Kd.qb1 (v := (.slice (some ⟨go27, 0, none⟩) x6_2.length co27)) (by (with_reducible repeat (first | apply Kd.qo0 | apply Kd.qn0 | apply Kd.qt0)); exact HL312_4.out) (Kd.qy0 HO_6.out) (by decide) hg); have n6_ := Aside0.mk (Kd.qb1 (v := (.slice (some ⟨go27, 0, none⟩) x6_2.length co27)) (by (with_reducible repeat (first | apply Kd.qo0 | apply Kd.qn0 | apply Kd.qt0)); exact HL313_3.out) (Kd.qy0 HO_6.out) (by decide) hg); have n7_ := Aside0.mk (Kd.qb1 (v := (.slice (some ⟨go27, 0, none⟩) x6_2.length co27)) (by (with_reducible repeat (first | apply Kd.qo0 | apply Kd.qn0 | apply Kd.qt0)); exact HL313_4.out) (Kd.qy0 HO_6.out) (by decide) hg); have n8_ := Aside0.mk ((by rw [hw]; exact qi0 (HB.out) GB27.out : Below w.heap.size w w41)); clear HO_3; clear HO_4; clear HO_5; clear HO_6; clear HL312_3; clear HL312_4; clear HL313_3; clear HL313_4; clear HB; have HO_3 := n0_; have HO_4 := n1_; have HO_5 := n2_; have HO_6 := n3_; have HL312_3 := n4_; have HL312_4 := n5_; have HL313_3 := n6_; have HL313_4 := n7_; have HB := n8_; clear n0_ n1_ n2_ n3_ n4_ n5_ n6_ n7_ n8_; clear hg hw hp_; have p316 : 0 ≤ (((rd_T54 ((rd_T52 t299 x7_1).f3) x8_2).f0) : Int) := of_decide_eq_true (by first | (with_reducible assumption) | assumption); have q316 : ((rd_T54 ((rd_T52 t299 x7_1).f3) x8_2).f0) < (t302.length : Int) := of_decide_eq_true (by first | (with_reducible assumption) | assumption); obtain ⟨ad316, e316, hx316_0⟩ := Kd.qq1 (Kd.qv0 HO_4.out).2.2 ((rd_T54 ((rd_T52 t299 x7_1).f3) x8_2).f0) p316 q316; cases e316; replace p316 := eq_true p316; replace q316 := eq_true q316; have p317 : 0 ≤ (x7_1 : Int) := of_decide_eq_true (by first | (with_reducible assumption) | assumption); have q317 : x7_1 < (t302.length : Int) := of_decide_eq_true (by first | (with_reducible assumption) | assumption); obtain ⟨ad317, e317, hx317_0⟩ := Kd.qq1 (Kd.qv0 HO_4.out).2.2 x7_1 p317 q317; obtain rfl : ad316 = ad317 := (by injection e317); replace p317 := eq_true p317; replace q317 := eq_true q317; have p318 : 0 ≤ (((rd_T54 ((rd_T52 t299 x7_1).f3) x8_2).f0) : Int) := of_decide_eq_true (by first | (with_reducible assumption) | assumption); have q318 : ((rd_T54 ((rd_T52 t299 x7_1).f3) x8_2).f0) < (t302.length : Int) := of_decide_eq_true (by first | (with_reducible assumption) | assumption); obtain ⟨ad318, e318, hx318_0⟩ := Kd.qq1 (Kd.qv0 HO_4.out).2.2 ((rd_T54 ((rd_T52 t299 x7_1).f3) x8_2).f0) p318 q318; obtain rfl : ad316 = ad318 := (by injection e318); replace p318 := eq_true p318; replace q318 := eq_true q318; have p319 : 0 ≤ (x7_1 : Int) := of_decide_eq_true (by first | (with_reducible assumption) | assumption); have q319 : x7_1 < (t302.length : Int) := of_decide_eq_true (by first | (with_reducible assumption) | assumption); obtain ⟨ad319, e319, hx319_0⟩ := Kd.qq1 (Kd.qv0 HO_4.out).2.2 x7_1 p319 q319; obtain rfl : ad316 = ad319 := (by injection e319); replace p319 := eq_true p319; replace q319 := eq_true q319))
         repeat (go_quiet (first | ((with_reducible refine gate_store (t := 4) (p := 61) rfl ?_); (try (rw [drewN_self wr]; generalize hq_ : World.drewN wr _ = wr; have n0_ := Aside0.mk (Kd.S_at hq_ HO_3.out); have n1_ := Aside0.mk (Kd.R_at hq_ HO_4.out); have n2_ := Aside0.mk (Kd.R_at hq_ HO_5.out); have n3_ := Aside0.mk (Kd.R_at hq_ HO_6.out); have n4_ := Aside0.mk (Kd.R_at hq_ HL312_3.out); have n5_ := Aside0.mk (Kd.R_at hq_ HL312_4.out); have n6_ := Aside0.mk (Kd.R_at hq_ HL313_3.out); have n7_ := Aside0.mk (Kd.R_at hq_ HL313_4.out); have n8_ := Aside0.mk (below_at hq_ HB.out); clear hq_ HO_3 HO_4 HO_5 HO_6 HL312_3 HL312_4 HL313_3 HL313_4 HB; have HO_3 := n0_; have HO_4 := n1_; have HO_5 := n2_; have HO_6 := n3_; have HL312_3 := n4_; have HL312_4 := n5_; have HL313_3 := n6_; have HL313_4 := n7_; have HB := n8_; clear n0_ n1_ n2_ n3_ n4_ n5_ n6_ n7_ n8_; (try (have HP40 := Kd.R_putg HO_6.out (((rd_T54 ((rd_T52 t299 x7_1).f3) x8_2).f0) : Int) true)); (try (obtain ⟨hx27_0, hf27_0⟩ := Kd.qv1 false HO_6.out (((rd_T54 ((rd_T52 t299 x7_1).f3) x8_2).f0) : Int) (of_eq_true p27) (of_eq_true q27))))); refine store_event (t := 4) (p := 61) (v := ?vo_w41) (w1 := (wr.setCell ⟨go27, (((rd_T54 ((rd_T52 t299 x7_1).f3) x8_2).f0) : Int).toNat, none⟩ (.bool true))) ?hg ?ho ?hn ?hr ?_; (case ho => rfl); (case hg => rfl); (case hn => rfl); (case hr => first | (go_simp; done) | (go_simp; rfl)); intro w41 hw; have hg : wr.grownBy w41 (some go27) := (by rw [hw]; exact HP40.2); have hp_ : Kd.R Kd.bool 4 w41 w.heap.size (fun k_ => some k_ ≠ (v307 : Value).ownBlock) (.slice (some ⟨go27, 0, none⟩) x6_2.length co27) y315 := (by rw [hw, Ny315.out]; exact HP40.1); clear HP40; have n0_ := Aside0.mk (Kd.S_over' (v := (.slice (some ⟨go27, 0, none⟩) x6_2.length co27)) (by (with_reducible repeat (first | apply Kd.qx0 | apply Kd.qw0 | apply Kd.qd1)); exact HO_3.out) (Kd.qy0 HO_6.out) (by decide) hg); have n1_ := Aside0.mk (Kd.qb1 (v := (.slice (some ⟨go27, 0, none⟩) x6_2.length co27)) (by (with_reducible repeat (first | apply Kd.qo0 | apply Kd.qn0 | apply Kd.qt0)); exact HO_4.out) (Kd.qy0 HO_6.out) (by decide) hg); have n2_ := Aside0.mk (Kd.R_after (v := (.slice (some ⟨go27, 0, none⟩) x6_2.length co27)) (v1 := (.slice (some ⟨go27, 0, none⟩) x6_2.length co27)) (ok := (fun _ => True)) (by (with_reducible repeat (first | apply Kd.qo0 | apply Kd.qn0 | apply Kd.qt0)); exact Kd.R_mono HO_5.out (fun _ hk => ⟨trivial, hk⟩)) hg (.inl rfl)); have n3_ := Aside0.mk (hp_); have n4_ := Aside0.mk (Kd.qb1 (v := (.slice (some ⟨go27, 0, none⟩) x6_2.length co27)) (by (with_reducible repeat (first | apply Kd.qo0 | apply Kd.qn0 | apply Kd.qt0)); exact HL312_3.out) (Kd.qy0 HO_6.out) (by decide) hg); have n5_ := Aside0.mk (Kd.qb1 (v := (.slice (some ⟨go27, 0, none⟩) x6_2.length co27)) (by (with_reducible repeat (first | apply Kd.qo0 | apply Kd.qn0 | apply Kd.qt0)); exact HL312_4.out) (Kd.qy0 HO_6.out) (by decide) hg); have n6_ := Aside0.mk (Kd.qb1 (v := (.slice (some ⟨go27, 0, none⟩) x6_2.length co27)) (by (with_reducible repeat (first | apply Kd.qo0 | apply Kd.qn0 | apply Kd.qt0)); exact HL313_3.out) (Kd.qy0 HO_6.out) (by decide) hg); have n7_ := Aside0.mk (Kd.qb1 (v := (.slice (some ⟨go27, 0, none⟩) x6_2.length co27)) (by (with_reducible repeat (first | apply Kd.qo0 | apply Kd.qn0 | apply Kd.qt0)); exact HL313_4.out) (Kd.qy0 HO_6.out) (by decide) hg); have n8_ := Aside0.mk ((by rw [hw]; exact qi0 (HB.out) GB27.out : Below w.heap.size w w41)); clear HO_3; clear HO_4; clear HO_5; clear HO_6; clear HL312_3; clear HL312_4; clear HL313_3; clear HL313_4; clear HB; have HO_3 := n0_; have HO_4 := n1_; have HO_5 := n2_; have HO_6 := n3_; have HL312_3 := n4_; have HL312_4 := n5_; have HL313_3 := n6_; have HL313_4 := n7_; have HB := n8_; clear n0_ n1_ n2_ n3_ n4_ n5_ n6_ n7_ n8_; clear hg hw hp_; have p316 : 0 ≤ (((rd_T54 ((rd_T52 t299 x7_1).f3) x8_2).f0) : Int) := of_decide_eq_true (by first | (with_reducible assumption) | assumption); have q316 : ((rd_T54 ((rd_T52 t299 x7_1).f3) x8_2).f0) < (t302.length : Int) := of_decide_eq_true (by first | (with_reducible assumption) | assumption); obtain ⟨ad316, e316, hx316_0⟩ := Kd.qq1 (Kd.qv0 HO_4.out).2.2 ((rd_T54 ((rd_T52 t299 x7_1).f3) x8_2).f0) p316 q316; cases e316; replace p316 := eq_true p316; replace q316 := eq_true q316; have p317 : 0 ≤ (x7_1 : Int) := of_decide_eq_true (by first | (with_reducible assumption) | assumption); have q317 : x7_1 < (t302.length : Int) := of_decide_eq_true (by first | (with_reducible assumption) | assumption); obtain ⟨ad317, e317, hx317_0⟩ := Kd.qq1 (Kd.qv0 HO_4.out).2.2 x7_1 p317 q317; obtain rfl : ad316 = ad317 := (by injection e317); replace p317 := eq_true p317; replace q317 := eq_true q317; have p318 : 0 ≤ (((rd_T54 ((rd_T52 t299 x7_1).f3) x8_2).f0) : Int) := of_decide_eq_true (by first | (with_reducible assumption) | assumption); have q318 : ((rd_T54 ((rd_T52 t299 x7_1).f3) x8_2).f0) < (t302.length : Int) := of_decide_eq_true (by first | (with_reducible assumption) | assumption); obtain ⟨ad318, e318, hx318_0⟩ := Kd.qq1 (Kd.qv0 HO_4.out).2.2 ((rd_T54 ((rd_T52 t299 x7_1).f3) x8_2).f0) p318 q318; obtain rfl : ad316 = ad318 := (by injection e318); replace p318 := eq_true p318; replace q318 := eq_true q318; have p319 : 0 ≤ (x7_1 : Int) := of_decide_eq_true (by first | (with_reducible assumption) | assumption); have q319 : x7_1 < (t302.length : Int) := of_decide_eq_true (by first | (with_reducible assumption) | assumption); obtain ⟨ad319, e319, hx319_0⟩ := Kd.qq1 (Kd.qv0 HO_4.out).2.2 x7_1 p319 q319; obtain rfl : ad316 = ad319 := (by injection e319); replace p319 := eq_true p319; replace q319 := eq_true q319)); try go_wp2_with (first | ((with_reducible refine gate_store (t := 4) (p := 61) rfl ?_); (try (rw [drewN_self wr]; generalize hq_ : World.drewN wr _ = wr; have n0_ := Aside0.mk (Kd.S_at hq_ HO_3.out); have n1_ := Aside0.mk (Kd.R_at hq_ HO_4.out); have n2_ := Aside0.mk (Kd.R_at hq_ HO_5.out); have n3_ := Aside0.mk (Kd.R_at hq_ HO_6.out); have n4_ := Aside0.mk (Kd.R_at hq_ HL312_3.out); have n5_ := Aside0.mk (Kd.R_at hq_ HL312_4.out); have n6_ := Aside0.mk (Kd.R_at hq_ HL313_3.out); have n7_ := Aside0.mk (Kd.R_at hq_ HL313_4.out); have n8_ := Aside0.mk (below_at hq_ HB.out); clear hq_ HO_3 HO_4 HO_5 HO_6 HL312_3 HL312_4 HL313_3 HL313_4 HB; have HO_3 := n0_; have HO_4 := n1_; have HO_5 := n2_; have HO_6 := n3_; have HL312_3 := n4_; have HL312_4 := n5_; have HL313_3 := n6_; have HL313_4 := n7_; have HB := n8_; clear n0_ n1_ n2_ n3_ n4_ n5_ n6_ n7_ n8_; (try (have HP40 := Kd.R_putg HO_6.out (((rd_T54 ((rd_T52 t299 x7_1).f3) x8_2).f0) : Int) true)); (try (obtain ⟨hx27_0, hf27_0⟩ := Kd.qv1 false HO_6.out (((rd_T54 ((rd_T52 t299 x7_1).f3) x8_2).f0) : Int) (of_eq_true p27) (of_eq_true q27))))); refine store_event (t := 4) (p := 61) (v := ?vo_w41) (w1 := (wr.setCell ⟨go27, (((rd_T54 ((rd_T52 t299 x7_1).f3) x8_2).f0) : Int).toNat, none⟩ (.bool true))) ?hg ?ho ?hn ?hr ?_; (case ho => rfl); (case hg => rfl); (case hn => rfl); (case hr => first | (go_simp; done) | (go_simp; rfl)); intro w41 hw; have hg : wr.grownBy w41 (some go27) := (by rw [hw]; exact HP40.2); have hp_ : Kd.R Kd.bool 4 w41 w.heap.size (fun k_ => some k_ ≠ (v307 : Value).ownBlock) (.slice (some ⟨go27, 0, none⟩) x6_2.length co27) y315 := (by rw [hw, Ny315.out]; exact HP40.1); clear HP40; have n0_ := Aside0.mk (Kd.S_over' (v := (.slice (some ⟨go27, 0, none⟩) x6_2.length co27)) (by (with_reducible repeat (first | apply Kd.qx0 | apply Kd.qw0 | apply Kd.qd1)); exact HO_3.out) (Kd.qy0 HO_6.out) (by decide) hg); have n1_ := Aside0.mk (Kd.qb1 (v := (.slice (some ⟨go27, 0, none⟩) x6_2.length co27)) (by (with_reducible repeat (first | apply Kd.qo0 | apply Kd.qn0 | apply Kd.qt0)); exact HO_4.out) (Kd.qy0 HO_6.out) (by decide) hg); have n2_ := Aside0.mk (Kd.R_after (v := (.slice (some ⟨go27, 0, none⟩) x6_2.length co27)) (v1 := (.slice (some ⟨go27, 0, none⟩) x6_2.length co27)) (ok := (fun _ => True)) (by (with_reducible repeat (first | apply Kd.qo0 | apply Kd.qn0 | apply Kd.qt0)); exact Kd.R_mono HO_5.out (fun _ hk => ⟨trivial, hk⟩)) hg (.inl rfl)); have n3_ := Aside0.mk (hp_); have n4_ := Aside0.mk (Kd.qb1 (v := (.slice (some ⟨go27, 0, none⟩) x6_2.length co27)) (by (with_reducible repeat (first | apply Kd.qo0 | apply Kd.qn0 | apply Kd.qt0)); exact HL312_3.out) (Kd.qy0 HO_6.out) (by decide) hg); have n5_ := Aside0.mk (Kd.qb1 (v := (.slice (some ⟨go27, 0, none⟩) x6_2.length co27)) (by (with_reducible repeat (first | apply Kd.qo0 | apply Kd.qn0 | apply Kd.qt0)); exact HL312_4.out) (Kd.qy0 HO_6.out) (by decide) hg); have n6_ := Aside0.mk (Kd.qb1 (v := (.slice (some ⟨go27, 0, none⟩) x6_2.length co27)) (by (with_reducible repeat (first | apply Kd.qo0 | apply Kd.qn0 | apply Kd.qt0)); exact HL313_3.out) (Kd.qy0 HO_6.out) (by decide) hg); have n7_ := Aside0.mk (Kd.qb1 (v := (.slice (some ⟨go27, 0, none⟩) x6_2.length co27)) (by (with_reducible repeat (first | apply Kd.qo0 | apply Kd.qn0 | apply Kd.qt0)); exact HL313_4.out) (Kd.qy0 HO_6.out) (by decide) hg); have n8_ := Aside0.mk ((by rw [hw]; exact qi0 (HB.out) GB27.out : Below w.heap.size w w41)); clear HO_3; clear HO_4; clear HO_5; clear HO_6; clear HL312_3; clear HL312_4; clear HL313_3; clear HL313_4; clear HB; have HO_3 := n0_; have HO_4 := n1_; have HO_5 := n2_; have HO_6 := n3_; have HL312_3 := n4_; have HL312_4 := n5_; have HL313_3 := n6_; have HL313_4 := n7_; have HB := n8_; clear n0_ n1_ n2_ n3_ n4_ n5_ n6_ n7_ n8_; clear hg hw hp_; have p316 : 0 ≤ (((rd_T54 ((rd_T52 t299 x7_1).f3) x8_2).f0) : Int) := of_decide_eq_true (by first | (with_reducible assumption) | assumption); have q316 : ((rd_T54 ((rd_T52 t299 x7_1).f3) x8_2).f0) < (t302.length : Int) := of_decide_eq_true (by first | (with_reducible assumption) | assumption); obtain ⟨ad316, e316, hx316_0⟩ := Kd.qq1 (Kd.qv0 HO_4.out).2.2 ((rd_T54 ((rd_T52 t299 x7_1).f3) x8_2).f0) p316 q316; cases e316; replace p316 := eq_true p316; replace q316 := eq_true q316; have p317 : 0 ≤ (x7_1 : Int) := of_decide_eq_true (by first | (with_reducible assumption) | assumption); have q317 : x7_1 < (t302.length : Int) := of_decide_eq_true (by first | (with_reducible assumption) | assumption); obtain ⟨ad317, e317, hx317_0⟩ := Kd.qq1 (Kd.qv0 HO_4.out).2.2 x7_1 p317 q317; obtain rfl : ad316 = ad317 := (by injection e317); replace p317 := eq_true p317; replace q317 := eq_true q317; have p318 : 0 ≤ (((rd_T54 ((rd_T52 t299 x7_1).f3) x8_2).f0) : Int) := of_decide_eq_true (by first | (with_reducible assumption) | assumption); have q318 : ((rd_T54 ((rd_T52 t299 x7_1).f3) x8_2).f0) < (t302.length : Int) := of_decide_eq_true (by first | (with_reducible assumption) | assumption); obtain ⟨ad318, e318, hx318_0⟩ := Kd.qq1 (Kd.qv0 HO_4.out).2.2 ((rd_T54 ((rd_T52 t299 x7_1).f3) x8_2).f0) p318 q318; obtain rfl : ad316 = ad318 := (by injection e318); replace p318 := eq_true p318; replace q318 := eq_true q318; have p319 : 0 ≤ (x7_1 : Int) := of_decide_eq_true (by first | (with_reducible assumption) | assumption); have q319 : x7_1 < (t302.length : Int) := of_decide_eq_true (by first | (with_reducible assumption) | assumption); obtain ⟨ad319, e319, hx319_0⟩ := Kd.qq1 (Kd.qv0 HO_4.out).2.2 x7_1 p319 q319; obtain rfl : ad316 = ad319 := (by injection e319); replace p319 := eq_true p319; replace q319 := eq_true q319)))
         go_roundg k2
         case measure => have := HK1.out; have := HK2.out; omega
         case rel => exact ⟨(x5_2), (y315), (wrap64 (x8_2 + 1)), (by first | rfl | (simp; done) | (simp [*]; done)), H', ⟨by have := HK1.out; have := HK2.out; omega⟩, ⟨by (with_reducible repeat (first | apply Kd.qx0 | apply Kd.qw0 | apply Kd.qd1)); exact HO_3.out⟩, ⟨by (with_reducible repeat (first | apply Kd.qo0 | apply Kd.qn0 | apply Kd.qt0)); exact HO_4.out⟩, ⟨by (with_reducible repeat (first | apply Kd.qo0 | apply Kd.qn0 | apply Kd.qt0)); exact Kd.R_mono HO_5.out (fun _ hk => hk.2)⟩, ⟨by (with_reducible repeat (first | apply Kd.qo0 | apply Kd.qn0 | apply Kd.qt0)); exact HO_6.out⟩, ⟨by repeat (first | (with_reducible first | exact HB.out | apply qc0 | apply qa0 | apply qd0) | exact HB.out)⟩⟩
        rw [if_neg c23] at H
        have c23b0 : decide (x8_2 < (((rd_T52 t299 x7_1).f3).length : Int)) = false := decide_eq_false c23
        clear c23
        have H' := Aside0.mk H
        clear H
        have p312 : 0 ≤ (x7_1 : Int) := of_decide_eq_true (by first | (with_reducible assumption) | assumption)
        have q312 : x7_1 < (t299.length : Int) := of_decide_eq_true (by first | (with_reducible assumption) | assumption)
        obtain ⟨ad312, A312_3, c312_3, A312_4, c312_4, e312, hx312_0, hx312_1, hx312_2, hx312_3, hx312_4, hl312_3, hi312_3, hl312_4, hi312_4⟩ := at_T52 (Kd.qa1 HO_3.out).2.2 x7_1 p312 q312
        cases e312
        obtain ⟨ce312, hce312, hMe312, hcc312⟩ := Kd.S_get HO_3.out z52 x7_1 p312 (by first | exact q312 | exact of_decide_eq_true (by first | (with_reducible assumption) | assumption) | (have e_ := (Kd.qa1 HO_3.out).1; omega))
        obtain ⟨ve312_3, ve312_4, rfl, ge312_3, ge312_4⟩ := k52_openM hMe312
        have hv312_3 := hcc312 3 _ rfl
        rw [qp1 _ _ 3 (by omega)] at hv312_3
        replace hv312_3 := Option.some.inj (hv312_3.symm.trans hx312_3)
        rw [hv312_3] at ge312_3
        have HL312_3 := Aside0.mk (show Kd.R k54 54 _ _ _ _ ((rd_T52 t299 x7_1).f3) from ge312_3)
        clear hv312_3 ge312_3
        have hv312_4 := hcc312 4 _ rfl
        rw [qp1 _ _ 4 (by omega)] at hv312_4
        replace hv312_4 := Option.some.inj (hv312_4.symm.trans hx312_4)
        rw [hv312_4] at ge312_4
        have HL312_4 := Aside0.mk (show Kd.R k54 54 _ _ _ _ ((rd_T52 t299 x7_1).f4) from ge312_4)
        clear hv312_4 ge312_4
        clear hcc312 hce312
        have HR312_3 := Aside0.mk hi312_3
        have HC312_3 := Aside0.mk hl312_3
        clear hi312_3 hl312_3
        have HR312_4 := Aside0.mk hi312_4
        have HC312_4 := Aside0.mk hl312_4
        clear hi312_4 hl312_4
        replace p312 := eq_true p312
        replace q312 := eq_true q312
        go_wp2
        repeat (go_quiet (fail); try go_wp2)
        go_roundg k2
        case measure => have := HK1.out; have := HK2.out; omega
        case rel => exact ⟨(x5_2), (x6_2), (wrap64 (x7_1 + 1)), (by first | rfl | (simp; done) | (simp [*]; done)), H', ⟨by have := HK1.out; have := HK2.out; omega⟩, ⟨by (with_reducible repeat (first | apply Kd.qx0 | apply Kd.qw0 | apply Kd.qd1)); exact HO_3.out⟩, ⟨by (with_reducible repeat (first | apply Kd.qo0 | apply Kd.qn0 | apply Kd.qt0)); exact HO_4.out⟩, ⟨by (with_reducible repeat (first | apply Kd.qo0 | apply Kd.qn0 | apply Kd.qt0)); exact HO_5.out⟩, ⟨by (with_reducible repeat (first | apply Kd.qo0 | apply Kd.qn0 | apply Kd.qt0)); exact HO_6.out⟩, ⟨by repeat (first | (with_reducible first | exact HB.out | apply qc0 | apply qa0 | apply qd0) | exact HB.out)⟩⟩
     rw [if_neg c20] at H
     have c20b0 : decide (x7_1 < (t299.length : Int)) = false := decide_eq_false c20
     clear c20
     have H' := Aside0.mk H
     clear H
     go_wp2
     repeat (go_quiet (fail); try go_wp2)
     go_loopg [10] k1 (fun kq v10 w' => ∃ (x10_2 : Int), v10 = .int .i64 x10_2 ∧ Aside0 (laws_FnLevelled.l2 kq t299 t302 x5_1 x6_1 x10_2 = some r) ∧ Aside0 (kq ≤ k1) ∧ Aside0 (Kd.S k52 52 w' w.heap.size (fun _ => True) (.slice Ao12 t299.length co12) t299) ∧ Aside0 (Kd.R (Kd.int .i64) 3 w' w.heap.size (fun _ => True) (.slice Ao15 t302.length co15) t302) ∧ Aside0 (Kd.R Kd.bool 4 w' w.heap.size (fun k_ => some k_ ≠ (v310 : Value).ownBlock) v307 x5_1) ∧ Aside0 (Kd.R Kd.bool 4 w' w.heap.size (fun k_ => some k_ ≠ (v307 : Value).ownBlock) v310 x6_1) ∧ Aside0 (Below w.heap.size w w'))
     case atStart => exact ⟨(0), (by first | rfl | (simp; done) | (simp [*]; done)), H', ⟨Nat.le_refl _⟩, ⟨by (with_reducible repeat (first | apply Kd.qx0 | apply Kd.qw0 | apply Kd.qd1)); exact HO_3.out⟩, ⟨by (with_reducible repeat (first | apply Kd.qo0 | apply Kd.qn0 | apply Kd.qt0)); exact HO_4.out⟩, ⟨by (with_reducible repeat (first | apply Kd.qo0 | apply Kd.qn0 | apply Kd.qt0)); exact HO_5.out⟩, ⟨by (with_reducible repeat (first | apply Kd.qo0 | apply Kd.qn0 | apply Kd.qt0)); exact HO_6.out⟩, ⟨by repeat (first | (with_reducible first | exact HB.out | apply qc0 | apply qa0 | apply qd0) | exact HB.out)⟩⟩
     case round =>
      clear H'
      try clear c1
      try clear c2
      try clear p2
      try clear q2
      try clear hx2
      try clear hf2
      try clear c3
      try clear p3
      try clear q3
      try clear hx3
      try clear hf3
      try clear c6
      try clear p6
      try clear c7
      try clear c8
      try clear c8b0
      try clear c8b1
      try clear c8b2
      try clear c9
      try clear c9b0
      try clear c9b1
      try clear c10
      try clear c10b0
      try clear c10b1
      try clear c20
      try clear c20b0
      try clear c21
      try clear c21b0
      try clear c22
      try clear c22b0
      try clear c23
      try clear c23b0
      try clear c24
      try clear c24b0
      try clear c25
      try clear c25b0
      try clear c26
      try clear c26b0
      try clear p27
      try clear q27
      try clear hx27
      try clear hf27
      try clear c28
      try clear c28b0
      try clear c29
      try clear c29b0
      try clear c30
      try clear c30b0
      try clear c31
      try clear p31
      try clear q31
      try clear hx31
      try clear c33
      try clear c33b0
      try clear c33b1
      try clear c34
      try clear c34b0
      try clear p35
      try clear q35
      try clear hx35
      try clear hf35
      try clear hx27_0
      try clear hx312_0
      try clear hx312_1
      try clear hx312_2
      try clear hx312_3
      try clear hx312_4
      try clear hx313_0
      try clear hx313_1
      try clear hx313_2
      try clear hx313_3
      try clear hx313_4
      try clear hx314_0
      try clear hx314_1
      try clear hx314_2
      try clear hx314_3
      try clear hx314_4
      try clear hx314_5
      try clear hx316_0
      try clear hx317_0
      try clear hx318_0
      try clear hx319_0
      try clear hx35_0
      try clear p2
      try clear p27
      try clear p312
      try clear p313
      try clear p314
      try clear p316
      try clear p317
      try clear p318
      try clear p319
      try clear p35
      try clear q27
      try clear q312
      try clear q313
      try clear q314
      try clear q316
      try clear q317
      try clear q318
      try clear q319
      try clear q35
      obtain ⟨x10_2, rfl, HA, HK2, HO_3, HO_4, HO_5, HO_6, HB⟩ := hrel
      cases gk with
      | zero => exact absurd HA.out (by simp [laws_FnLevelled.l2])
      | succ k2 =>
       have H := HA.out
       clear HA
       simp only [laws_FnLevelled.l2] at H
       by_cases c42 : x10_2 < (t299.length : Int)
       ·rw [if_pos c42] at H
        have c42b0 : decide (x10_2 < (t299.length : Int)) = true := decide_eq_true c42
        clear c42
        by_cases c43 : 0 ≤ x10_2
        case neg => rw [if_neg c43] at H; exact absurd H (by simp)
        rw [if_pos c43] at H
        have c43b0 : decide (0 ≤ x10_2) = true := decide_eq_true c43
        clear c43
        by_cases c44 : x10_2 < (x6_1.length : Int)
        case neg => rw [if_neg c44] at H; exact absurd H (by simp)
        rw [if_pos c44] at H
        have c44b0 : decide (x10_2 < (x6_1.length : Int)) = true := decide_eq_true c44
        clear c44
        by_cases c45 : x10_2 < (x5_1.length : Int)
        case neg => rw [if_neg c45] at H; exact absurd H (by simp)
        rw [if_pos c45] at H
        have c45b0 : decide (x10_2 < (x5_1.length : Int)) = true := decide_eq_true c45
        clear c45
        by_cases c46 : ((rdOf false x6_1 x10_2) != (rdOf false x5_1 x10_2)) = true
        ·rw [if_pos c46] at H
         have c46b0 : ((rdOf false x6_1 x10_2) != (rdOf false x5_1 x10_2)) = true := c46
         (try (have c46b1 : decide ((rdOf false x6_1 x10_2) = (rdOf false x5_1 x10_2)) = false := by simpa using c46))
         (try (have c46b2 : ((rdOf false x6_1 x10_2) == (rdOf false x5_1 x10_2)) = false := by simpa using c46))
         (try (have c46b3 : ¬ ((rdOf false x6_1 x10_2) = (rdOf false x5_1 x10_2)) := by simpa using c46))
         clear c46
         obtain rfl := Option.some.inj H
         obtain ⟨Ao47, co47, eo47⟩ := Kd.qm1 HO_6.out
         subst eo47
         have p321 : 0 ≤ (x10_2 : Int) := of_decide_eq_true (by first | (with_reducible assumption) | assumption)
         have q321 : x10_2 < (x6_1.length : Int) := of_decide_eq_true (by first | (with_reducible assumption) | assumption)
         obtain ⟨ad321, e321, hx321_0⟩ := Kd.at_bool (Kd.qv0 HO_6.out).2.2 x10_2 p321 q321
         cases e321
         replace p321 := eq_true p321
         replace q321 := eq_true q321
         obtain ⟨Ao48, co48, eo48⟩ := Kd.qm1 HO_5.out
         subst eo48
         have p322 : 0 ≤ (x10_2 : Int) := of_decide_eq_true (by first | (with_reducible assumption) | assumption)
         have q322 : x10_2 < (x5_1.length : Int) := of_decide_eq_true (by first | (with_reducible assumption) | assumption)
         obtain ⟨ad322, e322, hx322_0⟩ := Kd.at_bool (Kd.qv0 HO_5.out).2.2 x10_2 p322 q322
         cases e322
         replace p322 := eq_true p322
         replace q322 := eq_true q322
         go_wp2
         repeat (go_quiet (fail); try go_wp2)
         go_ret
         exact ⟨by first | rfl | (simp [errW_none, errW_some] <;> rfl) | (simp [*, errW_none, errW_some] <;> rfl), by repeat (first | (with_reducible first | exact HB.out | apply qc0 | apply qa0 | apply qd0) | exact HB.out)⟩
        rw [if_neg c46] at H
        have c46b0 : ((rdOf false x6_1 x10_2) != (rdOf false x5_1 x10_2)) = false := by simpa using c46
        (try (have c46b1 : decide ((rdOf false x6_1 x10_2) = (rdOf false x5_1 x10_2)) = true := by simpa using c46))
        (try (have c46b2 : ((rdOf false x6_1 x10_2) == (rdOf false x5_1 x10_2)) = true := by simpa using c46))
        clear c46
        obtain ⟨bq49, hbq49⟩ : ∃ b_ : Bool, b_ = (rdOf false x6_1 x10_2) := ⟨_, rfl⟩
        replace H : (if bq49 = true then (laws_FnLevelled.l2 k2 t299 t302 x5_1 x6_1 (wrap64 (x10_2 + 1))) else (if x10_2 < (t302.length : Int) then (if (rd t302 x10_2) = 0 then (laws_FnLevelled.l2 k2 t299 t302 x5_1 x6_1 (wrap64 (x10_2 + 1))) else (some false)) else (none))) = some r := by rw [← hbq49] at H; exact H
        have Nbq49 := Aside0.mk hbq49
        clear hbq49
        by_cases c50 : bq49 = true
        ·subst c50
         have H1 : (laws_FnLevelled.l2 k2 t299 t302 x5_1 x6_1 (wrap64 (x10_2 + 1))) = some r := by rw [if_pos rfl] at H; exact H
         clear H
         have H := H1
         clear H1
         have H' := Aside0.mk H
         clear H
         obtain ⟨Ao51, co51, eo51⟩ := Kd.qm1 HO_6.out
         subst eo51
         have p321 : 0 ≤ (x10_2 : Int) := of_decide_eq_true (by first | (with_reducible assumption) | assumption)
         have q321 : x10_2 < (x6_1.length : Int) := of_decide_eq_true (by first | (with_reducible assumption) | assumption)
         obtain ⟨ad321, e321, hx321_0⟩ := Kd.at_bool (Kd.qv0 HO_6.out).2.2 x10_2 p321 q321
         (try rw [← Nbq49.out] at hx321_0)
         cases e321
         replace p321 := eq_true p321
         replace q321 := eq_true q321
         obtain ⟨Ao52, co52, eo52⟩ := Kd.qm1 HO_5.out
         subst eo52
         have p322 : 0 ≤ (x10_2 : Int) := of_decide_eq_true (by first | (with_reducible assumption) | assumption)
         have q322 : x10_2 < (x5_1.length : Int) := of_decide_eq_true (by first | (with_reducible assumption) | assumption)
         obtain ⟨ad322, e322, hx322_0⟩ := Kd.at_bool (Kd.qv0 HO_5.out).2.2 x10_2 p322 q322
         (have e_ : (rdOf false x6_1 x10_2) = (rdOf false x5_1 x10_2) := by simpa using c46b0); (rw [← e_, ← Nbq49.out] at hx322_0); clear e_
         cases e322
         replace p322 := eq_true p322
         replace q322 := eq_true q322
         have p323 : 0 ≤ (x10_2 : Int) := of_decide_eq_true (by first | (with_reducible assumption) | assumption)
         have q323 : x10_2 < (x6_1.length : Int) := of_decide_eq_true (by first | (with_reducible assumption) | assumption)
         obtain ⟨ad323, e323, hx323_0⟩ := Kd.at_bool (Kd.qv0 HO_6.out).2.2 x10_2 p323 q323
         (try rw [← Nbq49.out] at hx323_0)
         obtain rfl : ad321 = ad323 := (by injection e323)
         replace p323 := eq_true p323
         replace q323 := eq_true q323
         go_wp2
         repeat (go_quiet (fail); try go_wp2)
         go_roundg k2
         case measure => have := HK1.out; have := HK2.out; omega
         case rel => exact ⟨(wrap64 (x10_2 + 1)), (by first | rfl | (simp; done) | (simp [*]; done)), H', ⟨by have := HK1.out; have := HK2.out; omega⟩, ⟨by (with_reducible repeat (first | apply Kd.qx0 | apply Kd.qw0 | apply Kd.qd1)); exact HO_3.out⟩, ⟨by (with_reducible repeat (first | apply Kd.qo0 | apply Kd.qn0 | apply Kd.qt0)); exact HO_4.out⟩, ⟨by (with_reducible repeat (first | apply Kd.qo0 | apply Kd.qn0 | apply Kd.qt0)); exact HO_5.out⟩, ⟨by (with_reducible repeat (first | apply Kd.qo0 | apply Kd.qn0 | apply Kd.qt0)); exact HO_6.out⟩, ⟨by repeat (first | (with_reducible first | exact HB.out | apply qc0 | apply qa0 | apply qd0) | exact HB.out)⟩⟩
        replace c50 := Bool.eq_false_iff.mpr c50
        subst c50
        have H1 : (if x10_2 < (t302.length : Int) then (if (rd t302 x10_2) = 0 then (laws_FnLevelled.l2 k2 t299 t302 x5_1 x6_1 (wrap64 (x10_2 + 1))) else (some false)) else (none)) = some r := by rw [if_neg (show ¬ (false = true) by decide)] at H; exact H
        clear H
        have H := H1
        clear H1
        by_cases c53 : x10_2 < (t302.length : Int)
        case neg => rw [if_neg c53] at H; exact absurd H (by simp)
        rw [if_pos c53] at H
        have c53b0 : decide (x10_2 < (t302.length : Int)) = true := decide_eq_true c53
        clear c53
        by_cases c54 : (rd t302 x10_2) = 0
        ·rw [if_pos c54] at H
         have c54b0 : ((rd t302 x10_2) == 0) = true := beq_iff_eq.mpr c54
         have c54b1 : ((rd t302 x10_2) != 0) = false := bne_eq_false_iff_eq.mpr c54
         clear c54
         have H' := Aside0.mk H
         clear H
         obtain ⟨Ao55, co55, eo55⟩ := Kd.qm1 HO_6.out
         subst eo55
         have p321 : 0 ≤ (x10_2 : Int) := of_decide_eq_true (by first | (with_reducible assumption) | assumption)
         have q321 : x10_2 < (x6_1.length : Int) := of_decide_eq_true (by first | (with_reducible assumption) | assumption)
         obtain ⟨ad321, e321, hx321_0⟩ := Kd.at_bool (Kd.qv0 HO_6.out).2.2 x10_2 p321 q321
         (try rw [← Nbq49.out] at hx321_0)
         cases e321
         replace p321 := eq_true p321
         replace q321 := eq_true q321
         obtain ⟨Ao56, co56, eo56⟩ := Kd.qm1 HO_5.out
         subst eo56
         have p322 : 0 ≤ (x10_2 : Int) := of_decide_eq_true (by first | (with_reducible assumption) | assumption)
         have q322 : x10_2 < (x5_1.length : Int) := of_decide_eq_true (by first | (with_reducible assumption) | assumption)
         obtain ⟨ad322, e322, hx322_0⟩ := Kd.at_bool (Kd.qv0 HO_5.out).2.2 x10_2 p322 q322
         (have e_ : (rdOf false x6_1 x10_2) = (rdOf false x5_1 x10_2) := by simpa using c46b0); (rw [← e_, ← Nbq49.out] at hx322_0); clear e_
         cases e322
         replace p322 := eq_true p322
         replace q322 := eq_true q322
         have p323 : 0 ≤ (x10_2 : Int) := of_decide_eq_true (by first | (with_reducible assumption) | assumption)
         have q323 : x10_2 < (x6_1.length : Int) := of_decide_eq_true (by first | (with_reducible assumption) | assumption)
         obtain ⟨ad323, e323, hx323_0⟩ := Kd.at_bool (Kd.qv0 HO_6.out).2.2 x10_2 p323 q323
         (try rw [← Nbq49.out] at hx323_0)
         obtain rfl : ad321 = ad323 := (by injection e323)
         replace p323 := eq_true p323
         replace q323 := eq_true q323
         have p324 : 0 ≤ (x10_2 : Int) := of_decide_eq_true (by first | (with_reducible assumption) | assumption)
         have q324 : x10_2 < (t302.length : Int) := of_decide_eq_true (by first | (with_reducible assumption) | assumption)
         obtain ⟨ad324, e324, hx324_0⟩ := Kd.qq1 (Kd.qv0 HO_4.out).2.2 x10_2 p324 q324
         cases e324
         replace p324 := eq_true p324
         replace q324 := eq_true q324
         go_wp2
         repeat (go_quiet (fail); try go_wp2)
         go_roundg k2
         case measure => have := HK1.out; have := HK2.out; omega
         case rel => exact ⟨(wrap64 (x10_2 + 1)), (by first | rfl | (simp; done) | (simp [*]; done)), H', ⟨by have := HK1.out; have := HK2.out; omega⟩, ⟨by (with_reducible repeat (first | apply Kd.qx0 | apply Kd.qw0 | apply Kd.qd1)); exact HO_3.out⟩, ⟨by (with_reducible repeat (first | apply Kd.qo0 | apply Kd.qn0 | apply Kd.qt0)); exact HO_4.out⟩, ⟨by (with_reducible repeat (first | apply Kd.qo0 | apply Kd.qn0 | apply Kd.qt0)); exact HO_5.out⟩, ⟨by (with_reducible repeat (first | apply Kd.qo0 | apply Kd.qn0 | apply Kd.qt0)); exact HO_6.out⟩, ⟨by repeat (first | (with_reducible first | exact HB.out | apply qc0 | apply qa0 | apply qd0) | exact HB.out)⟩⟩
        rw [if_neg c54] at H
        have c54b0 : ((rd t302 x10_2) == 0) = false := beq_eq_false_iff_ne.mpr c54
        have c54b1 : ((rd t302 x10_2) != 0) = true := bne_iff_ne.mpr c54
        obtain rfl := Option.some.inj H
        obtain ⟨Ao57, co57, eo57⟩ := Kd.qm1 HO_6.out
        subst eo57
        have p321 : 0 ≤ (x10_2 : Int) := of_decide_eq_true (by first | (with_reducible assumption) | assumption)
        have q321 : x10_2 < (x6_1.length : Int) := of_decide_eq_true (by first | (with_reducible assumption) | assumption)
        obtain ⟨ad321, e321, hx321_0⟩ := Kd.at_bool (Kd.qv0 HO_6.out).2.2 x10_2 p321 q321
        (try rw [← Nbq49.out] at hx321_0)
        cases e321
        replace p321 := eq_true p321
        replace q321 := eq_true q321
        obtain ⟨Ao58, co58, eo58⟩ := Kd.qm1 HO_5.out
        subst eo58
        have p322 : 0 ≤ (x10_2 : Int) := of_decide_eq_true (by first | (with_reducible assumption) | assumption)
        have q322 : x10_2 < (x5_1.length : Int) := of_decide_eq_true (by first | (with_reducible assumption) | assumption)
        obtain ⟨ad322, e322, hx322_0⟩ := Kd.at_bool (Kd.qv0 HO_5.out).2.2 x10_2 p322 q322
        (have e_ : (rdOf false x6_1 x10_2) = (rdOf false x5_1 x10_2) := by simpa using c46b0); (rw [← e_, ← Nbq49.out] at hx322_0); clear e_
        cases e322
        replace p322 := eq_true p322
        replace q322 := eq_true q322
        have p323 : 0 ≤ (x10_2 : Int) := of_decide_eq_true (by first | (with_reducible assumption) | assumption)
        have q323 : x10_2 < (x6_1.length : Int) := of_decide_eq_true (by first | (with_reducible assumption) | assumption)
        obtain ⟨ad323, e323, hx323_0⟩ := Kd.at_bool (Kd.qv0 HO_6.out).2.2 x10_2 p323 q323
        (try rw [← Nbq49.out] at hx323_0)
        obtain rfl : ad321 = ad323 := (by injection e323)
        replace p323 := eq_true p323
        replace q323 := eq_true q323
        have p324 : 0 ≤ (x10_2 : Int) := of_decide_eq_true (by first | (with_reducible assumption) | assumption)
        have q324 : x10_2 < (t302.length : Int) := of_decide_eq_true (by first | (with_reducible assumption) | assumption)
        obtain ⟨ad324, e324, hx324_0⟩ := Kd.qq1 (Kd.qv0 HO_4.out).2.2 x10_2 p324 q324
        cases e324
        replace p324 := eq_true p324
        replace q324 := eq_true q324
        go_wp2
        repeat (go_quiet (fail); try go_wp2)
        go_ret
        exact ⟨by first | rfl | (simp [errW_none, errW_some] <;> rfl) | (simp [*, errW_none, errW_some] <;> rfl), by repeat (first | (with_reducible first | exact HB.out | apply qc0 | apply qa0 | apply qd0) | exact HB.out)⟩
       rw [if_neg c42] at H
       have c42b0 : decide (x10_2 < (t299.length : Int)) = false := decide_eq_false c42
       clear c42
       obtain rfl := Option.some.inj H
       go_wp2
       repeat (go_quiet (fail); try go_wp2)
       go_ret
       exact ⟨by first | rfl | (simp [errW_none, errW_some] <;> rfl) | (simp [*, errW_none, errW_some] <;> rfl), by repeat (first | (with_reducible first | exact HB.out | apply qc0 | apply qa0 | apply qd0) | exact HB.out)⟩
  rw [if_neg c8] at H
  have c8b0 : ((t302.length : Int) == (t299.length : Int)) = false := beq_eq_false_iff_ne.mpr c8
  have c8b1 : ((t302.length : Int) != (t299.length : Int)) = true := bne_iff_ne.mpr c8
  have c8b2 : (t302.length == t299.length) = false := by first | simpa using c8 | (simp at c8 ⊢; omega)
  obtain rfl := Option.some.inj H
  go_enter Try.func6, Try.ntmps6
  go_wp2_with (first | (go_at_call 12; (with_reducible refine (laws_big.calls _ _ l0 false _ ?side1 ?side2 A2.out).mono ?_); (case side1 => repeat (first | exact HR0.out | (with_reducible refine Kd.qj1 ?_ _) | (with_reducible refine Kd.qi1 ?_ _) | (with_reducible refine Kd.qn1 ?_))); (case side2 => exact HC0.out); rintro e w' ⟨rfl, ⟨nd, rfl⟩⟩; (try first | exact ⟨rfl, _, World.drewN_drewN _ _ _⟩ | exact ⟨rfl, _, Eq.trans (World.drewN_drewN _ _ _) (congrArg (World.drewN _) (Nat.add_assoc _ _ _))⟩)) | (go_at_call 25; (with_reducible refine (spec_DrawLevels.calls k _ _ l0 t299 _ ?side1 ?side2 A4.out).mono ?_); (case side1 => repeat (first | exact HR0.out | (with_reducible refine Kd.qj1 ?_ _) | (with_reducible refine Kd.qi1 ?_ _) | (with_reducible refine Kd.qn1 ?_))); (case side2 => exact HC0.out); rintro e w59 ⟨v300, rfl, ho0, hb⟩; have n0_ := Aside0.mk (Kd.S_lower ho0 (qm0 (by repeat (first | (with_reducible first | exact HB.out | apply qc0 | apply qa0 | apply qd0) | exact HB.out)))); have n1_ := Aside0.mk (qk0 (by repeat (first | (with_reducible first | exact HB.out | apply qc0 | apply qa0 | apply qd0) | exact HB.out)) hb); clear HB; have HO301 := n0_; have HB := n1_; clear n0_ n1_; (try clear hb); (try clear hb2); (try clear hk); (try clear hi); (try clear ho0); obtain ⟨Ao60, co60, eo60⟩ := Kd.S_slice HO301.out; subst eo60) | (go_at_call 26; (with_reducible refine (impl_Levels.calls k _ _ t299 t302 _ ?side1 ?side2 A5.out).mono ?_); (case side1 => repeat (first | exact (Kd.qa1 HO301.out).2.2 | (with_reducible refine Kd.qj1 ?_ _) | (with_reducible refine Kd.qi1 ?_ _) | (with_reducible refine Kd.qn1 ?_))); (case side2 => exact (Kd.qa1 HO301.out).2.1); rintro e w61 ⟨v303, rfl, ho0, hb⟩; have n0_ := Aside0.mk (Kd.qr1 (by (with_reducible repeat (first | apply Kd.qx0 | apply Kd.qw0 | apply Kd.qd1)); exact HO301.out) hb); have n1_ := Aside0.mk (Kd.qw1 ho0 (qm0 (by repeat (first | (with_reducible first | exact HB.out | apply qc0 | apply qa0 | apply qd0) | exact HB.out)))); have n2_ := Aside0.mk (qk0 (by repeat (first | (with_reducible first | exact HB.out | apply qc0 | apply qa0 | apply qd0) | exact HB.out)) hb); clear HO301; clear HB; have HO301 := n0_; have HO304 := n1_; have HB := n2_; clear n0_ n1_ n2_; (try clear hb); (try clear hb2); (try clear hk); (try clear hi); (try clear ho0)) | (go_at_call 27; (with_reducible refine (spec_ItemsOk.calls k _ _ t299 true _ ?side1 ?side2 A6.out).mono ?_); (case side1 => repeat (first | exact (Kd.qa1 HO301.out).2.2 | (with_reducible refine Kd.qj1 ?_ _) | (with_reducible refine Kd.qi1 ?_ _) | (with_reducible refine Kd.qn1 ?_))); (case side2 => exact (Kd.qa1 HO301.out).2.1); rintro e w62 ⟨rfl, hb⟩; have n0_ := Aside0.mk (Kd.qr1 (by (with_reducible repeat (first | apply Kd.qx0 | apply Kd.qw0 | apply Kd.qd1)); exact HO301.out) hb); have n1_ := Aside0.mk (Kd.qs1 (by (with_reducible repeat (first | apply Kd.qo0 | apply Kd.qn0 | apply Kd.qt0)); exact HO304.out) hb); have n2_ := Aside0.mk (qk0 (by repeat (first | (with_reducible first | exact HB.out | apply qc0 | apply qa0 | apply qd0) | exact HB.out)) hb); clear HO301; clear HO304; clear HB; have HO301 := n0_; have HO304 := n1_; have HB := n2_; clear n0_ n1_ n2_; (try clear hb); (try clear hb2); (try clear hk); (try clear hi); obtain ⟨Ao63, co63, eo63⟩ := Kd.qm1 HO304.out; subst eo63))
  repeat (go_quiet (first | (go_at_call 12; (with_reducible refine (laws_big.calls _ _ l0 false _ ?side1 ?side2 A2.out).mono ?_); (case side1 => repeat (first | exact HR0.out | (with_reducible refine Kd.qj1 ?_ _) | (with_reducible refine Kd.qi1 ?_ _) | (with_reducible refine Kd.qn1 ?_))); (case side2 => exact HC0.out); rintro e w' ⟨rfl, ⟨nd, rfl⟩⟩; (try first | exact ⟨rfl, _, World.drewN_drewN _ _ _⟩ | exact ⟨rfl, _, Eq.trans (World.drewN_drewN _ _ _) (congrArg (World.drewN _) (Nat.add_assoc _ _ _))⟩)) | (go_at_call 25; (with_reducible refine (spec_DrawLevels.calls k _ _ l0 t299 _ ?side1 ?side2 A4.out).mono ?_); (case side1 => repeat (first | exact HR0.out | (with_reducible refine Kd.qj1 ?_ _) | (with_reducible refine Kd.qi1 ?_ _) | (with_reducible refine Kd.qn1 ?_))); (case side2 => exact HC0.out); rintro e w59 ⟨v300, rfl, ho0, hb⟩; have n0_ := Aside0.mk (Kd.S_lower ho0 (qm0 (by repeat (first | (with_reducible first | exact HB.out | apply qc0 | apply qa0 | apply qd0) | exact HB.out)))); have n1_ := Aside0.mk (qk0 (by repeat (first | (with_reducible first | exact HB.out | apply qc0 | apply qa0 | apply qd0) | exact HB.out)) hb); clear HB; have HO301 := n0_; have HB := n1_; clear n0_ n1_; (try clear hb); (try clear hb2); (try clear hk); (try clear hi); (try clear ho0); obtain ⟨Ao60, co60, eo60⟩ := Kd.S_slice HO301.out; subst eo60) | (go_at_call 26; (with_reducible refine (impl_Levels.calls k _ _ t299 t302 _ ?side1 ?side2 A5.out).mono ?_); (case side1 => repeat (first | exact (Kd.qa1 HO301.out).2.2 | (with_reducible refine Kd.qj1 ?_ _) | (with_reducible refine Kd.qi1 ?_ _) | (with_reducible refine Kd.qn1 ?_))); (case side2 => exact (Kd.qa1 HO301.out).2.1); rintro e w61 ⟨v303, rfl, ho0, hb⟩; have n0_ := Aside0.mk (Kd.qr1 (by (with_reducible repeat (first | apply Kd.qx0 | apply Kd.qw0 | apply Kd.qd1)); exact HO301.out) hb); have n1_ := Aside0.mk (Kd.qw1 ho0 (qm0 (by repeat (first | (with_reducible first | exact HB.out | apply qc0 | apply qa0 | apply qd0) | exact HB.out)))); have n2_ := Aside0.mk (qk0 (by repeat (first | (with_reducible first | exact HB.out | apply qc0 | apply qa0 | apply qd0) | exact HB.out)) hb); clear HO301; clear HB; have HO301 := n0_; have HO304 := n1_; have HB := n2_; clear n0_ n1_ n2_; (try clear hb); (try clear hb2); (try clear hk); (try clear hi); (try clear ho0)) | (go_at_call 27; (with_reducible refine (spec_ItemsOk.calls k _ _ t299 true _ ?side1 ?side2 A6.out).mono ?_); (case side1 => repeat (first | exact (Kd.qa1 HO301.out).2.2 | (with_reducible refine Kd.qj1 ?_ _) | (with_reducible refine Kd.qi1 ?_ _) | (with_reducible refine Kd.qn1 ?_))); (case side2 => exact (Kd.qa1 HO301.out).2.1); rintro e w62 ⟨rfl, hb⟩; have n0_ := Aside0.mk (Kd.qr1 (by (with_reducible repeat (first | apply Kd.qx0 | apply Kd.qw0 | apply Kd.qd1)); exact HO301.out) hb); have n1_ := Aside0.mk (Kd.qs1 (by (with_reducible repeat (first | apply Kd.qo0 | apply Kd.qn0 | apply Kd.qt0)); exact HO304.out) hb); have n2_ := Aside0.mk (qk0 (by repeat (first | (with_reducible first | exact HB.out | apply qc0 | apply qa0 | apply qd0) | exact HB.out)) hb); clear HO301; clear HO304; clear HB; have HO301 := n0_; have HO304 := n1_; have HB := n2_; clear n0_ n1_ n2_; (try clear hb); (try clear hb2); (try clear hk); (try clear hi); obtain ⟨Ao63, co63, eo63⟩ := Kd.qm1 HO304.out; subst eo63)); try go_wp2_with (first | (go_at_call 12; (with_reducible refine (laws_big.calls _ _ l0 false _ ?side1 ?side2 A2.out).mono ?_); (case side1 => repeat (first | exact HR0.out | (with_reducible refine Kd.qj1 ?_ _) | (with_reducible refine Kd.qi1 ?_ _) | (with_reducible refine Kd.qn1 ?_))); (case side2 => exact HC0.out); rintro e w' ⟨rfl, ⟨nd, rfl⟩⟩; (try first | exact ⟨rfl, _, World.drewN_drewN _ _ _⟩ | exact ⟨rfl, _, Eq.trans (World.drewN_drewN _ _ _) (congrArg (World.drewN _) (Nat.add_assoc _ _ _))⟩)) | (go_at_call 25; (with_reducible refine (spec_DrawLevels.calls k _ _ l0 t299 _ ?side1 ?side2 A4.out).mono ?_); (case side1 => repeat (first | exact HR0.out | (with_reducible refine Kd.qj1 ?_ _) | (with_reducible refine Kd.qi1 ?_ _) | (with_reducible refine Kd.qn1 ?_))); (case side2 => exact HC0.out); rintro e w59 ⟨v300, rfl, ho0, hb⟩; have n0_ := Aside0.mk (Kd.S_lower ho0 (qm0 (by repeat (first | (with_reducible first | exact HB.out | apply qc0 | apply qa0 | apply qd0) | exact HB.out)))); have n1_ := Aside0.mk (qk0 (by repeat (first | (with_reducible first | exact HB.out | apply qc0 | apply qa0 | apply qd0) | exact HB.out)) hb); clear HB; have HO301 := n0_; have HB := n1_; clear n0_ n1_; (try clear hb); (try clear hb2); (try clear hk); (try clear hi); (try clear ho0); obtain ⟨Ao60, co60, eo60⟩ := Kd.S_slice HO301.out; subst eo60) | (go_at_call 26; (with_reducible refine (impl_Levels.calls k _ _ t299 t302 _ ?side1 ?side2 A5.out).mono ?_); (case side1 => repeat (first | exact (Kd.qa1 HO301.out).2.2 | (with_reducible refine Kd.qj1 ?_ _) | (with_reducible refine Kd.qi1 ?_ _) | (with_reducible refine Kd.qn1 ?_))); (case side2 => exact (Kd.qa1 HO301.out).2.1); rintro e w61 ⟨v303, rfl, ho0, hb⟩; have n0_ := Aside0.mk (Kd.qr1 (by (with_reducible repeat (first | apply Kd.qx0 | apply Kd.qw0 | apply Kd.qd1)); exact HO301.out) hb); have n1_ := Aside0.mk (Kd.qw1 ho0 (qm0 (by repeat (first | (with_reducible first | exact HB.out | apply qc0 | apply qa0 | apply qd0) | exact HB.out)))); have n2_ := Aside0.mk (qk0 (by repeat (first | (with_reducible first | exact HB.out | apply qc0 | apply qa0 | apply qd0) | exact HB.out)) hb); clear HO301; clear HB; have HO301 := n0_; have HO304 := n1_; have HB := n2_; clear n0_ n1_ n2_; (try clear hb); (try clear hb2); (try clear hk); (try clear hi); (try clear ho0)) | (go_at_call 27; (with_reducible refine (spec_ItemsOk.calls k _ _ t299 true _ ?side1 ?side2 A6.out).mono ?_); (case side1 => repeat (first | exact (Kd.qa1 HO301.out).2.2 | (with_reducible refine Kd.qj1 ?_ _) | (with_reducible refine Kd.qi1 ?_ _) | (with_reducible refine Kd.qn1 ?_))); (case side2 => exact (Kd.qa1 HO301.out).2.1); rintro e w62 ⟨rfl, hb⟩; have n0_ := Aside0.mk (Kd.qr1 (by (with_reducible repeat (first | apply Kd.qx0 | apply Kd.qw0 | apply Kd.qd1)); exact HO301.out) hb); have n1_ := Aside0.mk (Kd.qs1 (by (with_reducible repeat (first | apply Kd.qo0 | apply Kd.qn0 | apply Kd.qt0)); exact HO304.out) hb); have n2_ := Aside0.mk (qk0 (by repeat (first | (with_reducible first | exact HB.out | apply qc0 | apply qa0 | apply qd0) | exact HB.out)) hb); clear HO301; clear HO304; clear HB; have HO301 := n0_; have HO304 := n1_; have HB := n2_; clear n0_ n1_ n2_; (try clear hb); (try clear hb2); (try clear hk); (try clear hi); obtain ⟨Ao63, co63, eo63⟩ := Kd.qm1 HO304.out; subst eo63)))
  go_ret
  exact ⟨by first | rfl | (simp [errW_none, errW_some] <;> rfl) | (simp [*, errW_none, errW_some] <;> rfl), by repeat (first | (with_reducible first | exact HB.out | apply qc0 | apply qa0 | apply qd0) | exact HB.out)⟩
 replace c7 := Bool.eq_false_iff.mpr c7
 subst c7
 have H1 : (some ((t302.length : Int) == 0)) = some r := by rw [if_neg (show ¬ (false = true) by decide)] at H; exact H
 clear H
 have H := H1
 clear H1
 obtain rfl := Option.some.inj H
 go_enter Try.func6, Try.ntmps6
 go_wp2_with (first | (go_at_call 12; (with_reducible refine (laws_big.calls _ _ l0 false _ ?side1 ?side2 A2.out).mono ?_); (case side1 => repeat (first | exact HR0.out | (with_reducible refine Kd.qj1 ?_ _) | (with_reducible refine Kd.qi1 ?_ _) | (with_reducible refine Kd.qn1 ?_))); (case side2 => exact HC0.out); rintro e w' ⟨rfl, ⟨nd, rfl⟩⟩; (try first | exact ⟨rfl, _, World.drewN_drewN _ _ _⟩ | exact ⟨rfl, _, Eq.trans (World.drewN_drewN _ _ _) (congrArg (World.drewN _) (Nat.add_assoc _ _ _))⟩)) | (go_at_call 25; (with_reducible refine (spec_DrawLevels.calls k _ _ l0 t299 _ ?side1 ?side2 A4.out).mono ?_); (case side1 => repeat (first | exact HR0.out | (with_reducible refine Kd.qj1 ?_ _) | (with_reducible refine Kd.qi1 ?_ _) | (with_reducible refine Kd.qn1 ?_))); (case side2 => exact HC0.out); rintro e w64 ⟨v300, rfl, ho0, hb⟩; have n0_ := Aside0.mk (Kd.S_lower ho0 (qm0 (by repeat (first | (with_reducible first | exact HB.out | apply qc0 | apply qa0 | apply qd0) | exact HB.out)))); have n1_ := Aside0.mk (qk0 (by repeat (first | (with_reducible first | exact HB.out | apply qc0 | apply qa0 | apply qd0) | exact HB.out)) hb); clear HB; have HO301 := n0_; have HB := n1_; clear n0_ n1_; (try clear hb); (try clear hb2); (try clear hk); (try clear hi); (try clear ho0); obtain ⟨Ao65, co65, eo65⟩ := Kd.S_slice HO301.out; subst eo65) | (go_at_call 26; (with_reducible refine (impl_Levels.calls k _ _ t299 t302 _ ?side1 ?side2 A5.out).mono ?_); (case side1 => repeat (first | exact (Kd.qa1 HO301.out).2.2 | (with_reducible refine Kd.qj1 ?_ _) | (with_reducible refine Kd.qi1 ?_ _) | (with_reducible refine Kd.qn1 ?_))); (case side2 => exact (Kd.qa1 HO301.out).2.1); rintro e w66 ⟨v303, rfl, ho0, hb⟩; have n0_ := Aside0.mk (Kd.qr1 (by (with_reducible repeat (first | apply Kd.qx0 | apply Kd.qw0 | apply Kd.qd1)); exact HO301.out) hb); have n1_ := Aside0.mk (Kd.qw1 ho0 (qm0 (by repeat (first | (with_reducible first | exact HB.out | apply qc0 | apply qa0 | apply qd0) | exact HB.out)))); have n2_ := Aside0.mk (qk0 (by repeat (first | (with_reducible first | exact HB.out | apply qc0 | apply qa0 | apply qd0) | exact HB.out)) hb); clear HO301; clear HB; have HO301 := n0_; have HO304 := n1_; have HB := n2_; clear n0_ n1_ n2_; (try clear hb); (try clear hb2); (try clear hk); (try clear hi); (try clear ho0)) | (go_at_call 27; (with_reducible refine (spec_ItemsOk.calls k _ _ t299 false _ ?side1 ?side2 A6.out).mono ?_); (case side1 => repeat (first | exact (Kd.qa1 HO301.out).2.2 | (with_reducible refine Kd.qj1 ?_ _) | (with_reducible refine Kd.qi1 ?_ _) | (with_reducible refine Kd.qn1 ?_))); (case side2 => exact (Kd.qa1 HO301.out).2.1); rintro e w67 ⟨rfl, hb⟩; have n0_ := Aside0.mk (Kd.qr1 (by (with_reducible repeat (first | apply Kd.qx0 | apply Kd.qw0 | apply Kd.qd1)); exact HO301.out) hb); have n1_ := Aside0.mk (Kd.qs1 (by (with_reducible repeat (first | apply Kd.qo0 | apply Kd.qn0 | apply Kd.qt0)); exact HO304.out) hb); have n2_ := Aside0.mk (qk0 (by repeat (first | (with_reducible first | exact HB.out | apply qc0 | apply qa0 | apply qd0) | exact HB.out)) hb); clear HO301; clear HO304; clear HB; have HO301 := n0_; have HO304 := n1_; have HB := n2_; clear n0_ n1_ n2_; (try clear hb); (try clear hb2); (try clear hk); (try clear hi); obtain ⟨Ao68, co68, eo68⟩ := Kd.qm1 HO304.out; subst eo68))
 repeat (go_quiet (first | (go_at_call 12; (with_reducible refine (laws_big.calls _ _ l0 false _ ?side1 ?side2 A2.out).mono ?_); (case side1 => repeat (first | exact HR0.out | (with_reducible refine Kd.qj1 ?_ _) | (with_reducible refine Kd.qi1 ?_ _) | (with_reducible refine Kd.qn1 ?_))); (case side2 => exact HC0.out); rintro e w' ⟨rfl, ⟨nd, rfl⟩⟩; (try first | exact ⟨rfl, _, World.drewN_drewN _ _ _⟩ | exact ⟨rfl, _, Eq.trans (World.drewN_drewN _ _ _) (congrArg (World.drewN _) (Nat.add_assoc _ _ _))⟩)) | (go_at_call 25; (with_reducible refine (spec_DrawLevels.calls k _ _ l0 t299 _ ?side1 ?side2 A4.out).mono ?_); (case side1 => repeat (first | exact HR0.out | (with_reducible refine Kd.qj1 ?_ _) | (with_reducible refine Kd.qi1 ?_ _) | (with_reducible refine Kd.qn1 ?_))); (case side2 => exact HC0.out); rintro e w64 ⟨v300, rfl, ho0, hb⟩; have n0_ := Aside0.mk (Kd.S_lower ho0 (qm0 (by repeat (first | (with_reducible first | exact HB.out | apply qc0 | apply qa0 | apply qd0) | exact HB.out)))); have n1_ := Aside0.mk (qk0 (by repeat (first | (with_reducible first | exact HB.out | apply qc0 | apply qa0 | apply qd0) | exact HB.out)) hb); clear HB; have HO301 := n0_; have HB := n1_; clear n0_ n1_; (try clear hb); (try clear hb2); (try clear hk); (try clear hi); (try clear ho0); obtain ⟨Ao65, co65, eo65⟩ := Kd.S_slice HO301.out; subst eo65) | (go_at_call 26; (with_reducible refine (impl_Levels.calls k _ _ t299 t302 _ ?side1 ?side2 A5.out).mono ?_); (case side1 => repeat (first | exact (Kd.qa1 HO301.out).2.2 | (with_reducible refine Kd.qj1 ?_ _) | (with_reducible refine Kd.qi1 ?_ _) | (with_reducible refine Kd.qn1 ?_))); (case side2 => exact (Kd.qa1 HO301.out).2.1); rintro e w66 ⟨v303, rfl, ho0, hb⟩; have n0_ := Aside0.mk (Kd.qr1 (by (with_reducible repeat (first | apply Kd.qx0 | apply Kd.qw0 | apply Kd.qd1)); exact HO301.out) hb); have n1_ := Aside0.mk (Kd.qw1 ho0 (qm0 (by repeat (first | (with_reducible first | exact HB.out | apply qc0 | apply qa0 | apply qd0) | exact HB.out)))); have n2_ := Aside0.mk (qk0 (by repeat (first | (with_reducible first | exact HB.out | apply qc0 | apply qa0 | apply qd0) | exact HB.out)) hb); clear HO301; clear HB; have HO301 := n0_; have HO304 := n1_; have HB := n2_; clear n0_ n1_ n2_; (try clear hb); (try clear hb2); (try clear hk); (try clear hi); (try clear ho0)) | (go_at_call 27; (with_reducible refine (spec_ItemsOk.calls k _ _ t299 false _ ?side1 ?side2 A6.out).mono ?_); (case side1 => repeat (first | exact (Kd.qa1 HO301.out).2.2 | (with_reducible refine Kd.qj1 ?_ _) | (with_reducible refine Kd.qi1 ?_ _) | (with_reducible refine Kd.qn1 ?_))); (case side2 => exact (Kd.qa1 HO301.out).2.1); rintro e w67 ⟨rfl, hb⟩; have n0_ := Aside0.mk (Kd.qr1 (by (with_reducible repeat (first | apply Kd.qx0 | apply Kd.qw0 | apply Kd.qd1)); exact HO301.out) hb); have n1_ := Aside0.mk (Kd.qs1 (by (with_reducible repeat (first | apply Kd.qo0 | apply Kd.qn0 | apply Kd.qt0)); exact HO304.out) hb); have n2_ := Aside0.mk (qk0 (by repeat (first | (with_reducible first | exact HB.out | apply qc0 | apply qa0 | apply qd0) | exact HB.out)) hb); clear HO301; clear HO304; clear HB; have HO301 := n0_; have HO304 := n1_; have HB := n2_; clear n0_ n1_ n2_; (try clear hb); (try clear hb2); (try clear hk); (try clear hi); obtain ⟨Ao68, co68, eo68⟩ := Kd.qm1 HO304.out; subst eo68)); try go_wp2_with (first | (go_at_call 12; (with_reducible refine (laws_big.calls _ _ l0 false _ ?side1 ?side2 A2.out).mono ?_); (case side1 => repeat (first | exact HR0.out | (with_reducible refine Kd.qj1 ?_ _) | (with_reducible refine Kd.qi1 ?_ _) | (with_reducible refine Kd.qn1 ?_))); (case side2 => exact HC0.out); rintro e w' ⟨rfl, ⟨nd, rfl⟩⟩; (try first | exact ⟨rfl, _, World.drewN_drewN _ _ _⟩ | exact ⟨rfl, _, Eq.trans (World.drewN_drewN _ _ _) (congrArg (World.drewN _) (Nat.add_assoc _ _ _))⟩)) | (go_at_call 25; (with_reducible refine (spec_DrawLevels.calls k _ _ l0 t299 _ ?side1 ?side2 A4.out).mono ?_); (case side1 => repeat (first | exact HR0.out | (with_reducible refine Kd.qj1 ?_ _) | (with_reducible refine Kd.qi1 ?_ _) | (with_reducible refine Kd.qn1 ?_))); (case side2 => exact HC0.out); rintro e w64 ⟨v300, rfl, ho0, hb⟩; have n0_ := Aside0.mk (Kd.S_lower ho0 (qm0 (by repeat (first | (with_reducible first | exact HB.out | apply qc0 | apply qa0 | apply qd0) | exact HB.out)))); have n1_ := Aside0.mk (qk0 (by repeat (first | (with_reducible first | exact HB.out | apply qc0 | apply qa0 | apply qd0) | exact HB.out)) hb); clear HB; have HO301 := n0_; have HB := n1_; clear n0_ n1_; (try clear hb); (try clear hb2); (try clear hk); (try clear hi); (try clear ho0); obtain ⟨Ao65, co65, eo65⟩ := Kd.S_slice HO301.out; subst eo65) | (go_at_call 26; (with_reducible refine (impl_Levels.calls k _ _ t299 t302 _ ?side1 ?side2 A5.out).mono ?_); (case side1 => repeat (first | exact (Kd.qa1 HO301.out).2.2 | (with_reducible refine Kd.qj1 ?_ _) | (with_reducible refine Kd.qi1 ?_ _) | (with_reducible refine Kd.qn1 ?_))); (case side2 => exact (Kd.qa1 HO301.out).2.1); rintro e w66 ⟨v303, rfl, ho0, hb⟩; have n0_ := Aside0.mk (Kd.qr1 (by (with_reducible repeat (first | apply Kd.qx0 | apply Kd.qw0 | apply Kd.qd1)); exact HO301.out) hb); have n1_ := Aside0.mk (Kd.qw1 ho0 (qm0 (by repeat (first | (with_reducible first | exact HB.out | apply qc0 | apply qa0 | apply qd0) | exact HB.out)))); have n2_ := Aside0.mk (qk0 (by repeat (first | (with_reducible first | exact HB.out | apply qc0 | apply qa0 | apply qd0) | exact HB.out)) hb); clear HO301; clear HB; have HO301 := n0_; have HO304 := n1_; have HB := n2_; clear n0_ n1_ n2_; (try clear hb); (try clear hb2); (try clear hk); (try clear hi); (try clear ho0)) | (go_at_call 27; (with_reducible refine (spec_ItemsOk.calls k _ _ t299 false _ ?side1 ?side2 A6.out).mono ?_); (case side1 => repeat (first | exact (Kd.qa1 HO301.out).2.2 | (with_reducible refine Kd.qj1 ?_ _) | (with_reducible refine Kd.qi1 ?_ _) | (with_reducible refine Kd.qn1 ?_))); (case side2 => exact (Kd.qa1 HO301.out).2.1); rintro e w67 ⟨rfl, hb⟩; have n0_ := Aside0.mk (Kd.qr1 (by (with_reducible repeat (first | apply Kd.qx0 | apply Kd.qw0 | apply Kd.qd1)); exact HO301.out) hb); have n1_ := Aside0.mk (Kd.qs1 (by (with_reducible repeat (first | apply Kd.qo0 | apply Kd.qn0 | apply Kd.qt0)); exact HO304.out) hb); have n2_ := Aside0.mk (qk0 (by repeat (first | (with_reducible first | exact HB.out | apply qc0 | apply qa0 | apply qd0) | exact HB.out)) hb); clear HO301; clear HO304; clear HB; have HO301 := n0_; have HO304 := n1_; have HB := n2_; clear n0_ n1_ n2_; (try clear hb); (try clear hb2); (try clear hk); (try clear hi); obtain ⟨Ao68, co68, eo68⟩ := Kd.qm1 HO304.out; subst eo68)))
 go_ret
 exact ⟨by first | rfl | (simp [errW_none, errW_some] <;> rfl) | (simp [*, errW_none, errW_some] <;> rfl), by repeat (first | (with_reducible first | exact HB.out | apply qc0 | apply qa0 | apply qd0) | exact HB.out)⟩

/-- THE ONE PURE STATEMENT of laws_FnLevelled: yours. -/
def laws_FnLevelled.Pure : Prop := ∀ (l0 : List Int), l0.length ≤ maxLen → l0.length * 1 ≤ 140737488351232 → (∀ x ∈ l0, (Lit.int .u8 x).wf = true) → ∃ k, laws_FnLevelled.f k l0 = some true
theorem laws_FnLevelled.walk (P : laws_FnLevelled.Pure) (a0 : Option Addr) (len0 cap0 : Nat) (z0 : List Int) (w : World) (w0 : (a0 = none ∧ len0 = 0 ∧ cap0 = 0 ∧ z0 = []) ∨ ∃ x, a0 = some x ∧ len0 ≤ cap0 ∧ cap0 ≤ maxLen ∧ z0.length = cap0 ∧ (∀ i, i < z0.length → w.cell? (x.add i) = some (.int .u8 (z0.getD i 0))) ∧ ∀ n ∈ z0, (Lit.int .u8 n).wf = true) (y0 : len0 * 1 ≤ 140737488351232) :
  Calls Try.prog 6 #[.slice a0 len0 cap0] w fun e w' => e = .returned (.bool true) ∧ Below w.heap.size w w' := by
 obtain ⟨l0, rfl, hr0, hm0, hw0, hc0⟩ := qo1.ofRowC w0
 obtain ⟨k, h⟩ := P l0 hm0 y0 hw0
 refine (laws_FnLevelled.calls k _ _ l0 true w (Kd.C_of_reads (d := (0 : Int)) (h1 := fun _ => rfl) hr0) hc0 h).mono ?_
 rintro e w' ⟨rfl, hd⟩
 exact ⟨rfl, hd⟩

end Go.Proofs.Ytkkdmmefnicmaaa.PFnLevelled
