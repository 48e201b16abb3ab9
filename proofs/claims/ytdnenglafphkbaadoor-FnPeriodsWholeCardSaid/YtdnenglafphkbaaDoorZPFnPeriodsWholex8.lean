/- Lines by a program (a changed copy of the kit's print: this repo's wip/tools): Go functions as Lean functions, and proofs that the calls answer so. -/
import Derived.Test.YtdnenglafphkbaaDoorZPFnPeriodsWholex0
import Derived.Test.YtdnenglafphkbaaDoorZPFnPeriodsWholex2
import Derived.Test.YtdnenglafphkbaaDoorZPFnPeriodsWholex3
import Derived.Test.YtdnenglafphkbaaDoorZPFnPeriodsWholex6
import Derived.Test.YtdnenglafphkbaaDoorZPFnPeriodsWholex7
namespace Go.Proofs.YtdnenglafphkbaaDoor.PFnPeriodsWhole
open Go.RowKit Go.Proofs.YtdnenglafphkbaaDoorW.PrintWords Go.Proofs.YtdnenglafphkbaaDoorW.PrintLast Go.Proofs.YtdnenglafphkbaaDoorW.PrintMore
attribute [local go_sem] max2_int min2_int max_two min_two max_three min_three max_four min_four   -- for this text's walks alone
set_option linter.unusedVariables false
set_option linter.unusedSimpArgs false

/-! ### laws_FnPeriodsWhole: function 5 -/
mutual
def laws_FnPeriodsWhole.j0 : Nat → Int → List (S39) → Bool → Option (Bool)
 | 0, _, _, _ => none
 | k + 1, x4, x6, x33 => if x33 = true then (some false) else (laws_FnPeriodsWhole.l0 k x4 x6 0)
def laws_FnPeriodsWhole.l0 : Nat → Int → List (S39) → Int → Option (Bool)
 | 0, _, _, _ => none
 | k + 1, x4, x6, x7 => if x7 < (x6.length : Int) then (if 0 ≤ x7 then (if x7 > 0 then (if 0 ≤ (wrap64 (x7 - 1)) then (if (wrap64 (x7 - 1)) < (x6.length : Int) then (if ((rd_T39 x6 x7).f0) = (wrap64 (((rd_T39 x6 (wrap64 (x7 - 1))).f1) + 1)) then (if ((rd_T39 x6 x7).f1) < ((rd_T39 x6 x7).f0) then (laws_FnPeriodsWhole.j2 k x4 x6 x7 true ((rd_T39 x6 x7).f0) ((rd_T39 x6 x7).f1)) else (if x7 = 0 then (laws_FnPeriodsWhole.j2 k x4 x6 x7 (((rd_T39 x6 x7).f0) != x4) ((rd_T39 x6 x7).f0) ((rd_T39 x6 x7).f1)) else (laws_FnPeriodsWhole.j2 k x4 x6 x7 false ((rd_T39 x6 x7).f0) ((rd_T39 x6 x7).f1)))) else (laws_FnPeriodsWhole.j2 k x4 x6 x7 true ((rd_T39 x6 x7).f0) ((rd_T39 x6 x7).f1))) else (none)) else (none)) else (if ((rd_T39 x6 x7).f1) < ((rd_T39 x6 x7).f0) then (laws_FnPeriodsWhole.j2 k x4 x6 x7 true ((rd_T39 x6 x7).f0) ((rd_T39 x6 x7).f1)) else (if x7 = 0 then (laws_FnPeriodsWhole.j2 k x4 x6 x7 (((rd_T39 x6 x7).f0) != x4) ((rd_T39 x6 x7).f0) ((rd_T39 x6 x7).f1)) else (laws_FnPeriodsWhole.j2 k x4 x6 x7 false ((rd_T39 x6 x7).f0) ((rd_T39 x6 x7).f1))))) else (none)) else (if (x6.length : Int) = 0 then (some true) else ((impl_PeriodAt.f k x6 (wrap64 (x4 - 1))).bind fun t309 => (some (t309 == (-1)))))
def laws_FnPeriodsWhole.j2 : Nat → Int → List (S39) → Int → Bool → Int → Int → Option (Bool)
 | 0, _, _, _, _, _, _ => none
 | k + 1, x4, x6, x7, x74, x312000, x312001 => if x74 = true then (some false) else ((impl_PeriodAt.f k x6 x312000).bind fun t313 => (if t313 = x7 then ((impl_PeriodAt.f k x6 x312001).bind fun t314 => (if t314 = x7 then (laws_FnPeriodsWhole.l0 k x4 x6 (wrap64 (x7 + 1))) else (some false))) else (some false)))
end
def laws_FnPeriodsWhole.f (k : Nat) (l0 : List Int) : Option (Bool) := (laws_big.f l0).bind fun t296 => (if t296 = true then (some true) else ((spec_DrawPeriods.f k l0).bind fun bt297 => ((impl_Periods.f k bt297.1 bt297.2.1 bt297.2.2).bind fun t300 => ((spec_Periods.f k bt297.1 bt297.2.1 bt297.2.2).bind fun t303 => (if (t300.length : Int) = (t303.length : Int) then ((impl_Periods.f k 3 0 13).bind fun t306 => (laws_FnPeriodsWhole.j0 k bt297.2.1 t300 ((t306.length : Int) != 13))) else (laws_FnPeriodsWhole.j0 k bt297.2.1 t300 true))))))
theorem laws_FnPeriodsWhole.mono_l : ∀ k, (∀ y0 y1 y2, LeO (laws_FnPeriodsWhole.j0 k y0 y1 y2) (laws_FnPeriodsWhole.j0 (k + 1) y0 y1 y2)) ∧ (∀ y0 y1 y2, LeO (laws_FnPeriodsWhole.l0 k y0 y1 y2) (laws_FnPeriodsWhole.l0 (k + 1) y0 y1 y2)) ∧ (∀ y0 y1 y2 y3 y4 y5, LeO (laws_FnPeriodsWhole.j2 k y0 y1 y2 y3 y4 y5) (laws_FnPeriodsWhole.j2 (k + 1) y0 y1 y2 y3 y4 y5))
 | 0 => ⟨fun _ _ _ r h => by simp [laws_FnPeriodsWhole.j0] at h, fun _ _ _ r h => by simp [laws_FnPeriodsWhole.l0] at h, fun _ _ _ _ _ _ r h => by simp [laws_FnPeriodsWhole.j2] at h⟩
 | k + 1 => by
  obtain ⟨ih0, ih1, ih2⟩ := laws_FnPeriodsWhole.mono_l k
  refine ⟨?_, ?_, ?_⟩
  ·intro y0 y1 y2
   unfold laws_FnPeriodsWhole.j0
   repeat' first
   | (with_reducible exact ih0 _ _ _)
   | (with_reducible exact ih1 _ _ _)
   | (with_reducible exact ih2 _ _ _ _ _ _)
   | (with_reducible exact impl_PeriodAt.mono _ _ _)
   | (with_reducible exact impl_Periods.mono _ _ _ _)
   | (with_reducible exact spec_DrawPeriods.mono _ _)
   | (with_reducible exact spec_Periods.mono _ _ _ _)
   | (with_reducible exact LeO.refl _)
   | (with_reducible exact LeO.none _)
   | (with_reducible refine LeO.ite ?_ ?_)
   | (with_reducible refine LeO.bind ?_ (fun _ => ?_))
   | exact ih0 _ _ _
   | exact ih1 _ _ _
   | exact ih2 _ _ _ _ _ _
   | exact impl_PeriodAt.mono _ _ _
   | exact impl_Periods.mono _ _ _ _
   | exact spec_DrawPeriods.mono _ _
   | exact spec_Periods.mono _ _ _ _
   | exact LeO.none _
   | refine LeO.ite ?_ ?_
   | refine LeO.bind ?_ (fun _ => ?_)
  ·intro y0 y1 y2
   unfold laws_FnPeriodsWhole.l0
   repeat' first
   | (with_reducible exact ih0 _ _ _)
   | (with_reducible exact ih1 _ _ _)
   | (with_reducible exact ih2 _ _ _ _ _ _)
   | (with_reducible exact impl_PeriodAt.mono _ _ _)
   | (with_reducible exact impl_Periods.mono _ _ _ _)
   | (with_reducible exact spec_DrawPeriods.mono _ _)
   | (with_reducible exact spec_Periods.mono _ _ _ _)
   | (with_reducible exact LeO.refl _)
   | (with_reducible exact LeO.none _)
   | (with_reducible refine LeO.ite ?_ ?_)
   | (with_reducible refine LeO.bind ?_ (fun _ => ?_))
   | exact ih0 _ _ _
   | exact ih1 _ _ _
   | exact ih2 _ _ _ _ _ _
   | exact impl_PeriodAt.mono _ _ _
   | exact impl_Periods.mono _ _ _ _
   | exact spec_DrawPeriods.mono _ _
   | exact spec_Periods.mono _ _ _ _
   | exact LeO.none _
   | refine LeO.ite ?_ ?_
   | refine LeO.bind ?_ (fun _ => ?_)
  ·intro y0 y1 y2 y3 y4 y5
   unfold laws_FnPeriodsWhole.j2
   repeat' first
   | (with_reducible exact ih0 _ _ _)
   | (with_reducible exact ih1 _ _ _)
   | (with_reducible exact ih2 _ _ _ _ _ _)
   | (with_reducible exact impl_PeriodAt.mono _ _ _)
   | (with_reducible exact impl_Periods.mono _ _ _ _)
   | (with_reducible exact spec_DrawPeriods.mono _ _)
   | (with_reducible exact spec_Periods.mono _ _ _ _)
   | (with_reducible exact LeO.refl _)
   | (with_reducible exact LeO.none _)
   | (with_reducible refine LeO.ite ?_ ?_)
   | (with_reducible refine LeO.bind ?_ (fun _ => ?_))
   | exact ih0 _ _ _
   | exact ih1 _ _ _
   | exact ih2 _ _ _ _ _ _
   | exact impl_PeriodAt.mono _ _ _
   | exact impl_Periods.mono _ _ _ _
   | exact spec_DrawPeriods.mono _ _
   | exact spec_Periods.mono _ _ _ _
   | exact LeO.none _
   | refine LeO.ite ?_ ?_
   | refine LeO.bind ?_ (fun _ => ?_)
theorem laws_FnPeriodsWhole.mono : ∀ a0 k, LeO (laws_FnPeriodsWhole.f k a0) (laws_FnPeriodsWhole.f (k + 1) a0) := by
 intro a0 k
 obtain ⟨ih0, ih1, ih2⟩ := laws_FnPeriodsWhole.mono_l k
 unfold laws_FnPeriodsWhole.f
 repeat' first
   | (with_reducible exact ih0 _ _ _)
   | (with_reducible exact ih1 _ _ _)
   | (with_reducible exact ih2 _ _ _ _ _ _)
   | (with_reducible exact impl_PeriodAt.mono _ _ _)
   | (with_reducible exact impl_Periods.mono _ _ _ _)
   | (with_reducible exact spec_DrawPeriods.mono _ _)
   | (with_reducible exact spec_Periods.mono _ _ _ _)
   | (with_reducible exact LeO.refl _)
   | (with_reducible exact LeO.none _)
   | (with_reducible refine LeO.ite ?_ ?_)
   | (with_reducible refine LeO.bind ?_ (fun _ => ?_))
   | exact ih0 _ _ _
   | exact ih1 _ _ _
   | exact ih2 _ _ _ _ _ _
   | exact impl_PeriodAt.mono _ _ _
   | exact impl_Periods.mono _ _ _ _
   | exact spec_DrawPeriods.mono _ _
   | exact spec_Periods.mono _ _ _ _
   | exact LeO.none _
   | refine LeO.ite ?_ ?_
   | refine LeO.bind ?_ (fun _ => ?_)
set_option maxHeartbeats 8000000 in
set_option maxRecDepth 100000 in
theorem laws_FnPeriodsWhole.calls (k : Nat) (A0 : Option Addr) (c0 : Nat) (l0 : List Int) (r : Bool) (w : World) (hr0 : Kd.C (Kd.int .u8) w A0 l0.length l0) (hc0 : l0.length ≤ c0) (h : laws_FnPeriodsWhole.f k l0 = some r) (hT : Tab w := by first | exact HT.out | exact Tab.below HT.out (by repeat (first | (with_reducible first | exact HB.out | apply qb0 | apply qa0 | apply qc0 | refine qf0 ?_ (Aside0.out (by assumption))) | exact HB.out))) :
  Calls Tryd.prog 5 #[.slice A0 l0.length c0] w fun e w' => e = .returned (.bool r) ∧ Below w.heap.size w w' := by
 have HT := Aside0.mk hT
 clear hT
 have hu39 := Tryd.underlying39
 have HR0 := Aside0.mk hr0
 have HC0 := Aside0.mk hc0
 clear hr0 hc0
 have HB := Aside0.mk (Below.refl w.heap.size w)
 have H : ((laws_big.f l0).bind fun t296 => (if t296 = true then (some true) else ((spec_DrawPeriods.f k l0).bind fun bt297 => ((impl_Periods.f k bt297.1 bt297.2.1 bt297.2.2).bind fun t300 => ((spec_Periods.f k bt297.1 bt297.2.1 bt297.2.2).bind fun t303 => (if (t300.length : Int) = (t303.length : Int) then ((impl_Periods.f k 3 0 13).bind fun t306 => (laws_FnPeriodsWhole.j0 k bt297.2.1 t300 ((t306.length : Int) != 13))) else (laws_FnPeriodsWhole.j0 k bt297.2.1 t300 true))))))) = some r := h
 clear h
 replace H := Option.bind_eq_some_iff.mp H
 obtain ⟨t296, A20, H⟩ := H
 replace H : (if t296 = true then (some true) else ((spec_DrawPeriods.f k l0).bind fun bt297 => ((impl_Periods.f k bt297.1 bt297.2.1 bt297.2.2).bind fun t300 => ((spec_Periods.f k bt297.1 bt297.2.1 bt297.2.2).bind fun t303 => (if (t300.length : Int) = (t303.length : Int) then ((impl_Periods.f k 3 0 13).bind fun t306 => (laws_FnPeriodsWhole.j0 k bt297.2.1 t300 ((t306.length : Int) != 13))) else (laws_FnPeriodsWhole.j0 k bt297.2.1 t300 true)))))) = some r := H
 have A2 := Aside0.mk A20
 clear A20
 by_cases c3 : t296 = true
 ·subst c3
  have H1 : (some true) = some r := by rw [if_pos rfl] at H; exact H
  clear H
  have H := H1
  clear H1
  obtain rfl := Option.some.inj H
  go_enter Tryd.func5, Tryd.ntmps5
  go_wp2_with (first | (go_at_call 6; (with_reducible refine (laws_big.calls _ _ l0 true _ ?side1 ?side2 A2.out).mono ?_); (case side1 => repeat (first | exact HR0.out | (with_reducible refine Kd.qb1 ?_ _) | (with_reducible refine Kd.qa1 ?_ _) | (with_reducible refine Kd.qf1 ?_))); (case side2 => exact HC0.out); rintro e w' ⟨rfl, ⟨nd, rfl⟩⟩; (try first | exact ⟨rfl, _, World.drewN_drewN _ _ _⟩ | exact ⟨rfl, _, Eq.trans (World.drewN_drewN _ _ _) (congrArg (World.drewN _) (Nat.add_assoc _ _ _))⟩)))
  repeat (go_quiet (first | (go_at_call 6; (with_reducible refine (laws_big.calls _ _ l0 true _ ?side1 ?side2 A2.out).mono ?_); (case side1 => repeat (first | exact HR0.out | (with_reducible refine Kd.qb1 ?_ _) | (with_reducible refine Kd.qa1 ?_ _) | (with_reducible refine Kd.qf1 ?_))); (case side2 => exact HC0.out); rintro e w' ⟨rfl, ⟨nd, rfl⟩⟩; (try first | exact ⟨rfl, _, World.drewN_drewN _ _ _⟩ | exact ⟨rfl, _, Eq.trans (World.drewN_drewN _ _ _) (congrArg (World.drewN _) (Nat.add_assoc _ _ _))⟩))); try go_wp2_with (first | (go_at_call 6; (with_reducible refine (laws_big.calls _ _ l0 true _ ?side1 ?side2 A2.out).mono ?_); (case side1 => repeat (first | exact HR0.out | (with_reducible refine Kd.qb1 ?_ _) | (with_reducible refine Kd.qa1 ?_ _) | (with_reducible refine Kd.qf1 ?_))); (case side2 => exact HC0.out); rintro e w' ⟨rfl, ⟨nd, rfl⟩⟩; (try first | exact ⟨rfl, _, World.drewN_drewN _ _ _⟩ | exact ⟨rfl, _, Eq.trans (World.drewN_drewN _ _ _) (congrArg (World.drewN _) (Nat.add_assoc _ _ _))⟩))))
  go_ret
  exact ⟨by first | rfl | (simp [errW_none, errW_some] <;> rfl) | (simp [*, errW_none, errW_some] <;> rfl), by repeat (first | (with_reducible first | exact HB.out | apply qb0 | apply qa0 | apply qc0) | exact HB.out)⟩
 replace c3 := Bool.eq_false_iff.mpr c3
 subst c3
 have H1 : ((spec_DrawPeriods.f k l0).bind fun bt297 => ((impl_Periods.f k bt297.1 bt297.2.1 bt297.2.2).bind fun t300 => ((spec_Periods.f k bt297.1 bt297.2.1 bt297.2.2).bind fun t303 => (if (t300.length : Int) = (t303.length : Int) then ((impl_Periods.f k 3 0 13).bind fun t306 => (laws_FnPeriodsWhole.j0 k bt297.2.1 t300 ((t306.length : Int) != 13))) else (laws_FnPeriodsWhole.j0 k bt297.2.1 t300 true))))) = some r := by rw [if_neg (show ¬ (false = true) by decide)] at H; exact H
 clear H
 have H := H1
 clear H1
 replace H := Option.bind_eq_some_iff.mp H
 obtain ⟨⟨t297, t298, t299⟩, A40, H⟩ := H
 replace H : ((impl_Periods.f k t297 t298 t299).bind fun t300 => ((spec_Periods.f k t297 t298 t299).bind fun t303 => (if (t300.length : Int) = (t303.length : Int) then ((impl_Periods.f k 3 0 13).bind fun t306 => (laws_FnPeriodsWhole.j0 k t298 t300 ((t306.length : Int) != 13))) else (laws_FnPeriodsWhole.j0 k t298 t300 true)))) = some r := H
 have A4 := Aside0.mk A40
 clear A40
 replace H := Option.bind_eq_some_iff.mp H
 obtain ⟨t300, A50, H⟩ := H
 replace H : ((spec_Periods.f k t297 t298 t299).bind fun t303 => (if (t300.length : Int) = (t303.length : Int) then ((impl_Periods.f k 3 0 13).bind fun t306 => (laws_FnPeriodsWhole.j0 k t298 t300 ((t306.length : Int) != 13))) else (laws_FnPeriodsWhole.j0 k t298 t300 true))) = some r := H
 have A5 := Aside0.mk A50
 clear A50
 have HC6 := Aside0.mk H
 clear H
 go_enter Tryd.func5, Tryd.ntmps5
 go_upto_region 5 with (first | (go_at_call 6; (with_reducible refine (laws_big.calls _ _ l0 false _ ?side1 ?side2 A2.out).mono ?_); (case side1 => repeat (first | exact HR0.out | (with_reducible refine Kd.qb1 ?_ _) | (with_reducible refine Kd.qa1 ?_ _) | (with_reducible refine Kd.qf1 ?_))); (case side2 => exact HC0.out); rintro e w' ⟨rfl, ⟨nd, rfl⟩⟩; (try first | exact ⟨rfl, _, World.drewN_drewN _ _ _⟩ | exact ⟨rfl, _, Eq.trans (World.drewN_drewN _ _ _) (congrArg (World.drewN _) (Nat.add_assoc _ _ _))⟩)) | (go_at_call 17; (with_reducible refine (spec_DrawPeriods.calls k _ _ l0 t297 t298 t299 _ ?side1 ?side2 A4.out).mono ?_); (case side1 => repeat (first | exact HR0.out | (with_reducible refine Kd.qb1 ?_ _) | (with_reducible refine Kd.qa1 ?_ _) | (with_reducible refine Kd.qf1 ?_))); (case side2 => exact HC0.out); rintro e w7 ⟨rfl, hb⟩; have n0_ := Aside0.mk (qk0 (by repeat (first | (with_reducible first | exact HB.out | apply qb0 | apply qa0 | apply qc0) | exact HB.out)) hb); clear HB; have HB := n0_; clear n0_; (try clear hb); (try clear hb2); (try clear hk); (try clear hi)) | (go_at_call 13; (with_reducible refine (impl_Periods.calls k t297 t298 t299 t300 _ A5.out).mono ?_); rintro e w8 ⟨v301, rfl, ho0, hb⟩; have n0_ := Aside0.mk (Kd.qg1 ho0 (ql0 (by repeat (first | (with_reducible first | exact HB.out | apply qb0 | apply qa0 | apply qc0) | exact HB.out)))); have n1_ := Aside0.mk (qk0 (by repeat (first | (with_reducible first | exact HB.out | apply qb0 | apply qa0 | apply qc0) | exact HB.out)) hb); clear HB; have HO302 := n0_; have HB := n1_; clear n0_ n1_; (try clear hb); (try clear hb2); (try clear hk); (try clear hi); (try clear ho0)))
 repeat (go_quiet (first | (go_at_call 6; (with_reducible refine (laws_big.calls _ _ l0 false _ ?side1 ?side2 A2.out).mono ?_); (case side1 => repeat (first | exact HR0.out | (with_reducible refine Kd.qb1 ?_ _) | (with_reducible refine Kd.qa1 ?_ _) | (with_reducible refine Kd.qf1 ?_))); (case side2 => exact HC0.out); rintro e w' ⟨rfl, ⟨nd, rfl⟩⟩; (try first | exact ⟨rfl, _, World.drewN_drewN _ _ _⟩ | exact ⟨rfl, _, Eq.trans (World.drewN_drewN _ _ _) (congrArg (World.drewN _) (Nat.add_assoc _ _ _))⟩)) | (go_at_call 17; (with_reducible refine (spec_DrawPeriods.calls k _ _ l0 t297 t298 t299 _ ?side1 ?side2 A4.out).mono ?_); (case side1 => repeat (first | exact HR0.out | (with_reducible refine Kd.qb1 ?_ _) | (with_reducible refine Kd.qa1 ?_ _) | (with_reducible refine Kd.qf1 ?_))); (case side2 => exact HC0.out); rintro e w7 ⟨rfl, hb⟩; have n0_ := Aside0.mk (qk0 (by repeat (first | (with_reducible first | exact HB.out | apply qb0 | apply qa0 | apply qc0) | exact HB.out)) hb); clear HB; have HB := n0_; clear n0_; (try clear hb); (try clear hb2); (try clear hk); (try clear hi)) | (go_at_call 13; (with_reducible refine (impl_Periods.calls k t297 t298 t299 t300 _ A5.out).mono ?_); rintro e w8 ⟨v301, rfl, ho0, hb⟩; have n0_ := Aside0.mk (Kd.qg1 ho0 (ql0 (by repeat (first | (with_reducible first | exact HB.out | apply qb0 | apply qa0 | apply qc0) | exact HB.out)))); have n1_ := Aside0.mk (qk0 (by repeat (first | (with_reducible first | exact HB.out | apply qb0 | apply qa0 | apply qc0) | exact HB.out)) hb); clear HB; have HO302 := n0_; have HB := n1_; clear n0_ n1_; (try clear hb); (try clear hb2); (try clear hk); (try clear hi); (try clear ho0))); go_upto_region 5 with (first | (go_at_call 6; (with_reducible refine (laws_big.calls _ _ l0 false _ ?side1 ?side2 A2.out).mono ?_); (case side1 => repeat (first | exact HR0.out | (with_reducible refine Kd.qb1 ?_ _) | (with_reducible refine Kd.qa1 ?_ _) | (with_reducible refine Kd.qf1 ?_))); (case side2 => exact HC0.out); rintro e w' ⟨rfl, ⟨nd, rfl⟩⟩; (try first | exact ⟨rfl, _, World.drewN_drewN _ _ _⟩ | exact ⟨rfl, _, Eq.trans (World.drewN_drewN _ _ _) (congrArg (World.drewN _) (Nat.add_assoc _ _ _))⟩)) | (go_at_call 17; (with_reducible refine (spec_DrawPeriods.calls k _ _ l0 t297 t298 t299 _ ?side1 ?side2 A4.out).mono ?_); (case side1 => repeat (first | exact HR0.out | (with_reducible refine Kd.qb1 ?_ _) | (with_reducible refine Kd.qa1 ?_ _) | (with_reducible refine Kd.qf1 ?_))); (case side2 => exact HC0.out); rintro e w7 ⟨rfl, hb⟩; have n0_ := Aside0.mk (qk0 (by repeat (first | (with_reducible first | exact HB.out | apply qb0 | apply qa0 | apply qc0) | exact HB.out)) hb); clear HB; have HB := n0_; clear n0_; (try clear hb); (try clear hb2); (try clear hk); (try clear hi)) | (go_at_call 13; (with_reducible refine (impl_Periods.calls k t297 t298 t299 t300 _ A5.out).mono ?_); rintro e w8 ⟨v301, rfl, ho0, hb⟩; have n0_ := Aside0.mk (Kd.qg1 ho0 (ql0 (by repeat (first | (with_reducible first | exact HB.out | apply qb0 | apply qa0 | apply qc0) | exact HB.out)))); have n1_ := Aside0.mk (qk0 (by repeat (first | (with_reducible first | exact HB.out | apply qb0 | apply qa0 | apply qc0) | exact HB.out)) hb); clear HB; have HO302 := n0_; have HB := n1_; clear n0_ n1_; (try clear hb); (try clear hb2); (try clear hk); (try clear hi); (try clear ho0))))
 (try simp only [Act.put, List.setIfInBounds_toArray, List.set_cons_zero, List.set_cons_succ])
 go_cut [33] (fun v33 wc => ∃ (kq : Nat) (x33_5 : Bool), v33 = .bool x33_5 ∧ Aside0 (laws_FnPeriodsWhole.j0 kq t298 t300 x33_5 = some r) ∧ Aside0 (kq ≤ k) ∧ Aside0 (Kd.R k39 39 wc w.heap.size (fun _ => True) v301 t300) ∧ Aside0 (Below w.heap.size w wc))
 case first =>
  have H := HC6.out
  clear HC6
  replace H := Option.bind_eq_some_iff.mp H
  obtain ⟨t303, A90, H⟩ := H
  replace H : (if (t300.length : Int) = (t303.length : Int) then ((impl_Periods.f k 3 0 13).bind fun t306 => (laws_FnPeriodsWhole.j0 k t298 t300 ((t306.length : Int) != 13))) else (laws_FnPeriodsWhole.j0 k t298 t300 true)) = some r := H
  have A9 := Aside0.mk A90
  clear A90
  by_cases c10 : (t300.length : Int) = (t303.length : Int)
  ·rw [if_pos c10] at H
   have c10b0 : ((t300.length : Int) == (t303.length : Int)) = true := beq_iff_eq.mpr c10
   have c10b1 : ((t300.length : Int) != (t303.length : Int)) = false := bne_eq_false_iff_eq.mpr c10
   have c10b2 : (t300.length == t303.length) = true := by first | simpa using c10 | (simp at c10 ⊢; omega)
   clear c10
   (first | rw [c10b0] | (simp only [i64_w, i32_w]; rw [c10b0]) | skip)
   replace H := Option.bind_eq_some_iff.mp H
   obtain ⟨t306, A110, H⟩ := H
   replace H : (laws_FnPeriodsWhole.j0 k t298 t300 ((t306.length : Int) != 13)) = some r := H
   have A11 := Aside0.mk A110
   clear A110
   have H' := Aside0.mk H
   clear H
   obtain ⟨Ao12, co12, eo12⟩ := Kd.R_slice HO302.out
   subst eo12
   go_wp2_with (first | (go_at_call 12; (with_reducible refine (spec_Periods.calls k t297 t298 t299 t303 _ A9.out).mono ?_); rintro e w13 ⟨v304, rfl, ho0, hb⟩; have n0_ := Aside0.mk (Kd.R_elder' (by (with_reducible repeat (first | apply Kd.qn0 | apply Kd.qm0 | apply Kd.qp0)); exact HO302.out) (Kd.R_base ho0) hb); have n1_ := Aside0.mk (Kd.qg1 (Kd.R_new' ho0 (Kd.R_lt (by (with_reducible repeat (first | apply Kd.qn0 | apply Kd.qm0 | apply Kd.qp0)); exact HO302.out))) (ql0 (by repeat (first | (with_reducible first | exact HB.out | apply qb0 | apply qa0 | apply qc0) | exact HB.out)))); have n2_ := Aside0.mk (qk0 (by repeat (first | (with_reducible first | exact HB.out | apply qb0 | apply qa0 | apply qc0) | exact HB.out)) hb); clear HO302; clear HB; have HO302 := n0_; have HO305 := n1_; have HB := n2_; clear n0_ n1_ n2_; (try clear hb); (try clear hb2); (try clear hk); (try clear hi); (try clear ho0); obtain ⟨Ao14, co14, eo14⟩ := Kd.R_slice HO305.out; subst eo14) | (go_at_call 13; (with_reducible refine (impl_Periods.calls k 3 0 13 t306 _ A11.out).mono ?_); rintro e w15 ⟨v307, rfl, ho0, hb⟩; have n0_ := Aside0.mk (Kd.R_elder' (by (with_reducible repeat (first | apply Kd.qn0 | apply Kd.qm0 | apply Kd.qp0)); exact HO302.out) (Kd.R_base ho0) hb); have n1_ := Aside0.mk (Kd.R_elder' (by (with_reducible repeat (first | apply Kd.qn0 | apply Kd.qm0 | apply Kd.qp0)); exact HO305.out) (Kd.R_base ho0) hb); have n2_ := Aside0.mk (Kd.qg1 (Kd.R_new' (Kd.R_new' ho0 (Kd.R_lt (by (with_reducible repeat (first | apply Kd.qn0 | apply Kd.qm0 | apply Kd.qp0)); exact HO302.out))) (Kd.R_lt (by (with_reducible repeat (first | apply Kd.qn0 | apply Kd.qm0 | apply Kd.qp0)); exact HO305.out))) (ql0 (by repeat (first | (with_reducible first | exact HB.out | apply qb0 | apply qa0 | apply qc0) | exact HB.out)))); have n3_ := Aside0.mk (qk0 (by repeat (first | (with_reducible first | exact HB.out | apply qb0 | apply qa0 | apply qc0) | exact HB.out)) hb); clear HO302; clear HO305; clear HB; have HO302 := n0_; have HO305 := n1_; have HO308 := n2_; have HB := n3_; clear n0_ n1_ n2_ n3_; (try clear hb); (try clear hb2); (try clear hk); (try clear hi); (try clear ho0); obtain ⟨Ao16, co16, eo16⟩ := Kd.R_slice HO308.out; subst eo16))
   repeat (go_quiet (first | (go_at_call 12; (with_reducible refine (spec_Periods.calls k t297 t298 t299 t303 _ A9.out).mono ?_); rintro e w13 ⟨v304, rfl, ho0, hb⟩; have n0_ := Aside0.mk (Kd.R_elder' (by (with_reducible repeat (first | apply Kd.qn0 | apply Kd.qm0 | apply Kd.qp0)); exact HO302.out) (Kd.R_base ho0) hb); have n1_ := Aside0.mk (Kd.qg1 (Kd.R_new' ho0 (Kd.R_lt (by (with_reducible repeat (first | apply Kd.qn0 | apply Kd.qm0 | apply Kd.qp0)); exact HO302.out))) (ql0 (by repeat (first | (with_reducible first | exact HB.out | apply qb0 | apply qa0 | apply qc0) | exact HB.out)))); have n2_ := Aside0.mk (qk0 (by repeat (first | (with_reducible first | exact HB.out | apply qb0 | apply qa0 | apply qc0) | exact HB.out)) hb); clear HO302; clear HB; have HO302 := n0_; have HO305 := n1_; have HB := n2_; clear n0_ n1_ n2_; (try clear hb); (try clear hb2); (try clear hk); (try clear hi); (try clear ho0); obtain ⟨Ao14, co14, eo14⟩ := Kd.R_slice HO305.out; subst eo14) | (go_at_call 13; (with_reducible refine (impl_Periods.calls k 3 0 13 t306 _ A11.out).mono ?_); rintro e w15 ⟨v307, rfl, ho0, hb⟩; have n0_ := Aside0.mk (Kd.R_elder' (by (with_reducible repeat (first | apply Kd.qn0 | apply Kd.qm0 | apply Kd.qp0)); exact HO302.out) (Kd.R_base ho0) hb); have n1_ := Aside0.mk (Kd.R_elder' (by (with_reducible repeat (first | apply Kd.qn0 | apply Kd.qm0 | apply Kd.qp0)); exact HO305.out) (Kd.R_base ho0) hb); have n2_ := Aside0.mk (Kd.qg1 (Kd.R_new' (Kd.R_new' ho0 (Kd.R_lt (by (with_reducible repeat (first | apply Kd.qn0 | apply Kd.qm0 | apply Kd.qp0)); exact HO302.out))) (Kd.R_lt (by (with_reducible repeat (first | apply Kd.qn0 | apply Kd.qm0 | apply Kd.qp0)); exact HO305.out))) (ql0 (by repeat (first | (with_reducible first | exact HB.out | apply qb0 | apply qa0 | apply qc0) | exact HB.out)))); have n3_ := Aside0.mk (qk0 (by repeat (first | (with_reducible first | exact HB.out | apply qb0 | apply qa0 | apply qc0) | exact HB.out)) hb); clear HO302; clear HO305; clear HB; have HO302 := n0_; have HO305 := n1_; have HO308 := n2_; have HB := n3_; clear n0_ n1_ n2_ n3_; (try clear hb); (try clear hb2); (try clear hk); (try clear hi); (try clear ho0); obtain ⟨Ao16, co16, eo16⟩ := Kd.R_slice HO308.out; subst eo16)); try go_wp2_with (first | (go_at_call 12; (with_reducible refine (spec_Periods.calls k t297 t298 t299 t303 _ A9.out).mono ?_); rintro e w13 ⟨v304, rfl, ho0, hb⟩; have n0_ := Aside0.mk (Kd.R_elder' (by (with_reducible repeat (first | apply Kd.qn0 | apply Kd.qm0 | apply Kd.qp0)); exact HO302.out) (Kd.R_base ho0) hb); have n1_ := Aside0.mk (Kd.qg1 (Kd.R_new' ho0 (Kd.R_lt (by (with_reducible repeat (first | apply Kd.qn0 | apply Kd.qm0 | apply Kd.qp0)); exact HO302.out))) (ql0 (by repeat (first | (with_reducible first | exact HB.out | apply qb0 | apply qa0 | apply qc0) | exact HB.out)))); have n2_ := Aside0.mk (qk0 (by repeat (first | (with_reducible first | exact HB.out | apply qb0 | apply qa0 | apply qc0) | exact HB.out)) hb); clear HO302; clear HB; have HO302 := n0_; have HO305 := n1_; have HB := n2_; clear n0_ n1_ n2_; (try clear hb); (try clear hb2); (try clear hk); (try clear hi); (try clear ho0); obtain ⟨Ao14, co14, eo14⟩ := Kd.R_slice HO305.out; subst eo14) | (go_at_call 13; (with_reducible refine (impl_Periods.calls k 3 0 13 t306 _ A11.out).mono ?_); rintro e w15 ⟨v307, rfl, ho0, hb⟩; have n0_ := Aside0.mk (Kd.R_elder' (by (with_reducible repeat (first | apply Kd.qn0 | apply Kd.qm0 | apply Kd.qp0)); exact HO302.out) (Kd.R_base ho0) hb); have n1_ := Aside0.mk (Kd.R_elder' (by (with_reducible repeat (first | apply Kd.qn0 | apply Kd.qm0 | apply Kd.qp0)); exact HO305.out) (Kd.R_base ho0) hb); have n2_ := Aside0.mk (Kd.qg1 (Kd.R_new' (Kd.R_new' ho0 (Kd.R_lt (by (with_reducible repeat (first | apply Kd.qn0 | apply Kd.qm0 | apply Kd.qp0)); exact HO302.out))) (Kd.R_lt (by (with_reducible repeat (first | apply Kd.qn0 | apply Kd.qm0 | apply Kd.qp0)); exact HO305.out))) (ql0 (by repeat (first | (with_reducible first | exact HB.out | apply qb0 | apply qa0 | apply qc0) | exact HB.out)))); have n3_ := Aside0.mk (qk0 (by repeat (first | (with_reducible first | exact HB.out | apply qb0 | apply qa0 | apply qc0) | exact HB.out)) hb); clear HO302; clear HO305; clear HB; have HO302 := n0_; have HO305 := n1_; have HO308 := n2_; have HB := n3_; clear n0_ n1_ n2_ n3_; (try clear hb); (try clear hb2); (try clear hk); (try clear hi); (try clear ho0); obtain ⟨Ao16, co16, eo16⟩ := Kd.R_slice HO308.out; subst eo16)))
   go_meet
   case rel => exact ⟨_, (((t306.length : Int) != 13)), (by first | rfl | (simp; done) | (simp [*]; done)), H', ⟨by first | omega | exact Nat.le_refl _⟩, ⟨by (with_reducible repeat (first | apply Kd.qn0 | apply Kd.qm0 | apply Kd.qp0)); exact Kd.qe1 HO302.out (fun _ hk => trivial)⟩, ⟨by repeat (first | (with_reducible first | exact HB.out | apply qb0 | apply qa0 | apply qc0) | exact HB.out)⟩⟩
  rw [if_neg c10] at H
  have c10b0 : ((t300.length : Int) == (t303.length : Int)) = false := beq_eq_false_iff_ne.mpr c10
  have c10b1 : ((t300.length : Int) != (t303.length : Int)) = true := bne_iff_ne.mpr c10
  have c10b2 : (t300.length == t303.length) = false := by first | simpa using c10 | (simp at c10 ⊢; omega)
  (first | rw [c10b0] | (simp only [i64_w, i32_w]; rw [c10b0]) | skip)
  have H' := Aside0.mk H
  clear H
  obtain ⟨Ao17, co17, eo17⟩ := Kd.R_slice HO302.out
  subst eo17
  go_wp2_with (first | (go_at_call 12; (with_reducible refine (spec_Periods.calls k t297 t298 t299 t303 _ A9.out).mono ?_); rintro e w18 ⟨v304, rfl, ho0, hb⟩; have n0_ := Aside0.mk (Kd.R_elder' (by (with_reducible repeat (first | apply Kd.qn0 | apply Kd.qm0 | apply Kd.qp0)); exact HO302.out) (Kd.R_base ho0) hb); have n1_ := Aside0.mk (Kd.qg1 (Kd.R_new' ho0 (Kd.R_lt (by (with_reducible repeat (first | apply Kd.qn0 | apply Kd.qm0 | apply Kd.qp0)); exact HO302.out))) (ql0 (by repeat (first | (with_reducible first | exact HB.out | apply qb0 | apply qa0 | apply qc0) | exact HB.out)))); have n2_ := Aside0.mk (qk0 (by repeat (first | (with_reducible first | exact HB.out | apply qb0 | apply qa0 | apply qc0) | exact HB.out)) hb); clear HO302; clear HB; have HO302 := n0_; have HO305 := n1_; have HB := n2_; clear n0_ n1_ n2_; (try clear hb); (try clear hb2); (try clear hk); (try clear hi); (try clear ho0); obtain ⟨Ao19, co19, eo19⟩ := Kd.R_slice HO305.out; subst eo19))
  repeat (go_quiet (first | (go_at_call 12; (with_reducible refine (spec_Periods.calls k t297 t298 t299 t303 _ A9.out).mono ?_); rintro e w18 ⟨v304, rfl, ho0, hb⟩; have n0_ := Aside0.mk (Kd.R_elder' (by (with_reducible repeat (first | apply Kd.qn0 | apply Kd.qm0 | apply Kd.qp0)); exact HO302.out) (Kd.R_base ho0) hb); have n1_ := Aside0.mk (Kd.qg1 (Kd.R_new' ho0 (Kd.R_lt (by (with_reducible repeat (first | apply Kd.qn0 | apply Kd.qm0 | apply Kd.qp0)); exact HO302.out))) (ql0 (by repeat (first | (with_reducible first | exact HB.out | apply qb0 | apply qa0 | apply qc0) | exact HB.out)))); have n2_ := Aside0.mk (qk0 (by repeat (first | (with_reducible first | exact HB.out | apply qb0 | apply qa0 | apply qc0) | exact HB.out)) hb); clear HO302; clear HB; have HO302 := n0_; have HO305 := n1_; have HB := n2_; clear n0_ n1_ n2_; (try clear hb); (try clear hb2); (try clear hk); (try clear hi); (try clear ho0); obtain ⟨Ao19, co19, eo19⟩ := Kd.R_slice HO305.out; subst eo19)); try go_wp2_with (first | (go_at_call 12; (with_reducible refine (spec_Periods.calls k t297 t298 t299 t303 _ A9.out).mono ?_); rintro e w18 ⟨v304, rfl, ho0, hb⟩; have n0_ := Aside0.mk (Kd.R_elder' (by (with_reducible repeat (first | apply Kd.qn0 | apply Kd.qm0 | apply Kd.qp0)); exact HO302.out) (Kd.R_base ho0) hb); have n1_ := Aside0.mk (Kd.qg1 (Kd.R_new' ho0 (Kd.R_lt (by (with_reducible repeat (first | apply Kd.qn0 | apply Kd.qm0 | apply Kd.qp0)); exact HO302.out))) (ql0 (by repeat (first | (with_reducible first | exact HB.out | apply qb0 | apply qa0 | apply qc0) | exact HB.out)))); have n2_ := Aside0.mk (qk0 (by repeat (first | (with_reducible first | exact HB.out | apply qb0 | apply qa0 | apply qc0) | exact HB.out)) hb); clear HO302; clear HB; have HO302 := n0_; have HO305 := n1_; have HB := n2_; clear n0_ n1_ n2_; (try clear hb); (try clear hb2); (try clear hk); (try clear hi); (try clear ho0); obtain ⟨Ao19, co19, eo19⟩ := Kd.R_slice HO305.out; subst eo19)))
  go_meet
  case rel => exact ⟨_, (true), (by first | rfl | (simp; done) | (simp [*]; done)), H', ⟨by first | omega | exact Nat.le_refl _⟩, ⟨by (with_reducible repeat (first | apply Kd.qn0 | apply Kd.qm0 | apply Kd.qp0)); exact Kd.qe1 HO302.out (fun _ hk => trivial)⟩, ⟨by repeat (first | (with_reducible first | exact HB.out | apply qb0 | apply qa0 | apply qc0) | exact HB.out)⟩⟩
 case rest =>
  clear HC6
  try clear c1
  try clear p2
  try clear c3
  try clear c5
  try clear c10
  try clear c10b0
  try clear c10b1
  try clear c10b2
  obtain ⟨kq, x33_5, rfl, HA, HJ5, HO_6, HB⟩ := hcut
  cases kq with
  | zero => exact absurd HA.out (by simp [laws_FnPeriodsWhole.j0])
  | succ kj5 =>
   have H := HA.out
   clear HA
   simp only [laws_FnPeriodsWhole.j0] at H
   by_cases c20 : x33_5 = true
   ·subst c20
    have H1 : (some false) = some r := by rw [if_pos rfl] at H; exact H
    clear H
    have H := H1
    clear H1
    obtain rfl := Option.some.inj H
    go_wp2
    repeat (go_quiet (fail); try go_wp2)
    go_ret
    exact ⟨by first | rfl | (simp [errW_none, errW_some] <;> rfl) | (simp [*, errW_none, errW_some] <;> rfl), by repeat (first | (with_reducible first | exact HB.out | apply qb0 | apply qa0 | apply qc0) | exact HB.out)⟩
   replace c20 := Bool.eq_false_iff.mpr c20
   subst c20
   have H1 : (laws_FnPeriodsWhole.l0 kj5 t298 t300 0) = some r := by rw [if_neg (show ¬ (false = true) by decide)] at H; exact H
   clear H
   have H := H1
   clear H1
   have H' := Aside0.mk H
   clear H
   go_wp2
   repeat (go_quiet (fail); try go_wp2)
   go_loopg [7] kj5 (fun kq v7 w' => ∃ (x7_2 : Int), v7 = .int .i64 x7_2 ∧ Aside0 (laws_FnPeriodsWhole.l0 kq t298 t300 x7_2 = some r) ∧ Aside0 (kq ≤ kj5) ∧ Aside0 (Kd.R k39 39 w' w.heap.size (fun _ => True) v301 t300) ∧ Aside0 (Below w.heap.size w w'))
   case atStart => exact ⟨(0), (by first | rfl | (simp; done) | (simp [*]; done)), H', ⟨Nat.le_refl _⟩, ⟨by (with_reducible repeat (first | apply Kd.qn0 | apply Kd.qm0 | apply Kd.qp0)); exact HO_6.out⟩, ⟨by repeat (first | (with_reducible first | exact HB.out | apply qb0 | apply qa0 | apply qc0) | exact HB.out)⟩⟩
   case round =>
    clear H'
    try clear c1
    try clear c2
    try clear p2
    try clear c3
    try clear c5
    try clear c10
    try clear c10b0
    try clear c10b1
    try clear c10b2
    try clear c20
    try clear p2
    obtain ⟨x7_2, rfl, HA, HK2, HO_6, HB⟩ := hrel
    cases gk with
    | zero => exact absurd HA.out (by simp [laws_FnPeriodsWhole.l0])
    | succ k2 =>
     have H := HA.out
     clear HA
     simp only [laws_FnPeriodsWhole.l0] at H
     by_cases c21 : x7_2 < (t300.length : Int)
     ·rw [if_pos c21] at H
      have c21b0 : decide (x7_2 < (t300.length : Int)) = true := decide_eq_true c21
      clear c21
      by_cases c22 : 0 ≤ x7_2
      case neg => rw [if_neg c22] at H; exact absurd H (by simp)
      rw [if_pos c22] at H
      have c22b0 : decide (0 ≤ x7_2) = true := decide_eq_true c22
      clear c22
      have HC23 := Aside0.mk H
      clear H
      obtain ⟨Ao24, co24, eo24⟩ := Kd.R_slice HO_6.out
      subst eo24
      have p310 : 0 ≤ (x7_2 : Int) := of_decide_eq_true (by first | (with_reducible assumption) | assumption)
      have q310 : x7_2 < (t300.length : Int) := of_decide_eq_true (by first | (with_reducible assumption) | assumption)
      obtain ⟨ad310, e310, hx310_0, hx310_1⟩ := at_T39 (Kd.qr0 HO_6.out).2.2 x7_2 p310 q310
      cases e310
      replace p310 := eq_true p310
      replace q310 := eq_true q310
      go_upto_region 11 with (first | ((with_reducible refine qv0 (N := 8) rfl ?_); (try (refine gate_guard (by rfl) ?_; dsimp only)); refine qy0 ?hg (N := 8) ?hd (cs := #[.int .i64 0, .int .i64 0]) (t := 39) ?hr ?_; (case hd => rfl); (case hg => rfl); (case hr => first | (go_simp; done) | (go_simp; rfl)); intro gb311 hg w25 hbox hb; have n0_ := Aside0.mk (Kd.R_below (Kd.R_elderB (by (with_reducible repeat (first | apply Kd.qn0 | apply Kd.qm0 | apply Kd.qp0)); exact HO_6.out) gb311 (Nat.le_of_eq hg.symm)) hb); have n1_ := Aside0.mk (qk0 (by repeat (first | (with_reducible first | exact HB.out | apply qb0 | apply qa0 | apply qc0) | exact HB.out)) hb); have n2_ := Aside0.mk (hbox); have n3_ := Aside0.mk ((by rw [hg]; exact (ql0 (by repeat (first | (with_reducible first | exact HB.out | apply qb0 | apply qa0 | apply qc0) | exact HB.out))) : w.heap.size ≤ gb311)); have n4_ := Aside0.mk ((by rw [hg]; exact (ql0 (by repeat (first | (with_reducible first | exact HB.out | apply qb0 | apply qa0 | apply qc0) | exact HB.out))) : w.heap.size ≤ gb311)); clear HO_6; clear HB; have HO_6 := n0_; have HB := n1_; have BK311 := n2_; have GW311 := n3_; have GE311 := n4_; clear n0_ n1_ n2_ n3_ n4_; clear hb hbox hg; have hcz26_0 : w25.cell? ⟨gb311, 0, none⟩ = some (.int .i64 0) := (qe0 BK311.out 0).trans rfl; have hcz26_1 : w25.cell? ⟨gb311, 1, none⟩ = some (.int .i64 0) := (qe0 BK311.out 1).trans rfl; have hfz26_0 := qd0 BK311.out 0; have hfz26_1 := qd0 BK311.out 1))
      repeat (go_quiet (first | ((with_reducible refine qv0 (N := 8) rfl ?_); (try (refine gate_guard (by rfl) ?_; dsimp only)); refine qy0 ?hg (N := 8) ?hd (cs := #[.int .i64 0, .int .i64 0]) (t := 39) ?hr ?_; (case hd => rfl); (case hg => rfl); (case hr => first | (go_simp; done) | (go_simp; rfl)); intro gb311 hg w25 hbox hb; have n0_ := Aside0.mk (Kd.R_below (Kd.R_elderB (by (with_reducible repeat (first | apply Kd.qn0 | apply Kd.qm0 | apply Kd.qp0)); exact HO_6.out) gb311 (Nat.le_of_eq hg.symm)) hb); have n1_ := Aside0.mk (qk0 (by repeat (first | (with_reducible first | exact HB.out | apply qb0 | apply qa0 | apply qc0) | exact HB.out)) hb); have n2_ := Aside0.mk (hbox); have n3_ := Aside0.mk ((by rw [hg]; exact (ql0 (by repeat (first | (with_reducible first | exact HB.out | apply qb0 | apply qa0 | apply qc0) | exact HB.out))) : w.heap.size ≤ gb311)); have n4_ := Aside0.mk ((by rw [hg]; exact (ql0 (by repeat (first | (with_reducible first | exact HB.out | apply qb0 | apply qa0 | apply qc0) | exact HB.out))) : w.heap.size ≤ gb311)); clear HO_6; clear HB; have HO_6 := n0_; have HB := n1_; have BK311 := n2_; have GW311 := n3_; have GE311 := n4_; clear n0_ n1_ n2_ n3_ n4_; clear hb hbox hg; have hcz26_0 : w25.cell? ⟨gb311, 0, none⟩ = some (.int .i64 0) := (qe0 BK311.out 0).trans rfl; have hcz26_1 : w25.cell? ⟨gb311, 1, none⟩ = some (.int .i64 0) := (qe0 BK311.out 1).trans rfl; have hfz26_0 := qd0 BK311.out 0; have hfz26_1 := qd0 BK311.out 1)); go_upto_region 11 with (first | ((with_reducible refine qv0 (N := 8) rfl ?_); (try (refine gate_guard (by rfl) ?_; dsimp only)); refine qy0 ?hg (N := 8) ?hd (cs := #[.int .i64 0, .int .i64 0]) (t := 39) ?hr ?_; (case hd => rfl); (case hg => rfl); (case hr => first | (go_simp; done) | (go_simp; rfl)); intro gb311 hg w25 hbox hb; have n0_ := Aside0.mk (Kd.R_below (Kd.R_elderB (by (with_reducible repeat (first | apply Kd.qn0 | apply Kd.qm0 | apply Kd.qp0)); exact HO_6.out) gb311 (Nat.le_of_eq hg.symm)) hb); have n1_ := Aside0.mk (qk0 (by repeat (first | (with_reducible first | exact HB.out | apply qb0 | apply qa0 | apply qc0) | exact HB.out)) hb); have n2_ := Aside0.mk (hbox); have n3_ := Aside0.mk ((by rw [hg]; exact (ql0 (by repeat (first | (with_reducible first | exact HB.out | apply qb0 | apply qa0 | apply qc0) | exact HB.out))) : w.heap.size ≤ gb311)); have n4_ := Aside0.mk ((by rw [hg]; exact (ql0 (by repeat (first | (with_reducible first | exact HB.out | apply qb0 | apply qa0 | apply qc0) | exact HB.out))) : w.heap.size ≤ gb311)); clear HO_6; clear HB; have HO_6 := n0_; have HB := n1_; have BK311 := n2_; have GW311 := n3_; have GE311 := n4_; clear n0_ n1_ n2_ n3_ n4_; clear hb hbox hg; have hcz26_0 : w25.cell? ⟨gb311, 0, none⟩ = some (.int .i64 0) := (qe0 BK311.out 0).trans rfl; have hcz26_1 : w25.cell? ⟨gb311, 1, none⟩ = some (.int .i64 0) := (qe0 BK311.out 1).trans rfl; have hfz26_0 := qd0 BK311.out 0; have hfz26_1 := qd0 BK311.out 1)))
      (try simp only [Act.put, List.setIfInBounds_toArray, List.set_cons_zero, List.set_cons_succ])
      go_cut [74] (fun v74 wc => ∃ (kq : Nat) (x74_22 : Bool), v74 = .bool x74_22 ∧ Aside0 (laws_FnPeriodsWhole.j2 kq t298 t300 x7_2 x74_22 ((rd_T39 t300 x7_2).f0) ((rd_T39 t300 x7_2).f1) = some r) ∧ Aside0 (kq ≤ k2) ∧ Aside0 (Kd.R k39 39 wc w.heap.size (fun k_ => k_ ≠ gb311) (.slice (some ad310) t300.length co24) t300) ∧ Aside0 (wc.heap[gb311]? = some (.cells #[.int .i64 ((rd_T39 t300 x7_2).f0), .int .i64 ((rd_T39 t300 x7_2).f1)] 39 (0, 0))) ∧ Aside0 (Below w.heap.size w wc))
      case first =>
       have H := HC23.out
       clear HC23
       by_cases c27 : x7_2 > 0
       ·rw [if_pos c27] at H
        have c27b0 : decide (0 < x7_2) = true := decide_eq_true c27
        clear c27
        (first | rw [c27b0] | (simp only [i64_w, i32_w]; rw [c27b0]) | skip)
        obtain ⟨ji28, hji28⟩ : ∃ j_ : Int, (wrap64 (x7_2 - 1)) = j_ := ⟨_, rfl⟩
        replace H : (if 0 ≤ (ji28) then (if (ji28) < (t300.length : Int) then (if ((rd_T39 t300 x7_2).f0) = (wrap64 (((rd_T39 t300 (ji28)).f1) + 1)) then (if ((rd_T39 t300 x7_2).f1) < ((rd_T39 t300 x7_2).f0) then (laws_FnPeriodsWhole.j2 k2 t298 t300 x7_2 true ((rd_T39 t300 x7_2).f0) ((rd_T39 t300 x7_2).f1)) else (if x7_2 = 0 then (laws_FnPeriodsWhole.j2 k2 t298 t300 x7_2 (((rd_T39 t300 x7_2).f0) != t298) ((rd_T39 t300 x7_2).f0) ((rd_T39 t300 x7_2).f1)) else (laws_FnPeriodsWhole.j2 k2 t298 t300 x7_2 false ((rd_T39 t300 x7_2).f0) ((rd_T39 t300 x7_2).f1)))) else (laws_FnPeriodsWhole.j2 k2 t298 t300 x7_2 true ((rd_T39 t300 x7_2).f0) ((rd_T39 t300 x7_2).f1))) else (none)) else (none)) = some r := by first | (rw [hji28] at H; exact H) | (simp only [hji28] at H ⊢; exact H)
        have hji28w : (IntKind.i64.wrap (x7_2 - 1)) = ji28 := (i64_w _).trans hji28
        by_cases c29 : 0 ≤ (ji28)
        case neg => rw [if_neg c29] at H; exact absurd H (by simp)
        rw [if_pos c29] at H
        have c29b0 : decide (0 ≤ (ji28)) = true := decide_eq_true c29
        clear c29
        by_cases c30 : (ji28) < (t300.length : Int)
        case neg => rw [if_neg c30] at H; exact absurd H (by simp)
        rw [if_pos c30] at H
        have c30b0 : decide ((ji28) < (t300.length : Int)) = true := decide_eq_true c30
        clear c30
        by_cases c31 : ((rd_T39 t300 x7_2).f0) = (wrap64 (((rd_T39 t300 (ji28)).f1) + 1))
        ·rw [if_pos c31] at H
         have c31b0 : (((rd_T39 t300 x7_2).f0) == (wrap64 (((rd_T39 t300 (ji28)).f1) + 1))) = true := beq_iff_eq.mpr c31
         have c31b1 : (((rd_T39 t300 x7_2).f0) != (wrap64 (((rd_T39 t300 (ji28)).f1) + 1))) = false := bne_eq_false_iff_eq.mpr c31
         clear c31
         by_cases c32 : ((rd_T39 t300 x7_2).f1) < ((rd_T39 t300 x7_2).f0)
         ·rw [if_pos c32] at H
          have c32b0 : decide (((rd_T39 t300 x7_2).f1) < ((rd_T39 t300 x7_2).f0)) = true := decide_eq_true c32
          clear c32
          have H' := Aside0.mk H
          clear H
          have hcz33_0 : w25.cell? ⟨gb311, 0, none⟩ = some (.int .i64 0) := (qe0 BK311.out 0).trans rfl
          have hcz33_1 : w25.cell? ⟨gb311, 1, none⟩ = some (.int .i64 0) := (qe0 BK311.out 1).trans rfl
          have hfz33_0 := qd0 BK311.out 0
          have hfz33_1 := qd0 BK311.out 1
          have p312 : 0 ≤ ((ji28) : Int) := of_decide_eq_true (by first | (with_reducible assumption) | assumption)
          have q312 : (ji28) < (t300.length : Int) := of_decide_eq_true (by first | (with_reducible assumption) | assumption)
          obtain ⟨ad312, e312, hx312_0, hx312_1⟩ := at_T39 (Kd.qr0 HO_6.out).2.2 (ji28) p312 q312
          obtain rfl : ad310 = ad312 := (by injection e312)
          have hn312_0 : ad310.block ≠ gb311 := Kd.own_blk ((by first | exact Kd.R_ne HO_6.out BK311.out (by decide) | exact Kd.qi1 HO_6.out (fun _ hk => hk) | exact Kd.qi1 HO_6.out (fun _ hk => hk.2) | exact Kd.qi1 HO_6.out (fun _ hk => hk.1)))
          have hn312_1 : ad310.block ≠ gb311 := Kd.own_blk ((by first | exact Kd.R_ne HO_6.out BK311.out (by decide) | exact Kd.qi1 HO_6.out (fun _ hk => hk) | exact Kd.qi1 HO_6.out (fun _ hk => hk.2) | exact Kd.qi1 HO_6.out (fun _ hk => hk.1)))
          replace hx312_0 := (cell_far (p := ⟨gb311, 0, none⟩) (by first | (rw [add_block]; exact hn312_0) | (show (Addr.add _ _).block ≠ _; rw [add_block]; exact hn312_0) | exact hn312_0) (.int .i64 ((rd_T39 t300 x7_2).f0))).trans hx312_0
          replace hx312_1 := (cell_far (p := ⟨gb311, 0, none⟩) (by first | (rw [add_block]; exact hn312_0) | (show (Addr.add _ _).block ≠ _; rw [add_block]; exact hn312_0) | exact hn312_0) (.int .i64 ((rd_T39 t300 x7_2).f0))).trans hx312_1
          replace hx312_0 := (cell_far (p := ⟨gb311, 1, none⟩) (by first | (rw [add_block]; exact hn312_1) | (show (Addr.add _ _).block ≠ _; rw [add_block]; exact hn312_1) | exact hn312_1) (.int .i64 ((rd_T39 t300 x7_2).f1))).trans hx312_0
          replace hx312_1 := (cell_far (p := ⟨gb311, 1, none⟩) (by first | (rw [add_block]; exact hn312_1) | (show (Addr.add _ _).block ≠ _; rw [add_block]; exact hn312_1) | exact hn312_1) (.int .i64 ((rd_T39 t300 x7_2).f1))).trans hx312_1
          (try have hy312_0 := fun (n_ : Nat) => (show ((((w25.drewN n_).setCell ⟨gb311, 0, none⟩ (.int .i64 ((rd_T39 t300 x7_2).f0))).setCell ⟨gb311, 1, none⟩ (.int .i64 ((rd_T39 t300 x7_2).f1)))).cell? _ = some _ from hx312_0))
          (try have hy312_1 := fun (n_ : Nat) => (show ((((w25.drewN n_).setCell ⟨gb311, 0, none⟩ (.int .i64 ((rd_T39 t300 x7_2).f0))).setCell ⟨gb311, 1, none⟩ (.int .i64 ((rd_T39 t300 x7_2).f1)))).cell? _ = some _ from hx312_1))
          clear hn312_0
          clear hn312_1
          replace p312 := eq_true p312
          replace q312 := eq_true q312
          go_wp2
          repeat (go_quiet (fail); try go_wp2)
          go_meet
          case rel => exact ⟨_, (true), (by first | rfl | (simp; done) | (simp [*]; done)), H', ⟨by have := HJ5.out; have := HK2.out; first | omega | exact Nat.le_refl _⟩, ⟨by (with_reducible repeat (first | apply Kd.qn0 | apply Kd.qm0 | apply Kd.qp0)); exact Kd.qe1 (Kd.R_far (p := ⟨gb311, 1, none⟩) (Kd.R_far (p := ⟨gb311, 0, none⟩) (Kd.qe1 HO_6.out (fun k_ hk => (⟨hk, hk.2⟩ : _ ∧ k_ ≠ gb311))) (fun _ hk => hk.2) (.int .i64 ((rd_T39 t300 x7_2).f0))) (fun _ hk => hk.2) (.int .i64 ((rd_T39 t300 x7_2).f1))) (fun _ hk => hk.1.2)⟩, ⟨by (with_reducible repeat (first | refine qg0 ?_ _ | refine qj0 ?_ | refine qh0 ?_ _)); refine qx0 (cs := #[.int .i64 ((rd_T39 t300 x7_2).f0), .int .i64 0]) ?_ 1 _ rfl; (with_reducible repeat (first | refine qg0 ?_ _ | refine qj0 ?_ | refine qh0 ?_ _)); refine qx0 (cs := #[.int .i64 0, .int .i64 0]) ?_ 0 _ rfl; (with_reducible repeat (first | refine qg0 ?_ _ | refine qj0 ?_ | refine qh0 ?_ _)); exact BK311.out⟩, ⟨by repeat (first | (with_reducible first | exact HB.out | apply qb0 | apply qa0 | apply qc0 | refine qf0 ?_ GE311.out) | exact HB.out)⟩⟩
         rw [if_neg c32] at H
         have c32b0 : decide (((rd_T39 t300 x7_2).f1) < ((rd_T39 t300 x7_2).f0)) = false := decide_eq_false c32
         clear c32
         by_cases c34 : x7_2 = 0
         ·rw [if_pos c34] at H
          have c34b0 : (x7_2 == 0) = true := beq_iff_eq.mpr c34
          have c34b1 : (x7_2 != 0) = false := bne_eq_false_iff_eq.mpr c34
          clear c34
          have H' := Aside0.mk H
          clear H
          have hcz35_0 : w25.cell? ⟨gb311, 0, none⟩ = some (.int .i64 0) := (qe0 BK311.out 0).trans rfl
          have hcz35_1 : w25.cell? ⟨gb311, 1, none⟩ = some (.int .i64 0) := (qe0 BK311.out 1).trans rfl
          have hfz35_0 := qd0 BK311.out 0
          have hfz35_1 := qd0 BK311.out 1
          have p312 : 0 ≤ ((ji28) : Int) := of_decide_eq_true (by first | (with_reducible assumption) | assumption)
          have q312 : (ji28) < (t300.length : Int) := of_decide_eq_true (by first | (with_reducible assumption) | assumption)
          obtain ⟨ad312, e312, hx312_0, hx312_1⟩ := at_T39 (Kd.qr0 HO_6.out).2.2 (ji28) p312 q312
          obtain rfl : ad310 = ad312 := (by injection e312)
          have hn312_0 : ad310.block ≠ gb311 := Kd.own_blk ((by first | exact Kd.R_ne HO_6.out BK311.out (by decide) | exact Kd.qi1 HO_6.out (fun _ hk => hk) | exact Kd.qi1 HO_6.out (fun _ hk => hk.2) | exact Kd.qi1 HO_6.out (fun _ hk => hk.1)))
          have hn312_1 : ad310.block ≠ gb311 := Kd.own_blk ((by first | exact Kd.R_ne HO_6.out BK311.out (by decide) | exact Kd.qi1 HO_6.out (fun _ hk => hk) | exact Kd.qi1 HO_6.out (fun _ hk => hk.2) | exact Kd.qi1 HO_6.out (fun _ hk => hk.1)))
          replace hx312_0 := (cell_far (p := ⟨gb311, 0, none⟩) (by first | (rw [add_block]; exact hn312_0) | (show (Addr.add _ _).block ≠ _; rw [add_block]; exact hn312_0) | exact hn312_0) (.int .i64 ((rd_T39 t300 x7_2).f0))).trans hx312_0
          replace hx312_1 := (cell_far (p := ⟨gb311, 0, none⟩) (by first | (rw [add_block]; exact hn312_0) | (show (Addr.add _ _).block ≠ _; rw [add_block]; exact hn312_0) | exact hn312_0) (.int .i64 ((rd_T39 t300 x7_2).f0))).trans hx312_1
          replace hx312_0 := (cell_far (p := ⟨gb311, 1, none⟩) (by first | (rw [add_block]; exact hn312_1) | (show (Addr.add _ _).block ≠ _; rw [add_block]; exact hn312_1) | exact hn312_1) (.int .i64 ((rd_T39 t300 x7_2).f1))).trans hx312_0
          replace hx312_1 := (cell_far (p := ⟨gb311, 1, none⟩) (by first | (rw [add_block]; exact hn312_1) | (show (Addr.add _ _).block ≠ _; rw [add_block]; exact hn312_1) | exact hn312_1) (.int .i64 ((rd_T39 t300 x7_2).f1))).trans hx312_1
          (try have hy312_0 := fun (n_ : Nat) => (show ((((w25.drewN n_).setCell ⟨gb311, 0, none⟩ (.int .i64 ((rd_T39 t300 x7_2).f0))).setCell ⟨gb311, 1, none⟩ (.int .i64 ((rd_T39 t300 x7_2).f1)))).cell? _ = some _ from hx312_0))
          (try have hy312_1 := fun (n_ : Nat) => (show ((((w25.drewN n_).setCell ⟨gb311, 0, none⟩ (.int .i64 ((rd_T39 t300 x7_2).f0))).setCell ⟨gb311, 1, none⟩ (.int .i64 ((rd_T39 t300 x7_2).f1)))).cell? _ = some _ from hx312_1))
          clear hn312_0
          clear hn312_1
          replace p312 := eq_true p312
          replace q312 := eq_true q312
          go_wp2
          repeat (go_quiet (fail); try go_wp2)
          go_meet
          case rel => exact ⟨_, ((((rd_T39 t300 x7_2).f0) != t298)), (by first | rfl | (simp; done) | (simp [*]; done)), H', ⟨by have := HJ5.out; have := HK2.out; first | omega | exact Nat.le_refl _⟩, ⟨by (with_reducible repeat (first | apply Kd.qn0 | apply Kd.qm0 | apply Kd.qp0)); exact Kd.qe1 (Kd.R_far (p := ⟨gb311, 1, none⟩) (Kd.R_far (p := ⟨gb311, 0, none⟩) (Kd.qe1 HO_6.out (fun k_ hk => (⟨hk, hk.2⟩ : _ ∧ k_ ≠ gb311))) (fun _ hk => hk.2) (.int .i64 ((rd_T39 t300 x7_2).f0))) (fun _ hk => hk.2) (.int .i64 ((rd_T39 t300 x7_2).f1))) (fun _ hk => hk.1.2)⟩, ⟨by (with_reducible repeat (first | refine qg0 ?_ _ | refine qj0 ?_ | refine qh0 ?_ _)); refine qx0 (cs := #[.int .i64 ((rd_T39 t300 x7_2).f0), .int .i64 0]) ?_ 1 _ rfl; (with_reducible repeat (first | refine qg0 ?_ _ | refine qj0 ?_ | refine qh0 ?_ _)); refine qx0 (cs := #[.int .i64 0, .int .i64 0]) ?_ 0 _ rfl; (with_reducible repeat (first | refine qg0 ?_ _ | refine qj0 ?_ | refine qh0 ?_ _)); exact BK311.out⟩, ⟨by repeat (first | (with_reducible first | exact HB.out | apply qb0 | apply qa0 | apply qc0 | refine qf0 ?_ GE311.out) | exact HB.out)⟩⟩
         rw [if_neg c34] at H
         have c34b0 : (x7_2 == 0) = false := beq_eq_false_iff_ne.mpr c34
         have c34b1 : (x7_2 != 0) = true := bne_iff_ne.mpr c34
         have H' := Aside0.mk H
         clear H
         have hcz36_0 : w25.cell? ⟨gb311, 0, none⟩ = some (.int .i64 0) := (qe0 BK311.out 0).trans rfl
         have hcz36_1 : w25.cell? ⟨gb311, 1, none⟩ = some (.int .i64 0) := (qe0 BK311.out 1).trans rfl
         have hfz36_0 := qd0 BK311.out 0
         have hfz36_1 := qd0 BK311.out 1
         have p312 : 0 ≤ ((ji28) : Int) := of_decide_eq_true (by first | (with_reducible assumption) | assumption)
         have q312 : (ji28) < (t300.length : Int) := of_decide_eq_true (by first | (with_reducible assumption) | assumption)
         obtain ⟨ad312, e312, hx312_0, hx312_1⟩ := at_T39 (Kd.qr0 HO_6.out).2.2 (ji28) p312 q312
         obtain rfl : ad310 = ad312 := (by injection e312)
         have hn312_0 : ad310.block ≠ gb311 := Kd.own_blk ((by first | exact Kd.R_ne HO_6.out BK311.out (by decide) | exact Kd.qi1 HO_6.out (fun _ hk => hk) | exact Kd.qi1 HO_6.out (fun _ hk => hk.2) | exact Kd.qi1 HO_6.out (fun _ hk => hk.1)))
         have hn312_1 : ad310.block ≠ gb311 := Kd.own_blk ((by first | exact Kd.R_ne HO_6.out BK311.out (by decide) | exact Kd.qi1 HO_6.out (fun _ hk => hk) | exact Kd.qi1 HO_6.out (fun _ hk => hk.2) | exact Kd.qi1 HO_6.out (fun _ hk => hk.1)))
         replace hx312_0 := (cell_far (p := ⟨gb311, 0, none⟩) (by first | (rw [add_block]; exact hn312_0) | (show (Addr.add _ _).block ≠ _; rw [add_block]; exact hn312_0) | exact hn312_0) (.int .i64 ((rd_T39 t300 x7_2).f0))).trans hx312_0
         replace hx312_1 := (cell_far (p := ⟨gb311, 0, none⟩) (by first | (rw [add_block]; exact hn312_0) | (show (Addr.add _ _).block ≠ _; rw [add_block]; exact hn312_0) | exact hn312_0) (.int .i64 ((rd_T39 t300 x7_2).f0))).trans hx312_1
         replace hx312_0 := (cell_far (p := ⟨gb311, 1, none⟩) (by first | (rw [add_block]; exact hn312_1) | (show (Addr.add _ _).block ≠ _; rw [add_block]; exact hn312_1) | exact hn312_1) (.int .i64 ((rd_T39 t300 x7_2).f1))).trans hx312_0
         replace hx312_1 := (cell_far (p := ⟨gb311, 1, none⟩) (by first | (rw [add_block]; exact hn312_1) | (show (Addr.add _ _).block ≠ _; rw [add_block]; exact hn312_1) | exact hn312_1) (.int .i64 ((rd_T39 t300 x7_2).f1))).trans hx312_1
         (try have hy312_0 := fun (n_ : Nat) => (show ((((w25.drewN n_).setCell ⟨gb311, 0, none⟩ (.int .i64 ((rd_T39 t300 x7_2).f0))).setCell ⟨gb311, 1, none⟩ (.int .i64 ((rd_T39 t300 x7_2).f1)))).cell? _ = some _ from hx312_0))
         (try have hy312_1 := fun (n_ : Nat) => (show ((((w25.drewN n_).setCell ⟨gb311, 0, none⟩ (.int .i64 ((rd_T39 t300 x7_2).f0))).setCell ⟨gb311, 1, none⟩ (.int .i64 ((rd_T39 t300 x7_2).f1)))).cell? _ = some _ from hx312_1))
         clear hn312_0
         clear hn312_1
         replace p312 := eq_true p312
         replace q312 := eq_true q312
         go_wp2
         repeat (go_quiet (fail); try go_wp2)
         go_meet
         case rel => exact ⟨_, (false), (by first | rfl | (simp; done) | (simp [*]; done)), H', ⟨by have := HJ5.out; have := HK2.out; first | omega | exact Nat.le_refl _⟩, ⟨by (with_reducible repeat (first | apply Kd.qn0 | apply Kd.qm0 | apply Kd.qp0)); exact Kd.qe1 (Kd.R_far (p := ⟨gb311, 1, none⟩) (Kd.R_far (p := ⟨gb311, 0, none⟩) (Kd.qe1 HO_6.out (fun k_ hk => (⟨hk, hk.2⟩ : _ ∧ k_ ≠ gb311))) (fun _ hk => hk.2) (.int .i64 ((rd_T39 t300 x7_2).f0))) (fun _ hk => hk.2) (.int .i64 ((rd_T39 t300 x7_2).f1))) (fun _ hk => hk.1.2)⟩, ⟨by (with_reducible repeat (first | refine qg0 ?_ _ | refine qj0 ?_ | refine qh0 ?_ _)); refine qx0 (cs := #[.int .i64 ((rd_T39 t300 x7_2).f0), .int .i64 0]) ?_ 1 _ rfl; (with_reducible repeat (first | refine qg0 ?_ _ | refine qj0 ?_ | refine qh0 ?_ _)); refine qx0 (cs := #[.int .i64 0, .int .i64 0]) ?_ 0 _ rfl; (with_reducible repeat (first | refine qg0 ?_ _ | refine qj0 ?_ | refine qh0 ?_ _)); exact BK311.out⟩, ⟨by repeat (first | (with_reducible first | exact HB.out | apply qb0 | apply qa0 | apply qc0 | refine qf0 ?_ GE311.out) | exact HB.out)⟩⟩
        rw [if_neg c31] at H
        have c31b0 : (((rd_T39 t300 x7_2).f0) == (wrap64 (((rd_T39 t300 (ji28)).f1) + 1))) = false := beq_eq_false_iff_ne.mpr c31
        have c31b1 : (((rd_T39 t300 x7_2).f0) != (wrap64 (((rd_T39 t300 (ji28)).f1) + 1))) = true := bne_iff_ne.mpr c31
        have H' := Aside0.mk H
        clear H
        have hcz37_0 : w25.cell? ⟨gb311, 0, none⟩ = some (.int .i64 0) := (qe0 BK311.out 0).trans rfl
        have hcz37_1 : w25.cell? ⟨gb311, 1, none⟩ = some (.int .i64 0) := (qe0 BK311.out 1).trans rfl
        have hfz37_0 := qd0 BK311.out 0
        have hfz37_1 := qd0 BK311.out 1
        have p312 : 0 ≤ ((ji28) : Int) := of_decide_eq_true (by first | (with_reducible assumption) | assumption)
        have q312 : (ji28) < (t300.length : Int) := of_decide_eq_true (by first | (with_reducible assumption) | assumption)
        obtain ⟨ad312, e312, hx312_0, hx312_1⟩ := at_T39 (Kd.qr0 HO_6.out).2.2 (ji28) p312 q312
        obtain rfl : ad310 = ad312 := (by injection e312)
        have hn312_0 : ad310.block ≠ gb311 := Kd.own_blk ((by first | exact Kd.R_ne HO_6.out BK311.out (by decide) | exact Kd.qi1 HO_6.out (fun _ hk => hk) | exact Kd.qi1 HO_6.out (fun _ hk => hk.2) | exact Kd.qi1 HO_6.out (fun _ hk => hk.1)))
        have hn312_1 : ad310.block ≠ gb311 := Kd.own_blk ((by first | exact Kd.R_ne HO_6.out BK311.out (by decide) | exact Kd.qi1 HO_6.out (fun _ hk => hk) | exact Kd.qi1 HO_6.out (fun _ hk => hk.2) | exact Kd.qi1 HO_6.out (fun _ hk => hk.1)))
        replace hx312_0 := (cell_far (p := ⟨gb311, 0, none⟩) (by first | (rw [add_block]; exact hn312_0) | (show (Addr.add _ _).block ≠ _; rw [add_block]; exact hn312_0) | exact hn312_0) (.int .i64 ((rd_T39 t300 x7_2).f0))).trans hx312_0
        replace hx312_1 := (cell_far (p := ⟨gb311, 0, none⟩) (by first | (rw [add_block]; exact hn312_0) | (show (Addr.add _ _).block ≠ _; rw [add_block]; exact hn312_0) | exact hn312_0) (.int .i64 ((rd_T39 t300 x7_2).f0))).trans hx312_1
        replace hx312_0 := (cell_far (p := ⟨gb311, 1, none⟩) (by first | (rw [add_block]; exact hn312_1) | (show (Addr.add _ _).block ≠ _; rw [add_block]; exact hn312_1) | exact hn312_1) (.int .i64 ((rd_T39 t300 x7_2).f1))).trans hx312_0
        replace hx312_1 := (cell_far (p := ⟨gb311, 1, none⟩) (by first | (rw [add_block]; exact hn312_1) | (show (Addr.add _ _).block ≠ _; rw [add_block]; exact hn312_1) | exact hn312_1) (.int .i64 ((rd_T39 t300 x7_2).f1))).trans hx312_1
        (try have hy312_0 := fun (n_ : Nat) => (show ((((w25.drewN n_).setCell ⟨gb311, 0, none⟩ (.int .i64 ((rd_T39 t300 x7_2).f0))).setCell ⟨gb311, 1, none⟩ (.int .i64 ((rd_T39 t300 x7_2).f1)))).cell? _ = some _ from hx312_0))
        (try have hy312_1 := fun (n_ : Nat) => (show ((((w25.drewN n_).setCell ⟨gb311, 0, none⟩ (.int .i64 ((rd_T39 t300 x7_2).f0))).setCell ⟨gb311, 1, none⟩ (.int .i64 ((rd_T39 t300 x7_2).f1)))).cell? _ = some _ from hx312_1))
        clear hn312_0
        clear hn312_1
        replace p312 := eq_true p312
        replace q312 := eq_true q312
        go_wp2
        repeat (go_quiet (fail); try go_wp2)
        go_meet
        case rel => exact ⟨_, (true), (by first | rfl | (simp; done) | (simp [*]; done)), H', ⟨by have := HJ5.out; have := HK2.out; first | omega | exact Nat.le_refl _⟩, ⟨by (with_reducible repeat (first | apply Kd.qn0 | apply Kd.qm0 | apply Kd.qp0)); exact Kd.qe1 (Kd.R_far (p := ⟨gb311, 1, none⟩) (Kd.R_far (p := ⟨gb311, 0, none⟩) (Kd.qe1 HO_6.out (fun k_ hk => (⟨hk, hk.2⟩ : _ ∧ k_ ≠ gb311))) (fun _ hk => hk.2) (.int .i64 ((rd_T39 t300 x7_2).f0))) (fun _ hk => hk.2) (.int .i64 ((rd_T39 t300 x7_2).f1))) (fun _ hk => hk.1.2)⟩, ⟨by (with_reducible repeat (first | refine qg0 ?_ _ | refine qj0 ?_ | refine qh0 ?_ _)); refine qx0 (cs := #[.int .i64 ((rd_T39 t300 x7_2).f0), .int .i64 0]) ?_ 1 _ rfl; (with_reducible repeat (first | refine qg0 ?_ _ | refine qj0 ?_ | refine qh0 ?_ _)); refine qx0 (cs := #[.int .i64 0, .int .i64 0]) ?_ 0 _ rfl; (with_reducible repeat (first | refine qg0 ?_ _ | refine qj0 ?_ | refine qh0 ?_ _)); exact BK311.out⟩, ⟨by repeat (first | (with_reducible first | exact HB.out | apply qb0 | apply qa0 | apply qc0 | refine qf0 ?_ GE311.out) | exact HB.out)⟩⟩
       rw [if_neg c27] at H
       have c27b0 : decide (0 < x7_2) = false := decide_eq_false c27
       clear c27
       (first | rw [c27b0] | (simp only [i64_w, i32_w]; rw [c27b0]) | skip)
       by_cases c38 : ((rd_T39 t300 x7_2).f1) < ((rd_T39 t300 x7_2).f0)
       ·rw [if_pos c38] at H
        have c38b0 : decide (((rd_T39 t300 x7_2).f1) < ((rd_T39 t300 x7_2).f0)) = true := decide_eq_true c38
        clear c38
        have H' := Aside0.mk H
        clear H
        have hcz39_0 : w25.cell? ⟨gb311, 0, none⟩ = some (.int .i64 0) := (qe0 BK311.out 0).trans rfl
        have hcz39_1 : w25.cell? ⟨gb311, 1, none⟩ = some (.int .i64 0) := (qe0 BK311.out 1).trans rfl
        have hfz39_0 := qd0 BK311.out 0
        have hfz39_1 := qd0 BK311.out 1
        go_wp2
        repeat (go_quiet (fail); try go_wp2)
        go_meet
        case rel => exact ⟨_, (true), (by first | rfl | (simp; done) | (simp [*]; done)), H', ⟨by have := HJ5.out; have := HK2.out; first | omega | exact Nat.le_refl _⟩, ⟨by (with_reducible repeat (first | apply Kd.qn0 | apply Kd.qm0 | apply Kd.qp0)); exact Kd.qe1 (Kd.R_far (p := ⟨gb311, 1, none⟩) (Kd.R_far (p := ⟨gb311, 0, none⟩) (Kd.qe1 HO_6.out (fun k_ hk => (⟨hk, hk.2⟩ : _ ∧ k_ ≠ gb311))) (fun _ hk => hk.2) (.int .i64 ((rd_T39 t300 x7_2).f0))) (fun _ hk => hk.2) (.int .i64 ((rd_T39 t300 x7_2).f1))) (fun _ hk => hk.1.2)⟩, ⟨by (with_reducible repeat (first | refine qg0 ?_ _ | refine qj0 ?_ | refine qh0 ?_ _)); refine qx0 (cs := #[.int .i64 ((rd_T39 t300 x7_2).f0), .int .i64 0]) ?_ 1 _ rfl; (with_reducible repeat (first | refine qg0 ?_ _ | refine qj0 ?_ | refine qh0 ?_ _)); refine qx0 (cs := #[.int .i64 0, .int .i64 0]) ?_ 0 _ rfl; (with_reducible repeat (first | refine qg0 ?_ _ | refine qj0 ?_ | refine qh0 ?_ _)); exact BK311.out⟩, ⟨by repeat (first | (with_reducible first | exact HB.out | apply qb0 | apply qa0 | apply qc0 | refine qf0 ?_ GE311.out) | exact HB.out)⟩⟩
       rw [if_neg c38] at H
       have c38b0 : decide (((rd_T39 t300 x7_2).f1) < ((rd_T39 t300 x7_2).f0)) = false := decide_eq_false c38
       clear c38
       by_cases c40 : x7_2 = 0
       ·rw [if_pos c40] at H
        have c40b0 : (x7_2 == 0) = true := beq_iff_eq.mpr c40
        have c40b1 : (x7_2 != 0) = false := bne_eq_false_iff_eq.mpr c40
        clear c40
        have H' := Aside0.mk H
        clear H
        have hcz41_0 : w25.cell? ⟨gb311, 0, none⟩ = some (.int .i64 0) := (qe0 BK311.out 0).trans rfl
        have hcz41_1 : w25.cell? ⟨gb311, 1, none⟩ = some (.int .i64 0) := (qe0 BK311.out 1).trans rfl
        have hfz41_0 := qd0 BK311.out 0
        have hfz41_1 := qd0 BK311.out 1
        go_wp2
        repeat (go_quiet (fail); try go_wp2)
        go_meet
        case rel => exact ⟨_, ((((rd_T39 t300 x7_2).f0) != t298)), (by first | rfl | (simp; done) | (simp [*]; done)), H', ⟨by have := HJ5.out; have := HK2.out; first | omega | exact Nat.le_refl _⟩, ⟨by (with_reducible repeat (first | apply Kd.qn0 | apply Kd.qm0 | apply Kd.qp0)); exact Kd.qe1 (Kd.R_far (p := ⟨gb311, 1, none⟩) (Kd.R_far (p := ⟨gb311, 0, none⟩) (Kd.qe1 HO_6.out (fun k_ hk => (⟨hk, hk.2⟩ : _ ∧ k_ ≠ gb311))) (fun _ hk => hk.2) (.int .i64 ((rd_T39 t300 x7_2).f0))) (fun _ hk => hk.2) (.int .i64 ((rd_T39 t300 x7_2).f1))) (fun _ hk => hk.1.2)⟩, ⟨by (with_reducible repeat (first | refine qg0 ?_ _ | refine qj0 ?_ | refine qh0 ?_ _)); refine qx0 (cs := #[.int .i64 ((rd_T39 t300 x7_2).f0), .int .i64 0]) ?_ 1 _ rfl; (with_reducible repeat (first | refine qg0 ?_ _ | refine qj0 ?_ | refine qh0 ?_ _)); refine qx0 (cs := #[.int .i64 0, .int .i64 0]) ?_ 0 _ rfl; (with_reducible repeat (first | refine qg0 ?_ _ | refine qj0 ?_ | refine qh0 ?_ _)); exact BK311.out⟩, ⟨by repeat (first | (with_reducible first | exact HB.out | apply qb0 | apply qa0 | apply qc0 | refine qf0 ?_ GE311.out) | exact HB.out)⟩⟩
       rw [if_neg c40] at H
       have c40b0 : (x7_2 == 0) = false := beq_eq_false_iff_ne.mpr c40
       have c40b1 : (x7_2 != 0) = true := bne_iff_ne.mpr c40
       have H' := Aside0.mk H
       clear H
       have hcz42_0 : w25.cell? ⟨gb311, 0, none⟩ = some (.int .i64 0) := (qe0 BK311.out 0).trans rfl
       have hcz42_1 : w25.cell? ⟨gb311, 1, none⟩ = some (.int .i64 0) := (qe0 BK311.out 1).trans rfl
       have hfz42_0 := qd0 BK311.out 0
       have hfz42_1 := qd0 BK311.out 1
       go_wp2
       repeat (go_quiet (fail); try go_wp2)
       go_meet
       case rel => exact ⟨_, (false), (by first | rfl | (simp; done) | (simp [*]; done)), H', ⟨by have := HJ5.out; have := HK2.out; first | omega | exact Nat.le_refl _⟩, ⟨by (with_reducible repeat (first | apply Kd.qn0 | apply Kd.qm0 | apply Kd.qp0)); exact Kd.qe1 (Kd.R_far (p := ⟨gb311, 1, none⟩) (Kd.R_far (p := ⟨gb311, 0, none⟩) (Kd.qe1 HO_6.out (fun k_ hk => (⟨hk, hk.2⟩ : _ ∧ k_ ≠ gb311))) (fun _ hk => hk.2) (.int .i64 ((rd_T39 t300 x7_2).f0))) (fun _ hk => hk.2) (.int .i64 ((rd_T39 t300 x7_2).f1))) (fun _ hk => hk.1.2)⟩, ⟨by (with_reducible repeat (first | refine qg0 ?_ _ | refine qj0 ?_ | refine qh0 ?_ _)); refine qx0 (cs := #[.int .i64 ((rd_T39 t300 x7_2).f0), .int .i64 0]) ?_ 1 _ rfl; (with_reducible repeat (first | refine qg0 ?_ _ | refine qj0 ?_ | refine qh0 ?_ _)); refine qx0 (cs := #[.int .i64 0, .int .i64 0]) ?_ 0 _ rfl; (with_reducible repeat (first | refine qg0 ?_ _ | refine qj0 ?_ | refine qh0 ?_ _)); exact BK311.out⟩, ⟨by repeat (first | (with_reducible first | exact HB.out | apply qb0 | apply qa0 | apply qc0 | refine qf0 ?_ GE311.out) | exact HB.out)⟩⟩
      case rest =>
       clear HC23
       try clear c1
       try clear c2
       try clear p2
       try clear c3
       try clear p3
       try clear q3
       try clear hx3
       try clear c4
       try clear c5
       try clear p6
       try clear c10
       try clear c10b0
       try clear c10b1
       try clear c10b2
       try clear c20
       try clear c21
       try clear c21b0
       try clear c22
       try clear c22b0
       try clear c27
       try clear c27b0
       try clear c29
       try clear c29b0
       try clear c30
       try clear c30b0
       try clear c31
       try clear c31b0
       try clear c31b1
       try clear p31
       try clear q31
       try clear hx31
       try clear c32
       try clear c32b0
       try clear c34
       try clear c34b0
       try clear c34b1
       try clear c38
       try clear c38b0
       try clear c40
       try clear c40b0
       try clear c40b1
       try clear hcz26_0
       try clear hcz26_1
       try clear hcz33_0
       try clear hcz33_1
       try clear hcz35_0
       try clear hcz35_1
       try clear hcz36_0
       try clear hcz36_1
       try clear hcz37_0
       try clear hcz37_1
       try clear hcz39_0
       try clear hcz39_1
       try clear hcz41_0
       try clear hcz41_1
       try clear hcz42_0
       try clear hcz42_1
       try clear hfz26_0
       try clear hfz26_1
       try clear hfz33_0
       try clear hfz33_1
       try clear hfz35_0
       try clear hfz35_1
       try clear hfz36_0
       try clear hfz36_1
       try clear hfz37_0
       try clear hfz37_1
       try clear hfz39_0
       try clear hfz39_1
       try clear hfz41_0
       try clear hfz41_1
       try clear hfz42_0
       try clear hfz42_1
       try clear hx310_0
       try clear hx310_1
       try clear hx312_0
       try clear hx312_1
       try clear p2
       try clear p310
       try clear p312
       try clear q310
       try clear q312
       obtain ⟨kq, x74_22, rfl, HA, HJ22, HO_6, BK311, HB⟩ := hcut
       cases kq with
       | zero => exact absurd HA.out (by simp [laws_FnPeriodsWhole.j2])
       | succ kj22 =>
        have H := HA.out
        clear HA
        simp only [laws_FnPeriodsWhole.j2] at H
        by_cases c43 : x74_22 = true
        ·subst c43
         have H1 : (some false) = some r := by rw [if_pos rfl] at H; exact H
         clear H
         have H := H1
         clear H1
         obtain rfl := Option.some.inj H
         go_wp2
         repeat (go_quiet (fail); try go_wp2)
         go_ret
         exact ⟨by first | rfl | (simp [errW_none, errW_some] <;> rfl) | (simp [*, errW_none, errW_some] <;> rfl), by repeat (first | (with_reducible first | exact HB.out | apply qb0 | apply qa0 | apply qc0 | refine qf0 ?_ GE311.out) | exact HB.out)⟩
        replace c43 := Bool.eq_false_iff.mpr c43
        subst c43
        have H1 : ((impl_PeriodAt.f kj22 t300 ((rd_T39 t300 x7_2).f0)).bind fun t313 => (if t313 = x7_2 then ((impl_PeriodAt.f kj22 t300 ((rd_T39 t300 x7_2).f1)).bind fun t314 => (if t314 = x7_2 then (laws_FnPeriodsWhole.l0 kj22 t298 t300 (wrap64 (x7_2 + 1))) else (some false))) else (some false))) = some r := by rw [if_neg (show ¬ (false = true) by decide)] at H; exact H
        clear H
        have H := H1
        clear H1
        replace H := Option.bind_eq_some_iff.mp H
        obtain ⟨t313, A440, H⟩ := H
        replace H : (if t313 = x7_2 then ((impl_PeriodAt.f kj22 t300 ((rd_T39 t300 x7_2).f1)).bind fun t314 => (if t314 = x7_2 then (laws_FnPeriodsWhole.l0 kj22 t298 t300 (wrap64 (x7_2 + 1))) else (some false))) else (some false)) = some r := H
        have A44 := Aside0.mk A440
        clear A440
        by_cases c45 : t313 = x7_2
        ·rw [if_pos c45] at H
         have c45b0 : (t313 == x7_2) = true := beq_iff_eq.mpr c45
         have c45b1 : (t313 != x7_2) = false := bne_eq_false_iff_eq.mpr c45
         clear c45
         replace H := Option.bind_eq_some_iff.mp H
         obtain ⟨t314, A460, H⟩ := H
         replace H : (if t314 = x7_2 then (laws_FnPeriodsWhole.l0 kj22 t298 t300 (wrap64 (x7_2 + 1))) else (some false)) = some r := H
         have A46 := Aside0.mk A460
         clear A460
         by_cases c47 : t314 = x7_2
         ·rw [if_pos c47] at H
          have c47b0 : (t314 == x7_2) = true := beq_iff_eq.mpr c47
          have c47b1 : (t314 != x7_2) = false := bne_eq_false_iff_eq.mpr c47
          clear c47
          have H' := Aside0.mk H
          clear H
          have hcz48_0 : wc.cell? ⟨gb311, 0, none⟩ = some (.int .i64 ((rd_T39 t300 x7_2).f0)) := (qe0 BK311.out 0).trans rfl
          have hcz48_1 : wc.cell? ⟨gb311, 1, none⟩ = some (.int .i64 ((rd_T39 t300 x7_2).f1)) := (qe0 BK311.out 1).trans rfl
          have hfz48_0 := qd0 BK311.out 0
          have hfz48_1 := qd0 BK311.out 1
          go_wp2_with (first | (go_at_call 18; (with_reducible refine (impl_PeriodAt.calls kj22 _ _ t300 ((rd_T39 t300 x7_2).f0) t313 _ ?side1 ?side2 A44.out).mono ?_); (case side1 => repeat (first | exact (Kd.qr0 HO_6.out).2.2 | (with_reducible refine Kd.qb1 ?_ _) | (with_reducible refine Kd.qa1 ?_ _) | (with_reducible refine Kd.qf1 ?_))); (case side2 => exact (Kd.qr0 HO_6.out).2.1); rintro e w49 ⟨rfl, hb⟩; have n0_ := Aside0.mk (Kd.R_below (by (with_reducible repeat (first | apply Kd.qn0 | apply Kd.qm0 | apply Kd.qp0)); exact HO_6.out) hb); have n1_ := Aside0.mk (blk_below (g := gb311) (o := .cells #[.int .i64 ((rd_T39 t300 x7_2).f0), .int .i64 ((rd_T39 t300 x7_2).f1)] 39 (0, 0)) (by (with_reducible repeat (first | refine qg0 ?_ _ | refine qj0 ?_ | refine qh0 ?_ _)); exact BK311.out) hb); have n2_ := Aside0.mk (qk0 (by repeat (first | (with_reducible first | exact HB.out | apply qb0 | apply qa0 | apply qc0 | refine qf0 ?_ GE311.out) | exact HB.out)) hb); clear HO_6; clear BK311; clear HB; have HO_6 := n0_; have BK311 := n1_; have HB := n2_; clear n0_ n1_ n2_; (try clear hb); (try clear hb2); (try clear hk); (try clear hi); have hcz50_0 : w49.cell? ⟨gb311, 0, none⟩ = some (.int .i64 ((rd_T39 t300 x7_2).f0)) := (qe0 BK311.out 0).trans rfl; have hcz50_1 : w49.cell? ⟨gb311, 1, none⟩ = some (.int .i64 ((rd_T39 t300 x7_2).f1)) := (qe0 BK311.out 1).trans rfl; have hfz50_0 := qd0 BK311.out 0; have hfz50_1 := qd0 BK311.out 1) | (go_at_call 18; (with_reducible refine (impl_PeriodAt.calls kj22 _ _ t300 ((rd_T39 t300 x7_2).f1) t314 _ ?side1 ?side2 A46.out).mono ?_); (case side1 => repeat (first | exact (Kd.qr0 HO_6.out).2.2 | (with_reducible refine Kd.qb1 ?_ _) | (with_reducible refine Kd.qa1 ?_ _) | (with_reducible refine Kd.qf1 ?_))); (case side2 => exact (Kd.qr0 HO_6.out).2.1); rintro e w51 ⟨rfl, hb⟩; have n0_ := Aside0.mk (Kd.R_below (by (with_reducible repeat (first | apply Kd.qn0 | apply Kd.qm0 | apply Kd.qp0)); exact HO_6.out) hb); have n1_ := Aside0.mk (blk_below (g := gb311) (o := .cells #[.int .i64 ((rd_T39 t300 x7_2).f0), .int .i64 ((rd_T39 t300 x7_2).f1)] 39 (0, 0)) (by (with_reducible repeat (first | refine qg0 ?_ _ | refine qj0 ?_ | refine qh0 ?_ _)); exact BK311.out) hb); have n2_ := Aside0.mk (qk0 (by repeat (first | (with_reducible first | exact HB.out | apply qb0 | apply qa0 | apply qc0 | refine qf0 ?_ GE311.out) | exact HB.out)) hb); clear HO_6; clear BK311; clear HB; have HO_6 := n0_; have BK311 := n1_; have HB := n2_; clear n0_ n1_ n2_; (try clear hb); (try clear hb2); (try clear hk); (try clear hi)))
          repeat (go_quiet (first | (go_at_call 18; (with_reducible refine (impl_PeriodAt.calls kj22 _ _ t300 ((rd_T39 t300 x7_2).f0) t313 _ ?side1 ?side2 A44.out).mono ?_); (case side1 => repeat (first | exact (Kd.qr0 HO_6.out).2.2 | (with_reducible refine Kd.qb1 ?_ _) | (with_reducible refine Kd.qa1 ?_ _) | (with_reducible refine Kd.qf1 ?_))); (case side2 => exact (Kd.qr0 HO_6.out).2.1); rintro e w49 ⟨rfl, hb⟩; have n0_ := Aside0.mk (Kd.R_below (by (with_reducible repeat (first | apply Kd.qn0 | apply Kd.qm0 | apply Kd.qp0)); exact HO_6.out) hb); have n1_ := Aside0.mk (blk_below (g := gb311) (o := .cells #[.int .i64 ((rd_T39 t300 x7_2).f0), .int .i64 ((rd_T39 t300 x7_2).f1)] 39 (0, 0)) (by (with_reducible repeat (first | refine qg0 ?_ _ | refine qj0 ?_ | refine qh0 ?_ _)); exact BK311.out) hb); have n2_ := Aside0.mk (qk0 (by repeat (first | (with_reducible first | exact HB.out | apply qb0 | apply qa0 | apply qc0 | refine qf0 ?_ GE311.out) | exact HB.out)) hb); clear HO_6; clear BK311; clear HB; have HO_6 := n0_; have BK311 := n1_; have HB := n2_; clear n0_ n1_ n2_; (try clear hb); (try clear hb2); (try clear hk); (try clear hi); have hcz50_0 : w49.cell? ⟨gb311, 0, none⟩ = some (.int .i64 ((rd_T39 t300 x7_2).f0)) := (qe0 BK311.out 0).trans rfl; have hcz50_1 : w49.cell? ⟨gb311, 1, none⟩ = some (.int .i64 ((rd_T39 t300 x7_2).f1)) := (qe0 BK311.out 1).trans rfl; have hfz50_0 := qd0 BK311.out 0; have hfz50_1 := qd0 BK311.out 1) | (go_at_call 18; (with_reducible refine (impl_PeriodAt.calls kj22 _ _ t300 ((rd_T39 t300 x7_2).f1) t314 _ ?side1 ?side2 A46.out).mono ?_); (case side1 => repeat (first | exact (Kd.qr0 HO_6.out).2.2 | (with_reducible refine Kd.qb1 ?_ _) | (with_reducible refine Kd.qa1 ?_ _) | (with_reducible refine Kd.qf1 ?_))); (case side2 => exact (Kd.qr0 HO_6.out).2.1); rintro e w51 ⟨rfl, hb⟩; have n0_ := Aside0.mk (Kd.R_below (by (with_reducible repeat (first | apply Kd.qn0 | apply Kd.qm0 | apply Kd.qp0)); exact HO_6.out) hb); have n1_ := Aside0.mk (blk_below (g := gb311) (o := .cells #[.int .i64 ((rd_T39 t300 x7_2).f0), .int .i64 ((rd_T39 t300 x7_2).f1)] 39 (0, 0)) (by (with_reducible repeat (first | refine qg0 ?_ _ | refine qj0 ?_ | refine qh0 ?_ _)); exact BK311.out) hb); have n2_ := Aside0.mk (qk0 (by repeat (first | (with_reducible first | exact HB.out | apply qb0 | apply qa0 | apply qc0 | refine qf0 ?_ GE311.out) | exact HB.out)) hb); clear HO_6; clear BK311; clear HB; have HO_6 := n0_; have BK311 := n1_; have HB := n2_; clear n0_ n1_ n2_; (try clear hb); (try clear hb2); (try clear hk); (try clear hi))); try go_wp2_with (first | (go_at_call 18; (with_reducible refine (impl_PeriodAt.calls kj22 _ _ t300 ((rd_T39 t300 x7_2).f0) t313 _ ?side1 ?side2 A44.out).mono ?_); (case side1 => repeat (first | exact (Kd.qr0 HO_6.out).2.2 | (with_reducible refine Kd.qb1 ?_ _) | (with_reducible refine Kd.qa1 ?_ _) | (with_reducible refine Kd.qf1 ?_))); (case side2 => exact (Kd.qr0 HO_6.out).2.1); rintro e w49 ⟨rfl, hb⟩; have n0_ := Aside0.mk (Kd.R_below (by (with_reducible repeat (first | apply Kd.qn0 | apply Kd.qm0 | apply Kd.qp0)); exact HO_6.out) hb); have n1_ := Aside0.mk (blk_below (g := gb311) (o := .cells #[.int .i64 ((rd_T39 t300 x7_2).f0), .int .i64 ((rd_T39 t300 x7_2).f1)] 39 (0, 0)) (by (with_reducible repeat (first | refine qg0 ?_ _ | refine qj0 ?_ | refine qh0 ?_ _)); exact BK311.out) hb); have n2_ := Aside0.mk (qk0 (by repeat (first | (with_reducible first | exact HB.out | apply qb0 | apply qa0 | apply qc0 | refine qf0 ?_ GE311.out) | exact HB.out)) hb); clear HO_6; clear BK311; clear HB; have HO_6 := n0_; have BK311 := n1_; have HB := n2_; clear n0_ n1_ n2_; (try clear hb); (try clear hb2); (try clear hk); (try clear hi); have hcz50_0 : w49.cell? ⟨gb311, 0, none⟩ = some (.int .i64 ((rd_T39 t300 x7_2).f0)) := (qe0 BK311.out 0).trans rfl; have hcz50_1 : w49.cell? ⟨gb311, 1, none⟩ = some (.int .i64 ((rd_T39 t300 x7_2).f1)) := (qe0 BK311.out 1).trans rfl; have hfz50_0 := qd0 BK311.out 0; have hfz50_1 := qd0 BK311.out 1) | (go_at_call 18; (with_reducible refine (impl_PeriodAt.calls kj22 _ _ t300 ((rd_T39 t300 x7_2).f1) t314 _ ?side1 ?side2 A46.out).mono ?_); (case side1 => repeat (first | exact (Kd.qr0 HO_6.out).2.2 | (with_reducible refine Kd.qb1 ?_ _) | (with_reducible refine Kd.qa1 ?_ _) | (with_reducible refine Kd.qf1 ?_))); (case side2 => exact (Kd.qr0 HO_6.out).2.1); rintro e w51 ⟨rfl, hb⟩; have n0_ := Aside0.mk (Kd.R_below (by (with_reducible repeat (first | apply Kd.qn0 | apply Kd.qm0 | apply Kd.qp0)); exact HO_6.out) hb); have n1_ := Aside0.mk (blk_below (g := gb311) (o := .cells #[.int .i64 ((rd_T39 t300 x7_2).f0), .int .i64 ((rd_T39 t300 x7_2).f1)] 39 (0, 0)) (by (with_reducible repeat (first | refine qg0 ?_ _ | refine qj0 ?_ | refine qh0 ?_ _)); exact BK311.out) hb); have n2_ := Aside0.mk (qk0 (by repeat (first | (with_reducible first | exact HB.out | apply qb0 | apply qa0 | apply qc0 | refine qf0 ?_ GE311.out) | exact HB.out)) hb); clear HO_6; clear BK311; clear HB; have HO_6 := n0_; have BK311 := n1_; have HB := n2_; clear n0_ n1_ n2_; (try clear hb); (try clear hb2); (try clear hk); (try clear hi))))
          go_roundg kj22
          case measure => have := HJ5.out; have := HK2.out; have := HJ22.out; omega
          case rel => exact ⟨(wrap64 (x7_2 + 1)), (by first | rfl | (simp; done) | (simp [*]; done)), H', ⟨by have := HJ5.out; have := HK2.out; have := HJ22.out; omega⟩, ⟨by (with_reducible repeat (first | apply Kd.qn0 | apply Kd.qm0 | apply Kd.qp0)); exact Kd.qe1 HO_6.out (fun _ hk => trivial)⟩, ⟨by repeat (first | (with_reducible first | exact HB.out | apply qb0 | apply qa0 | apply qc0 | refine qf0 ?_ GE311.out) | exact HB.out)⟩⟩
         rw [if_neg c47] at H
         have c47b0 : (t314 == x7_2) = false := beq_eq_false_iff_ne.mpr c47
         have c47b1 : (t314 != x7_2) = true := bne_iff_ne.mpr c47
         obtain rfl := Option.some.inj H
         have hcz52_0 : wc.cell? ⟨gb311, 0, none⟩ = some (.int .i64 ((rd_T39 t300 x7_2).f0)) := (qe0 BK311.out 0).trans rfl
         have hcz52_1 : wc.cell? ⟨gb311, 1, none⟩ = some (.int .i64 ((rd_T39 t300 x7_2).f1)) := (qe0 BK311.out 1).trans rfl
         have hfz52_0 := qd0 BK311.out 0
         have hfz52_1 := qd0 BK311.out 1
         go_wp2_with (first | (go_at_call 18; (with_reducible refine (impl_PeriodAt.calls kj22 _ _ t300 ((rd_T39 t300 x7_2).f0) t313 _ ?side1 ?side2 A44.out).mono ?_); (case side1 => repeat (first | exact (Kd.qr0 HO_6.out).2.2 | (with_reducible refine Kd.qb1 ?_ _) | (with_reducible refine Kd.qa1 ?_ _) | (with_reducible refine Kd.qf1 ?_))); (case side2 => exact (Kd.qr0 HO_6.out).2.1); rintro e w53 ⟨rfl, hb⟩; have n0_ := Aside0.mk (Kd.R_below (by (with_reducible repeat (first | apply Kd.qn0 | apply Kd.qm0 | apply Kd.qp0)); exact HO_6.out) hb); have n1_ := Aside0.mk (blk_below (g := gb311) (o := .cells #[.int .i64 ((rd_T39 t300 x7_2).f0), .int .i64 ((rd_T39 t300 x7_2).f1)] 39 (0, 0)) (by (with_reducible repeat (first | refine qg0 ?_ _ | refine qj0 ?_ | refine qh0 ?_ _)); exact BK311.out) hb); have n2_ := Aside0.mk (qk0 (by repeat (first | (with_reducible first | exact HB.out | apply qb0 | apply qa0 | apply qc0 | refine qf0 ?_ GE311.out) | exact HB.out)) hb); clear HO_6; clear BK311; clear HB; have HO_6 := n0_; have BK311 := n1_; have HB := n2_; clear n0_ n1_ n2_; (try clear hb); (try clear hb2); (try clear hk); (try clear hi); have hcz54_0 : w53.cell? ⟨gb311, 0, none⟩ = some (.int .i64 ((rd_T39 t300 x7_2).f0)) := (qe0 BK311.out 0).trans rfl; have hcz54_1 : w53.cell? ⟨gb311, 1, none⟩ = some (.int .i64 ((rd_T39 t300 x7_2).f1)) := (qe0 BK311.out 1).trans rfl; have hfz54_0 := qd0 BK311.out 0; have hfz54_1 := qd0 BK311.out 1) | (go_at_call 18; (with_reducible refine (impl_PeriodAt.calls kj22 _ _ t300 ((rd_T39 t300 x7_2).f1) t314 _ ?side1 ?side2 A46.out).mono ?_); (case side1 => repeat (first | exact (Kd.qr0 HO_6.out).2.2 | (with_reducible refine Kd.qb1 ?_ _) | (with_reducible refine Kd.qa1 ?_ _) | (with_reducible refine Kd.qf1 ?_))); (case side2 => exact (Kd.qr0 HO_6.out).2.1); rintro e w55 ⟨rfl, hb⟩; have n0_ := Aside0.mk (Kd.R_below (by (with_reducible repeat (first | apply Kd.qn0 | apply Kd.qm0 | apply Kd.qp0)); exact HO_6.out) hb); have n1_ := Aside0.mk (blk_below (g := gb311) (o := .cells #[.int .i64 ((rd_T39 t300 x7_2).f0), .int .i64 ((rd_T39 t300 x7_2).f1)] 39 (0, 0)) (by (with_reducible repeat (first | refine qg0 ?_ _ | refine qj0 ?_ | refine qh0 ?_ _)); exact BK311.out) hb); have n2_ := Aside0.mk (qk0 (by repeat (first | (with_reducible first | exact HB.out | apply qb0 | apply qa0 | apply qc0 | refine qf0 ?_ GE311.out) | exact HB.out)) hb); clear HO_6; clear BK311; clear HB; have HO_6 := n0_; have BK311 := n1_; have HB := n2_; clear n0_ n1_ n2_; (try clear hb); (try clear hb2); (try clear hk); (try clear hi)))
         repeat (go_quiet (first | (go_at_call 18; (with_reducible refine (impl_PeriodAt.calls kj22 _ _ t300 ((rd_T39 t300 x7_2).f0) t313 _ ?side1 ?side2 A44.out).mono ?_); (case side1 => repeat (first | exact (Kd.qr0 HO_6.out).2.2 | (with_reducible refine Kd.qb1 ?_ _) | (with_reducible refine Kd.qa1 ?_ _) | (with_reducible refine Kd.qf1 ?_))); (case side2 => exact (Kd.qr0 HO_6.out).2.1); rintro e w53 ⟨rfl, hb⟩; have n0_ := Aside0.mk (Kd.R_below (by (with_reducible repeat (first | apply Kd.qn0 | apply Kd.qm0 | apply Kd.qp0)); exact HO_6.out) hb); have n1_ := Aside0.mk (blk_below (g := gb311) (o := .cells #[.int .i64 ((rd_T39 t300 x7_2).f0), .int .i64 ((rd_T39 t300 x7_2).f1)] 39 (0, 0)) (by (with_reducible repeat (first | refine qg0 ?_ _ | refine qj0 ?_ | refine qh0 ?_ _)); exact BK311.out) hb); have n2_ := Aside0.mk (qk0 (by repeat (first | (with_reducible first | exact HB.out | apply qb0 | apply qa0 | apply qc0 | refine qf0 ?_ GE311.out) | exact HB.out)) hb); clear HO_6; clear BK311; clear HB; have HO_6 := n0_; have BK311 := n1_; have HB := n2_; clear n0_ n1_ n2_; (try clear hb); (try clear hb2); (try clear hk); (try clear hi); have hcz54_0 : w53.cell? ⟨gb311, 0, none⟩ = some (.int .i64 ((rd_T39 t300 x7_2).f0)) := (qe0 BK311.out 0).trans rfl; have hcz54_1 : w53.cell? ⟨gb311, 1, none⟩ = some (.int .i64 ((rd_T39 t300 x7_2).f1)) := (qe0 BK311.out 1).trans rfl; have hfz54_0 := qd0 BK311.out 0; have hfz54_1 := qd0 BK311.out 1) | (go_at_call 18; (with_reducible refine (impl_PeriodAt.calls kj22 _ _ t300 ((rd_T39 t300 x7_2).f1) t314 _ ?side1 ?side2 A46.out).mono ?_); (case side1 => repeat (first | exact (Kd.qr0 HO_6.out).2.2 | (with_reducible refine Kd.qb1 ?_ _) | (with_reducible refine Kd.qa1 ?_ _) | (with_reducible refine Kd.qf1 ?_))); (case side2 => exact (Kd.qr0 HO_6.out).2.1); rintro e w55 ⟨rfl, hb⟩; have n0_ := Aside0.mk (Kd.R_below (by (with_reducible repeat (first | apply Kd.qn0 | apply Kd.qm0 | apply Kd.qp0)); exact HO_6.out) hb); have n1_ := Aside0.mk (blk_below (g := gb311) (o := .cells #[.int .i64 ((rd_T39 t300 x7_2).f0), .int .i64 ((rd_T39 t300 x7_2).f1)] 39 (0, 0)) (by (with_reducible repeat (first | refine qg0 ?_ _ | refine qj0 ?_ | refine qh0 ?_ _)); exact BK311.out) hb); have n2_ := Aside0.mk (qk0 (by repeat (first | (with_reducible first | exact HB.out | apply qb0 | apply qa0 | apply qc0 | refine qf0 ?_ GE311.out) | exact HB.out)) hb); clear HO_6; clear BK311; clear HB; have HO_6 := n0_; have BK311 := n1_; have HB := n2_; clear n0_ n1_ n2_; (try clear hb); (try clear hb2); (try clear hk); (try clear hi))); try go_wp2_with (first | (go_at_call 18; (with_reducible refine (impl_PeriodAt.calls kj22 _ _ t300 ((rd_T39 t300 x7_2).f0) t313 _ ?side1 ?side2 A44.out).mono ?_); (case side1 => repeat (first | exact (Kd.qr0 HO_6.out).2.2 | (with_reducible refine Kd.qb1 ?_ _) | (with_reducible refine Kd.qa1 ?_ _) | (with_reducible refine Kd.qf1 ?_))); (case side2 => exact (Kd.qr0 HO_6.out).2.1); rintro e w53 ⟨rfl, hb⟩; have n0_ := Aside0.mk (Kd.R_below (by (with_reducible repeat (first | apply Kd.qn0 | apply Kd.qm0 | apply Kd.qp0)); exact HO_6.out) hb); have n1_ := Aside0.mk (blk_below (g := gb311) (o := .cells #[.int .i64 ((rd_T39 t300 x7_2).f0), .int .i64 ((rd_T39 t300 x7_2).f1)] 39 (0, 0)) (by (with_reducible repeat (first | refine qg0 ?_ _ | refine qj0 ?_ | refine qh0 ?_ _)); exact BK311.out) hb); have n2_ := Aside0.mk (qk0 (by repeat (first | (with_reducible first | exact HB.out | apply qb0 | apply qa0 | apply qc0 | refine qf0 ?_ GE311.out) | exact HB.out)) hb); clear HO_6; clear BK311; clear HB; have HO_6 := n0_; have BK311 := n1_; have HB := n2_; clear n0_ n1_ n2_; (try clear hb); (try clear hb2); (try clear hk); (try clear hi); have hcz54_0 : w53.cell? ⟨gb311, 0, none⟩ = some (.int .i64 ((rd_T39 t300 x7_2).f0)) := (qe0 BK311.out 0).trans rfl; have hcz54_1 : w53.cell? ⟨gb311, 1, none⟩ = some (.int .i64 ((rd_T39 t300 x7_2).f1)) := (qe0 BK311.out 1).trans rfl; have hfz54_0 := qd0 BK311.out 0; have hfz54_1 := qd0 BK311.out 1) | (go_at_call 18; (with_reducible refine (impl_PeriodAt.calls kj22 _ _ t300 ((rd_T39 t300 x7_2).f1) t314 _ ?side1 ?side2 A46.out).mono ?_); (case side1 => repeat (first | exact (Kd.qr0 HO_6.out).2.2 | (with_reducible refine Kd.qb1 ?_ _) | (with_reducible refine Kd.qa1 ?_ _) | (with_reducible refine Kd.qf1 ?_))); (case side2 => exact (Kd.qr0 HO_6.out).2.1); rintro e w55 ⟨rfl, hb⟩; have n0_ := Aside0.mk (Kd.R_below (by (with_reducible repeat (first | apply Kd.qn0 | apply Kd.qm0 | apply Kd.qp0)); exact HO_6.out) hb); have n1_ := Aside0.mk (blk_below (g := gb311) (o := .cells #[.int .i64 ((rd_T39 t300 x7_2).f0), .int .i64 ((rd_T39 t300 x7_2).f1)] 39 (0, 0)) (by (with_reducible repeat (first | refine qg0 ?_ _ | refine qj0 ?_ | refine qh0 ?_ _)); exact BK311.out) hb); have n2_ := Aside0.mk (qk0 (by repeat (first | (with_reducible first | exact HB.out | apply qb0 | apply qa0 | apply qc0 | refine qf0 ?_ GE311.out) | exact HB.out)) hb); clear HO_6; clear BK311; clear HB; have HO_6 := n0_; have BK311 := n1_; have HB := n2_; clear n0_ n1_ n2_; (try clear hb); (try clear hb2); (try clear hk); (try clear hi))))
         go_ret
         exact ⟨by first | rfl | (simp [errW_none, errW_some] <;> rfl) | (simp [*, errW_none, errW_some] <;> rfl), by repeat (first | (with_reducible first | exact HB.out | apply qb0 | apply qa0 | apply qc0 | refine qf0 ?_ GE311.out) | exact HB.out)⟩
        rw [if_neg c45] at H
        have c45b0 : (t313 == x7_2) = false := beq_eq_false_iff_ne.mpr c45
        have c45b1 : (t313 != x7_2) = true := bne_iff_ne.mpr c45
        obtain rfl := Option.some.inj H
        have hcz56_0 : wc.cell? ⟨gb311, 0, none⟩ = some (.int .i64 ((rd_T39 t300 x7_2).f0)) := (qe0 BK311.out 0).trans rfl
        have hcz56_1 : wc.cell? ⟨gb311, 1, none⟩ = some (.int .i64 ((rd_T39 t300 x7_2).f1)) := (qe0 BK311.out 1).trans rfl
        have hfz56_0 := qd0 BK311.out 0
        have hfz56_1 := qd0 BK311.out 1
        go_wp2_with (first | (go_at_call 18; (with_reducible refine (impl_PeriodAt.calls kj22 _ _ t300 ((rd_T39 t300 x7_2).f0) t313 _ ?side1 ?side2 A44.out).mono ?_); (case side1 => repeat (first | exact (Kd.qr0 HO_6.out).2.2 | (with_reducible refine Kd.qb1 ?_ _) | (with_reducible refine Kd.qa1 ?_ _) | (with_reducible refine Kd.qf1 ?_))); (case side2 => exact (Kd.qr0 HO_6.out).2.1); rintro e w57 ⟨rfl, hb⟩; have n0_ := Aside0.mk (Kd.R_below (by (with_reducible repeat (first | apply Kd.qn0 | apply Kd.qm0 | apply Kd.qp0)); exact HO_6.out) hb); have n1_ := Aside0.mk (blk_below (g := gb311) (o := .cells #[.int .i64 ((rd_T39 t300 x7_2).f0), .int .i64 ((rd_T39 t300 x7_2).f1)] 39 (0, 0)) (by (with_reducible repeat (first | refine qg0 ?_ _ | refine qj0 ?_ | refine qh0 ?_ _)); exact BK311.out) hb); have n2_ := Aside0.mk (qk0 (by repeat (first | (with_reducible first | exact HB.out | apply qb0 | apply qa0 | apply qc0 | refine qf0 ?_ GE311.out) | exact HB.out)) hb); clear HO_6; clear BK311; clear HB; have HO_6 := n0_; have BK311 := n1_; have HB := n2_; clear n0_ n1_ n2_; (try clear hb); (try clear hb2); (try clear hk); (try clear hi)))
        repeat (go_quiet (first | (go_at_call 18; (with_reducible refine (impl_PeriodAt.calls kj22 _ _ t300 ((rd_T39 t300 x7_2).f0) t313 _ ?side1 ?side2 A44.out).mono ?_); (case side1 => repeat (first | exact (Kd.qr0 HO_6.out).2.2 | (with_reducible refine Kd.qb1 ?_ _) | (with_reducible refine Kd.qa1 ?_ _) | (with_reducible refine Kd.qf1 ?_))); (case side2 => exact (Kd.qr0 HO_6.out).2.1); rintro e w57 ⟨rfl, hb⟩; have n0_ := Aside0.mk (Kd.R_below (by (with_reducible repeat (first | apply Kd.qn0 | apply Kd.qm0 | apply Kd.qp0)); exact HO_6.out) hb); have n1_ := Aside0.mk (blk_below (g := gb311) (o := .cells #[.int .i64 ((rd_T39 t300 x7_2).f0), .int .i64 ((rd_T39 t300 x7_2).f1)] 39 (0, 0)) (by (with_reducible repeat (first | refine qg0 ?_ _ | refine qj0 ?_ | refine qh0 ?_ _)); exact BK311.out) hb); have n2_ := Aside0.mk (qk0 (by repeat (first | (with_reducible first | exact HB.out | apply qb0 | apply qa0 | apply qc0 | refine qf0 ?_ GE311.out) | exact HB.out)) hb); clear HO_6; clear BK311; clear HB; have HO_6 := n0_; have BK311 := n1_; have HB := n2_; clear n0_ n1_ n2_; (try clear hb); (try clear hb2); (try clear hk); (try clear hi))); try go_wp2_with (first | (go_at_call 18; (with_reducible refine (impl_PeriodAt.calls kj22 _ _ t300 ((rd_T39 t300 x7_2).f0) t313 _ ?side1 ?side2 A44.out).mono ?_); (case side1 => repeat (first | exact (Kd.qr0 HO_6.out).2.2 | (with_reducible refine Kd.qb1 ?_ _) | (with_reducible refine Kd.qa1 ?_ _) | (with_reducible refine Kd.qf1 ?_))); (case side2 => exact (Kd.qr0 HO_6.out).2.1); rintro e w57 ⟨rfl, hb⟩; have n0_ := Aside0.mk (Kd.R_below (by (with_reducible repeat (first | apply Kd.qn0 | apply Kd.qm0 | apply Kd.qp0)); exact HO_6.out) hb); have n1_ := Aside0.mk (blk_below (g := gb311) (o := .cells #[.int .i64 ((rd_T39 t300 x7_2).f0), .int .i64 ((rd_T39 t300 x7_2).f1)] 39 (0, 0)) (by (with_reducible repeat (first | refine qg0 ?_ _ | refine qj0 ?_ | refine qh0 ?_ _)); exact BK311.out) hb); have n2_ := Aside0.mk (qk0 (by repeat (first | (with_reducible first | exact HB.out | apply qb0 | apply qa0 | apply qc0 | refine qf0 ?_ GE311.out) | exact HB.out)) hb); clear HO_6; clear BK311; clear HB; have HO_6 := n0_; have BK311 := n1_; have HB := n2_; clear n0_ n1_ n2_; (try clear hb); (try clear hb2); (try clear hk); (try clear hi))))
        go_ret
        exact ⟨by first | rfl | (simp [errW_none, errW_some] <;> rfl) | (simp [*, errW_none, errW_some] <;> rfl), by repeat (first | (with_reducible first | exact HB.out | apply qb0 | apply qa0 | apply qc0 | refine qf0 ?_ GE311.out) | exact HB.out)⟩
     rw [if_neg c21] at H
     have c21b0 : decide (x7_2 < (t300.length : Int)) = false := decide_eq_false c21
     clear c21
     by_cases c58 : (t300.length : Int) = 0
     ·rw [if_pos c58] at H
      have c58b0 : ((t300.length : Int) == 0) = true := beq_iff_eq.mpr c58
      have c58b1 : ((t300.length : Int) != 0) = false := bne_eq_false_iff_eq.mpr c58
      clear c58
      obtain rfl := Option.some.inj H
      obtain ⟨Ao59, co59, eo59⟩ := Kd.R_slice HO_6.out
      subst eo59
      go_wp2
      repeat (go_quiet (fail); try go_wp2)
      go_ret
      exact ⟨by first | rfl | (simp [errW_none, errW_some] <;> rfl) | (simp [*, errW_none, errW_some] <;> rfl), by repeat (first | (with_reducible first | exact HB.out | apply qb0 | apply qa0 | apply qc0) | exact HB.out)⟩
     rw [if_neg c58] at H
     have c58b0 : ((t300.length : Int) == 0) = false := beq_eq_false_iff_ne.mpr c58
     have c58b1 : ((t300.length : Int) != 0) = true := bne_iff_ne.mpr c58
     have c58b2 : ¬ (t300 = []) := fun h_ => c58 (by rw [h_]; rfl)
     replace H := Option.bind_eq_some_iff.mp H
     obtain ⟨t309, A600, H⟩ := H
     replace H : (some (t309 == (-1))) = some r := H
     have A60 := Aside0.mk A600
     clear A600
     obtain rfl := Option.some.inj H
     obtain ⟨Ao61, co61, eo61⟩ := Kd.R_slice HO_6.out
     subst eo61
     go_wp2_with (first | (go_at_call 18; (with_reducible refine (impl_PeriodAt.calls k2 _ _ t300 (wrap64 (t298 - 1)) t309 _ ?side1 ?side2 A60.out).mono ?_); (case side1 => repeat (first | exact (Kd.qr0 HO_6.out).2.2 | (with_reducible refine Kd.qb1 ?_ _) | (with_reducible refine Kd.qa1 ?_ _) | (with_reducible refine Kd.qf1 ?_))); (case side2 => exact (Kd.qr0 HO_6.out).2.1); rintro e w62 ⟨rfl, hb⟩; have n0_ := Aside0.mk (Kd.R_below (by (with_reducible repeat (first | apply Kd.qn0 | apply Kd.qm0 | apply Kd.qp0)); exact HO_6.out) hb); have n1_ := Aside0.mk (qk0 (by repeat (first | (with_reducible first | exact HB.out | apply qb0 | apply qa0 | apply qc0) | exact HB.out)) hb); clear HO_6; clear HB; have HO_6 := n0_; have HB := n1_; clear n0_ n1_; (try clear hb); (try clear hb2); (try clear hk); (try clear hi)))
     repeat (go_quiet (first | (go_at_call 18; (with_reducible refine (impl_PeriodAt.calls k2 _ _ t300 (wrap64 (t298 - 1)) t309 _ ?side1 ?side2 A60.out).mono ?_); (case side1 => repeat (first | exact (Kd.qr0 HO_6.out).2.2 | (with_reducible refine Kd.qb1 ?_ _) | (with_reducible refine Kd.qa1 ?_ _) | (with_reducible refine Kd.qf1 ?_))); (case side2 => exact (Kd.qr0 HO_6.out).2.1); rintro e w62 ⟨rfl, hb⟩; have n0_ := Aside0.mk (Kd.R_below (by (with_reducible repeat (first | apply Kd.qn0 | apply Kd.qm0 | apply Kd.qp0)); exact HO_6.out) hb); have n1_ := Aside0.mk (qk0 (by repeat (first | (with_reducible first | exact HB.out | apply qb0 | apply qa0 | apply qc0) | exact HB.out)) hb); clear HO_6; clear HB; have HO_6 := n0_; have HB := n1_; clear n0_ n1_; (try clear hb); (try clear hb2); (try clear hk); (try clear hi))); try go_wp2_with (first | (go_at_call 18; (with_reducible refine (impl_PeriodAt.calls k2 _ _ t300 (wrap64 (t298 - 1)) t309 _ ?side1 ?side2 A60.out).mono ?_); (case side1 => repeat (first | exact (Kd.qr0 HO_6.out).2.2 | (with_reducible refine Kd.qb1 ?_ _) | (with_reducible refine Kd.qa1 ?_ _) | (with_reducible refine Kd.qf1 ?_))); (case side2 => exact (Kd.qr0 HO_6.out).2.1); rintro e w62 ⟨rfl, hb⟩; have n0_ := Aside0.mk (Kd.R_below (by (with_reducible repeat (first | apply Kd.qn0 | apply Kd.qm0 | apply Kd.qp0)); exact HO_6.out) hb); have n1_ := Aside0.mk (qk0 (by repeat (first | (with_reducible first | exact HB.out | apply qb0 | apply qa0 | apply qc0) | exact HB.out)) hb); clear HO_6; clear HB; have HO_6 := n0_; have HB := n1_; clear n0_ n1_; (try clear hb); (try clear hb2); (try clear hk); (try clear hi))))
     go_ret
     exact ⟨by first | rfl | (simp [errW_none, errW_some] <;> rfl) | (simp [*, errW_none, errW_some] <;> rfl), by repeat (first | (with_reducible first | exact HB.out | apply qb0 | apply qa0 | apply qc0) | exact HB.out)⟩

/-- THE ONE PURE STATEMENT of laws_FnPeriodsWhole: yours. -/
def laws_FnPeriodsWhole.Pure : Prop := ∀ (l0 : List Int), l0.length ≤ maxLen → l0.length * 1 ≤ 140737488351232 → (∀ x ∈ l0, (Lit.int .u8 x).wf = true) → ∃ k, laws_FnPeriodsWhole.f k l0 = some true
theorem laws_FnPeriodsWhole.walk (P : laws_FnPeriodsWhole.Pure) (a0 : Option Addr) (len0 cap0 : Nat) (z0 : List Int) (w : World) (w0 : (a0 = none ∧ len0 = 0 ∧ cap0 = 0 ∧ z0 = []) ∨ ∃ x, a0 = some x ∧ len0 ≤ cap0 ∧ cap0 ≤ maxLen ∧ z0.length = cap0 ∧ (∀ i, i < z0.length → w.cell? (x.add i) = some (.int .u8 (z0.getD i 0))) ∧ ∀ n ∈ z0, (Lit.int .u8 n).wf = true) (y0 : len0 * 1 ≤ 140737488351232) (hT : Tab w) :
  Calls Tryd.prog 5 #[.slice a0 len0 cap0] w fun e w' => e = .returned (.bool true) ∧ Below w.heap.size w w' := by
 have HT := Aside0.mk hT
 obtain ⟨l0, rfl, hr0, hm0, hw0, hc0⟩ := qz0.ofRowC w0
 obtain ⟨k, h⟩ := P l0 hm0 y0 hw0
 refine (laws_FnPeriodsWhole.calls k _ _ l0 true w (Kd.C_of_reads (d := (0 : Int)) (h1 := fun _ => rfl) hr0) hc0 h).mono ?_
 rintro e w' ⟨rfl, hd⟩
 exact ⟨rfl, hd⟩

end Go.Proofs.YtdnenglafphkbaaDoor.PFnPeriodsWhole
