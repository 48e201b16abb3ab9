/- Lines by a program (a changed copy of the kit's print: this repo's wip/tools): Go functions as Lean functions, and proofs that the calls answer so. -/
import Derived.Test.YtlodndejipjceaaZPFnLandedx0
import Derived.Test.YtlodndejipjceaaZPFnLandedx1
import Derived.Test.YtlodndejipjceaaZPFnLandedx5
import Derived.Test.YtlodndejipjceaaZPFnLandedx6
import Derived.Test.YtlodndejipjceaaZPFnLandedx8
namespace Go.Proofs.Ytlodndejipjceaa.PFnLanded
open Go.RowKit Go.Proofs.YtlodndejipjceaaW.PrintWords Go.Proofs.YtlodndejipjceaaW.PrintLast Go.Proofs.YtlodndejipjceaaW.PrintMore
attribute [local go_sem] max2_int min2_int max_two min_two max_three min_three max_four min_four   -- for this text's walks alone
set_option linter.unusedVariables false
set_option linter.unusedSimpArgs false

/-! ### laws_FnLanded: function 7 -/
mutual
def laws_FnLanded.j0 : Nat → List Int → Bool → Option (Bool)
 | 0, _, _ => none
 | k + 1, x0, x43 => if x43 = true then (some false) else ((spec_DrawLanded.f k x0).bind fun bt356 => ((spec_Landed.f k bt356.1 bt356.2.1 bt356.2.2).bind fun bt361 => ((impl_Landed.f k bt356.1 bt356.2.1 bt356.2.2).bind fun bt365 => (if (bt365.2 != bt361.2) = true then (laws_FnLanded.j1 k bt356.1 bt356.2.1 bt361.2 bt365.1 bt365.2 true) else (laws_FnLanded.j1 k bt356.1 bt356.2.1 bt361.2 bt365.1 bt365.2 (!bt365.2))))))
def laws_FnLanded.j1 : Nat → List (S61) → Int → Bool → List (S61) → Bool → Bool → Option (Bool)
 | 0, _, _, _, _, _, _ => none
 | k + 1, x5, x6, x9, x10, x11, x70 => if x70 = true then (some (x11 == x9)) else (laws_FnLanded.l0 k x5 x6 x10 0 0)
def laws_FnLanded.l0 : Nat → List (S61) → Int → List (S61) → Int → Int → Option (Bool)
 | 0, _, _, _, _, _ => none
 | k + 1, x5, x6, x10, x12, x13 => if x13 < (x5.length : Int) then (if (x10.length : Int) = (x5.length : Int) then (if 0 ≤ x13 then (if x13 < (x10.length : Int) then (if ((rd_T61 x10 x13).f0) = ((rd_T61 x5 x13).f0) then (if ((rd_T61 x10 x13).f1) < ((rd_T61 x5 x13).f1) then (some false) else (laws_FnLanded.l0 k x5 x6 x10 (wrap64 ((wrap64 (x12 + ((rd_T61 x10 x13).f1))) - ((rd_T61 x5 x13).f1))) (wrap64 (x13 + 1)))) else (some false)) else (none)) else (none)) else (some false)) else (some (x12 == x6))
end
def laws_FnLanded.f (k : Nat) (l0 : List Int) : Option (Bool) := (laws_big.f l0).bind fun t346 => (if t346 = true then (some true) else ((impl_Landed.f k (([(⟨1, 30⟩ : S61), (⟨3, 10⟩ : S61)] : List (S61))) 8 2).bind fun bt350 => (if bt350.2 = true then (if (bt350.1.length : Int) = 2 then (if 0 < (bt350.1.length : Int) then (if ((rd_T61 bt350.1 0).f1) = 32 then (if 1 < (bt350.1.length : Int) then (laws_FnLanded.j0 k l0 (((rd_T61 bt350.1 1).f1) != 16)) else (none)) else (laws_FnLanded.j0 k l0 true)) else (none)) else (laws_FnLanded.j0 k l0 true)) else (laws_FnLanded.j0 k l0 true))))
theorem laws_FnLanded.mono_l : ∀ k, (∀ y0 y1, LeO (laws_FnLanded.j0 k y0 y1) (laws_FnLanded.j0 (k + 1) y0 y1)) ∧ (∀ y0 y1 y2 y3 y4 y5, LeO (laws_FnLanded.j1 k y0 y1 y2 y3 y4 y5) (laws_FnLanded.j1 (k + 1) y0 y1 y2 y3 y4 y5)) ∧ (∀ y0 y1 y2 y3 y4, LeO (laws_FnLanded.l0 k y0 y1 y2 y3 y4) (laws_FnLanded.l0 (k + 1) y0 y1 y2 y3 y4))
 | 0 => ⟨fun _ _ r h => by simp [laws_FnLanded.j0] at h, fun _ _ _ _ _ _ r h => by simp [laws_FnLanded.j1] at h, fun _ _ _ _ _ r h => by simp [laws_FnLanded.l0] at h⟩
 | k + 1 => by
  obtain ⟨ih0, ih1, ih2⟩ := laws_FnLanded.mono_l k
  refine ⟨?_, ?_, ?_⟩
  ·intro y0 y1
   unfold laws_FnLanded.j0
   repeat' first
   | (with_reducible exact ih0 _ _)
   | (with_reducible exact ih1 _ _ _ _ _ _)
   | (with_reducible exact ih2 _ _ _ _ _)
   | (with_reducible exact impl_Landed.mono _ _ _ _)
   | (with_reducible exact spec_DrawLanded.mono _ _)
   | (with_reducible exact spec_Landed.mono _ _ _ _)
   | (with_reducible exact LeO.refl _)
   | (with_reducible exact LeO.none _)
   | (with_reducible refine LeO.ite ?_ ?_)
   | (with_reducible refine LeO.bind ?_ (fun _ => ?_))
   | exact ih0 _ _
   | exact ih1 _ _ _ _ _ _
   | exact ih2 _ _ _ _ _
   | exact impl_Landed.mono _ _ _ _
   | exact spec_DrawLanded.mono _ _
   | exact spec_Landed.mono _ _ _ _
   | exact LeO.none _
   | refine LeO.ite ?_ ?_
   | refine LeO.bind ?_ (fun _ => ?_)
  ·intro y0 y1 y2 y3 y4 y5
   unfold laws_FnLanded.j1
   repeat' first
   | (with_reducible exact ih0 _ _)
   | (with_reducible exact ih1 _ _ _ _ _ _)
   | (with_reducible exact ih2 _ _ _ _ _)
   | (with_reducible exact impl_Landed.mono _ _ _ _)
   | (with_reducible exact spec_DrawLanded.mono _ _)
   | (with_reducible exact spec_Landed.mono _ _ _ _)
   | (with_reducible exact LeO.refl _)
   | (with_reducible exact LeO.none _)
   | (with_reducible refine LeO.ite ?_ ?_)
   | (with_reducible refine LeO.bind ?_ (fun _ => ?_))
   | exact ih0 _ _
   | exact ih1 _ _ _ _ _ _
   | exact ih2 _ _ _ _ _
   | exact impl_Landed.mono _ _ _ _
   | exact spec_DrawLanded.mono _ _
   | exact spec_Landed.mono _ _ _ _
   | exact LeO.none _
   | refine LeO.ite ?_ ?_
   | refine LeO.bind ?_ (fun _ => ?_)
  ·intro y0 y1 y2 y3 y4
   unfold laws_FnLanded.l0
   repeat' first
   | (with_reducible exact ih0 _ _)
   | (with_reducible exact ih1 _ _ _ _ _ _)
   | (with_reducible exact ih2 _ _ _ _ _)
   | (with_reducible exact impl_Landed.mono _ _ _ _)
   | (with_reducible exact spec_DrawLanded.mono _ _)
   | (with_reducible exact spec_Landed.mono _ _ _ _)
   | (with_reducible exact LeO.refl _)
   | (with_reducible exact LeO.none _)
   | (with_reducible refine LeO.ite ?_ ?_)
   | (with_reducible refine LeO.bind ?_ (fun _ => ?_))
   | exact ih0 _ _
   | exact ih1 _ _ _ _ _ _
   | exact ih2 _ _ _ _ _
   | exact impl_Landed.mono _ _ _ _
   | exact spec_DrawLanded.mono _ _
   | exact spec_Landed.mono _ _ _ _
   | exact LeO.none _
   | refine LeO.ite ?_ ?_
   | refine LeO.bind ?_ (fun _ => ?_)
theorem laws_FnLanded.mono : ∀ a0 k, LeO (laws_FnLanded.f k a0) (laws_FnLanded.f (k + 1) a0) := by
 intro a0 k
 obtain ⟨ih0, ih1, ih2⟩ := laws_FnLanded.mono_l k
 unfold laws_FnLanded.f
 repeat' first
   | (with_reducible exact ih0 _ _)
   | (with_reducible exact ih1 _ _ _ _ _ _)
   | (with_reducible exact ih2 _ _ _ _ _)
   | (with_reducible exact impl_Landed.mono _ _ _ _)
   | (with_reducible exact spec_DrawLanded.mono _ _)
   | (with_reducible exact spec_Landed.mono _ _ _ _)
   | (with_reducible exact LeO.refl _)
   | (with_reducible exact LeO.none _)
   | (with_reducible refine LeO.ite ?_ ?_)
   | (with_reducible refine LeO.bind ?_ (fun _ => ?_))
   | exact ih0 _ _
   | exact ih1 _ _ _ _ _ _
   | exact ih2 _ _ _ _ _
   | exact impl_Landed.mono _ _ _ _
   | exact spec_DrawLanded.mono _ _
   | exact spec_Landed.mono _ _ _ _
   | exact LeO.none _
   | refine LeO.ite ?_ ?_
   | refine LeO.bind ?_ (fun _ => ?_)
set_option maxHeartbeats 8000000 in
set_option maxRecDepth 100000 in
theorem laws_FnLanded.calls (k : Nat) (A0 : Option Addr) (c0 : Nat) (l0 : List Int) (r : Bool) (w : World) (hr0 : Kd.C (Kd.int .u8) w A0 l0.length l0) (hc0 : l0.length ≤ c0) (h : laws_FnLanded.f k l0 = some r) :
  Calls Try.prog 7 #[.slice A0 l0.length c0] w fun e w' => e = .returned (.bool r) ∧ Below w.heap.size w w' := by
 have hu61 := Try.underlying61
 have HR0 := Aside0.mk hr0
 have HC0 := Aside0.mk hc0
 clear hr0 hc0
 have HB := Aside0.mk (Below.refl w.heap.size w)
 have H : ((laws_big.f l0).bind fun t346 => (if t346 = true then (some true) else ((impl_Landed.f k (([(⟨1, 30⟩ : S61), (⟨3, 10⟩ : S61)] : List (S61))) 8 2).bind fun bt350 => (if bt350.2 = true then (if (bt350.1.length : Int) = 2 then (if 0 < (bt350.1.length : Int) then (if ((rd_T61 bt350.1 0).f1) = 32 then (if 1 < (bt350.1.length : Int) then (laws_FnLanded.j0 k l0 (((rd_T61 bt350.1 1).f1) != 16)) else (none)) else (laws_FnLanded.j0 k l0 true)) else (none)) else (laws_FnLanded.j0 k l0 true)) else (laws_FnLanded.j0 k l0 true))))) = some r := h
 clear h
 replace H := Option.bind_eq_some_iff.mp H
 obtain ⟨t346, A20, H⟩ := H
 replace H : (if t346 = true then (some true) else ((impl_Landed.f k (([(⟨1, 30⟩ : S61), (⟨3, 10⟩ : S61)] : List (S61))) 8 2).bind fun bt350 => (if bt350.2 = true then (if (bt350.1.length : Int) = 2 then (if 0 < (bt350.1.length : Int) then (if ((rd_T61 bt350.1 0).f1) = 32 then (if 1 < (bt350.1.length : Int) then (laws_FnLanded.j0 k l0 (((rd_T61 bt350.1 1).f1) != 16)) else (none)) else (laws_FnLanded.j0 k l0 true)) else (none)) else (laws_FnLanded.j0 k l0 true)) else (laws_FnLanded.j0 k l0 true)))) = some r := H
 have A2 := Aside0.mk A20
 clear A20
 by_cases c3 : t346 = true
 ·subst c3
  have H1 : (some true) = some r := by rw [if_pos rfl] at H; exact H
  clear H
  have H := H1
  clear H1
  obtain rfl := Option.some.inj H
  go_enter Try.func7, Try.ntmps7
  go_wp2_with (first | (go_at_call 15; (with_reducible refine (laws_big.calls _ _ l0 true _ ?side1 ?side2 A2.out).mono ?_); (case side1 => repeat (first | exact HR0.out | (with_reducible refine Kd.C_alloc ?_ _) | (with_reducible refine Kd.qb1 ?_ _) | (with_reducible refine Kd.qi1 ?_))); (case side2 => exact HC0.out); rintro e w' ⟨rfl, ⟨nd, rfl⟩⟩; (try first | exact ⟨rfl, _, World.drewN_drewN _ _ _⟩ | exact ⟨rfl, _, Eq.trans (World.drewN_drewN _ _ _) (congrArg (World.drewN _) (Nat.add_assoc _ _ _))⟩)))
  repeat (go_quiet (first | (go_at_call 15; (with_reducible refine (laws_big.calls _ _ l0 true _ ?side1 ?side2 A2.out).mono ?_); (case side1 => repeat (first | exact HR0.out | (with_reducible refine Kd.C_alloc ?_ _) | (with_reducible refine Kd.qb1 ?_ _) | (with_reducible refine Kd.qi1 ?_))); (case side2 => exact HC0.out); rintro e w' ⟨rfl, ⟨nd, rfl⟩⟩; (try first | exact ⟨rfl, _, World.drewN_drewN _ _ _⟩ | exact ⟨rfl, _, Eq.trans (World.drewN_drewN _ _ _) (congrArg (World.drewN _) (Nat.add_assoc _ _ _))⟩))); try go_wp2_with (first | (go_at_call 15; (with_reducible refine (laws_big.calls _ _ l0 true _ ?side1 ?side2 A2.out).mono ?_); (case side1 => repeat (first | exact HR0.out | (with_reducible refine Kd.C_alloc ?_ _) | (with_reducible refine Kd.qb1 ?_ _) | (with_reducible refine Kd.qi1 ?_))); (case side2 => exact HC0.out); rintro e w' ⟨rfl, ⟨nd, rfl⟩⟩; (try first | exact ⟨rfl, _, World.drewN_drewN _ _ _⟩ | exact ⟨rfl, _, Eq.trans (World.drewN_drewN _ _ _) (congrArg (World.drewN _) (Nat.add_assoc _ _ _))⟩))))
  go_ret
  exact ⟨by first | rfl | (simp [errW_none, errW_some] <;> rfl) | (simp [*, errW_none, errW_some] <;> rfl), by repeat (first | (with_reducible first | exact HB.out | apply qb0 | apply qa0 | apply qc0) | exact HB.out)⟩
 replace c3 := Bool.eq_false_iff.mpr c3
 subst c3
 have H1 : ((impl_Landed.f k (([(⟨1, 30⟩ : S61), (⟨3, 10⟩ : S61)] : List (S61))) 8 2).bind fun bt350 => (if bt350.2 = true then (if (bt350.1.length : Int) = 2 then (if 0 < (bt350.1.length : Int) then (if ((rd_T61 bt350.1 0).f1) = 32 then (if 1 < (bt350.1.length : Int) then (laws_FnLanded.j0 k l0 (((rd_T61 bt350.1 1).f1) != 16)) else (none)) else (laws_FnLanded.j0 k l0 true)) else (none)) else (laws_FnLanded.j0 k l0 true)) else (laws_FnLanded.j0 k l0 true))) = some r := by rw [if_neg (show ¬ (false = true) by decide)] at H; exact H
 clear H
 have H := H1
 clear H1
 obtain ⟨y347, hy347⟩ : ∃ y_ : List (S61), y_ = (([(⟨1, 30⟩ : S61), (⟨3, 10⟩ : S61)] : List (S61))) := ⟨_, rfl⟩
 replace H : ((impl_Landed.f k y347 8 2).bind fun bt350 => (if bt350.2 = true then (if (bt350.1.length : Int) = 2 then (if 0 < (bt350.1.length : Int) then (if ((rd_T61 bt350.1 0).f1) = 32 then (if 1 < (bt350.1.length : Int) then (laws_FnLanded.j0 k l0 (((rd_T61 bt350.1 1).f1) != 16)) else (none)) else (laws_FnLanded.j0 k l0 true)) else (none)) else (laws_FnLanded.j0 k l0 true)) else (laws_FnLanded.j0 k l0 true))) = some r := by first | (rw [hy347]; with_reducible exact H) | (have H2_ := (Option.bind_some _ _).symm.trans H; rw [hy347]; with_reducible exact H2_) | (have H2_ := (Option.bind_some _ _).symm.trans H; with_reducible exact H2_) | with_reducible exact H | (rw [hy347]; exact H) | exact H
 have Ny347 := Aside0.mk hy347
 clear hy347
 replace H := Option.bind_eq_some_iff.mp H
 obtain ⟨⟨t350, t351⟩, A40, H⟩ := H
 replace H : (if t351 = true then (if (t350.length : Int) = 2 then (if 0 < (t350.length : Int) then (if ((rd_T61 t350 0).f1) = 32 then (if 1 < (t350.length : Int) then (laws_FnLanded.j0 k l0 (((rd_T61 t350 1).f1) != 16)) else (none)) else (laws_FnLanded.j0 k l0 true)) else (none)) else (laws_FnLanded.j0 k l0 true)) else (laws_FnLanded.j0 k l0 true)) = some r := H
 have A4 := Aside0.mk A40
 clear A40
 have HC5 := Aside0.mk H
 clear H
 go_enter Try.func7, Try.ntmps7
 go_upto_region 4 with (first | (go_at_call 15; (with_reducible refine (laws_big.calls _ _ l0 false _ ?side1 ?side2 A2.out).mono ?_); (case side1 => repeat (first | exact HR0.out | (with_reducible refine Kd.C_alloc ?_ _) | (with_reducible refine Kd.qb1 ?_ _) | (with_reducible refine Kd.qi1 ?_))); (case side2 => exact HC0.out); rintro e w' ⟨rfl, ⟨nd, rfl⟩⟩; (try first | exact ⟨rfl, _, World.drewN_drewN _ _ _⟩ | exact ⟨rfl, _, Eq.trans (World.drewN_drewN _ _ _) (congrArg (World.drewN _) (Nat.add_assoc _ _ _))⟩)) | ((with_reducible refine qv0 (N := 19) rfl ?_); (try (refine qp0 (by rfl) ?_; dsimp only)); refine Kd.R_lit k61 _ 61 ?hg (N := 19) ?hd (xs := ([(⟨1, 30⟩ : S61), (⟨3, 10⟩ : S61)] : List (S61))) (inner := [.int .i64 1, .int .i64 30, .int .i64 3, .int .i64 10]) (ok := fun _ => True) (okp := fun _ => True) ?hr ?hp (fun _ hk => hk) trivial (Below.refl _ _) (Nat.le_refl _) (by simp) ?_; (case hd => rfl); (case hg => rfl); (case hr => first | (go_simp; done) | (go_simp; rfl)); (case hp => exact (Reps.c2 (show Kd.M k61 _ _ _ (⟨1, 30⟩ : S61) [.int .i64 1, .int .i64 30] from (k61_mkM _ _ _ (⟨1, 30⟩ : S61) )) (Reps.c2 (show Kd.M k61 _ _ _ (⟨3, 10⟩ : S61) [.int .i64 3, .int .i64 10] from (k61_mkM _ _ _ (⟨3, 10⟩ : S61) )) (Reps.none _ _)))); intro v348 w6 ho7 hb hg_ hnew_; clear hg_ hnew_; (first | rw [← Ny347.out] at ho7 | (simp only [Int.reduceToNat] at ho7; rw [← Ny347.out] at ho7)); have n0_ := Aside0.mk (Kd.qy0 ho7 (qh0 (by repeat (first | (with_reducible first | exact HB.out | apply qb0 | apply qa0 | apply qc0) | exact HB.out)))); have n1_ := Aside0.mk (qk0 (by repeat (first | (with_reducible first | exact HB.out | apply qb0 | apply qa0 | apply qc0) | exact HB.out)) hb); clear HB; have HO349 := n0_; have HB := n1_; clear n0_ n1_; clear hb ho7; obtain ⟨Ao8, co8, eo8⟩ := Kd.qz0 HO349.out; subst eo8) | (go_at_call 40; (with_reducible refine (impl_Landed.calls k _ _ y347 8 2 t350 t351 _ ?side1 ?side2 A4.out).mono ?_); (case side1 => repeat (first | exact (Kd.qi0 HO349.out).2.2 | (with_reducible refine Kd.C_alloc ?_ _) | (with_reducible refine Kd.qb1 ?_ _) | (with_reducible refine Kd.qi1 ?_))); (case side2 => exact (Kd.qi0 HO349.out).2.1); rintro e w9 ⟨v352, rfl, ho0, hb⟩; have n0_ := Aside0.mk (Kd.qf1 (by (with_reducible repeat (first | apply Kd.qe0 | apply Kd.qd0 | apply Kd.qf0)); exact HO349.out) (Kd.qm1 ho0) hb); have n1_ := Aside0.mk (Kd.qy0 (Kd.ql1 ho0 (Kd.R_lt (by (with_reducible repeat (first | apply Kd.qe0 | apply Kd.qd0 | apply Kd.qf0)); exact HO349.out))) (qh0 (by repeat (first | (with_reducible first | exact HB.out | apply qb0 | apply qa0 | apply qc0) | exact HB.out)))); have n2_ := Aside0.mk (qk0 (by repeat (first | (with_reducible first | exact HB.out | apply qb0 | apply qa0 | apply qc0) | exact HB.out)) hb); clear HO349; clear HB; have HO349 := n0_; have HO353 := n1_; have HB := n2_; clear n0_ n1_ n2_; (try clear hb); (try clear hb2); (try clear hk); (try clear hi); (try clear ho0)))
 repeat (go_quiet (first | (go_at_call 15; (with_reducible refine (laws_big.calls _ _ l0 false _ ?side1 ?side2 A2.out).mono ?_); (case side1 => repeat (first | exact HR0.out | (with_reducible refine Kd.C_alloc ?_ _) | (with_reducible refine Kd.qb1 ?_ _) | (with_reducible refine Kd.qi1 ?_))); (case side2 => exact HC0.out); rintro e w' ⟨rfl, ⟨nd, rfl⟩⟩; (try first | exact ⟨rfl, _, World.drewN_drewN _ _ _⟩ | exact ⟨rfl, _, Eq.trans (World.drewN_drewN _ _ _) (congrArg (World.drewN _) (Nat.add_assoc _ _ _))⟩)) | ((with_reducible refine qv0 (N := 19) rfl ?_); (try (refine qp0 (by rfl) ?_; dsimp only)); refine Kd.R_lit k61 _ 61 ?hg (N := 19) ?hd (xs := ([(⟨1, 30⟩ : S61), (⟨3, 10⟩ : S61)] : List (S61))) (inner := [.int .i64 1, .int .i64 30, .int .i64 3, .int .i64 10]) (ok := fun _ => True) (okp := fun _ => True) ?hr ?hp (fun _ hk => hk) trivial (Below.refl _ _) (Nat.le_refl _) (by simp) ?_; (case hd => rfl); (case hg => rfl); (case hr => first | (go_simp; done) | (go_simp; rfl)); (case hp => exact (Reps.c2 (show Kd.M k61 _ _ _ (⟨1, 30⟩ : S61) [.int .i64 1, .int .i64 30] from (k61_mkM _ _ _ (⟨1, 30⟩ : S61) )) (Reps.c2 (show Kd.M k61 _ _ _ (⟨3, 10⟩ : S61) [.int .i64 3, .int .i64 10] from (k61_mkM _ _ _ (⟨3, 10⟩ : S61) )) (Reps.none _ _)))); intro v348 w6 ho7 hb hg_ hnew_; clear hg_ hnew_; (first | rw [← Ny347.out] at ho7 | (simp only [Int.reduceToNat] at ho7; rw [← Ny347.out] at ho7)); have n0_ := Aside0.mk (Kd.qy0 ho7 (qh0 (by repeat (first | (with_reducible first | exact HB.out | apply qb0 | apply qa0 | apply qc0) | exact HB.out)))); have n1_ := Aside0.mk (qk0 (by repeat (first | (with_reducible first | exact HB.out | apply qb0 | apply qa0 | apply qc0) | exact HB.out)) hb); clear HB; have HO349 := n0_; have HB := n1_; clear n0_ n1_; clear hb ho7; obtain ⟨Ao8, co8, eo8⟩ := Kd.qz0 HO349.out; subst eo8) | (go_at_call 40; (with_reducible refine (impl_Landed.calls k _ _ y347 8 2 t350 t351 _ ?side1 ?side2 A4.out).mono ?_); (case side1 => repeat (first | exact (Kd.qi0 HO349.out).2.2 | (with_reducible refine Kd.C_alloc ?_ _) | (with_reducible refine Kd.qb1 ?_ _) | (with_reducible refine Kd.qi1 ?_))); (case side2 => exact (Kd.qi0 HO349.out).2.1); rintro e w9 ⟨v352, rfl, ho0, hb⟩; have n0_ := Aside0.mk (Kd.qf1 (by (with_reducible repeat (first | apply Kd.qe0 | apply Kd.qd0 | apply Kd.qf0)); exact HO349.out) (Kd.qm1 ho0) hb); have n1_ := Aside0.mk (Kd.qy0 (Kd.ql1 ho0 (Kd.R_lt (by (with_reducible repeat (first | apply Kd.qe0 | apply Kd.qd0 | apply Kd.qf0)); exact HO349.out))) (qh0 (by repeat (first | (with_reducible first | exact HB.out | apply qb0 | apply qa0 | apply qc0) | exact HB.out)))); have n2_ := Aside0.mk (qk0 (by repeat (first | (with_reducible first | exact HB.out | apply qb0 | apply qa0 | apply qc0) | exact HB.out)) hb); clear HO349; clear HB; have HO349 := n0_; have HO353 := n1_; have HB := n2_; clear n0_ n1_ n2_; (try clear hb); (try clear hb2); (try clear hk); (try clear hi); (try clear ho0))); go_upto_region 4 with (first | (go_at_call 15; (with_reducible refine (laws_big.calls _ _ l0 false _ ?side1 ?side2 A2.out).mono ?_); (case side1 => repeat (first | exact HR0.out | (with_reducible refine Kd.C_alloc ?_ _) | (with_reducible refine Kd.qb1 ?_ _) | (with_reducible refine Kd.qi1 ?_))); (case side2 => exact HC0.out); rintro e w' ⟨rfl, ⟨nd, rfl⟩⟩; (try first | exact ⟨rfl, _, World.drewN_drewN _ _ _⟩ | exact ⟨rfl, _, Eq.trans (World.drewN_drewN _ _ _) (congrArg (World.drewN _) (Nat.add_assoc _ _ _))⟩)) | ((with_reducible refine qv0 (N := 19) rfl ?_); (try (refine qp0 (by rfl) ?_; dsimp only)); refine Kd.R_lit k61 _ 61 ?hg (N := 19) ?hd (xs := ([(⟨1, 30⟩ : S61), (⟨3, 10⟩ : S61)] : List (S61))) (inner := [.int .i64 1, .int .i64 30, .int .i64 3, .int .i64 10]) (ok := fun _ => True) (okp := fun _ => True) ?hr ?hp (fun _ hk => hk) trivial (Below.refl _ _) (Nat.le_refl _) (by simp) ?_; (case hd => rfl); (case hg => rfl); (case hr => first | (go_simp; done) | (go_simp; rfl)); (case hp => exact (Reps.c2 (show Kd.M k61 _ _ _ (⟨1, 30⟩ : S61) [.int .i64 1, .int .i64 30] from (k61_mkM _ _ _ (⟨1, 30⟩ : S61) )) (Reps.c2 (show Kd.M k61 _ _ _ (⟨3, 10⟩ : S61) [.int .i64 3, .int .i64 10] from (k61_mkM _ _ _ (⟨3, 10⟩ : S61) )) (Reps.none _ _)))); intro v348 w6 ho7 hb hg_ hnew_; clear hg_ hnew_; (first | rw [← Ny347.out] at ho7 | (simp only [Int.reduceToNat] at ho7; rw [← Ny347.out] at ho7)); have n0_ := Aside0.mk (Kd.qy0 ho7 (qh0 (by repeat (first | (with_reducible first | exact HB.out | apply qb0 | apply qa0 | apply qc0) | exact HB.out)))); have n1_ := Aside0.mk (qk0 (by repeat (first | (with_reducible first | exact HB.out | apply qb0 | apply qa0 | apply qc0) | exact HB.out)) hb); clear HB; have HO349 := n0_; have HB := n1_; clear n0_ n1_; clear hb ho7; obtain ⟨Ao8, co8, eo8⟩ := Kd.qz0 HO349.out; subst eo8) | (go_at_call 40; (with_reducible refine (impl_Landed.calls k _ _ y347 8 2 t350 t351 _ ?side1 ?side2 A4.out).mono ?_); (case side1 => repeat (first | exact (Kd.qi0 HO349.out).2.2 | (with_reducible refine Kd.C_alloc ?_ _) | (with_reducible refine Kd.qb1 ?_ _) | (with_reducible refine Kd.qi1 ?_))); (case side2 => exact (Kd.qi0 HO349.out).2.1); rintro e w9 ⟨v352, rfl, ho0, hb⟩; have n0_ := Aside0.mk (Kd.qf1 (by (with_reducible repeat (first | apply Kd.qe0 | apply Kd.qd0 | apply Kd.qf0)); exact HO349.out) (Kd.qm1 ho0) hb); have n1_ := Aside0.mk (Kd.qy0 (Kd.ql1 ho0 (Kd.R_lt (by (with_reducible repeat (first | apply Kd.qe0 | apply Kd.qd0 | apply Kd.qf0)); exact HO349.out))) (qh0 (by repeat (first | (with_reducible first | exact HB.out | apply qb0 | apply qa0 | apply qc0) | exact HB.out)))); have n2_ := Aside0.mk (qk0 (by repeat (first | (with_reducible first | exact HB.out | apply qb0 | apply qa0 | apply qc0) | exact HB.out)) hb); clear HO349; clear HB; have HO349 := n0_; have HO353 := n1_; have HB := n2_; clear n0_ n1_ n2_; (try clear hb); (try clear hb2); (try clear hk); (try clear hi); (try clear ho0))))
 (try simp only [Act.put, List.setIfInBounds_toArray, List.set_cons_zero, List.set_cons_succ])
 go_cut [43] (fun v43 wc => ∃ (kq : Nat) (x43_4 : Bool), v43 = .bool x43_4 ∧ Aside0 (laws_FnLanded.j0 kq l0 x43_4 = some r) ∧ Aside0 (kq ≤ k) ∧ Aside0 (Below w.heap.size w wc))
 case first =>
  have H := HC5.out
  clear HC5
  by_cases c10 : t351 = true
  ·subst c10
   have H1 : (if (t350.length : Int) = 2 then (if 0 < (t350.length : Int) then (if ((rd_T61 t350 0).f1) = 32 then (if 1 < (t350.length : Int) then (laws_FnLanded.j0 k l0 (((rd_T61 t350 1).f1) != 16)) else (none)) else (laws_FnLanded.j0 k l0 true)) else (none)) else (laws_FnLanded.j0 k l0 true)) = some r := by rw [if_pos rfl] at H; exact H
   clear H
   have H := H1
   clear H1
   by_cases c11 : (t350.length : Int) = 2
   ·rw [if_pos c11] at H
    have c11b0 : ((t350.length : Int) == 2) = true := beq_iff_eq.mpr c11
    have c11b1 : ((t350.length : Int) != 2) = false := bne_eq_false_iff_eq.mpr c11
    clear c11
    (first | rw [c11b0] | (simp only [i64_w, i32_w]; rw [c11b0]) | skip)
    by_cases c12 : 0 < (t350.length : Int)
    case neg => rw [if_neg c12] at H; exact absurd H (by simp)
    rw [if_pos c12] at H
    have c12b0 : decide (0 < (t350.length : Int)) = true := decide_eq_true c12
    have c12b1 : decide (0 < t350.length) = true := decide_eq_true (by omega)
    clear c12
    by_cases c13 : ((rd_T61 t350 0).f1) = 32
    ·rw [if_pos c13] at H
     have c13b0 : (((rd_T61 t350 0).f1) == 32) = true := beq_iff_eq.mpr c13
     have c13b1 : (((rd_T61 t350 0).f1) != 32) = false := bne_eq_false_iff_eq.mpr c13
     clear c13
     by_cases c14 : 1 < (t350.length : Int)
     case neg => rw [if_neg c14] at H; exact absurd H (by simp)
     rw [if_pos c14] at H
     have c14b0 : decide (1 < (t350.length : Int)) = true := decide_eq_true c14
     have c14b1 : decide (1 < t350.length) = true := decide_eq_true (by omega)
     clear c14
     have H' := Aside0.mk H
     clear H
     obtain ⟨Ao15, co15, eo15⟩ := Kd.qz0 HO353.out
     subst eo15
     have p354 : 0 ≤ (0 : Int) := (by omega)
     have q354 : 0 < (t350.length : Int) := of_decide_eq_true (by first | (with_reducible assumption) | assumption)
     obtain ⟨ad354, e354, hx354_0, hx354_1⟩ := at_T61 (Kd.qi0 HO353.out).2.2 0 p354 q354
     cases e354
     have qi354 : (0 < t350.length) = True := eq_true (by omega)
     (try rw [show ((0 : Int)).toNat = 0 from rfl] at hx354_0)
     (try rw [show 0 * 2 = 0 from rfl] at hx354_0)
     (try rw [Addr.add_zero'] at hx354_0)
     (try rw [show ((0 : Int)).toNat = 0 from rfl] at hx354_1)
     (try rw [show 0 * 2 = 0 from rfl] at hx354_1)
     (try rw [Addr.add_zero'] at hx354_1)
     replace p354 := eq_true p354
     replace q354 := eq_true q354
     have p355 : 0 ≤ (1 : Int) := (by omega)
     have q355 : 1 < (t350.length : Int) := of_decide_eq_true (by first | (with_reducible assumption) | assumption)
     obtain ⟨ad355, e355, hx355_0, hx355_1⟩ := at_T61 (Kd.qi0 HO353.out).2.2 1 p355 q355
     obtain rfl : ad354 = ad355 := (by injection e355)
     (try simp only [show (1 : Int).toNat = 1 from rfl, Nat.reduceMul, Nat.reduceEqDiff, Go.Addr.add, ↓reduceIte] at hx355_0)
     (try simp only [show (1 : Int).toNat = 1 from rfl, Nat.reduceMul, Nat.reduceEqDiff, Go.Addr.add, ↓reduceIte] at hx355_1)
     have qi355 : (1 < t350.length) = True := eq_true (by omega)
     (try rw [show ((1 : Int)).toNat = 1 from rfl] at hx355_0)
     (try rw [show 1 * 2 = 2 from rfl] at hx355_0)
     (try rw [show ((1 : Int)).toNat = 1 from rfl] at hx355_1)
     (try rw [show 1 * 2 = 2 from rfl] at hx355_1)
     replace p355 := eq_true p355
     replace q355 := eq_true q355
     go_wp2
     repeat (go_quiet (fail); try go_wp2)
     go_meet
     case rel => exact ⟨_, ((((rd_T61 t350 1).f1) != 16)), (by first | rfl | (simp; done) | (simp [*]; done)), H', ⟨by first | omega | exact Nat.le_refl _⟩, ⟨by repeat (first | (with_reducible first | exact HB.out | apply qb0 | apply qa0 | apply qc0) | exact HB.out)⟩⟩
    rw [if_neg c13] at H
    have c13b0 : (((rd_T61 t350 0).f1) == 32) = false := beq_eq_false_iff_ne.mpr c13
    have c13b1 : (((rd_T61 t350 0).f1) != 32) = true := bne_iff_ne.mpr c13
    have H' := Aside0.mk H
    clear H
    obtain ⟨Ao16, co16, eo16⟩ := Kd.qz0 HO353.out
    subst eo16
    have p354 : 0 ≤ (0 : Int) := (by omega)
    have q354 : 0 < (t350.length : Int) := of_decide_eq_true (by first | (with_reducible assumption) | assumption)
    obtain ⟨ad354, e354, hx354_0, hx354_1⟩ := at_T61 (Kd.qi0 HO353.out).2.2 0 p354 q354
    cases e354
    have qi354 : (0 < t350.length) = True := eq_true (by omega)
    (try rw [show ((0 : Int)).toNat = 0 from rfl] at hx354_0)
    (try rw [show 0 * 2 = 0 from rfl] at hx354_0)
    (try rw [Addr.add_zero'] at hx354_0)
    (try rw [show ((0 : Int)).toNat = 0 from rfl] at hx354_1)
    (try rw [show 0 * 2 = 0 from rfl] at hx354_1)
    (try rw [Addr.add_zero'] at hx354_1)
    replace p354 := eq_true p354
    replace q354 := eq_true q354
    go_wp2
    repeat (go_quiet (fail); try go_wp2)
    go_meet
    case rel => exact ⟨_, (true), (by first | rfl | (simp; done) | (simp [*]; done)), H', ⟨by first | omega | exact Nat.le_refl _⟩, ⟨by repeat (first | (with_reducible first | exact HB.out | apply qb0 | apply qa0 | apply qc0) | exact HB.out)⟩⟩
   rw [if_neg c11] at H
   have c11b0 : ((t350.length : Int) == 2) = false := beq_eq_false_iff_ne.mpr c11
   have c11b1 : ((t350.length : Int) != 2) = true := bne_iff_ne.mpr c11
   (first | rw [c11b0] | (simp only [i64_w, i32_w]; rw [c11b0]) | skip)
   have H' := Aside0.mk H
   clear H
   obtain ⟨Ao17, co17, eo17⟩ := Kd.qz0 HO353.out
   subst eo17
   go_wp2
   repeat (go_quiet (fail); try go_wp2)
   go_meet
   case rel => exact ⟨_, (true), (by first | rfl | (simp; done) | (simp [*]; done)), H', ⟨by first | omega | exact Nat.le_refl _⟩, ⟨by repeat (first | (with_reducible first | exact HB.out | apply qb0 | apply qa0 | apply qc0) | exact HB.out)⟩⟩
  replace c10 := Bool.eq_false_iff.mpr c10
  subst c10
  have H1 : (laws_FnLanded.j0 k l0 true) = some r := by rw [if_neg (show ¬ (false = true) by decide)] at H; exact H
  clear H
  have H := H1
  clear H1
  have H' := Aside0.mk H
  clear H
  go_wp2
  repeat (go_quiet (fail); try go_wp2)
  go_meet
  case rel => exact ⟨_, (true), (by first | rfl | (simp; done) | (simp [*]; done)), H', ⟨by first | omega | exact Nat.le_refl _⟩, ⟨by repeat (first | (with_reducible first | exact HB.out | apply qb0 | apply qa0 | apply qc0) | exact HB.out)⟩⟩
 case rest =>
  clear HC5
  try clear c1
  try clear c2
  try clear p2
  try clear c3
  try clear p3
  try clear q3
  try clear hx3
  try clear qi3
  try clear c7
  try clear c10
  try clear c11
  try clear c11b0
  try clear c11b1
  try clear c12
  try clear c12b0
  try clear c12b1
  try clear c13
  try clear c13b0
  try clear c13b1
  try clear c14
  try clear c14b0
  try clear c14b1
  try clear hx354_0
  try clear hx354_1
  try clear hx355_0
  try clear hx355_1
  try clear p354
  try clear p355
  try clear q354
  try clear q355
  obtain ⟨kq, x43_4, rfl, HA, HJ4, HB⟩ := hcut
  cases kq with
  | zero => exact absurd HA.out (by simp [laws_FnLanded.j0])
  | succ kj4 =>
   have H := HA.out
   clear HA
   simp only [laws_FnLanded.j0] at H
   by_cases c18 : x43_4 = true
   ·subst c18
    have H1 : (some false) = some r := by rw [if_pos rfl] at H; exact H
    clear H
    have H := H1
    clear H1
    obtain rfl := Option.some.inj H
    go_wp2
    repeat (go_quiet (fail); try go_wp2)
    go_ret
    exact ⟨by first | rfl | (simp [errW_none, errW_some] <;> rfl) | (simp [*, errW_none, errW_some] <;> rfl), by repeat (first | (with_reducible first | exact HB.out | apply qb0 | apply qa0 | apply qc0) | exact HB.out)⟩
   replace c18 := Bool.eq_false_iff.mpr c18
   subst c18
   have H1 : ((spec_DrawLanded.f kj4 l0).bind fun bt356 => ((spec_Landed.f kj4 bt356.1 bt356.2.1 bt356.2.2).bind fun bt361 => ((impl_Landed.f kj4 bt356.1 bt356.2.1 bt356.2.2).bind fun bt365 => (if (bt365.2 != bt361.2) = true then (laws_FnLanded.j1 kj4 bt356.1 bt356.2.1 bt361.2 bt365.1 bt365.2 true) else (laws_FnLanded.j1 kj4 bt356.1 bt356.2.1 bt361.2 bt365.1 bt365.2 (!bt365.2)))))) = some r := by rw [if_neg (show ¬ (false = true) by decide)] at H; exact H
   clear H
   have H := H1
   clear H1
   replace H := Option.bind_eq_some_iff.mp H
   obtain ⟨⟨t356, t357, t358⟩, A190, H⟩ := H
   replace H : ((spec_Landed.f kj4 t356 t357 t358).bind fun bt361 => ((impl_Landed.f kj4 t356 t357 t358).bind fun bt365 => (if (bt365.2 != bt361.2) = true then (laws_FnLanded.j1 kj4 t356 t357 bt361.2 bt365.1 bt365.2 true) else (laws_FnLanded.j1 kj4 t356 t357 bt361.2 bt365.1 bt365.2 (!bt365.2))))) = some r := H
   have A19 := Aside0.mk A190
   clear A190
   replace H := Option.bind_eq_some_iff.mp H
   obtain ⟨⟨t361, t362⟩, A200, H⟩ := H
   replace H : ((impl_Landed.f kj4 t356 t357 t358).bind fun bt365 => (if (bt365.2 != t362) = true then (laws_FnLanded.j1 kj4 t356 t357 t362 bt365.1 bt365.2 true) else (laws_FnLanded.j1 kj4 t356 t357 t362 bt365.1 bt365.2 (!bt365.2)))) = some r := H
   have A20 := Aside0.mk A200
   clear A200
   replace H := Option.bind_eq_some_iff.mp H
   obtain ⟨⟨t365, t366⟩, A210, H⟩ := H
   replace H : (if (t366 != t362) = true then (laws_FnLanded.j1 kj4 t356 t357 t362 t365 t366 true) else (laws_FnLanded.j1 kj4 t356 t357 t362 t365 t366 (!t366))) = some r := H
   have A21 := Aside0.mk A210
   clear A210
   have HC22 := Aside0.mk H
   clear H
   go_upto_region 9 with (first | (go_at_call 41; (with_reducible refine (spec_DrawLanded.calls kj4 _ _ l0 t356 t357 t358 _ ?side1 ?side2 A19.out).mono ?_); (case side1 => repeat (first | exact (Kd.C_below HR0.out HB.out) | (with_reducible refine Kd.C_alloc ?_ _) | (with_reducible refine Kd.qb1 ?_ _) | (with_reducible refine Kd.qi1 ?_))); (case side2 => exact HC0.out); rintro e w23 ⟨v359, rfl, ho0, hb⟩; have n0_ := Aside0.mk (Kd.qy0 ho0 (qh0 (by repeat (first | (with_reducible first | exact HB.out | apply qb0 | apply qa0 | apply qc0) | exact HB.out)))); have n1_ := Aside0.mk (qk0 (by repeat (first | (with_reducible first | exact HB.out | apply qb0 | apply qa0 | apply qc0) | exact HB.out)) hb); clear HB; have HO360 := n0_; have HB := n1_; clear n0_ n1_; (try clear hb); (try clear hb2); (try clear hk); (try clear hi); (try clear ho0); obtain ⟨Ao24, co24, eo24⟩ := Kd.qz0 HO360.out; subst eo24) | (go_at_call 42; (with_reducible refine (spec_Landed.calls kj4 _ _ t356 t357 t358 t361 t362 _ ?side1 ?side2 A20.out).mono ?_); (case side1 => repeat (first | exact (Kd.qi0 HO360.out).2.2 | (with_reducible refine Kd.C_alloc ?_ _) | (with_reducible refine Kd.qb1 ?_ _) | (with_reducible refine Kd.qi1 ?_))); (case side2 => exact (Kd.qi0 HO360.out).2.1); rintro e w25 ⟨v363, rfl, ho0, hb⟩; have n0_ := Aside0.mk (Kd.qf1 (by (with_reducible repeat (first | apply Kd.qe0 | apply Kd.qd0 | apply Kd.qf0)); exact HO360.out) (Kd.qm1 ho0) hb); have n1_ := Aside0.mk (Kd.qy0 (Kd.ql1 ho0 (Kd.R_lt (by (with_reducible repeat (first | apply Kd.qe0 | apply Kd.qd0 | apply Kd.qf0)); exact HO360.out))) (qh0 (by repeat (first | (with_reducible first | exact HB.out | apply qb0 | apply qa0 | apply qc0) | exact HB.out)))); have n2_ := Aside0.mk (qk0 (by repeat (first | (with_reducible first | exact HB.out | apply qb0 | apply qa0 | apply qc0) | exact HB.out)) hb); clear HO360; clear HB; have HO360 := n0_; have HO364 := n1_; have HB := n2_; clear n0_ n1_ n2_; (try clear hb); (try clear hb2); (try clear hk); (try clear hi); (try clear ho0)) | (go_at_call 40; (with_reducible refine (impl_Landed.calls kj4 _ _ t356 t357 t358 t365 t366 _ ?side1 ?side2 A21.out).mono ?_); (case side1 => repeat (first | exact (Kd.qi0 HO360.out).2.2 | (with_reducible refine Kd.C_alloc ?_ _) | (with_reducible refine Kd.qb1 ?_ _) | (with_reducible refine Kd.qi1 ?_))); (case side2 => exact (Kd.qi0 HO360.out).2.1); rintro e w26 ⟨v367, rfl, ho0, hb⟩; have n0_ := Aside0.mk (Kd.qf1 (by (with_reducible repeat (first | apply Kd.qe0 | apply Kd.qd0 | apply Kd.qf0)); exact HO360.out) (Kd.qm1 ho0) hb); have n1_ := Aside0.mk (Kd.qf1 (by (with_reducible repeat (first | apply Kd.qe0 | apply Kd.qd0 | apply Kd.qf0)); exact HO364.out) (Kd.qm1 ho0) hb); have n2_ := Aside0.mk (Kd.qy0 (Kd.ql1 (Kd.ql1 ho0 (Kd.R_lt (by (with_reducible repeat (first | apply Kd.qe0 | apply Kd.qd0 | apply Kd.qf0)); exact HO360.out))) (Kd.R_lt (by (with_reducible repeat (first | apply Kd.qe0 | apply Kd.qd0 | apply Kd.qf0)); exact HO364.out))) (qh0 (by repeat (first | (with_reducible first | exact HB.out | apply qb0 | apply qa0 | apply qc0) | exact HB.out)))); have n3_ := Aside0.mk (qk0 (by repeat (first | (with_reducible first | exact HB.out | apply qb0 | apply qa0 | apply qc0) | exact HB.out)) hb); clear HO360; clear HO364; clear HB; have HO360 := n0_; have HO364 := n1_; have HO368 := n2_; have HB := n3_; clear n0_ n1_ n2_ n3_; (try clear hb); (try clear hb2); (try clear hk); (try clear hi); (try clear ho0)))
   repeat (go_quiet (first | (go_at_call 41; (with_reducible refine (spec_DrawLanded.calls kj4 _ _ l0 t356 t357 t358 _ ?side1 ?side2 A19.out).mono ?_); (case side1 => repeat (first | exact (Kd.C_below HR0.out HB.out) | (with_reducible refine Kd.C_alloc ?_ _) | (with_reducible refine Kd.qb1 ?_ _) | (with_reducible refine Kd.qi1 ?_))); (case side2 => exact HC0.out); rintro e w23 ⟨v359, rfl, ho0, hb⟩; have n0_ := Aside0.mk (Kd.qy0 ho0 (qh0 (by repeat (first | (with_reducible first | exact HB.out | apply qb0 | apply qa0 | apply qc0) | exact HB.out)))); have n1_ := Aside0.mk (qk0 (by repeat (first | (with_reducible first | exact HB.out | apply qb0 | apply qa0 | apply qc0) | exact HB.out)) hb); clear HB; have HO360 := n0_; have HB := n1_; clear n0_ n1_; (try clear hb); (try clear hb2); (try clear hk); (try clear hi); (try clear ho0); obtain ⟨Ao24, co24, eo24⟩ := Kd.qz0 HO360.out; subst eo24) | (go_at_call 42; (with_reducible refine (spec_Landed.calls kj4 _ _ t356 t357 t358 t361 t362 _ ?side1 ?side2 A20.out).mono ?_); (case side1 => repeat (first | exact (Kd.qi0 HO360.out).2.2 | (with_reducible refine Kd.C_alloc ?_ _) | (with_reducible refine Kd.qb1 ?_ _) | (with_reducible refine Kd.qi1 ?_))); (case side2 => exact (Kd.qi0 HO360.out).2.1); rintro e w25 ⟨v363, rfl, ho0, hb⟩; have n0_ := Aside0.mk (Kd.qf1 (by (with_reducible repeat (first | apply Kd.qe0 | apply Kd.qd0 | apply Kd.qf0)); exact HO360.out) (Kd.qm1 ho0) hb); have n1_ := Aside0.mk (Kd.qy0 (Kd.ql1 ho0 (Kd.R_lt (by (with_reducible repeat (first | apply Kd.qe0 | apply Kd.qd0 | apply Kd.qf0)); exact HO360.out))) (qh0 (by repeat (first | (with_reducible first | exact HB.out | apply qb0 | apply qa0 | apply qc0) | exact HB.out)))); have n2_ := Aside0.mk (qk0 (by repeat (first | (with_reducible first | exact HB.out | apply qb0 | apply qa0 | apply qc0) | exact HB.out)) hb); clear HO360; clear HB; have HO360 := n0_; have HO364 := n1_; have HB := n2_; clear n0_ n1_ n2_; (try clear hb); (try clear hb2); (try clear hk); (try clear hi); (try clear ho0)) | (go_at_call 40; (with_reducible refine (impl_Landed.calls kj4 _ _ t356 t357 t358 t365 t366 _ ?side1 ?side2 A21.out).mono ?_); (case side1 => repeat (first | exact (Kd.qi0 HO360.out).2.2 | (with_reducible refine Kd.C_alloc ?_ _) | (with_reducible refine Kd.qb1 ?_ _) | (with_reducible refine Kd.qi1 ?_))); (case side2 => exact (Kd.qi0 HO360.out).2.1); rintro e w26 ⟨v367, rfl, ho0, hb⟩; have n0_ := Aside0.mk (Kd.qf1 (by (with_reducible repeat (first | apply Kd.qe0 | apply Kd.qd0 | apply Kd.qf0)); exact HO360.out) (Kd.qm1 ho0) hb); have n1_ := Aside0.mk (Kd.qf1 (by (with_reducible repeat (first | apply Kd.qe0 | apply Kd.qd0 | apply Kd.qf0)); exact HO364.out) (Kd.qm1 ho0) hb); have n2_ := Aside0.mk (Kd.qy0 (Kd.ql1 (Kd.ql1 ho0 (Kd.R_lt (by (with_reducible repeat (first | apply Kd.qe0 | apply Kd.qd0 | apply Kd.qf0)); exact HO360.out))) (Kd.R_lt (by (with_reducible repeat (first | apply Kd.qe0 | apply Kd.qd0 | apply Kd.qf0)); exact HO364.out))) (qh0 (by repeat (first | (with_reducible first | exact HB.out | apply qb0 | apply qa0 | apply qc0) | exact HB.out)))); have n3_ := Aside0.mk (qk0 (by repeat (first | (with_reducible first | exact HB.out | apply qb0 | apply qa0 | apply qc0) | exact HB.out)) hb); clear HO360; clear HO364; clear HB; have HO360 := n0_; have HO364 := n1_; have HO368 := n2_; have HB := n3_; clear n0_ n1_ n2_ n3_; (try clear hb); (try clear hb2); (try clear hk); (try clear hi); (try clear ho0))); go_upto_region 9 with (first | (go_at_call 41; (with_reducible refine (spec_DrawLanded.calls kj4 _ _ l0 t356 t357 t358 _ ?side1 ?side2 A19.out).mono ?_); (case side1 => repeat (first | exact (Kd.C_below HR0.out HB.out) | (with_reducible refine Kd.C_alloc ?_ _) | (with_reducible refine Kd.qb1 ?_ _) | (with_reducible refine Kd.qi1 ?_))); (case side2 => exact HC0.out); rintro e w23 ⟨v359, rfl, ho0, hb⟩; have n0_ := Aside0.mk (Kd.qy0 ho0 (qh0 (by repeat (first | (with_reducible first | exact HB.out | apply qb0 | apply qa0 | apply qc0) | exact HB.out)))); have n1_ := Aside0.mk (qk0 (by repeat (first | (with_reducible first | exact HB.out | apply qb0 | apply qa0 | apply qc0) | exact HB.out)) hb); clear HB; have HO360 := n0_; have HB := n1_; clear n0_ n1_; (try clear hb); (try clear hb2); (try clear hk); (try clear hi); (try clear ho0); obtain ⟨Ao24, co24, eo24⟩ := Kd.qz0 HO360.out; subst eo24) | (go_at_call 42; (with_reducible refine (spec_Landed.calls kj4 _ _ t356 t357 t358 t361 t362 _ ?side1 ?side2 A20.out).mono ?_); (case side1 => repeat (first | exact (Kd.qi0 HO360.out).2.2 | (with_reducible refine Kd.C_alloc ?_ _) | (with_reducible refine Kd.qb1 ?_ _) | (with_reducible refine Kd.qi1 ?_))); (case side2 => exact (Kd.qi0 HO360.out).2.1); rintro e w25 ⟨v363, rfl, ho0, hb⟩; have n0_ := Aside0.mk (Kd.qf1 (by (with_reducible repeat (first | apply Kd.qe0 | apply Kd.qd0 | apply Kd.qf0)); exact HO360.out) (Kd.qm1 ho0) hb); have n1_ := Aside0.mk (Kd.qy0 (Kd.ql1 ho0 (Kd.R_lt (by (with_reducible repeat (first | apply Kd.qe0 | apply Kd.qd0 | apply Kd.qf0)); exact HO360.out))) (qh0 (by repeat (first | (with_reducible first | exact HB.out | apply qb0 | apply qa0 | apply qc0) | exact HB.out)))); have n2_ := Aside0.mk (qk0 (by repeat (first | (with_reducible first | exact HB.out | apply qb0 | apply qa0 | apply qc0) | exact HB.out)) hb); clear HO360; clear HB; have HO360 := n0_; have HO364 := n1_; have HB := n2_; clear n0_ n1_ n2_; (try clear hb); (try clear hb2); (try clear hk); (try clear hi); (try clear ho0)) | (go_at_call 40; (with_reducible refine (impl_Landed.calls kj4 _ _ t356 t357 t358 t365 t366 _ ?side1 ?side2 A21.out).mono ?_); (case side1 => repeat (first | exact (Kd.qi0 HO360.out).2.2 | (with_reducible refine Kd.C_alloc ?_ _) | (with_reducible refine Kd.qb1 ?_ _) | (with_reducible refine Kd.qi1 ?_))); (case side2 => exact (Kd.qi0 HO360.out).2.1); rintro e w26 ⟨v367, rfl, ho0, hb⟩; have n0_ := Aside0.mk (Kd.qf1 (by (with_reducible repeat (first | apply Kd.qe0 | apply Kd.qd0 | apply Kd.qf0)); exact HO360.out) (Kd.qm1 ho0) hb); have n1_ := Aside0.mk (Kd.qf1 (by (with_reducible repeat (first | apply Kd.qe0 | apply Kd.qd0 | apply Kd.qf0)); exact HO364.out) (Kd.qm1 ho0) hb); have n2_ := Aside0.mk (Kd.qy0 (Kd.ql1 (Kd.ql1 ho0 (Kd.R_lt (by (with_reducible repeat (first | apply Kd.qe0 | apply Kd.qd0 | apply Kd.qf0)); exact HO360.out))) (Kd.R_lt (by (with_reducible repeat (first | apply Kd.qe0 | apply Kd.qd0 | apply Kd.qf0)); exact HO364.out))) (qh0 (by repeat (first | (with_reducible first | exact HB.out | apply qb0 | apply qa0 | apply qc0) | exact HB.out)))); have n3_ := Aside0.mk (qk0 (by repeat (first | (with_reducible first | exact HB.out | apply qb0 | apply qa0 | apply qc0) | exact HB.out)) hb); clear HO360; clear HO364; clear HB; have HO360 := n0_; have HO364 := n1_; have HO368 := n2_; have HB := n3_; clear n0_ n1_ n2_ n3_; (try clear hb); (try clear hb2); (try clear hk); (try clear hi); (try clear ho0))))
   (try simp only [Act.put, List.setIfInBounds_toArray, List.set_cons_zero, List.set_cons_succ])
   go_cut [70] (fun v70 wc => ∃ (kq : Nat) (x70_21 : Bool), v70 = .bool x70_21 ∧ Aside0 (laws_FnLanded.j1 kq t356 t357 t362 t365 t366 x70_21 = some r) ∧ Aside0 (kq ≤ kj4) ∧ Aside0 (Kd.R k61 61 wc w.heap.size (fun k_ => some k_ ≠ (v367 : Value).ownBlock) (.slice Ao24 t356.length co24) t356) ∧ Aside0 (Kd.R k61 61 wc w.heap.size (fun k_ => some k_ ≠ ((.slice Ao24 t356.length co24) : Value).ownBlock) v367 t365) ∧ Aside0 (Below w.heap.size w wc))
   case first =>
    have H := HC22.out
    clear HC22
    by_cases c27 : (t366 != t362) = true
    ·rw [if_pos c27] at H
     have c27b0 : (t366 != t362) = true := c27
     (try (have c27b1 : decide (t366 = t362) = false := by simpa using c27))
     (try (have c27b2 : (t366 == t362) = false := by simpa using c27))
     (try (have c27b3 : ¬ (t366 = t362) := by simpa using c27))
     clear c27
     (first | rw [c27b0] | (simp only [i64_w, i32_w]; rw [c27b0]) | skip)
     have H' := Aside0.mk H
     clear H
     go_wp2
     repeat (go_quiet (fail); try go_wp2)
     go_meet
     case rel => exact ⟨_, (true), (by first | rfl | (simp; done) | (simp [*]; done)), H', ⟨by have := HJ4.out; first | omega | exact Nat.le_refl _⟩, ⟨by (with_reducible repeat (first | apply Kd.qe0 | apply Kd.qd0 | apply Kd.qf0)); exact Kd.qm0 HO360.out (fun _ hk => hk.2)⟩, ⟨by (with_reducible repeat (first | apply Kd.qe0 | apply Kd.qd0 | apply Kd.qf0)); exact Kd.qm0 HO368.out (fun _ hk => hk.1.2)⟩, ⟨by repeat (first | (with_reducible first | exact HB.out | apply qb0 | apply qa0 | apply qc0) | exact HB.out)⟩⟩
    rw [if_neg c27] at H
    have c27b0 : (t366 != t362) = false := by simpa using c27
    (try (have c27b1 : decide (t366 = t362) = true := by simpa using c27))
    (try (have c27b2 : (t366 == t362) = true := by simpa using c27))
    clear c27
    (first | rw [c27b0] | (simp only [i64_w, i32_w]; rw [c27b0]) | skip)
    have H' := Aside0.mk H
    clear H
    go_wp2
    repeat (go_quiet (fail); try go_wp2)
    go_meet
    case rel => exact ⟨_, (!t366), (by first | rfl | (simp; done) | (simp [*]; done)), H', ⟨by have := HJ4.out; first | omega | exact Nat.le_refl _⟩, ⟨by (with_reducible repeat (first | apply Kd.qe0 | apply Kd.qd0 | apply Kd.qf0)); exact Kd.qm0 HO360.out (fun _ hk => hk.2)⟩, ⟨by (with_reducible repeat (first | apply Kd.qe0 | apply Kd.qd0 | apply Kd.qf0)); exact Kd.qm0 HO368.out (fun _ hk => hk.1.2)⟩, ⟨by repeat (first | (with_reducible first | exact HB.out | apply qb0 | apply qa0 | apply qc0) | exact HB.out)⟩⟩
   case rest =>
    clear HC22
    try clear c1
    try clear c2
    try clear p2
    try clear c3
    try clear p3
    try clear q3
    try clear hx3
    try clear qi3
    try clear c7
    try clear c10
    try clear c11
    try clear c11b0
    try clear c11b1
    try clear c12
    try clear c12b0
    try clear c12b1
    try clear c13
    try clear c13b0
    try clear c13b1
    try clear c14
    try clear c14b0
    try clear c14b1
    try clear c18
    try clear c27
    try clear c27b0
    try clear c27b1
    try clear c27b2
    try clear hx354_0
    try clear hx354_1
    try clear hx355_0
    try clear hx355_1
    try clear p2
    try clear p3
    try clear p354
    try clear p355
    try clear q3
    try clear q354
    try clear q355
    obtain ⟨kq, x70_21, rfl, HA, HJ21, HO_5, HO_10, HB⟩ := hcut
    cases kq with
    | zero => exact absurd HA.out (by simp [laws_FnLanded.j1])
    | succ kj21 =>
     have H := HA.out
     clear HA
     simp only [laws_FnLanded.j1] at H
     by_cases c28 : x70_21 = true
     ·subst c28
      have H1 : (some (t366 == t362)) = some r := by rw [if_pos rfl] at H; exact H
      clear H
      have H := H1
      clear H1
      obtain rfl := Option.some.inj H
      go_wp2
      repeat (go_quiet (fail); try go_wp2)
      go_ret
      exact ⟨by first | rfl | (simp [errW_none, errW_some] <;> rfl) | (simp [*, errW_none, errW_some] <;> rfl), by repeat (first | (with_reducible first | exact HB.out | apply qb0 | apply qa0 | apply qc0) | exact HB.out)⟩
     replace c28 := Bool.eq_false_iff.mpr c28
     subst c28
     have H1 : (laws_FnLanded.l0 kj21 t356 t357 t365 0 0) = some r := by rw [if_neg (show ¬ (false = true) by decide)] at H; exact H
     clear H
     have H := H1
     clear H1
     have H' := Aside0.mk H
     clear H
     go_wp2
     repeat (go_quiet (fail); try go_wp2)
     go_loopg [12, 13] kj21 (fun kq v12 v13 w' => ∃ (x12_3 : Int) (x13_3 : Int), v12 = .int .i64 x12_3 ∧ v13 = .int .i64 x13_3 ∧ Aside0 (laws_FnLanded.l0 kq t356 t357 t365 x12_3 x13_3 = some r) ∧ Aside0 (kq ≤ kj21) ∧ Aside0 (Kd.R k61 61 w' w.heap.size (fun k_ => some k_ ≠ (v367 : Value).ownBlock) (.slice Ao24 t356.length co24) t356) ∧ Aside0 (Kd.R k61 61 w' w.heap.size (fun k_ => some k_ ≠ ((.slice Ao24 t356.length co24) : Value).ownBlock) v367 t365) ∧ Aside0 (Below w.heap.size w w'))
     case atStart => exact ⟨(0), (0), (by first | rfl | (simp; done) | (simp [*]; done)), (by first | rfl | (simp; done) | (simp [*]; done)), H', ⟨Nat.le_refl _⟩, ⟨by (with_reducible repeat (first | apply Kd.qe0 | apply Kd.qd0 | apply Kd.qf0)); exact HO_5.out⟩, ⟨by (with_reducible repeat (first | apply Kd.qe0 | apply Kd.qd0 | apply Kd.qf0)); exact HO_10.out⟩, ⟨by repeat (first | (with_reducible first | exact HB.out | apply qb0 | apply qa0 | apply qc0) | exact HB.out)⟩⟩
     case round =>
      clear H'
      try clear c1
      try clear c2
      try clear p2
      try clear c3
      try clear p3
      try clear q3
      try clear hx3
      try clear qi3
      try clear c7
      try clear c10
      try clear c11
      try clear c11b0
      try clear c11b1
      try clear c12
      try clear c12b0
      try clear c12b1
      try clear c13
      try clear c13b0
      try clear c13b1
      try clear c14
      try clear c14b0
      try clear c14b1
      try clear c18
      try clear c27
      try clear c27b0
      try clear c27b1
      try clear c27b2
      try clear c28
      try clear hx354_0
      try clear hx354_1
      try clear hx355_0
      try clear hx355_1
      try clear p2
      try clear p3
      try clear p354
      try clear p355
      try clear q3
      try clear q354
      try clear q355
      obtain ⟨x12_3, x13_3, rfl, rfl, HA, HK3, HO_5, HO_10, HB⟩ := hrel
      cases gk with
      | zero => exact absurd HA.out (by simp [laws_FnLanded.l0])
      | succ k3 =>
       have H := HA.out
       clear HA
       simp only [laws_FnLanded.l0] at H
       by_cases c29 : x13_3 < (t356.length : Int)
       ·rw [if_pos c29] at H
        have c29b0 : decide (x13_3 < (t356.length : Int)) = true := decide_eq_true c29
        clear c29
        by_cases c30 : (t365.length : Int) = (t356.length : Int)
        ·rw [if_pos c30] at H
         have c30b0 : ((t365.length : Int) == (t356.length : Int)) = true := beq_iff_eq.mpr c30
         have c30b1 : ((t365.length : Int) != (t356.length : Int)) = false := bne_eq_false_iff_eq.mpr c30
         have c30b2 : (t365.length == t356.length) = true := by first | simpa using c30 | (simp at c30 ⊢; omega)
         clear c30
         by_cases c31 : 0 ≤ x13_3
         case neg => rw [if_neg c31] at H; exact absurd H (by simp)
         rw [if_pos c31] at H
         have c31b0 : decide (0 ≤ x13_3) = true := decide_eq_true c31
         clear c31
         by_cases c32 : x13_3 < (t365.length : Int)
         case neg => rw [if_neg c32] at H; exact absurd H (by simp)
         rw [if_pos c32] at H
         have c32b0 : decide (x13_3 < (t365.length : Int)) = true := decide_eq_true c32
         clear c32
         by_cases c33 : ((rd_T61 t365 x13_3).f0) = ((rd_T61 t356 x13_3).f0)
         ·rw [if_pos c33] at H
          have c33b0 : (((rd_T61 t365 x13_3).f0) == ((rd_T61 t356 x13_3).f0)) = true := beq_iff_eq.mpr c33
          have c33b1 : (((rd_T61 t365 x13_3).f0) != ((rd_T61 t356 x13_3).f0)) = false := bne_eq_false_iff_eq.mpr c33
          clear c33
          by_cases c34 : ((rd_T61 t365 x13_3).f1) < ((rd_T61 t356 x13_3).f1)
          ·rw [if_pos c34] at H
           have c34b0 : decide (((rd_T61 t365 x13_3).f1) < ((rd_T61 t356 x13_3).f1)) = true := decide_eq_true c34
           clear c34
           obtain rfl := Option.some.inj H
           obtain ⟨Ao35, co35, eo35⟩ := Kd.qz0 HO_10.out
           subst eo35
           have p369 : 0 ≤ (x13_3 : Int) := of_decide_eq_true (by first | (with_reducible assumption) | assumption)
           have q369 : x13_3 < (t365.length : Int) := of_decide_eq_true (by first | (with_reducible assumption) | assumption)
           obtain ⟨ad369, e369, hx369_0, hx369_1⟩ := at_T61 (Kd.qi0 HO_10.out).2.2 x13_3 p369 q369
           cases e369
           replace p369 := eq_true p369
           replace q369 := eq_true q369
           have p370 : 0 ≤ (x13_3 : Int) := of_decide_eq_true (by first | (with_reducible assumption) | assumption)
           have q370 : x13_3 < (t356.length : Int) := of_decide_eq_true (by first | (with_reducible assumption) | assumption)
           obtain ⟨ad370, e370, hx370_0, hx370_1⟩ := at_T61 (Kd.qi0 HO_5.out).2.2 x13_3 p370 q370
           cases e370
           replace p370 := eq_true p370
           replace q370 := eq_true q370
           have p371 : 0 ≤ (x13_3 : Int) := of_decide_eq_true (by first | (with_reducible assumption) | assumption)
           have q371 : x13_3 < (t365.length : Int) := of_decide_eq_true (by first | (with_reducible assumption) | assumption)
           obtain ⟨ad371, e371, hx371_0, hx371_1⟩ := at_T61 (Kd.qi0 HO_10.out).2.2 x13_3 p371 q371
           obtain rfl : ad369 = ad371 := (by injection e371)
           replace p371 := eq_true p371
           replace q371 := eq_true q371
           have p372 : 0 ≤ (x13_3 : Int) := of_decide_eq_true (by first | (with_reducible assumption) | assumption)
           have q372 : x13_3 < (t356.length : Int) := of_decide_eq_true (by first | (with_reducible assumption) | assumption)
           obtain ⟨ad372, e372, hx372_0, hx372_1⟩ := at_T61 (Kd.qi0 HO_5.out).2.2 x13_3 p372 q372
           obtain rfl : ad370 = ad372 := (by injection e372)
           replace p372 := eq_true p372
           replace q372 := eq_true q372
           go_wp2
           repeat (go_quiet (fail); try go_wp2)
           go_ret
           exact ⟨by first | rfl | (simp [errW_none, errW_some] <;> rfl) | (simp [*, errW_none, errW_some] <;> rfl), by repeat (first | (with_reducible first | exact HB.out | apply qb0 | apply qa0 | apply qc0) | exact HB.out)⟩
          rw [if_neg c34] at H
          have c34b0 : decide (((rd_T61 t365 x13_3).f1) < ((rd_T61 t356 x13_3).f1)) = false := decide_eq_false c34
          clear c34
          have H' := Aside0.mk H
          clear H
          obtain ⟨Ao36, co36, eo36⟩ := Kd.qz0 HO_10.out
          subst eo36
          have p369 : 0 ≤ (x13_3 : Int) := of_decide_eq_true (by first | (with_reducible assumption) | assumption)
          have q369 : x13_3 < (t365.length : Int) := of_decide_eq_true (by first | (with_reducible assumption) | assumption)
          obtain ⟨ad369, e369, hx369_0, hx369_1⟩ := at_T61 (Kd.qi0 HO_10.out).2.2 x13_3 p369 q369
          cases e369
          replace p369 := eq_true p369
          replace q369 := eq_true q369
          have p370 : 0 ≤ (x13_3 : Int) := of_decide_eq_true (by first | (with_reducible assumption) | assumption)
          have q370 : x13_3 < (t356.length : Int) := of_decide_eq_true (by first | (with_reducible assumption) | assumption)
          obtain ⟨ad370, e370, hx370_0, hx370_1⟩ := at_T61 (Kd.qi0 HO_5.out).2.2 x13_3 p370 q370
          cases e370
          replace p370 := eq_true p370
          replace q370 := eq_true q370
          have p371 : 0 ≤ (x13_3 : Int) := of_decide_eq_true (by first | (with_reducible assumption) | assumption)
          have q371 : x13_3 < (t365.length : Int) := of_decide_eq_true (by first | (with_reducible assumption) | assumption)
          obtain ⟨ad371, e371, hx371_0, hx371_1⟩ := at_T61 (Kd.qi0 HO_10.out).2.2 x13_3 p371 q371
          obtain rfl : ad369 = ad371 := (by injection e371)
          replace p371 := eq_true p371
          replace q371 := eq_true q371
          have p372 : 0 ≤ (x13_3 : Int) := of_decide_eq_true (by first | (with_reducible assumption) | assumption)
          have q372 : x13_3 < (t356.length : Int) := of_decide_eq_true (by first | (with_reducible assumption) | assumption)
          obtain ⟨ad372, e372, hx372_0, hx372_1⟩ := at_T61 (Kd.qi0 HO_5.out).2.2 x13_3 p372 q372
          obtain rfl : ad370 = ad372 := (by injection e372)
          replace p372 := eq_true p372
          replace q372 := eq_true q372
          have p373 : 0 ≤ (x13_3 : Int) := of_decide_eq_true (by first | (with_reducible assumption) | assumption)
          have q373 : x13_3 < (t365.length : Int) := of_decide_eq_true (by first | (with_reducible assumption) | assumption)
          obtain ⟨ad373, e373, hx373_0, hx373_1⟩ := at_T61 (Kd.qi0 HO_10.out).2.2 x13_3 p373 q373
          obtain rfl : ad369 = ad373 := (by injection e373)
          replace p373 := eq_true p373
          replace q373 := eq_true q373
          have p374 : 0 ≤ (x13_3 : Int) := of_decide_eq_true (by first | (with_reducible assumption) | assumption)
          have q374 : x13_3 < (t356.length : Int) := of_decide_eq_true (by first | (with_reducible assumption) | assumption)
          obtain ⟨ad374, e374, hx374_0, hx374_1⟩ := at_T61 (Kd.qi0 HO_5.out).2.2 x13_3 p374 q374
          obtain rfl : ad370 = ad374 := (by injection e374)
          replace p374 := eq_true p374
          replace q374 := eq_true q374
          go_wp2
          repeat (go_quiet (fail); try go_wp2)
          go_roundg k3
          case measure => have := HJ4.out; have := HJ21.out; have := HK3.out; omega
          case rel => exact ⟨(wrap64 ((wrap64 (x12_3 + ((rd_T61 t365 x13_3).f1))) - ((rd_T61 t356 x13_3).f1))), (wrap64 (x13_3 + 1)), (by first | rfl | (simp; done) | (simp [*]; done)), (by first | rfl | (simp; done) | (simp [*]; done)), H', ⟨by have := HJ4.out; have := HJ21.out; have := HK3.out; omega⟩, ⟨by (with_reducible repeat (first | apply Kd.qe0 | apply Kd.qd0 | apply Kd.qf0)); exact HO_5.out⟩, ⟨by (with_reducible repeat (first | apply Kd.qe0 | apply Kd.qd0 | apply Kd.qf0)); exact HO_10.out⟩, ⟨by repeat (first | (with_reducible first | exact HB.out | apply qb0 | apply qa0 | apply qc0) | exact HB.out)⟩⟩
         rw [if_neg c33] at H
         have c33b0 : (((rd_T61 t365 x13_3).f0) == ((rd_T61 t356 x13_3).f0)) = false := beq_eq_false_iff_ne.mpr c33
         have c33b1 : (((rd_T61 t365 x13_3).f0) != ((rd_T61 t356 x13_3).f0)) = true := bne_iff_ne.mpr c33
         obtain rfl := Option.some.inj H
         obtain ⟨Ao37, co37, eo37⟩ := Kd.qz0 HO_10.out
         subst eo37
         have p369 : 0 ≤ (x13_3 : Int) := of_decide_eq_true (by first | (with_reducible assumption) | assumption)
         have q369 : x13_3 < (t365.length : Int) := of_decide_eq_true (by first | (with_reducible assumption) | assumption)
         obtain ⟨ad369, e369, hx369_0, hx369_1⟩ := at_T61 (Kd.qi0 HO_10.out).2.2 x13_3 p369 q369
         cases e369
         replace p369 := eq_true p369
         replace q369 := eq_true q369
         have p370 : 0 ≤ (x13_3 : Int) := of_decide_eq_true (by first | (with_reducible assumption) | assumption)
         have q370 : x13_3 < (t356.length : Int) := of_decide_eq_true (by first | (with_reducible assumption) | assumption)
         obtain ⟨ad370, e370, hx370_0, hx370_1⟩ := at_T61 (Kd.qi0 HO_5.out).2.2 x13_3 p370 q370
         cases e370
         replace p370 := eq_true p370
         replace q370 := eq_true q370
         go_wp2
         repeat (go_quiet (fail); try go_wp2)
         go_ret
         exact ⟨by first | rfl | (simp [errW_none, errW_some] <;> rfl) | (simp [*, errW_none, errW_some] <;> rfl), by repeat (first | (with_reducible first | exact HB.out | apply qb0 | apply qa0 | apply qc0) | exact HB.out)⟩
        rw [if_neg c30] at H
        have c30b0 : ((t365.length : Int) == (t356.length : Int)) = false := beq_eq_false_iff_ne.mpr c30
        have c30b1 : ((t365.length : Int) != (t356.length : Int)) = true := bne_iff_ne.mpr c30
        have c30b2 : (t365.length == t356.length) = false := by first | simpa using c30 | (simp at c30 ⊢; omega)
        obtain rfl := Option.some.inj H
        obtain ⟨Ao38, co38, eo38⟩ := Kd.qz0 HO_10.out
        subst eo38
        go_wp2
        repeat (go_quiet (fail); try go_wp2)
        go_ret
        exact ⟨by first | rfl | (simp [errW_none, errW_some] <;> rfl) | (simp [*, errW_none, errW_some] <;> rfl), by repeat (first | (with_reducible first | exact HB.out | apply qb0 | apply qa0 | apply qc0) | exact HB.out)⟩
       rw [if_neg c29] at H
       have c29b0 : decide (x13_3 < (t356.length : Int)) = false := decide_eq_false c29
       clear c29
       obtain rfl := Option.some.inj H
       go_wp2
       repeat (go_quiet (fail); try go_wp2)
       go_ret
       exact ⟨by first | rfl | (simp [errW_none, errW_some] <;> rfl) | (simp [*, errW_none, errW_some] <;> rfl), by repeat (first | (with_reducible first | exact HB.out | apply qb0 | apply qa0 | apply qc0) | exact HB.out)⟩

/-- THE ONE PURE STATEMENT of laws_FnLanded: yours. -/
def laws_FnLanded.Pure : Prop := ∀ (l0 : List Int), l0.length ≤ maxLen → l0.length * 1 ≤ 140737488351232 → (∀ x ∈ l0, (Lit.int .u8 x).wf = true) → ∃ k, laws_FnLanded.f k l0 = some true
theorem laws_FnLanded.walk (P : laws_FnLanded.Pure) (a0 : Option Addr) (len0 cap0 : Nat) (z0 : List Int) (w : World) (w0 : (a0 = none ∧ len0 = 0 ∧ cap0 = 0 ∧ z0 = []) ∨ ∃ x, a0 = some x ∧ len0 ≤ cap0 ∧ cap0 ≤ maxLen ∧ z0.length = cap0 ∧ (∀ i, i < z0.length → w.cell? (x.add i) = some (.int .u8 (z0.getD i 0))) ∧ ∀ n ∈ z0, (Lit.int .u8 n).wf = true) (y0 : len0 * 1 ≤ 140737488351232) :
  Calls Try.prog 7 #[.slice a0 len0 cap0] w fun e w' => e = .returned (.bool true) ∧ Below w.heap.size w w' := by
 obtain ⟨l0, rfl, hr0, hm0, hw0, hc0⟩ := qa1.ofRowC w0
 obtain ⟨k, h⟩ := P l0 hm0 y0 hw0
 refine (laws_FnLanded.calls k _ _ l0 true w (Kd.C_of_reads (d := (0 : Int)) (h1 := fun _ => rfl) hr0) hc0 h).mono ?_
 rintro e w' ⟨rfl, hd⟩
 exact ⟨rfl, hd⟩

end Go.Proofs.Ytlodndejipjceaa.PFnLanded
