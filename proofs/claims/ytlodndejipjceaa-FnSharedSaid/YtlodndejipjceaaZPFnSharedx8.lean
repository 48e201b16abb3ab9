/- Lines by a program (a changed copy of the kit's print: this repo's wip/tools): Go functions as Lean functions, and proofs that the calls answer so. -/
import Derived.Test.YtlodndejipjceaaZPFnSharedx0
import Derived.Test.YtlodndejipjceaaZPFnSharedx1
import Derived.Test.YtlodndejipjceaaZPFnSharedx2
import Derived.Test.YtlodndejipjceaaZPFnSharedx3
import Derived.Test.YtlodndejipjceaaZPFnSharedx7
namespace Go.Proofs.Ytlodndejipjceaa.PFnShared
open Go.RowKit Go.Proofs.YtlodndejipjceaaW.PrintWords Go.Proofs.YtlodndejipjceaaW.PrintLast Go.Proofs.YtlodndejipjceaaW.PrintMore
attribute [local go_sem] max2_int min2_int max_two min_two max_three min_three max_four min_four   -- for this text's walks alone
set_option linter.unusedVariables false
set_option linter.unusedSimpArgs false

/-! ### laws_abs: function 32 -/
def laws_abs.f (a0 : Int) : Option (Int) := if a0 < 0 then (some (wrap64 (-a0))) else (some a0)
set_option maxHeartbeats 8000000 in
set_option maxRecDepth 100000 in
theorem laws_abs.calls (a0 : Int) (r : Int) (w : World) (h : laws_abs.f a0 = some r) :
  Calls Try.prog 32 #[.int .i64 a0] w fun e w' => e = .returned (.int .i64 r) ∧ Drawn0 w w' := by
 have H : (if a0 < 0 then (some (wrap64 (-a0))) else (some a0)) = some r := h
 clear h
 by_cases c2 : a0 < 0
 ·rw [if_pos c2] at H
  have c2b0 : decide (a0 < 0) = true := decide_eq_true c2
  clear c2
  obtain rfl := Option.some.inj H
  go_enter Try.func32, Try.ntmps32
  go_wp2
  go_ret
  exact ⟨by first | rfl | (simp; done) | (simp [*]; done), by repeat (first | exact Drawn0.refl _ | apply Drawn0.step)⟩
 rw [if_neg c2] at H
 have c2b0 : decide (a0 < 0) = false := decide_eq_false c2
 clear c2
 obtain rfl := Option.some.inj H
 go_enter Try.func32, Try.ntmps32
 go_wp2
 go_ret
 exact ⟨by first | rfl | (simp; done) | (simp [*]; done), by repeat (first | exact Drawn0.refl _ | apply Drawn0.step)⟩

/-! ### laws_FnShared: function 5 -/
mutual
def laws_FnShared.j0 : Nat → Int → List Int → Int → List Int → Bool → Option (Bool)
 | 0, _, _, _, _, _ => none
 | k + 1, x3, x4, x6, x7, x35 => if x35 = true then (some false) else (if (x7.length : Int) = 0 then (some true) else ((laws_sum.f k x7).bind fun t339 => (if t339 = x3 then (laws_FnShared.l0 k x3 x4 x6 x7 0) else (some false))))
def laws_FnShared.l0 : Nat → Int → List Int → Int → List Int → Int → Option (Bool)
 | 0, _, _, _, _, _ => none
 | k + 1, x3, x4, x6, x7, x8 => if x8 < (x7.length : Int) then (if 0 ≤ x8 then (if x8 < (x4.length : Int) then ((laws_abs.f (wrap64 ((wrap64 ((rd x7 x8) * x6)) - (wrap64 (x3 * (rd x4 x8)))))).bind fun t342 => (if t342 ≥ x6 then (some false) else (laws_FnShared.l1 k x3 x4 x6 x7 x8 0))) else (none)) else (none)) else (some true)
def laws_FnShared.l1 : Nat → Int → List Int → Int → List Int → Int → Int → Option (Bool)
 | 0, _, _, _, _, _, _ => none
 | k + 1, x3, x4, x6, x7, x8, x9 => if x9 < x8 then (if x3 > 0 then (if 0 ≤ x8 then (if x8 < (x4.length : Int) then (if 0 ≤ x9 then (if x9 < (x4.length : Int) then (if (rd x4 x8) > (rd x4 x9) then (if x8 < (x7.length : Int) then (if x9 < (x7.length : Int) then (if (rd x7 x8) < (rd x7 x9) then (some false) else (laws_FnShared.l1 k x3 x4 x6 x7 x8 (wrap64 (x9 + 1)))) else (none)) else (none)) else (laws_FnShared.l1 k x3 x4 x6 x7 x8 (wrap64 (x9 + 1)))) else (none)) else (none)) else (none)) else (none)) else (laws_FnShared.l1 k x3 x4 x6 x7 x8 (wrap64 (x9 + 1)))) else (laws_FnShared.l0 k x3 x4 x6 x7 (wrap64 (x8 + 1)))
end
def laws_FnShared.f (k : Nat) (l0 : List Int) : Option (Bool) := (laws_big.f l0).bind fun t321 => (if t321 = true then (some true) else ((spec_DrawShares.f k l0).bind fun bt322 => ((spec_Shares.f k bt322.1 bt322.2).bind fun t326 => ((laws_sum.f k bt322.2).bind fun t329 => ((impl_Shares.f k bt322.1 bt322.2).bind fun t330 => (if (t330.length : Int) = (t326.length : Int) then ((impl_Shares.f k 10 (([1, 1, 1] : List Int))).bind fun t336 => (laws_FnShared.j0 k bt322.1 bt322.2 t329 t330 ((t336.length : Int) != 3))) else (laws_FnShared.j0 k bt322.1 bt322.2 t329 t330 true)))))))
theorem laws_FnShared.mono_l : ∀ k, (∀ y0 y1 y2 y3 y4, LeO (laws_FnShared.j0 k y0 y1 y2 y3 y4) (laws_FnShared.j0 (k + 1) y0 y1 y2 y3 y4)) ∧ (∀ y0 y1 y2 y3 y4, LeO (laws_FnShared.l0 k y0 y1 y2 y3 y4) (laws_FnShared.l0 (k + 1) y0 y1 y2 y3 y4)) ∧ (∀ y0 y1 y2 y3 y4 y5, LeO (laws_FnShared.l1 k y0 y1 y2 y3 y4 y5) (laws_FnShared.l1 (k + 1) y0 y1 y2 y3 y4 y5))
 | 0 => ⟨fun _ _ _ _ _ r h => by simp [laws_FnShared.j0] at h, fun _ _ _ _ _ r h => by simp [laws_FnShared.l0] at h, fun _ _ _ _ _ _ r h => by simp [laws_FnShared.l1] at h⟩
 | k + 1 => by
  obtain ⟨ih0, ih1, ih2⟩ := laws_FnShared.mono_l k
  refine ⟨?_, ?_, ?_⟩
  ·intro y0 y1 y2 y3 y4
   unfold laws_FnShared.j0
   repeat' first
   | (with_reducible exact ih0 _ _ _ _ _)
   | (with_reducible exact ih1 _ _ _ _ _)
   | (with_reducible exact ih2 _ _ _ _ _ _)
   | (with_reducible exact impl_Shares.mono _ _ _)
   | (with_reducible exact laws_sum.mono _ _)
   | (with_reducible exact spec_DrawShares.mono _ _)
   | (with_reducible exact spec_Shares.mono _ _ _)
   | (with_reducible exact LeO.refl _)
   | (with_reducible exact LeO.none _)
   | (with_reducible refine LeO.ite ?_ ?_)
   | (with_reducible refine LeO.bind ?_ (fun _ => ?_))
   | exact ih0 _ _ _ _ _
   | exact ih1 _ _ _ _ _
   | exact ih2 _ _ _ _ _ _
   | exact impl_Shares.mono _ _ _
   | exact laws_sum.mono _ _
   | exact spec_DrawShares.mono _ _
   | exact spec_Shares.mono _ _ _
   | exact LeO.none _
   | refine LeO.ite ?_ ?_
   | refine LeO.bind ?_ (fun _ => ?_)
  ·intro y0 y1 y2 y3 y4
   unfold laws_FnShared.l0
   repeat' first
   | (with_reducible exact ih0 _ _ _ _ _)
   | (with_reducible exact ih1 _ _ _ _ _)
   | (with_reducible exact ih2 _ _ _ _ _ _)
   | (with_reducible exact impl_Shares.mono _ _ _)
   | (with_reducible exact laws_sum.mono _ _)
   | (with_reducible exact spec_DrawShares.mono _ _)
   | (with_reducible exact spec_Shares.mono _ _ _)
   | (with_reducible exact LeO.refl _)
   | (with_reducible exact LeO.none _)
   | (with_reducible refine LeO.ite ?_ ?_)
   | (with_reducible refine LeO.bind ?_ (fun _ => ?_))
   | exact ih0 _ _ _ _ _
   | exact ih1 _ _ _ _ _
   | exact ih2 _ _ _ _ _ _
   | exact impl_Shares.mono _ _ _
   | exact laws_sum.mono _ _
   | exact spec_DrawShares.mono _ _
   | exact spec_Shares.mono _ _ _
   | exact LeO.none _
   | refine LeO.ite ?_ ?_
   | refine LeO.bind ?_ (fun _ => ?_)
  ·intro y0 y1 y2 y3 y4 y5
   unfold laws_FnShared.l1
   repeat' first
   | (with_reducible exact ih0 _ _ _ _ _)
   | (with_reducible exact ih1 _ _ _ _ _)
   | (with_reducible exact ih2 _ _ _ _ _ _)
   | (with_reducible exact impl_Shares.mono _ _ _)
   | (with_reducible exact laws_sum.mono _ _)
   | (with_reducible exact spec_DrawShares.mono _ _)
   | (with_reducible exact spec_Shares.mono _ _ _)
   | (with_reducible exact LeO.refl _)
   | (with_reducible exact LeO.none _)
   | (with_reducible refine LeO.ite ?_ ?_)
   | (with_reducible refine LeO.bind ?_ (fun _ => ?_))
   | exact ih0 _ _ _ _ _
   | exact ih1 _ _ _ _ _
   | exact ih2 _ _ _ _ _ _
   | exact impl_Shares.mono _ _ _
   | exact laws_sum.mono _ _
   | exact spec_DrawShares.mono _ _
   | exact spec_Shares.mono _ _ _
   | exact LeO.none _
   | refine LeO.ite ?_ ?_
   | refine LeO.bind ?_ (fun _ => ?_)
theorem laws_FnShared.mono : ∀ a0 k, LeO (laws_FnShared.f k a0) (laws_FnShared.f (k + 1) a0) := by
 intro a0 k
 obtain ⟨ih0, ih1, ih2⟩ := laws_FnShared.mono_l k
 unfold laws_FnShared.f
 repeat' first
   | (with_reducible exact ih0 _ _ _ _ _)
   | (with_reducible exact ih1 _ _ _ _ _)
   | (with_reducible exact ih2 _ _ _ _ _ _)
   | (with_reducible exact impl_Shares.mono _ _ _)
   | (with_reducible exact laws_sum.mono _ _)
   | (with_reducible exact spec_DrawShares.mono _ _)
   | (with_reducible exact spec_Shares.mono _ _ _)
   | (with_reducible exact LeO.refl _)
   | (with_reducible exact LeO.none _)
   | (with_reducible refine LeO.ite ?_ ?_)
   | (with_reducible refine LeO.bind ?_ (fun _ => ?_))
   | exact ih0 _ _ _ _ _
   | exact ih1 _ _ _ _ _
   | exact ih2 _ _ _ _ _ _
   | exact impl_Shares.mono _ _ _
   | exact laws_sum.mono _ _
   | exact spec_DrawShares.mono _ _
   | exact spec_Shares.mono _ _ _
   | exact LeO.none _
   | refine LeO.ite ?_ ?_
   | refine LeO.bind ?_ (fun _ => ?_)
set_option maxHeartbeats 8000000 in
set_option maxRecDepth 100000 in
theorem laws_FnShared.calls (k : Nat) (A0 : Option Addr) (c0 : Nat) (l0 : List Int) (r : Bool) (w : World) (hr0 : Kd.C (Kd.int .u8) w A0 l0.length l0) (hc0 : l0.length ≤ c0) (h : laws_FnShared.f k l0 = some r) :
  Calls Try.prog 5 #[.slice A0 l0.length c0] w fun e w' => e = .returned (.bool r) ∧ Below w.heap.size w w' := by
 have HR0 := Aside0.mk hr0
 have HC0 := Aside0.mk hc0
 clear hr0 hc0
 have HB := Aside0.mk (Below.refl w.heap.size w)
 have H : ((laws_big.f l0).bind fun t321 => (if t321 = true then (some true) else ((spec_DrawShares.f k l0).bind fun bt322 => ((spec_Shares.f k bt322.1 bt322.2).bind fun t326 => ((laws_sum.f k bt322.2).bind fun t329 => ((impl_Shares.f k bt322.1 bt322.2).bind fun t330 => (if (t330.length : Int) = (t326.length : Int) then ((impl_Shares.f k 10 (([1, 1, 1] : List Int))).bind fun t336 => (laws_FnShared.j0 k bt322.1 bt322.2 t329 t330 ((t336.length : Int) != 3))) else (laws_FnShared.j0 k bt322.1 bt322.2 t329 t330 true)))))))) = some r := h
 clear h
 replace H := Option.bind_eq_some_iff.mp H
 obtain ⟨t321, A20, H⟩ := H
 replace H : (if t321 = true then (some true) else ((spec_DrawShares.f k l0).bind fun bt322 => ((spec_Shares.f k bt322.1 bt322.2).bind fun t326 => ((laws_sum.f k bt322.2).bind fun t329 => ((impl_Shares.f k bt322.1 bt322.2).bind fun t330 => (if (t330.length : Int) = (t326.length : Int) then ((impl_Shares.f k 10 (([1, 1, 1] : List Int))).bind fun t336 => (laws_FnShared.j0 k bt322.1 bt322.2 t329 t330 ((t336.length : Int) != 3))) else (laws_FnShared.j0 k bt322.1 bt322.2 t329 t330 true))))))) = some r := H
 have A2 := Aside0.mk A20
 clear A20
 by_cases c3 : t321 = true
 ·subst c3
  have H1 : (some true) = some r := by rw [if_pos rfl] at H; exact H
  clear H
  have H := H1
  clear H1
  obtain rfl := Option.some.inj H
  go_enter Try.func5, Try.ntmps5
  go_wp2_with (first | (go_at_call 15; (with_reducible refine (laws_big.calls _ _ l0 true _ ?side1 ?side2 A2.out).mono ?_); (case side1 => repeat (first | exact HR0.out | (with_reducible refine Kd.qu0 ?_ _) | (with_reducible refine Kd.qt0 ?_ _) | (with_reducible refine Kd.qa1 ?_))); (case side2 => exact HC0.out); rintro e w' ⟨rfl, ⟨nd, rfl⟩⟩; (try first | exact ⟨rfl, _, World.drewN_drewN _ _ _⟩ | exact ⟨rfl, _, Eq.trans (World.drewN_drewN _ _ _) (congrArg (World.drewN _) (Nat.add_assoc _ _ _))⟩)))
  repeat (go_quiet (first | (go_at_call 15; (with_reducible refine (laws_big.calls _ _ l0 true _ ?side1 ?side2 A2.out).mono ?_); (case side1 => repeat (first | exact HR0.out | (with_reducible refine Kd.qu0 ?_ _) | (with_reducible refine Kd.qt0 ?_ _) | (with_reducible refine Kd.qa1 ?_))); (case side2 => exact HC0.out); rintro e w' ⟨rfl, ⟨nd, rfl⟩⟩; (try first | exact ⟨rfl, _, World.drewN_drewN _ _ _⟩ | exact ⟨rfl, _, Eq.trans (World.drewN_drewN _ _ _) (congrArg (World.drewN _) (Nat.add_assoc _ _ _))⟩))); try go_wp2_with (first | (go_at_call 15; (with_reducible refine (laws_big.calls _ _ l0 true _ ?side1 ?side2 A2.out).mono ?_); (case side1 => repeat (first | exact HR0.out | (with_reducible refine Kd.qu0 ?_ _) | (with_reducible refine Kd.qt0 ?_ _) | (with_reducible refine Kd.qa1 ?_))); (case side2 => exact HC0.out); rintro e w' ⟨rfl, ⟨nd, rfl⟩⟩; (try first | exact ⟨rfl, _, World.drewN_drewN _ _ _⟩ | exact ⟨rfl, _, Eq.trans (World.drewN_drewN _ _ _) (congrArg (World.drewN _) (Nat.add_assoc _ _ _))⟩))))
  go_ret
  exact ⟨by first | rfl | (simp [errW_none, errW_some] <;> rfl) | (simp [*, errW_none, errW_some] <;> rfl), by repeat (first | (with_reducible first | exact HB.out | apply qb0 | apply qa0 | apply qc0) | exact HB.out)⟩
 replace c3 := Bool.eq_false_iff.mpr c3
 subst c3
 have H1 : ((spec_DrawShares.f k l0).bind fun bt322 => ((spec_Shares.f k bt322.1 bt322.2).bind fun t326 => ((laws_sum.f k bt322.2).bind fun t329 => ((impl_Shares.f k bt322.1 bt322.2).bind fun t330 => (if (t330.length : Int) = (t326.length : Int) then ((impl_Shares.f k 10 (([1, 1, 1] : List Int))).bind fun t336 => (laws_FnShared.j0 k bt322.1 bt322.2 t329 t330 ((t336.length : Int) != 3))) else (laws_FnShared.j0 k bt322.1 bt322.2 t329 t330 true)))))) = some r := by rw [if_neg (show ¬ (false = true) by decide)] at H; exact H
 clear H
 have H := H1
 clear H1
 replace H := Option.bind_eq_some_iff.mp H
 obtain ⟨⟨t322, t323⟩, A40, H⟩ := H
 replace H : ((spec_Shares.f k t322 t323).bind fun t326 => ((laws_sum.f k t323).bind fun t329 => ((impl_Shares.f k t322 t323).bind fun t330 => (if (t330.length : Int) = (t326.length : Int) then ((impl_Shares.f k 10 (([1, 1, 1] : List Int))).bind fun t336 => (laws_FnShared.j0 k t322 t323 t329 t330 ((t336.length : Int) != 3))) else (laws_FnShared.j0 k t322 t323 t329 t330 true))))) = some r := H
 have A4 := Aside0.mk A40
 clear A40
 replace H := Option.bind_eq_some_iff.mp H
 obtain ⟨t326, A50, H⟩ := H
 replace H : ((laws_sum.f k t323).bind fun t329 => ((impl_Shares.f k t322 t323).bind fun t330 => (if (t330.length : Int) = (t326.length : Int) then ((impl_Shares.f k 10 (([1, 1, 1] : List Int))).bind fun t336 => (laws_FnShared.j0 k t322 t323 t329 t330 ((t336.length : Int) != 3))) else (laws_FnShared.j0 k t322 t323 t329 t330 true)))) = some r := H
 have A5 := Aside0.mk A50
 clear A50
 replace H := Option.bind_eq_some_iff.mp H
 obtain ⟨t329, A60, H⟩ := H
 replace H : ((impl_Shares.f k t322 t323).bind fun t330 => (if (t330.length : Int) = (t326.length : Int) then ((impl_Shares.f k 10 (([1, 1, 1] : List Int))).bind fun t336 => (laws_FnShared.j0 k t322 t323 t329 t330 ((t336.length : Int) != 3))) else (laws_FnShared.j0 k t322 t323 t329 t330 true))) = some r := H
 have A6 := Aside0.mk A60
 clear A60
 replace H := Option.bind_eq_some_iff.mp H
 obtain ⟨t330, A70, H⟩ := H
 replace H : (if (t330.length : Int) = (t326.length : Int) then ((impl_Shares.f k 10 (([1, 1, 1] : List Int))).bind fun t336 => (laws_FnShared.j0 k t322 t323 t329 t330 ((t336.length : Int) != 3))) else (laws_FnShared.j0 k t322 t323 t329 t330 true)) = some r := H
 have A7 := Aside0.mk A70
 clear A70
 have HC8 := Aside0.mk H
 clear H
 go_enter Try.func5, Try.ntmps5
 go_upto_region 7 with (first | (go_at_call 15; (with_reducible refine (laws_big.calls _ _ l0 false _ ?side1 ?side2 A2.out).mono ?_); (case side1 => repeat (first | exact HR0.out | (with_reducible refine Kd.qu0 ?_ _) | (with_reducible refine Kd.qt0 ?_ _) | (with_reducible refine Kd.qa1 ?_))); (case side2 => exact HC0.out); rintro e w' ⟨rfl, ⟨nd, rfl⟩⟩; (try first | exact ⟨rfl, _, World.drewN_drewN _ _ _⟩ | exact ⟨rfl, _, Eq.trans (World.drewN_drewN _ _ _) (congrArg (World.drewN _) (Nat.add_assoc _ _ _))⟩)) | (go_at_call 29; (with_reducible refine (spec_DrawShares.calls k _ _ l0 t322 t323 _ ?side1 ?side2 A4.out).mono ?_); (case side1 => repeat (first | exact HR0.out | (with_reducible refine Kd.qu0 ?_ _) | (with_reducible refine Kd.qt0 ?_ _) | (with_reducible refine Kd.qa1 ?_))); (case side2 => exact HC0.out); rintro e w9 ⟨v324, rfl, ho0, hb⟩; have n0_ := Aside0.mk (Kd.qy0 ho0 (qn0 (by repeat (first | (with_reducible first | exact HB.out | apply qb0 | apply qa0 | apply qc0) | exact HB.out)))); have n1_ := Aside0.mk (qo0 (by repeat (first | (with_reducible first | exact HB.out | apply qb0 | apply qa0 | apply qc0) | exact HB.out)) hb); clear HB; have HO325 := n0_; have HB := n1_; clear n0_ n1_; (try clear hb); (try clear hb2); (try clear hk); (try clear hi); (try clear ho0); obtain ⟨Ao10, co10, eo10⟩ := Kd.qz0 HO325.out; subst eo10) | (go_at_call 30; (with_reducible refine (spec_Shares.calls k t322 _ _ t323 t326 _ ?side1 ?side2 A5.out).mono ?_); (case side1 => repeat (first | exact (Kd.qi0 HO325.out).2.2 | (with_reducible refine Kd.qu0 ?_ _) | (with_reducible refine Kd.qt0 ?_ _) | (with_reducible refine Kd.qa1 ?_))); (case side2 => exact (Kd.qi0 HO325.out).2.1); rintro e w11 ⟨v327, rfl, ho0, hb⟩; have n0_ := Aside0.mk (Kd.qr0 (by (with_reducible repeat (first | apply Kd.qe0 | apply Kd.qd0 | apply Kd.qf0)); exact HO325.out) (Kd.qd1 ho0) hb); have n1_ := Aside0.mk (Kd.qy0 (Kd.R_new' ho0 (Kd.R_lt (by (with_reducible repeat (first | apply Kd.qe0 | apply Kd.qd0 | apply Kd.qf0)); exact HO325.out))) (qn0 (by repeat (first | (with_reducible first | exact HB.out | apply qb0 | apply qa0 | apply qc0) | exact HB.out)))); have n2_ := Aside0.mk (qo0 (by repeat (first | (with_reducible first | exact HB.out | apply qb0 | apply qa0 | apply qc0) | exact HB.out)) hb); clear HO325; clear HB; have HO325 := n0_; have HO328 := n1_; have HB := n2_; clear n0_ n1_ n2_; (try clear hb); (try clear hb2); (try clear hk); (try clear hi); (try clear ho0)) | (go_at_call 19; (with_reducible refine (laws_sum.calls k _ _ t323 t329 _ ?side1 ?side2 A6.out).mono ?_); (case side1 => repeat (first | exact (Kd.qi0 HO325.out).2.2 | (with_reducible refine Kd.qu0 ?_ _) | (with_reducible refine Kd.qt0 ?_ _) | (with_reducible refine Kd.qa1 ?_))); (case side2 => exact (Kd.qi0 HO325.out).2.1); rintro e w' ⟨rfl, ⟨nd, rfl⟩⟩; (try first | exact ⟨rfl, _, World.drewN_drewN _ _ _⟩ | exact ⟨rfl, _, Eq.trans (World.drewN_drewN _ _ _) (congrArg (World.drewN _) (Nat.add_assoc _ _ _))⟩)) | (go_at_call 31; (with_reducible refine (impl_Shares.calls k t322 _ _ t323 t330 _ ?side1 ?side2 A7.out).mono ?_); (case side1 => repeat (first | exact (Kd.qi0 HO325.out).2.2 | (with_reducible refine Kd.qu0 ?_ _) | (with_reducible refine Kd.qt0 ?_ _) | (with_reducible refine Kd.qa1 ?_))); (case side2 => exact (Kd.qi0 HO325.out).2.1); rintro e w12 ⟨v331, rfl, ho0, hb⟩; have n0_ := Aside0.mk (Kd.qr0 (by (with_reducible repeat (first | apply Kd.qe0 | apply Kd.qd0 | apply Kd.qf0)); exact HO325.out) (Kd.qd1 ho0) hb); have n1_ := Aside0.mk (Kd.qr0 (by (with_reducible repeat (first | apply Kd.qe0 | apply Kd.qd0 | apply Kd.qf0)); exact HO328.out) (Kd.qd1 ho0) hb); have n2_ := Aside0.mk (Kd.qy0 (Kd.R_new' (Kd.R_new' ho0 (Kd.R_lt (by (with_reducible repeat (first | apply Kd.qe0 | apply Kd.qd0 | apply Kd.qf0)); exact HO325.out))) (Kd.R_lt (by (with_reducible repeat (first | apply Kd.qe0 | apply Kd.qd0 | apply Kd.qf0)); exact HO328.out))) (qn0 (by repeat (first | (with_reducible first | exact HB.out | apply qb0 | apply qa0 | apply qc0) | exact HB.out)))); have n3_ := Aside0.mk (qo0 (by repeat (first | (with_reducible first | exact HB.out | apply qb0 | apply qa0 | apply qc0) | exact HB.out)) hb); clear HO325; clear HO328; clear HB; have HO325 := n0_; have HO328 := n1_; have HO332 := n2_; have HB := n3_; clear n0_ n1_ n2_ n3_; (try clear hb); (try clear hb2); (try clear hk); (try clear hi); (try clear ho0)))
 repeat (go_quiet (first | (go_at_call 15; (with_reducible refine (laws_big.calls _ _ l0 false _ ?side1 ?side2 A2.out).mono ?_); (case side1 => repeat (first | exact HR0.out | (with_reducible refine Kd.qu0 ?_ _) | (with_reducible refine Kd.qt0 ?_ _) | (with_reducible refine Kd.qa1 ?_))); (case side2 => exact HC0.out); rintro e w' ⟨rfl, ⟨nd, rfl⟩⟩; (try first | exact ⟨rfl, _, World.drewN_drewN _ _ _⟩ | exact ⟨rfl, _, Eq.trans (World.drewN_drewN _ _ _) (congrArg (World.drewN _) (Nat.add_assoc _ _ _))⟩)) | (go_at_call 29; (with_reducible refine (spec_DrawShares.calls k _ _ l0 t322 t323 _ ?side1 ?side2 A4.out).mono ?_); (case side1 => repeat (first | exact HR0.out | (with_reducible refine Kd.qu0 ?_ _) | (with_reducible refine Kd.qt0 ?_ _) | (with_reducible refine Kd.qa1 ?_))); (case side2 => exact HC0.out); rintro e w9 ⟨v324, rfl, ho0, hb⟩; have n0_ := Aside0.mk (Kd.qy0 ho0 (qn0 (by repeat (first | (with_reducible first | exact HB.out | apply qb0 | apply qa0 | apply qc0) | exact HB.out)))); have n1_ := Aside0.mk (qo0 (by repeat (first | (with_reducible first | exact HB.out | apply qb0 | apply qa0 | apply qc0) | exact HB.out)) hb); clear HB; have HO325 := n0_; have HB := n1_; clear n0_ n1_; (try clear hb); (try clear hb2); (try clear hk); (try clear hi); (try clear ho0); obtain ⟨Ao10, co10, eo10⟩ := Kd.qz0 HO325.out; subst eo10) | (go_at_call 30; (with_reducible refine (spec_Shares.calls k t322 _ _ t323 t326 _ ?side1 ?side2 A5.out).mono ?_); (case side1 => repeat (first | exact (Kd.qi0 HO325.out).2.2 | (with_reducible refine Kd.qu0 ?_ _) | (with_reducible refine Kd.qt0 ?_ _) | (with_reducible refine Kd.qa1 ?_))); (case side2 => exact (Kd.qi0 HO325.out).2.1); rintro e w11 ⟨v327, rfl, ho0, hb⟩; have n0_ := Aside0.mk (Kd.qr0 (by (with_reducible repeat (first | apply Kd.qe0 | apply Kd.qd0 | apply Kd.qf0)); exact HO325.out) (Kd.qd1 ho0) hb); have n1_ := Aside0.mk (Kd.qy0 (Kd.R_new' ho0 (Kd.R_lt (by (with_reducible repeat (first | apply Kd.qe0 | apply Kd.qd0 | apply Kd.qf0)); exact HO325.out))) (qn0 (by repeat (first | (with_reducible first | exact HB.out | apply qb0 | apply qa0 | apply qc0) | exact HB.out)))); have n2_ := Aside0.mk (qo0 (by repeat (first | (with_reducible first | exact HB.out | apply qb0 | apply qa0 | apply qc0) | exact HB.out)) hb); clear HO325; clear HB; have HO325 := n0_; have HO328 := n1_; have HB := n2_; clear n0_ n1_ n2_; (try clear hb); (try clear hb2); (try clear hk); (try clear hi); (try clear ho0)) | (go_at_call 19; (with_reducible refine (laws_sum.calls k _ _ t323 t329 _ ?side1 ?side2 A6.out).mono ?_); (case side1 => repeat (first | exact (Kd.qi0 HO325.out).2.2 | (with_reducible refine Kd.qu0 ?_ _) | (with_reducible refine Kd.qt0 ?_ _) | (with_reducible refine Kd.qa1 ?_))); (case side2 => exact (Kd.qi0 HO325.out).2.1); rintro e w' ⟨rfl, ⟨nd, rfl⟩⟩; (try first | exact ⟨rfl, _, World.drewN_drewN _ _ _⟩ | exact ⟨rfl, _, Eq.trans (World.drewN_drewN _ _ _) (congrArg (World.drewN _) (Nat.add_assoc _ _ _))⟩)) | (go_at_call 31; (with_reducible refine (impl_Shares.calls k t322 _ _ t323 t330 _ ?side1 ?side2 A7.out).mono ?_); (case side1 => repeat (first | exact (Kd.qi0 HO325.out).2.2 | (with_reducible refine Kd.qu0 ?_ _) | (with_reducible refine Kd.qt0 ?_ _) | (with_reducible refine Kd.qa1 ?_))); (case side2 => exact (Kd.qi0 HO325.out).2.1); rintro e w12 ⟨v331, rfl, ho0, hb⟩; have n0_ := Aside0.mk (Kd.qr0 (by (with_reducible repeat (first | apply Kd.qe0 | apply Kd.qd0 | apply Kd.qf0)); exact HO325.out) (Kd.qd1 ho0) hb); have n1_ := Aside0.mk (Kd.qr0 (by (with_reducible repeat (first | apply Kd.qe0 | apply Kd.qd0 | apply Kd.qf0)); exact HO328.out) (Kd.qd1 ho0) hb); have n2_ := Aside0.mk (Kd.qy0 (Kd.R_new' (Kd.R_new' ho0 (Kd.R_lt (by (with_reducible repeat (first | apply Kd.qe0 | apply Kd.qd0 | apply Kd.qf0)); exact HO325.out))) (Kd.R_lt (by (with_reducible repeat (first | apply Kd.qe0 | apply Kd.qd0 | apply Kd.qf0)); exact HO328.out))) (qn0 (by repeat (first | (with_reducible first | exact HB.out | apply qb0 | apply qa0 | apply qc0) | exact HB.out)))); have n3_ := Aside0.mk (qo0 (by repeat (first | (with_reducible first | exact HB.out | apply qb0 | apply qa0 | apply qc0) | exact HB.out)) hb); clear HO325; clear HO328; clear HB; have HO325 := n0_; have HO328 := n1_; have HO332 := n2_; have HB := n3_; clear n0_ n1_ n2_ n3_; (try clear hb); (try clear hb2); (try clear hk); (try clear hi); (try clear ho0))); go_upto_region 7 with (first | (go_at_call 15; (with_reducible refine (laws_big.calls _ _ l0 false _ ?side1 ?side2 A2.out).mono ?_); (case side1 => repeat (first | exact HR0.out | (with_reducible refine Kd.qu0 ?_ _) | (with_reducible refine Kd.qt0 ?_ _) | (with_reducible refine Kd.qa1 ?_))); (case side2 => exact HC0.out); rintro e w' ⟨rfl, ⟨nd, rfl⟩⟩; (try first | exact ⟨rfl, _, World.drewN_drewN _ _ _⟩ | exact ⟨rfl, _, Eq.trans (World.drewN_drewN _ _ _) (congrArg (World.drewN _) (Nat.add_assoc _ _ _))⟩)) | (go_at_call 29; (with_reducible refine (spec_DrawShares.calls k _ _ l0 t322 t323 _ ?side1 ?side2 A4.out).mono ?_); (case side1 => repeat (first | exact HR0.out | (with_reducible refine Kd.qu0 ?_ _) | (with_reducible refine Kd.qt0 ?_ _) | (with_reducible refine Kd.qa1 ?_))); (case side2 => exact HC0.out); rintro e w9 ⟨v324, rfl, ho0, hb⟩; have n0_ := Aside0.mk (Kd.qy0 ho0 (qn0 (by repeat (first | (with_reducible first | exact HB.out | apply qb0 | apply qa0 | apply qc0) | exact HB.out)))); have n1_ := Aside0.mk (qo0 (by repeat (first | (with_reducible first | exact HB.out | apply qb0 | apply qa0 | apply qc0) | exact HB.out)) hb); clear HB; have HO325 := n0_; have HB := n1_; clear n0_ n1_; (try clear hb); (try clear hb2); (try clear hk); (try clear hi); (try clear ho0); obtain ⟨Ao10, co10, eo10⟩ := Kd.qz0 HO325.out; subst eo10) | (go_at_call 30; (with_reducible refine (spec_Shares.calls k t322 _ _ t323 t326 _ ?side1 ?side2 A5.out).mono ?_); (case side1 => repeat (first | exact (Kd.qi0 HO325.out).2.2 | (with_reducible refine Kd.qu0 ?_ _) | (with_reducible refine Kd.qt0 ?_ _) | (with_reducible refine Kd.qa1 ?_))); (case side2 => exact (Kd.qi0 HO325.out).2.1); rintro e w11 ⟨v327, rfl, ho0, hb⟩; have n0_ := Aside0.mk (Kd.qr0 (by (with_reducible repeat (first | apply Kd.qe0 | apply Kd.qd0 | apply Kd.qf0)); exact HO325.out) (Kd.qd1 ho0) hb); have n1_ := Aside0.mk (Kd.qy0 (Kd.R_new' ho0 (Kd.R_lt (by (with_reducible repeat (first | apply Kd.qe0 | apply Kd.qd0 | apply Kd.qf0)); exact HO325.out))) (qn0 (by repeat (first | (with_reducible first | exact HB.out | apply qb0 | apply qa0 | apply qc0) | exact HB.out)))); have n2_ := Aside0.mk (qo0 (by repeat (first | (with_reducible first | exact HB.out | apply qb0 | apply qa0 | apply qc0) | exact HB.out)) hb); clear HO325; clear HB; have HO325 := n0_; have HO328 := n1_; have HB := n2_; clear n0_ n1_ n2_; (try clear hb); (try clear hb2); (try clear hk); (try clear hi); (try clear ho0)) | (go_at_call 19; (with_reducible refine (laws_sum.calls k _ _ t323 t329 _ ?side1 ?side2 A6.out).mono ?_); (case side1 => repeat (first | exact (Kd.qi0 HO325.out).2.2 | (with_reducible refine Kd.qu0 ?_ _) | (with_reducible refine Kd.qt0 ?_ _) | (with_reducible refine Kd.qa1 ?_))); (case side2 => exact (Kd.qi0 HO325.out).2.1); rintro e w' ⟨rfl, ⟨nd, rfl⟩⟩; (try first | exact ⟨rfl, _, World.drewN_drewN _ _ _⟩ | exact ⟨rfl, _, Eq.trans (World.drewN_drewN _ _ _) (congrArg (World.drewN _) (Nat.add_assoc _ _ _))⟩)) | (go_at_call 31; (with_reducible refine (impl_Shares.calls k t322 _ _ t323 t330 _ ?side1 ?side2 A7.out).mono ?_); (case side1 => repeat (first | exact (Kd.qi0 HO325.out).2.2 | (with_reducible refine Kd.qu0 ?_ _) | (with_reducible refine Kd.qt0 ?_ _) | (with_reducible refine Kd.qa1 ?_))); (case side2 => exact (Kd.qi0 HO325.out).2.1); rintro e w12 ⟨v331, rfl, ho0, hb⟩; have n0_ := Aside0.mk (Kd.qr0 (by (with_reducible repeat (first | apply Kd.qe0 | apply Kd.qd0 | apply Kd.qf0)); exact HO325.out) (Kd.qd1 ho0) hb); have n1_ := Aside0.mk (Kd.qr0 (by (with_reducible repeat (first | apply Kd.qe0 | apply Kd.qd0 | apply Kd.qf0)); exact HO328.out) (Kd.qd1 ho0) hb); have n2_ := Aside0.mk (Kd.qy0 (Kd.R_new' (Kd.R_new' ho0 (Kd.R_lt (by (with_reducible repeat (first | apply Kd.qe0 | apply Kd.qd0 | apply Kd.qf0)); exact HO325.out))) (Kd.R_lt (by (with_reducible repeat (first | apply Kd.qe0 | apply Kd.qd0 | apply Kd.qf0)); exact HO328.out))) (qn0 (by repeat (first | (with_reducible first | exact HB.out | apply qb0 | apply qa0 | apply qc0) | exact HB.out)))); have n3_ := Aside0.mk (qo0 (by repeat (first | (with_reducible first | exact HB.out | apply qb0 | apply qa0 | apply qc0) | exact HB.out)) hb); clear HO325; clear HO328; clear HB; have HO325 := n0_; have HO328 := n1_; have HO332 := n2_; have HB := n3_; clear n0_ n1_ n2_ n3_; (try clear hb); (try clear hb2); (try clear hk); (try clear hi); (try clear ho0))))
 (try simp only [Act.put, List.setIfInBounds_toArray, List.set_cons_zero, List.set_cons_succ])
 go_cut [35] (fun v35 wc => ∃ (kq : Nat) (x35_7 : Bool), v35 = .bool x35_7 ∧ Aside0 (laws_FnShared.j0 kq t322 t323 t329 t330 x35_7 = some r) ∧ Aside0 (kq ≤ k) ∧ Aside0 (Kd.R (Kd.int .i64) 3 wc w.heap.size (fun k_ => some k_ ≠ (v331 : Value).ownBlock) (.slice Ao10 t323.length co10) t323) ∧ Aside0 (Kd.R (Kd.int .i64) 3 wc w.heap.size (fun k_ => some k_ ≠ ((.slice Ao10 t323.length co10) : Value).ownBlock) v331 t330) ∧ Aside0 (Below w.heap.size w wc))
 case first =>
  have H := HC8.out
  clear HC8
  by_cases c13 : (t330.length : Int) = (t326.length : Int)
  ·rw [if_pos c13] at H
   have c13b0 : ((t330.length : Int) == (t326.length : Int)) = true := beq_iff_eq.mpr c13
   have c13b1 : ((t330.length : Int) != (t326.length : Int)) = false := bne_eq_false_iff_eq.mpr c13
   have c13b2 : (t330.length == t326.length) = true := by first | simpa using c13 | (simp at c13 ⊢; omega)
   clear c13
   (first | rw [c13b0] | (simp only [i64_w, i32_w]; rw [c13b0]) | skip)
   obtain ⟨y333, hy333⟩ : ∃ y_ : List Int, y_ = (([1, 1, 1] : List Int)) := ⟨_, rfl⟩
   replace H : ((impl_Shares.f k 10 y333).bind fun t336 => (laws_FnShared.j0 k t322 t323 t329 t330 ((t336.length : Int) != 3))) = some r := by first | (rw [hy333]; with_reducible exact H) | (have H2_ := (Option.bind_some _ _).symm.trans H; rw [hy333]; with_reducible exact H2_) | (have H2_ := (Option.bind_some _ _).symm.trans H; with_reducible exact H2_) | with_reducible exact H | (rw [hy333]; exact H) | exact H
   have Ny333 := Aside0.mk hy333
   clear hy333
   replace H := Option.bind_eq_some_iff.mp H
   obtain ⟨t336, A140, H⟩ := H
   replace H : (laws_FnShared.j0 k t322 t323 t329 t330 ((t336.length : Int) != 3)) = some r := H
   have A14 := Aside0.mk A140
   clear A140
   have H' := Aside0.mk H
   clear H
   obtain ⟨Ao15, co15, eo15⟩ := Kd.qz0 HO332.out
   subst eo15
   obtain ⟨Ao16, co16, eo16⟩ := Kd.qz0 HO328.out
   subst eo16
   go_wp2_with (first | ((with_reducible refine qb1 (N := 31) rfl ?_); (try (refine qw0 (by rfl) ?_; dsimp only)); refine Kd.R_lit (Kd.int .i64) _ 3 ?hg (N := 31) ?hd (xs := ([1, 1, 1] : List Int)) (inner := [.int .i64 1, .int .i64 1, .int .i64 1]) (ok := fun _ => True) (okp := fun _ => True) ?hr ?hp (fun _ hk => hk) trivial (Below.refl _ _) (Nat.le_refl _) (by simp) ?_; (case hd => rfl); (case hg => rfl); (case hr => first | (go_simp; done) | (go_simp; rfl)); (case hp => exact (Reps.one (show Kd.M (Kd.int .i64) _ _ _ 1 [.int .i64 1] from rfl) (Reps.one (show Kd.M (Kd.int .i64) _ _ _ 1 [.int .i64 1] from rfl) (Reps.one (show Kd.M (Kd.int .i64) _ _ _ 1 [.int .i64 1] from rfl) (Reps.none _ _))))); intro v334 w17 ho18 hb hg_ hnew_; clear hg_ hnew_; (first | rw [← Ny333.out] at ho18 | (simp only [Int.reduceToNat] at ho18; rw [← Ny333.out] at ho18)); have n0_ := Aside0.mk (Kd.qr0 (by (with_reducible repeat (first | apply Kd.qe0 | apply Kd.qd0 | apply Kd.qf0)); exact HO325.out) (Kd.qd1 ho18) hb); have n1_ := Aside0.mk (Kd.qr0 (by (with_reducible repeat (first | apply Kd.qe0 | apply Kd.qd0 | apply Kd.qf0)); exact HO328.out) (Kd.qd1 ho18) hb); have n2_ := Aside0.mk (Kd.qr0 (by (with_reducible repeat (first | apply Kd.qe0 | apply Kd.qd0 | apply Kd.qf0)); exact HO332.out) (Kd.qd1 ho18) hb); have n3_ := Aside0.mk (Kd.qy0 (Kd.R_new' (Kd.R_new' (Kd.R_new' ho18 (Kd.R_lt (by (with_reducible repeat (first | apply Kd.qe0 | apply Kd.qd0 | apply Kd.qf0)); exact HO325.out))) (Kd.R_lt (by (with_reducible repeat (first | apply Kd.qe0 | apply Kd.qd0 | apply Kd.qf0)); exact HO328.out))) (Kd.R_lt (by (with_reducible repeat (first | apply Kd.qe0 | apply Kd.qd0 | apply Kd.qf0)); exact HO332.out))) (qn0 (by repeat (first | (with_reducible first | exact HB.out | apply qb0 | apply qa0 | apply qc0) | exact HB.out)))); have n4_ := Aside0.mk (qo0 (by repeat (first | (with_reducible first | exact HB.out | apply qb0 | apply qa0 | apply qc0) | exact HB.out)) hb); clear HO325; clear HO328; clear HO332; clear HB; have HO325 := n0_; have HO328 := n1_; have HO332 := n2_; have HO335 := n3_; have HB := n4_; clear n0_ n1_ n2_ n3_ n4_; clear hb ho18; obtain ⟨Ao19, co19, eo19⟩ := Kd.qz0 HO335.out; subst eo19) | (go_at_call 31; (with_reducible refine (impl_Shares.calls k 10 _ _ y333 t336 _ ?side1 ?side2 A14.out).mono ?_); (case side1 => repeat (first | exact (Kd.qi0 HO335.out).2.2 | (with_reducible refine Kd.qu0 ?_ _) | (with_reducible refine Kd.qt0 ?_ _) | (with_reducible refine Kd.qa1 ?_))); (case side2 => exact (Kd.qi0 HO335.out).2.1); rintro e w20 ⟨v337, rfl, ho0, hb⟩; have n0_ := Aside0.mk (Kd.qr0 (by (with_reducible repeat (first | apply Kd.qe0 | apply Kd.qd0 | apply Kd.qf0)); exact HO325.out) (Kd.qd1 ho0) hb); have n1_ := Aside0.mk (Kd.qr0 (by (with_reducible repeat (first | apply Kd.qe0 | apply Kd.qd0 | apply Kd.qf0)); exact HO328.out) (Kd.qd1 ho0) hb); have n2_ := Aside0.mk (Kd.qr0 (by (with_reducible repeat (first | apply Kd.qe0 | apply Kd.qd0 | apply Kd.qf0)); exact HO332.out) (Kd.qd1 ho0) hb); have n3_ := Aside0.mk (Kd.qr0 (by (with_reducible repeat (first | apply Kd.qe0 | apply Kd.qd0 | apply Kd.qf0)); exact HO335.out) (Kd.qd1 ho0) hb); have n4_ := Aside0.mk (Kd.qy0 (Kd.R_new' (Kd.R_new' (Kd.R_new' (Kd.R_new' ho0 (Kd.R_lt (by (with_reducible repeat (first | apply Kd.qe0 | apply Kd.qd0 | apply Kd.qf0)); exact HO325.out))) (Kd.R_lt (by (with_reducible repeat (first | apply Kd.qe0 | apply Kd.qd0 | apply Kd.qf0)); exact HO328.out))) (Kd.R_lt (by (with_reducible repeat (first | apply Kd.qe0 | apply Kd.qd0 | apply Kd.qf0)); exact HO332.out))) (Kd.R_lt (by (with_reducible repeat (first | apply Kd.qe0 | apply Kd.qd0 | apply Kd.qf0)); exact HO335.out))) (qn0 (by repeat (first | (with_reducible first | exact HB.out | apply qb0 | apply qa0 | apply qc0) | exact HB.out)))); have n5_ := Aside0.mk (qo0 (by repeat (first | (with_reducible first | exact HB.out | apply qb0 | apply qa0 | apply qc0) | exact HB.out)) hb); clear HO325; clear HO328; clear HO332; clear HO335; clear HB; have HO325 := n0_; have HO328 := n1_; have HO332 := n2_; have HO335 := n3_; have HO338 := n4_; have HB := n5_; clear n0_ n1_ n2_ n3_ n4_ n5_; (try clear hb); (try clear hb2); (try clear hk); (try clear hi); (try clear ho0); obtain ⟨Ao21, co21, eo21⟩ := Kd.qz0 HO338.out; subst eo21))
   repeat (go_quiet (first | ((with_reducible refine qb1 (N := 31) rfl ?_); (try (refine qw0 (by rfl) ?_; dsimp only)); refine Kd.R_lit (Kd.int .i64) _ 3 ?hg (N := 31) ?hd (xs := ([1, 1, 1] : List Int)) (inner := [.int .i64 1, .int .i64 1, .int .i64 1]) (ok := fun _ => True) (okp := fun _ => True) ?hr ?hp (fun _ hk => hk) trivial (Below.refl _ _) (Nat.le_refl _) (by simp) ?_; (case hd => rfl); (case hg => rfl); (case hr => first | (go_simp; done) | (go_simp; rfl)); (case hp => exact (Reps.one (show Kd.M (Kd.int .i64) _ _ _ 1 [.int .i64 1] from rfl) (Reps.one (show Kd.M (Kd.int .i64) _ _ _ 1 [.int .i64 1] from rfl) (Reps.one (show Kd.M (Kd.int .i64) _ _ _ 1 [.int .i64 1] from rfl) (Reps.none _ _))))); intro v334 w17 ho18 hb hg_ hnew_; clear hg_ hnew_; (first | rw [← Ny333.out] at ho18 | (simp only [Int.reduceToNat] at ho18; rw [← Ny333.out] at ho18)); have n0_ := Aside0.mk (Kd.qr0 (by (with_reducible repeat (first | apply Kd.qe0 | apply Kd.qd0 | apply Kd.qf0)); exact HO325.out) (Kd.qd1 ho18) hb); have n1_ := Aside0.mk (Kd.qr0 (by (with_reducible repeat (first | apply Kd.qe0 | apply Kd.qd0 | apply Kd.qf0)); exact HO328.out) (Kd.qd1 ho18) hb); have n2_ := Aside0.mk (Kd.qr0 (by (with_reducible repeat (first | apply Kd.qe0 | apply Kd.qd0 | apply Kd.qf0)); exact HO332.out) (Kd.qd1 ho18) hb); have n3_ := Aside0.mk (Kd.qy0 (Kd.R_new' (Kd.R_new' (Kd.R_new' ho18 (Kd.R_lt (by (with_reducible repeat (first | apply Kd.qe0 | apply Kd.qd0 | apply Kd.qf0)); exact HO325.out))) (Kd.R_lt (by (with_reducible repeat (first | apply Kd.qe0 | apply Kd.qd0 | apply Kd.qf0)); exact HO328.out))) (Kd.R_lt (by (with_reducible repeat (first | apply Kd.qe0 | apply Kd.qd0 | apply Kd.qf0)); exact HO332.out))) (qn0 (by repeat (first | (with_reducible first | exact HB.out | apply qb0 | apply qa0 | apply qc0) | exact HB.out)))); have n4_ := Aside0.mk (qo0 (by repeat (first | (with_reducible first | exact HB.out | apply qb0 | apply qa0 | apply qc0) | exact HB.out)) hb); clear HO325; clear HO328; clear HO332; clear HB; have HO325 := n0_; have HO328 := n1_; have HO332 := n2_; have HO335 := n3_; have HB := n4_; clear n0_ n1_ n2_ n3_ n4_; clear hb ho18; obtain ⟨Ao19, co19, eo19⟩ := Kd.qz0 HO335.out; subst eo19) | (go_at_call 31; (with_reducible refine (impl_Shares.calls k 10 _ _ y333 t336 _ ?side1 ?side2 A14.out).mono ?_); (case side1 => repeat (first | exact (Kd.qi0 HO335.out).2.2 | (with_reducible refine Kd.qu0 ?_ _) | (with_reducible refine Kd.qt0 ?_ _) | (with_reducible refine Kd.qa1 ?_))); (case side2 => exact (Kd.qi0 HO335.out).2.1); rintro e w20 ⟨v337, rfl, ho0, hb⟩; have n0_ := Aside0.mk (Kd.qr0 (by (with_reducible repeat (first | apply Kd.qe0 | apply Kd.qd0 | apply Kd.qf0)); exact HO325.out) (Kd.qd1 ho0) hb); have n1_ := Aside0.mk (Kd.qr0 (by (with_reducible repeat (first | apply Kd.qe0 | apply Kd.qd0 | apply Kd.qf0)); exact HO328.out) (Kd.qd1 ho0) hb); have n2_ := Aside0.mk (Kd.qr0 (by (with_reducible repeat (first | apply Kd.qe0 | apply Kd.qd0 | apply Kd.qf0)); exact HO332.out) (Kd.qd1 ho0) hb); have n3_ := Aside0.mk (Kd.qr0 (by (with_reducible repeat (first | apply Kd.qe0 | apply Kd.qd0 | apply Kd.qf0)); exact HO335.out) (Kd.qd1 ho0) hb); have n4_ := Aside0.mk (Kd.qy0 (Kd.R_new' (Kd.R_new' (Kd.R_new' (Kd.R_new' ho0 (Kd.R_lt (by (with_reducible repeat (first | apply Kd.qe0 | apply Kd.qd0 | apply Kd.qf0)); exact HO325.out))) (Kd.R_lt (by (with_reducible repeat (first | apply Kd.qe0 | apply Kd.qd0 | apply Kd.qf0)); exact HO328.out))) (Kd.R_lt (by (with_reducible repeat (first | apply Kd.qe0 | apply Kd.qd0 | apply Kd.qf0)); exact HO332.out))) (Kd.R_lt (by (with_reducible repeat (first | apply Kd.qe0 | apply Kd.qd0 | apply Kd.qf0)); exact HO335.out))) (qn0 (by repeat (first | (with_reducible first | exact HB.out | apply qb0 | apply qa0 | apply qc0) | exact HB.out)))); have n5_ := Aside0.mk (qo0 (by repeat (first | (with_reducible first | exact HB.out | apply qb0 | apply qa0 | apply qc0) | exact HB.out)) hb); clear HO325; clear HO328; clear HO332; clear HO335; clear HB; have HO325 := n0_; have HO328 := n1_; have HO332 := n2_; have HO335 := n3_; have HO338 := n4_; have HB := n5_; clear n0_ n1_ n2_ n3_ n4_ n5_; (try clear hb); (try clear hb2); (try clear hk); (try clear hi); (try clear ho0); obtain ⟨Ao21, co21, eo21⟩ := Kd.qz0 HO338.out; subst eo21)); try go_wp2_with (first | ((with_reducible refine qb1 (N := 31) rfl ?_); (try (refine qw0 (by rfl) ?_; dsimp only)); refine Kd.R_lit (Kd.int .i64) _ 3 ?hg (N := 31) ?hd (xs := ([1, 1, 1] : List Int)) (inner := [.int .i64 1, .int .i64 1, .int .i64 1]) (ok := fun _ => True) (okp := fun _ => True) ?hr ?hp (fun _ hk => hk) trivial (Below.refl _ _) (Nat.le_refl _) (by simp) ?_; (case hd => rfl); (case hg => rfl); (case hr => first | (go_simp; done) | (go_simp; rfl)); (case hp => exact (Reps.one (show Kd.M (Kd.int .i64) _ _ _ 1 [.int .i64 1] from rfl) (Reps.one (show Kd.M (Kd.int .i64) _ _ _ 1 [.int .i64 1] from rfl) (Reps.one (show Kd.M (Kd.int .i64) _ _ _ 1 [.int .i64 1] from rfl) (Reps.none _ _))))); intro v334 w17 ho18 hb hg_ hnew_; clear hg_ hnew_; (first | rw [← Ny333.out] at ho18 | (simp only [Int.reduceToNat] at ho18; rw [← Ny333.out] at ho18)); have n0_ := Aside0.mk (Kd.qr0 (by (with_reducible repeat (first | apply Kd.qe0 | apply Kd.qd0 | apply Kd.qf0)); exact HO325.out) (Kd.qd1 ho18) hb); have n1_ := Aside0.mk (Kd.qr0 (by (with_reducible repeat (first | apply Kd.qe0 | apply Kd.qd0 | apply Kd.qf0)); exact HO328.out) (Kd.qd1 ho18) hb); have n2_ := Aside0.mk (Kd.qr0 (by (with_reducible repeat (first | apply Kd.qe0 | apply Kd.qd0 | apply Kd.qf0)); exact HO332.out) (Kd.qd1 ho18) hb); have n3_ := Aside0.mk (Kd.qy0 (Kd.R_new' (Kd.R_new' (Kd.R_new' ho18 (Kd.R_lt (by (with_reducible repeat (first | apply Kd.qe0 | apply Kd.qd0 | apply Kd.qf0)); exact HO325.out))) (Kd.R_lt (by (with_reducible repeat (first | apply Kd.qe0 | apply Kd.qd0 | apply Kd.qf0)); exact HO328.out))) (Kd.R_lt (by (with_reducible repeat (first | apply Kd.qe0 | apply Kd.qd0 | apply Kd.qf0)); exact HO332.out))) (qn0 (by repeat (first | (with_reducible first | exact HB.out | apply qb0 | apply qa0 | apply qc0) | exact HB.out)))); have n4_ := Aside0.mk (qo0 (by repeat (first | (with_reducible first | exact HB.out | apply qb0 | apply qa0 | apply qc0) | exact HB.out)) hb); clear HO325; clear HO328; clear HO332; clear HB; have HO325 := n0_; have HO328 := n1_; have HO332 := n2_; have HO335 := n3_; have HB := n4_; clear n0_ n1_ n2_ n3_ n4_; clear hb ho18; obtain ⟨Ao19, co19, eo19⟩ := Kd.qz0 HO335.out; subst eo19) | (go_at_call 31; (with_reducible refine (impl_Shares.calls k 10 _ _ y333 t336 _ ?side1 ?side2 A14.out).mono ?_); (case side1 => repeat (first | exact (Kd.qi0 HO335.out).2.2 | (with_reducible refine Kd.qu0 ?_ _) | (with_reducible refine Kd.qt0 ?_ _) | (with_reducible refine Kd.qa1 ?_))); (case side2 => exact (Kd.qi0 HO335.out).2.1); rintro e w20 ⟨v337, rfl, ho0, hb⟩; have n0_ := Aside0.mk (Kd.qr0 (by (with_reducible repeat (first | apply Kd.qe0 | apply Kd.qd0 | apply Kd.qf0)); exact HO325.out) (Kd.qd1 ho0) hb); have n1_ := Aside0.mk (Kd.qr0 (by (with_reducible repeat (first | apply Kd.qe0 | apply Kd.qd0 | apply Kd.qf0)); exact HO328.out) (Kd.qd1 ho0) hb); have n2_ := Aside0.mk (Kd.qr0 (by (with_reducible repeat (first | apply Kd.qe0 | apply Kd.qd0 | apply Kd.qf0)); exact HO332.out) (Kd.qd1 ho0) hb); have n3_ := Aside0.mk (Kd.qr0 (by (with_reducible repeat (first | apply Kd.qe0 | apply Kd.qd0 | apply Kd.qf0)); exact HO335.out) (Kd.qd1 ho0) hb); have n4_ := Aside0.mk (Kd.qy0 (Kd.R_new' (Kd.R_new' (Kd.R_new' (Kd.R_new' ho0 (Kd.R_lt (by (with_reducible repeat (first | apply Kd.qe0 | apply Kd.qd0 | apply Kd.qf0)); exact HO325.out))) (Kd.R_lt (by (with_reducible repeat (first | apply Kd.qe0 | apply Kd.qd0 | apply Kd.qf0)); exact HO328.out))) (Kd.R_lt (by (with_reducible repeat (first | apply Kd.qe0 | apply Kd.qd0 | apply Kd.qf0)); exact HO332.out))) (Kd.R_lt (by (with_reducible repeat (first | apply Kd.qe0 | apply Kd.qd0 | apply Kd.qf0)); exact HO335.out))) (qn0 (by repeat (first | (with_reducible first | exact HB.out | apply qb0 | apply qa0 | apply qc0) | exact HB.out)))); have n5_ := Aside0.mk (qo0 (by repeat (first | (with_reducible first | exact HB.out | apply qb0 | apply qa0 | apply qc0) | exact HB.out)) hb); clear HO325; clear HO328; clear HO332; clear HO335; clear HB; have HO325 := n0_; have HO328 := n1_; have HO332 := n2_; have HO335 := n3_; have HO338 := n4_; have HB := n5_; clear n0_ n1_ n2_ n3_ n4_ n5_; (try clear hb); (try clear hb2); (try clear hk); (try clear hi); (try clear ho0); obtain ⟨Ao21, co21, eo21⟩ := Kd.qz0 HO338.out; subst eo21)))
   go_meet
   case rel => exact ⟨_, (((t336.length : Int) != 3)), (by first | rfl | (simp; done) | (simp [*]; done)), H', ⟨by first | omega | exact Nat.le_refl _⟩, ⟨by (with_reducible repeat (first | apply Kd.qe0 | apply Kd.qd0 | apply Kd.qf0)); exact Kd.qp0 HO325.out (fun _ hk => hk.1.1.2)⟩, ⟨by (with_reducible repeat (first | apply Kd.qe0 | apply Kd.qd0 | apply Kd.qf0)); exact Kd.qp0 HO332.out (fun _ hk => hk.1.1.1.2)⟩, ⟨by repeat (first | (with_reducible first | exact HB.out | apply qb0 | apply qa0 | apply qc0) | exact HB.out)⟩⟩
  rw [if_neg c13] at H
  have c13b0 : ((t330.length : Int) == (t326.length : Int)) = false := beq_eq_false_iff_ne.mpr c13
  have c13b1 : ((t330.length : Int) != (t326.length : Int)) = true := bne_iff_ne.mpr c13
  have c13b2 : (t330.length == t326.length) = false := by first | simpa using c13 | (simp at c13 ⊢; omega)
  (first | rw [c13b0] | (simp only [i64_w, i32_w]; rw [c13b0]) | skip)
  have H' := Aside0.mk H
  clear H
  obtain ⟨Ao22, co22, eo22⟩ := Kd.qz0 HO332.out
  subst eo22
  obtain ⟨Ao23, co23, eo23⟩ := Kd.qz0 HO328.out
  subst eo23
  go_wp2
  repeat (go_quiet (fail); try go_wp2)
  go_meet
  case rel => exact ⟨_, (true), (by first | rfl | (simp; done) | (simp [*]; done)), H', ⟨by first | omega | exact Nat.le_refl _⟩, ⟨by (with_reducible repeat (first | apply Kd.qe0 | apply Kd.qd0 | apply Kd.qf0)); exact Kd.qp0 HO325.out (fun _ hk => hk.2)⟩, ⟨by (with_reducible repeat (first | apply Kd.qe0 | apply Kd.qd0 | apply Kd.qf0)); exact Kd.qp0 HO332.out (fun _ hk => hk.1.2)⟩, ⟨by repeat (first | (with_reducible first | exact HB.out | apply qb0 | apply qa0 | apply qc0) | exact HB.out)⟩⟩
 case rest =>
  clear HC8
  try clear c1
  try clear p2
  try clear c3
  try clear c5
  try clear c13
  try clear c13b0
  try clear c13b1
  try clear c13b2
  obtain ⟨kq, x35_7, rfl, HA, HJ7, HO_4, HO_7, HB⟩ := hcut
  cases kq with
  | zero => exact absurd HA.out (by simp [laws_FnShared.j0])
  | succ kj7 =>
   have H := HA.out
   clear HA
   simp only [laws_FnShared.j0] at H
   by_cases c24 : x35_7 = true
   ·subst c24
    have H1 : (some false) = some r := by rw [if_pos rfl] at H; exact H
    clear H
    have H := H1
    clear H1
    obtain rfl := Option.some.inj H
    go_wp2
    repeat (go_quiet (fail); try go_wp2)
    go_ret
    exact ⟨by first | rfl | (simp [errW_none, errW_some] <;> rfl) | (simp [*, errW_none, errW_some] <;> rfl), by repeat (first | (with_reducible first | exact HB.out | apply qb0 | apply qa0 | apply qc0) | exact HB.out)⟩
   replace c24 := Bool.eq_false_iff.mpr c24
   subst c24
   have H1 : (if (t330.length : Int) = 0 then (some true) else ((laws_sum.f kj7 t330).bind fun t339 => (if t339 = t322 then (laws_FnShared.l0 kj7 t322 t323 t329 t330 0) else (some false)))) = some r := by rw [if_neg (show ¬ (false = true) by decide)] at H; exact H
   clear H
   have H := H1
   clear H1
   by_cases c25 : (t330.length : Int) = 0
   ·rw [if_pos c25] at H
    have c25b0 : ((t330.length : Int) == 0) = true := beq_iff_eq.mpr c25
    have c25b1 : ((t330.length : Int) != 0) = false := bne_eq_false_iff_eq.mpr c25
    clear c25
    obtain rfl := Option.some.inj H
    obtain ⟨Ao26, co26, eo26⟩ := Kd.qz0 HO_7.out
    subst eo26
    go_wp2
    repeat (go_quiet (fail); try go_wp2)
    go_ret
    exact ⟨by first | rfl | (simp [errW_none, errW_some] <;> rfl) | (simp [*, errW_none, errW_some] <;> rfl), by repeat (first | (with_reducible first | exact HB.out | apply qb0 | apply qa0 | apply qc0) | exact HB.out)⟩
   rw [if_neg c25] at H
   have c25b0 : ((t330.length : Int) == 0) = false := beq_eq_false_iff_ne.mpr c25
   have c25b1 : ((t330.length : Int) != 0) = true := bne_iff_ne.mpr c25
   have c25b2 : ¬ (t330 = []) := fun h_ => c25 (by rw [h_]; rfl)
   replace H := Option.bind_eq_some_iff.mp H
   obtain ⟨t339, A270, H⟩ := H
   replace H : (if t339 = t322 then (laws_FnShared.l0 kj7 t322 t323 t329 t330 0) else (some false)) = some r := H
   have A27 := Aside0.mk A270
   clear A270
   by_cases c28 : t339 = t322
   ·rw [if_pos c28] at H
    have c28b0 : (t339 == t322) = true := beq_iff_eq.mpr c28
    have c28b1 : (t339 != t322) = false := bne_eq_false_iff_eq.mpr c28
    clear c28
    have H' := Aside0.mk H
    clear H
    obtain ⟨Ao29, co29, eo29⟩ := Kd.qz0 HO_7.out
    subst eo29
    go_wp2_with (first | (go_at_call 19; (with_reducible refine (laws_sum.calls kj7 _ _ t330 t339 _ ?side1 ?side2 A27.out).mono ?_); (case side1 => repeat (first | exact (Kd.qi0 HO_7.out).2.2 | (with_reducible refine Kd.qu0 ?_ _) | (with_reducible refine Kd.qt0 ?_ _) | (with_reducible refine Kd.qa1 ?_))); (case side2 => exact (Kd.qi0 HO_7.out).2.1); rintro e w' ⟨rfl, ⟨nd, rfl⟩⟩; (try first | exact ⟨rfl, _, World.drewN_drewN _ _ _⟩ | exact ⟨rfl, _, Eq.trans (World.drewN_drewN _ _ _) (congrArg (World.drewN _) (Nat.add_assoc _ _ _))⟩)))
    repeat (go_quiet (first | (go_at_call 19; (with_reducible refine (laws_sum.calls kj7 _ _ t330 t339 _ ?side1 ?side2 A27.out).mono ?_); (case side1 => repeat (first | exact (Kd.qi0 HO_7.out).2.2 | (with_reducible refine Kd.qu0 ?_ _) | (with_reducible refine Kd.qt0 ?_ _) | (with_reducible refine Kd.qa1 ?_))); (case side2 => exact (Kd.qi0 HO_7.out).2.1); rintro e w' ⟨rfl, ⟨nd, rfl⟩⟩; (try first | exact ⟨rfl, _, World.drewN_drewN _ _ _⟩ | exact ⟨rfl, _, Eq.trans (World.drewN_drewN _ _ _) (congrArg (World.drewN _) (Nat.add_assoc _ _ _))⟩))); try go_wp2_with (first | (go_at_call 19; (with_reducible refine (laws_sum.calls kj7 _ _ t330 t339 _ ?side1 ?side2 A27.out).mono ?_); (case side1 => repeat (first | exact (Kd.qi0 HO_7.out).2.2 | (with_reducible refine Kd.qu0 ?_ _) | (with_reducible refine Kd.qt0 ?_ _) | (with_reducible refine Kd.qa1 ?_))); (case side2 => exact (Kd.qi0 HO_7.out).2.1); rintro e w' ⟨rfl, ⟨nd, rfl⟩⟩; (try first | exact ⟨rfl, _, World.drewN_drewN _ _ _⟩ | exact ⟨rfl, _, Eq.trans (World.drewN_drewN _ _ _) (congrArg (World.drewN _) (Nat.add_assoc _ _ _))⟩))))
    go_loopg [8] kj7 (fun kq v8 w' => ∃ (x8_2 : Int), v8 = .int .i64 x8_2 ∧ Aside0 (laws_FnShared.l0 kq t322 t323 t329 t330 x8_2 = some r) ∧ Aside0 (kq ≤ kj7) ∧ Aside0 (Kd.R (Kd.int .i64) 3 w' w.heap.size (fun k_ => some k_ ≠ ((.slice Ao29 t330.length co29) : Value).ownBlock) (.slice Ao10 t323.length co10) t323) ∧ Aside0 (Kd.R (Kd.int .i64) 3 w' w.heap.size (fun k_ => some k_ ≠ ((.slice Ao10 t323.length co10) : Value).ownBlock) (.slice Ao29 t330.length co29) t330) ∧ Aside0 (Below w.heap.size w w'))
    case atStart => exact ⟨(0), (by first | rfl | (simp; done) | (simp [*]; done)), H', ⟨Nat.le_refl _⟩, ⟨by (with_reducible repeat (first | apply Kd.qe0 | apply Kd.qd0 | apply Kd.qf0)); exact HO_4.out⟩, ⟨by (with_reducible repeat (first | apply Kd.qe0 | apply Kd.qd0 | apply Kd.qf0)); exact HO_7.out⟩, ⟨by repeat (first | (with_reducible first | exact HB.out | apply qb0 | apply qa0 | apply qc0) | exact HB.out)⟩⟩
    case round =>
     clear H'
     try clear c1
     try clear c2
     try clear p2
     try clear c3
     try clear c5
     try clear c13
     try clear c13b0
     try clear c13b1
     try clear c13b2
     try clear c24
     try clear c25
     try clear c25b0
     try clear c25b1
     try clear c25b2
     try clear c28
     try clear c28b0
     try clear c28b1
     try clear p2
     obtain ⟨x8_2, rfl, HA, HK2, HO_4, HO_7, HB⟩ := hrel
     cases gk with
     | zero => exact absurd HA.out (by simp [laws_FnShared.l0])
     | succ k2 =>
      have H := HA.out
      clear HA
      simp only [laws_FnShared.l0] at H
      by_cases c30 : x8_2 < (t330.length : Int)
      ·rw [if_pos c30] at H
       have c30b0 : decide (x8_2 < (t330.length : Int)) = true := decide_eq_true c30
       clear c30
       by_cases c31 : 0 ≤ x8_2
       case neg => rw [if_neg c31] at H; exact absurd H (by simp)
       rw [if_pos c31] at H
       have c31b0 : decide (0 ≤ x8_2) = true := decide_eq_true c31
       clear c31
       by_cases c32 : x8_2 < (t323.length : Int)
       case neg => rw [if_neg c32] at H; exact absurd H (by simp)
       rw [if_pos c32] at H
       have c32b0 : decide (x8_2 < (t323.length : Int)) = true := decide_eq_true c32
       clear c32
       replace H := Option.bind_eq_some_iff.mp H
       obtain ⟨t342, A330, H⟩ := H
       replace H : (if t342 ≥ t329 then (some false) else (laws_FnShared.l1 k2 t322 t323 t329 t330 x8_2 0)) = some r := H
       have A33 := Aside0.mk A330
       clear A330
       by_cases c34 : t342 ≥ t329
       ·rw [if_pos c34] at H
        have c34b0 : decide (t329 ≤ t342) = true := decide_eq_true c34
        clear c34
        obtain rfl := Option.some.inj H
        have p340 : 0 ≤ (x8_2 : Int) := of_decide_eq_true (by first | (with_reducible assumption) | assumption)
        have q340 : x8_2 < (t330.length : Int) := of_decide_eq_true (by first | (with_reducible assumption) | assumption)
        obtain ⟨ad340, e340, hx340_0⟩ := Kd.qf1 (Kd.qi0 HO_7.out).2.2 x8_2 p340 q340
        cases e340
        replace p340 := eq_true p340
        replace q340 := eq_true q340
        have p341 : 0 ≤ (x8_2 : Int) := of_decide_eq_true (by first | (with_reducible assumption) | assumption)
        have q341 : x8_2 < (t323.length : Int) := of_decide_eq_true (by first | (with_reducible assumption) | assumption)
        obtain ⟨ad341, e341, hx341_0⟩ := Kd.qf1 (Kd.qi0 HO_4.out).2.2 x8_2 p341 q341
        cases e341
        replace p341 := eq_true p341
        replace q341 := eq_true q341
        go_wp2_with (first | (go_at_call 32; (with_reducible refine (laws_abs.calls (wrap64 ((wrap64 ((rd t330 x8_2) * t329)) - (wrap64 (t322 * (rd t323 x8_2))))) t342 _ A33.out).mono ?_); rintro e w' ⟨rfl, ⟨nd, rfl⟩⟩; (try first | exact ⟨rfl, _, World.drewN_drewN _ _ _⟩ | exact ⟨rfl, _, Eq.trans (World.drewN_drewN _ _ _) (congrArg (World.drewN _) (Nat.add_assoc _ _ _))⟩)))
        repeat (go_quiet (first | (go_at_call 32; (with_reducible refine (laws_abs.calls (wrap64 ((wrap64 ((rd t330 x8_2) * t329)) - (wrap64 (t322 * (rd t323 x8_2))))) t342 _ A33.out).mono ?_); rintro e w' ⟨rfl, ⟨nd, rfl⟩⟩; (try first | exact ⟨rfl, _, World.drewN_drewN _ _ _⟩ | exact ⟨rfl, _, Eq.trans (World.drewN_drewN _ _ _) (congrArg (World.drewN _) (Nat.add_assoc _ _ _))⟩))); try go_wp2_with (first | (go_at_call 32; (with_reducible refine (laws_abs.calls (wrap64 ((wrap64 ((rd t330 x8_2) * t329)) - (wrap64 (t322 * (rd t323 x8_2))))) t342 _ A33.out).mono ?_); rintro e w' ⟨rfl, ⟨nd, rfl⟩⟩; (try first | exact ⟨rfl, _, World.drewN_drewN _ _ _⟩ | exact ⟨rfl, _, Eq.trans (World.drewN_drewN _ _ _) (congrArg (World.drewN _) (Nat.add_assoc _ _ _))⟩))))
        go_ret
        exact ⟨by first | rfl | (simp [errW_none, errW_some] <;> rfl) | (simp [*, errW_none, errW_some] <;> rfl), by repeat (first | (with_reducible first | exact HB.out | apply qb0 | apply qa0 | apply qc0) | exact HB.out)⟩
       rw [if_neg c34] at H
       have c34b0 : decide (t329 ≤ t342) = false := decide_eq_false c34
       clear c34
       have H' := Aside0.mk H
       clear H
       have p340 : 0 ≤ (x8_2 : Int) := of_decide_eq_true (by first | (with_reducible assumption) | assumption)
       have q340 : x8_2 < (t330.length : Int) := of_decide_eq_true (by first | (with_reducible assumption) | assumption)
       obtain ⟨ad340, e340, hx340_0⟩ := Kd.qf1 (Kd.qi0 HO_7.out).2.2 x8_2 p340 q340
       cases e340
       replace p340 := eq_true p340
       replace q340 := eq_true q340
       have p341 : 0 ≤ (x8_2 : Int) := of_decide_eq_true (by first | (with_reducible assumption) | assumption)
       have q341 : x8_2 < (t323.length : Int) := of_decide_eq_true (by first | (with_reducible assumption) | assumption)
       obtain ⟨ad341, e341, hx341_0⟩ := Kd.qf1 (Kd.qi0 HO_4.out).2.2 x8_2 p341 q341
       cases e341
       replace p341 := eq_true p341
       replace q341 := eq_true q341
       go_wp2_with (first | (go_at_call 32; (with_reducible refine (laws_abs.calls (wrap64 ((wrap64 ((rd t330 x8_2) * t329)) - (wrap64 (t322 * (rd t323 x8_2))))) t342 _ A33.out).mono ?_); rintro e w' ⟨rfl, ⟨nd, rfl⟩⟩; (try first | exact ⟨rfl, _, World.drewN_drewN _ _ _⟩ | exact ⟨rfl, _, Eq.trans (World.drewN_drewN _ _ _) (congrArg (World.drewN _) (Nat.add_assoc _ _ _))⟩)))
       repeat (go_quiet (first | (go_at_call 32; (with_reducible refine (laws_abs.calls (wrap64 ((wrap64 ((rd t330 x8_2) * t329)) - (wrap64 (t322 * (rd t323 x8_2))))) t342 _ A33.out).mono ?_); rintro e w' ⟨rfl, ⟨nd, rfl⟩⟩; (try first | exact ⟨rfl, _, World.drewN_drewN _ _ _⟩ | exact ⟨rfl, _, Eq.trans (World.drewN_drewN _ _ _) (congrArg (World.drewN _) (Nat.add_assoc _ _ _))⟩))); try go_wp2_with (first | (go_at_call 32; (with_reducible refine (laws_abs.calls (wrap64 ((wrap64 ((rd t330 x8_2) * t329)) - (wrap64 (t322 * (rd t323 x8_2))))) t342 _ A33.out).mono ?_); rintro e w' ⟨rfl, ⟨nd, rfl⟩⟩; (try first | exact ⟨rfl, _, World.drewN_drewN _ _ _⟩ | exact ⟨rfl, _, Eq.trans (World.drewN_drewN _ _ _) (congrArg (World.drewN _) (Nat.add_assoc _ _ _))⟩))))
       go_loopg [9] k2 (fun kq v9 w' => ∃ (x9_3 : Int), v9 = .int .i64 x9_3 ∧ Aside0 (laws_FnShared.l1 kq t322 t323 t329 t330 x8_2 x9_3 = some r) ∧ Aside0 (kq ≤ k2) ∧ Aside0 (Kd.R (Kd.int .i64) 3 w' w.heap.size (fun k_ => some k_ ≠ ((.slice (some ad340) t330.length co29) : Value).ownBlock) (.slice (some ad341) t323.length co10) t323) ∧ Aside0 (Kd.R (Kd.int .i64) 3 w' w.heap.size (fun k_ => some k_ ≠ ((.slice (some ad341) t323.length co10) : Value).ownBlock) (.slice (some ad340) t330.length co29) t330) ∧ Aside0 (Below w.heap.size w w'))
       case atStart => exact ⟨(0), (by first | rfl | (simp; done) | (simp [*]; done)), H', ⟨Nat.le_refl _⟩, ⟨by (with_reducible repeat (first | apply Kd.qe0 | apply Kd.qd0 | apply Kd.qf0)); exact HO_4.out⟩, ⟨by (with_reducible repeat (first | apply Kd.qe0 | apply Kd.qd0 | apply Kd.qf0)); exact HO_7.out⟩, ⟨by repeat (first | (with_reducible first | exact HB.out | apply qb0 | apply qa0 | apply qc0) | exact HB.out)⟩⟩
       case round =>
        clear H'
        try clear c1
        try clear c2
        try clear p2
        try clear c3
        try clear p3
        try clear q3
        try clear hx3
        try clear c5
        try clear p6
        try clear c13
        try clear c13b0
        try clear c13b1
        try clear c13b2
        try clear c24
        try clear c25
        try clear c25b0
        try clear c25b1
        try clear c25b2
        try clear c28
        try clear c28b0
        try clear c28b1
        try clear c30
        try clear c30b0
        try clear c31
        try clear c31b0
        try clear c32
        try clear c32b0
        try clear c34
        try clear c34b0
        try clear p34
        try clear q34
        try clear hx34
        try clear hx340_0
        try clear hx341_0
        try clear p2
        try clear p340
        try clear p341
        try clear q340
        try clear q341
        obtain ⟨x9_3, rfl, HA, HK3, HO_4, HO_7, HB⟩ := hrel
        cases gk with
        | zero => exact absurd HA.out (by simp [laws_FnShared.l1])
        | succ k3 =>
         have H := HA.out
         clear HA
         simp only [laws_FnShared.l1] at H
         by_cases c35 : x9_3 < x8_2
         ·rw [if_pos c35] at H
          have c35b0 : decide (x9_3 < x8_2) = true := decide_eq_true c35
          clear c35
          by_cases c36 : t322 > 0
          ·rw [if_pos c36] at H
           have c36b0 : decide (0 < t322) = true := decide_eq_true c36
           clear c36
           by_cases c37 : 0 ≤ x8_2
           case neg => rw [if_neg c37] at H; exact absurd H (by simp)
           rw [if_pos c37] at H
           have c37b0 : decide (0 ≤ x8_2) = true := decide_eq_true c37
           clear c37
           by_cases c38 : x8_2 < (t323.length : Int)
           case neg => rw [if_neg c38] at H; exact absurd H (by simp)
           rw [if_pos c38] at H
           have c38b0 : decide (x8_2 < (t323.length : Int)) = true := decide_eq_true c38
           clear c38
           by_cases c39 : 0 ≤ x9_3
           case neg => rw [if_neg c39] at H; exact absurd H (by simp)
           rw [if_pos c39] at H
           have c39b0 : decide (0 ≤ x9_3) = true := decide_eq_true c39
           clear c39
           by_cases c40 : x9_3 < (t323.length : Int)
           case neg => rw [if_neg c40] at H; exact absurd H (by simp)
           rw [if_pos c40] at H
           have c40b0 : decide (x9_3 < (t323.length : Int)) = true := decide_eq_true c40
           clear c40
           by_cases c41 : (rd t323 x8_2) > (rd t323 x9_3)
           ·rw [if_pos c41] at H
            have c41b0 : decide ((rd t323 x9_3) < (rd t323 x8_2)) = true := decide_eq_true c41
            clear c41
            by_cases c42 : x8_2 < (t330.length : Int)
            case neg => rw [if_neg c42] at H; exact absurd H (by simp)
            rw [if_pos c42] at H
            have c42b0 : decide (x8_2 < (t330.length : Int)) = true := decide_eq_true c42
            clear c42
            by_cases c43 : x9_3 < (t330.length : Int)
            case neg => rw [if_neg c43] at H; exact absurd H (by simp)
            rw [if_pos c43] at H
            have c43b0 : decide (x9_3 < (t330.length : Int)) = true := decide_eq_true c43
            clear c43
            by_cases c44 : (rd t330 x8_2) < (rd t330 x9_3)
            ·rw [if_pos c44] at H
             have c44b0 : decide ((rd t330 x8_2) < (rd t330 x9_3)) = true := decide_eq_true c44
             clear c44
             obtain rfl := Option.some.inj H
             have p343 : 0 ≤ (x8_2 : Int) := of_decide_eq_true (by first | (with_reducible assumption) | assumption)
             have q343 : x8_2 < (t323.length : Int) := of_decide_eq_true (by first | (with_reducible assumption) | assumption)
             obtain ⟨ad343, e343, hx343_0⟩ := Kd.qf1 (Kd.qi0 HO_4.out).2.2 x8_2 p343 q343
             obtain rfl : ad341 = ad343 := (by injection e343)
             replace p343 := eq_true p343
             replace q343 := eq_true q343
             have p344 : 0 ≤ (x9_3 : Int) := of_decide_eq_true (by first | (with_reducible assumption) | assumption)
             have q344 : x9_3 < (t323.length : Int) := of_decide_eq_true (by first | (with_reducible assumption) | assumption)
             obtain ⟨ad344, e344, hx344_0⟩ := Kd.qf1 (Kd.qi0 HO_4.out).2.2 x9_3 p344 q344
             obtain rfl : ad341 = ad344 := (by injection e344)
             replace p344 := eq_true p344
             replace q344 := eq_true q344
             have p345 : 0 ≤ (x8_2 : Int) := of_decide_eq_true (by first | (with_reducible assumption) | assumption)
             have q345 : x8_2 < (t330.length : Int) := of_decide_eq_true (by first | (with_reducible assumption) | assumption)
             obtain ⟨ad345, e345, hx345_0⟩ := Kd.qf1 (Kd.qi0 HO_7.out).2.2 x8_2 p345 q345
             obtain rfl : ad340 = ad345 := (by injection e345)
             replace p345 := eq_true p345
             replace q345 := eq_true q345
             have p346 : 0 ≤ (x9_3 : Int) := of_decide_eq_true (by first | (with_reducible assumption) | assumption)
             have q346 : x9_3 < (t330.length : Int) := of_decide_eq_true (by first | (with_reducible assumption) | assumption)
             obtain ⟨ad346, e346, hx346_0⟩ := Kd.qf1 (Kd.qi0 HO_7.out).2.2 x9_3 p346 q346
             obtain rfl : ad340 = ad346 := (by injection e346)
             replace p346 := eq_true p346
             replace q346 := eq_true q346
             go_wp2
             repeat (go_quiet (fail); try go_wp2)
             go_ret
             exact ⟨by first | rfl | (simp [errW_none, errW_some] <;> rfl) | (simp [*, errW_none, errW_some] <;> rfl), by repeat (first | (with_reducible first | exact HB.out | apply qb0 | apply qa0 | apply qc0) | exact HB.out)⟩
            rw [if_neg c44] at H
            have c44b0 : decide ((rd t330 x8_2) < (rd t330 x9_3)) = false := decide_eq_false c44
            clear c44
            have H' := Aside0.mk H
            clear H
            have p343 : 0 ≤ (x8_2 : Int) := of_decide_eq_true (by first | (with_reducible assumption) | assumption)
            have q343 : x8_2 < (t323.length : Int) := of_decide_eq_true (by first | (with_reducible assumption) | assumption)
            obtain ⟨ad343, e343, hx343_0⟩ := Kd.qf1 (Kd.qi0 HO_4.out).2.2 x8_2 p343 q343
            obtain rfl : ad341 = ad343 := (by injection e343)
            replace p343 := eq_true p343
            replace q343 := eq_true q343
            have p344 : 0 ≤ (x9_3 : Int) := of_decide_eq_true (by first | (with_reducible assumption) | assumption)
            have q344 : x9_3 < (t323.length : Int) := of_decide_eq_true (by first | (with_reducible assumption) | assumption)
            obtain ⟨ad344, e344, hx344_0⟩ := Kd.qf1 (Kd.qi0 HO_4.out).2.2 x9_3 p344 q344
            obtain rfl : ad341 = ad344 := (by injection e344)
            replace p344 := eq_true p344
            replace q344 := eq_true q344
            have p345 : 0 ≤ (x8_2 : Int) := of_decide_eq_true (by first | (with_reducible assumption) | assumption)
            have q345 : x8_2 < (t330.length : Int) := of_decide_eq_true (by first | (with_reducible assumption) | assumption)
            obtain ⟨ad345, e345, hx345_0⟩ := Kd.qf1 (Kd.qi0 HO_7.out).2.2 x8_2 p345 q345
            obtain rfl : ad340 = ad345 := (by injection e345)
            replace p345 := eq_true p345
            replace q345 := eq_true q345
            have p346 : 0 ≤ (x9_3 : Int) := of_decide_eq_true (by first | (with_reducible assumption) | assumption)
            have q346 : x9_3 < (t330.length : Int) := of_decide_eq_true (by first | (with_reducible assumption) | assumption)
            obtain ⟨ad346, e346, hx346_0⟩ := Kd.qf1 (Kd.qi0 HO_7.out).2.2 x9_3 p346 q346
            obtain rfl : ad340 = ad346 := (by injection e346)
            replace p346 := eq_true p346
            replace q346 := eq_true q346
            go_wp2
            repeat (go_quiet (fail); try go_wp2)
            go_roundg k3
            case measure => have := HJ7.out; have := HK2.out; have := HK3.out; omega
            case rel => exact ⟨(wrap64 (x9_3 + 1)), (by first | rfl | (simp; done) | (simp [*]; done)), H', ⟨by have := HJ7.out; have := HK2.out; have := HK3.out; omega⟩, ⟨by (with_reducible repeat (first | apply Kd.qe0 | apply Kd.qd0 | apply Kd.qf0)); exact HO_4.out⟩, ⟨by (with_reducible repeat (first | apply Kd.qe0 | apply Kd.qd0 | apply Kd.qf0)); exact HO_7.out⟩, ⟨by repeat (first | (with_reducible first | exact HB.out | apply qb0 | apply qa0 | apply qc0) | exact HB.out)⟩⟩
           rw [if_neg c41] at H
           have c41b0 : decide ((rd t323 x9_3) < (rd t323 x8_2)) = false := decide_eq_false c41
           clear c41
           have H' := Aside0.mk H
           clear H
           have p343 : 0 ≤ (x8_2 : Int) := of_decide_eq_true (by first | (with_reducible assumption) | assumption)
           have q343 : x8_2 < (t323.length : Int) := of_decide_eq_true (by first | (with_reducible assumption) | assumption)
           obtain ⟨ad343, e343, hx343_0⟩ := Kd.qf1 (Kd.qi0 HO_4.out).2.2 x8_2 p343 q343
           obtain rfl : ad341 = ad343 := (by injection e343)
           replace p343 := eq_true p343
           replace q343 := eq_true q343
           have p344 : 0 ≤ (x9_3 : Int) := of_decide_eq_true (by first | (with_reducible assumption) | assumption)
           have q344 : x9_3 < (t323.length : Int) := of_decide_eq_true (by first | (with_reducible assumption) | assumption)
           obtain ⟨ad344, e344, hx344_0⟩ := Kd.qf1 (Kd.qi0 HO_4.out).2.2 x9_3 p344 q344
           obtain rfl : ad341 = ad344 := (by injection e344)
           replace p344 := eq_true p344
           replace q344 := eq_true q344
           go_wp2
           repeat (go_quiet (fail); try go_wp2)
           go_roundg k3
           case measure => have := HJ7.out; have := HK2.out; have := HK3.out; omega
           case rel => exact ⟨(wrap64 (x9_3 + 1)), (by first | rfl | (simp; done) | (simp [*]; done)), H', ⟨by have := HJ7.out; have := HK2.out; have := HK3.out; omega⟩, ⟨by (with_reducible repeat (first | apply Kd.qe0 | apply Kd.qd0 | apply Kd.qf0)); exact HO_4.out⟩, ⟨by (with_reducible repeat (first | apply Kd.qe0 | apply Kd.qd0 | apply Kd.qf0)); exact HO_7.out⟩, ⟨by repeat (first | (with_reducible first | exact HB.out | apply qb0 | apply qa0 | apply qc0) | exact HB.out)⟩⟩
          rw [if_neg c36] at H
          have c36b0 : decide (0 < t322) = false := decide_eq_false c36
          clear c36
          have H' := Aside0.mk H
          clear H
          go_wp2
          repeat (go_quiet (fail); try go_wp2)
          go_roundg k3
          case measure => have := HJ7.out; have := HK2.out; have := HK3.out; omega
          case rel => exact ⟨(wrap64 (x9_3 + 1)), (by first | rfl | (simp; done) | (simp [*]; done)), H', ⟨by have := HJ7.out; have := HK2.out; have := HK3.out; omega⟩, ⟨by (with_reducible repeat (first | apply Kd.qe0 | apply Kd.qd0 | apply Kd.qf0)); exact HO_4.out⟩, ⟨by (with_reducible repeat (first | apply Kd.qe0 | apply Kd.qd0 | apply Kd.qf0)); exact HO_7.out⟩, ⟨by repeat (first | (with_reducible first | exact HB.out | apply qb0 | apply qa0 | apply qc0) | exact HB.out)⟩⟩
         rw [if_neg c35] at H
         have c35b0 : decide (x9_3 < x8_2) = false := decide_eq_false c35
         clear c35
         have H' := Aside0.mk H
         clear H
         go_wp2
         repeat (go_quiet (fail); try go_wp2)
         go_roundg k3
         case measure => have := HJ7.out; have := HK2.out; have := HK3.out; omega
         case rel => exact ⟨(wrap64 (x8_2 + 1)), (by first | rfl | (simp; done) | (simp [*]; done)), H', ⟨by have := HJ7.out; have := HK2.out; have := HK3.out; omega⟩, ⟨by (with_reducible repeat (first | apply Kd.qe0 | apply Kd.qd0 | apply Kd.qf0)); exact HO_4.out⟩, ⟨by (with_reducible repeat (first | apply Kd.qe0 | apply Kd.qd0 | apply Kd.qf0)); exact HO_7.out⟩, ⟨by repeat (first | (with_reducible first | exact HB.out | apply qb0 | apply qa0 | apply qc0) | exact HB.out)⟩⟩
      rw [if_neg c30] at H
      have c30b0 : decide (x8_2 < (t330.length : Int)) = false := decide_eq_false c30
      clear c30
      obtain rfl := Option.some.inj H
      go_wp2
      repeat (go_quiet (fail); try go_wp2)
      go_ret
      exact ⟨by first | rfl | (simp [errW_none, errW_some] <;> rfl) | (simp [*, errW_none, errW_some] <;> rfl), by repeat (first | (with_reducible first | exact HB.out | apply qb0 | apply qa0 | apply qc0) | exact HB.out)⟩
   rw [if_neg c28] at H
   have c28b0 : (t339 == t322) = false := beq_eq_false_iff_ne.mpr c28
   have c28b1 : (t339 != t322) = true := bne_iff_ne.mpr c28
   obtain rfl := Option.some.inj H
   obtain ⟨Ao45, co45, eo45⟩ := Kd.qz0 HO_7.out
   subst eo45
   go_wp2_with (first | (go_at_call 19; (with_reducible refine (laws_sum.calls kj7 _ _ t330 t339 _ ?side1 ?side2 A27.out).mono ?_); (case side1 => repeat (first | exact (Kd.qi0 HO_7.out).2.2 | (with_reducible refine Kd.qu0 ?_ _) | (with_reducible refine Kd.qt0 ?_ _) | (with_reducible refine Kd.qa1 ?_))); (case side2 => exact (Kd.qi0 HO_7.out).2.1); rintro e w' ⟨rfl, ⟨nd, rfl⟩⟩; (try first | exact ⟨rfl, _, World.drewN_drewN _ _ _⟩ | exact ⟨rfl, _, Eq.trans (World.drewN_drewN _ _ _) (congrArg (World.drewN _) (Nat.add_assoc _ _ _))⟩)))
   repeat (go_quiet (first | (go_at_call 19; (with_reducible refine (laws_sum.calls kj7 _ _ t330 t339 _ ?side1 ?side2 A27.out).mono ?_); (case side1 => repeat (first | exact (Kd.qi0 HO_7.out).2.2 | (with_reducible refine Kd.qu0 ?_ _) | (with_reducible refine Kd.qt0 ?_ _) | (with_reducible refine Kd.qa1 ?_))); (case side2 => exact (Kd.qi0 HO_7.out).2.1); rintro e w' ⟨rfl, ⟨nd, rfl⟩⟩; (try first | exact ⟨rfl, _, World.drewN_drewN _ _ _⟩ | exact ⟨rfl, _, Eq.trans (World.drewN_drewN _ _ _) (congrArg (World.drewN _) (Nat.add_assoc _ _ _))⟩))); try go_wp2_with (first | (go_at_call 19; (with_reducible refine (laws_sum.calls kj7 _ _ t330 t339 _ ?side1 ?side2 A27.out).mono ?_); (case side1 => repeat (first | exact (Kd.qi0 HO_7.out).2.2 | (with_reducible refine Kd.qu0 ?_ _) | (with_reducible refine Kd.qt0 ?_ _) | (with_reducible refine Kd.qa1 ?_))); (case side2 => exact (Kd.qi0 HO_7.out).2.1); rintro e w' ⟨rfl, ⟨nd, rfl⟩⟩; (try first | exact ⟨rfl, _, World.drewN_drewN _ _ _⟩ | exact ⟨rfl, _, Eq.trans (World.drewN_drewN _ _ _) (congrArg (World.drewN _) (Nat.add_assoc _ _ _))⟩))))
   go_ret
   exact ⟨by first | rfl | (simp [errW_none, errW_some] <;> rfl) | (simp [*, errW_none, errW_some] <;> rfl), by repeat (first | (with_reducible first | exact HB.out | apply qb0 | apply qa0 | apply qc0) | exact HB.out)⟩

/-- THE ONE PURE STATEMENT of laws_FnShared: yours. -/
def laws_FnShared.Pure : Prop := ∀ (l0 : List Int), l0.length ≤ maxLen → l0.length * 1 ≤ 140737488351232 → (∀ x ∈ l0, (Lit.int .u8 x).wf = true) → ∃ k, laws_FnShared.f k l0 = some true
theorem laws_FnShared.walk (P : laws_FnShared.Pure) (a0 : Option Addr) (len0 cap0 : Nat) (z0 : List Int) (w : World) (w0 : (a0 = none ∧ len0 = 0 ∧ cap0 = 0 ∧ z0 = []) ∨ ∃ x, a0 = some x ∧ len0 ≤ cap0 ∧ cap0 ≤ maxLen ∧ z0.length = cap0 ∧ (∀ i, i < z0.length → w.cell? (x.add i) = some (.int .u8 (z0.getD i 0))) ∧ ∀ n ∈ z0, (Lit.int .u8 n).wf = true) (y0 : len0 * 1 ≤ 140737488351232) :
  Calls Try.prog 5 #[.slice a0 len0 cap0] w fun e w' => e = .returned (.bool true) ∧ Below w.heap.size w w' := by
 obtain ⟨l0, rfl, hr0, hm0, hw0, hc0⟩ := qx0.ofRowC w0
 obtain ⟨k, h⟩ := P l0 hm0 y0 hw0
 refine (laws_FnShared.calls k _ _ l0 true w (Kd.C_of_reads (d := (0 : Int)) (h1 := fun _ => rfl) hr0) hc0 h).mono ?_
 rintro e w' ⟨rfl, hd⟩
 exact ⟨rfl, hd⟩

end Go.Proofs.Ytlodndejipjceaa.PFnShared
