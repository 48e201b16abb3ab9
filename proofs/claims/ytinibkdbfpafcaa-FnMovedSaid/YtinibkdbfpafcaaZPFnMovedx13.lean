/- Lines by a program (a changed copy of the kit's print: this repo's wip/tools): Go functions as Lean functions, and proofs that the calls answer so. -/
import Derived.Test.YtinibkdbfpafcaaZPFnMovedx0
import Derived.Test.YtinibkdbfpafcaaZPFnMovedx1
import Derived.Test.YtinibkdbfpafcaaZPFnMovedx3
import Derived.Test.YtinibkdbfpafcaaZPFnMovedx4
import Derived.Test.YtinibkdbfpafcaaZPFnMovedx6
import Derived.Test.YtinibkdbfpafcaaZPFnMovedx8
import Derived.Test.YtinibkdbfpafcaaZPFnMovedx11
import Derived.Test.YtinibkdbfpafcaaZPFnMovedx12
namespace Go.Proofs.Ytinibkdbfpafcaa.PFnMoved
open Go.RowKit Go.Proofs.YtinibkdbfpafcaaW.PrintWords Go.Proofs.YtinibkdbfpafcaaW.PrintLast Go.Proofs.YtinibkdbfpafcaaW.PrintMore
attribute [local go_sem] max2_int min2_int max_two min_two max_three min_three max_four min_four   -- for this text's walks alone
set_option linter.unusedVariables false
set_option linter.unusedSimpArgs false

attribute [local go_sem high] eqA117
/-! ### laws_FnMoved: function 13 -/
mutual
def laws_FnMoved.j0 : Nat → List Int → Bool → Option (Bool)
 | 0, _, _ => none
 | k + 1, x0, x63 => if x63 = true then (some false) else ((spec_DrawMove.f k x0).bind fun bt445 => ((spec_Move.f k bt445.1 bt445.2.1 bt445.2.2.1 bt445.2.2.2).bind fun bt451 => ((impl_Move.f k bt445.1 bt445.2.1 bt445.2.2.1 bt445.2.2.2).bind fun bt455 => (if bt455.2 = bt451.2 then (if bt451.2 = 1 then (some ((bt455.1.length : Int) == 0)) else ((impl_StockOk.f k bt455.1).bind fun t459 => (if t459 = true then (laws_FnMoved.l0 k bt445.1 bt445.2.1 bt445.2.2.1 bt445.2.2.2 bt451.2 bt455.1 0) else (some false)))) else (some false)))))
def laws_FnMoved.l0 : Nat → List (S117) → Int → ByteArray → Int → Int → List (S117) → Int → Option (Bool)
 | 0, _, _, _, _, _, _, _ => none
 | k + 1, x5, x6, x7, x8, x10, x11, x13 => if x13 < (x5.length : Int) then (if 0 ≤ x13 then ((laws_cellSum.f k x5 ((rd_T117 x5 x13).f0)).bind fun bt461 => ((laws_cellSum.f k x11 ((rd_T117 x5 x13).f0)).bind fun bt464 => (if bt461.1 = bt464.1 then (if bt461.2 = bt464.2 then (if x10 = 0 then (laws_FnMoved.l0 k x5 x6 x7 x8 x10 x11 (wrap64 (x13 + 1))) else (if x13 < (x11.length : Int) then (if (!((((rd_T117 x11 x13).f0).toList) == (((rd_T117 x5 x13).f0).toList)) || (!((((rd_T117 x11 x13).f1).toList) == (((rd_T117 x5 x13).f1).toList)) || (!((((rd_T117 x11 x13).f2).toList) == (((rd_T117 x5 x13).f2).toList)) || (!(((rd_T117 x11 x13).f3) == ((rd_T117 x5 x13).f3)) || (!(((rd_T117 x11 x13).f4) == ((rd_T117 x5 x13).f4)) || (!(((rd_T117 x11 x13).f5) == ((rd_T117 x5 x13).f5)))))))) = true then (some false) else (laws_FnMoved.l0 k x5 x6 x7 x8 x10 x11 (wrap64 (x13 + 1)))) else (none))) else (some false)) else (some false)))) else (none)) else (if x10 = 0 then (laws_FnMoved.l1 k x5 x6 x7 x8 x11 0) else (some ((x11.length : Int) == (x5.length : Int))))
def laws_FnMoved.l1 : Nat → List (S117) → Int → ByteArray → Int → List (S117) → Int → Option (Bool)
 | 0, _, _, _, _, _, _ => none
 | k + 1, x5, x6, x7, x8, x11, x18 => if x18 < (x11.length : Int) then (if 0 ≤ x18 then (if 0 ≤ x6 then (if x6 < (x5.length : Int) then (if ((rd_T117 x11 x18).f0).toList = ((rd_T117 x5 x6).f0).toList then (if ((rd_T117 x11 x18).f2).toList = ((rd_T117 x5 x6).f2).toList then (if ((rd_T117 x11 x18).f1).toList = x7.toList then ((impl_Move.f k x11 x18 ((rd_T117 x5 x6).f1) x8).bind fun bt474 => (if bt474.2 = 0 then (if x6 < (bt474.1.length : Int) then (if ((((rd_T117 bt474.1 x6).f0).toList) == (((rd_T117 x5 x6).f0).toList) && ((((rd_T117 bt474.1 x6).f1).toList) == (((rd_T117 x5 x6).f1).toList) && ((((rd_T117 bt474.1 x6).f2).toList) == (((rd_T117 x5 x6).f2).toList) && (((rd_T117 bt474.1 x6).f3) == ((rd_T117 x5 x6).f3) && (((rd_T117 bt474.1 x6).f4) == ((rd_T117 x5 x6).f4) && (((rd_T117 bt474.1 x6).f5) == ((rd_T117 x5 x6).f5))))))) = true then (some ((bt474.1.length : Int) == (x11.length : Int))) else (some false)) else (none)) else (some false))) else (laws_FnMoved.l1 k x5 x6 x7 x8 x11 (wrap64 (x18 + 1)))) else (laws_FnMoved.l1 k x5 x6 x7 x8 x11 (wrap64 (x18 + 1)))) else (laws_FnMoved.l1 k x5 x6 x7 x8 x11 (wrap64 (x18 + 1)))) else (none)) else (none)) else (none)) else (some false)
end
def laws_FnMoved.f (k : Nat) (l0 : List Int) : Option (Bool) := (laws_big.f l0).bind fun t433 => (if t433 = true then (some true) else ((impl_Move.f k (([(⟨(⟨#[105]⟩ : ByteArray), (⟨#[112]⟩ : ByteArray), (⟨#[]⟩ : ByteArray), 3, 5, 2⟩ : S117)] : List (S117))) 0 (⟨#[113]⟩ : ByteArray) 3).bind fun bt437 => (if bt437.2 = 0 then (if (bt437.1.length : Int) = 2 then (if 0 < (bt437.1.length : Int) then (if ((rd_T117 bt437.1 0).f4) = 2 then (if 1 < (bt437.1.length : Int) then (if ((rd_T117 bt437.1 1).f4) = 3 then (if ((rd_T117 bt437.1 1).f3) = 3 then (laws_FnMoved.j0 k l0 (((rd_T117 bt437.1 1).f1).toList != ([113] : List UInt8))) else (laws_FnMoved.j0 k l0 true)) else (laws_FnMoved.j0 k l0 true)) else (none)) else (laws_FnMoved.j0 k l0 true)) else (none)) else (laws_FnMoved.j0 k l0 true)) else (laws_FnMoved.j0 k l0 true))))
theorem laws_FnMoved.mono_l : ∀ k, (∀ y0 y1, LeO (laws_FnMoved.j0 k y0 y1) (laws_FnMoved.j0 (k + 1) y0 y1)) ∧ (∀ y0 y1 y2 y3 y4 y5 y6, LeO (laws_FnMoved.l0 k y0 y1 y2 y3 y4 y5 y6) (laws_FnMoved.l0 (k + 1) y0 y1 y2 y3 y4 y5 y6)) ∧ (∀ y0 y1 y2 y3 y4 y5, LeO (laws_FnMoved.l1 k y0 y1 y2 y3 y4 y5) (laws_FnMoved.l1 (k + 1) y0 y1 y2 y3 y4 y5))
 | 0 => ⟨fun _ _ r h => by simp [laws_FnMoved.j0] at h, fun _ _ _ _ _ _ _ r h => by simp [laws_FnMoved.l0] at h, fun _ _ _ _ _ _ r h => by simp [laws_FnMoved.l1] at h⟩
 | k + 1 => by
  obtain ⟨ih0, ih1, ih2⟩ := laws_FnMoved.mono_l k
  refine ⟨?_, ?_, ?_⟩
  ·intro y0 y1
   unfold laws_FnMoved.j0
   repeat' first
   | (with_reducible exact ih0 _ _)
   | (with_reducible exact ih1 _ _ _ _ _ _ _)
   | (with_reducible exact ih2 _ _ _ _ _ _)
   | (with_reducible exact impl_Move.mono _ _ _ _ _)
   | (with_reducible exact impl_StockOk.mono _ _)
   | (with_reducible exact laws_cellSum.mono _ _ _)
   | (with_reducible exact spec_DrawMove.mono _ _)
   | (with_reducible exact spec_Move.mono _ _ _ _ _)
   | (with_reducible exact LeO.refl _)
   | (with_reducible exact LeO.none _)
   | (with_reducible refine LeO.ite ?_ ?_)
   | (with_reducible refine LeO.bind ?_ (fun _ => ?_))
   | exact ih0 _ _
   | exact ih1 _ _ _ _ _ _ _
   | exact ih2 _ _ _ _ _ _
   | exact impl_Move.mono _ _ _ _ _
   | exact impl_StockOk.mono _ _
   | exact laws_cellSum.mono _ _ _
   | exact spec_DrawMove.mono _ _
   | exact spec_Move.mono _ _ _ _ _
   | exact LeO.none _
   | refine LeO.ite ?_ ?_
   | refine LeO.bind ?_ (fun _ => ?_)
  ·intro y0 y1 y2 y3 y4 y5 y6
   unfold laws_FnMoved.l0
   repeat' first
   | (with_reducible exact ih0 _ _)
   | (with_reducible exact ih1 _ _ _ _ _ _ _)
   | (with_reducible exact ih2 _ _ _ _ _ _)
   | (with_reducible exact impl_Move.mono _ _ _ _ _)
   | (with_reducible exact impl_StockOk.mono _ _)
   | (with_reducible exact laws_cellSum.mono _ _ _)
   | (with_reducible exact spec_DrawMove.mono _ _)
   | (with_reducible exact spec_Move.mono _ _ _ _ _)
   | (with_reducible exact LeO.refl _)
   | (with_reducible exact LeO.none _)
   | (with_reducible refine LeO.ite ?_ ?_)
   | (with_reducible refine LeO.bind ?_ (fun _ => ?_))
   | exact ih0 _ _
   | exact ih1 _ _ _ _ _ _ _
   | exact ih2 _ _ _ _ _ _
   | exact impl_Move.mono _ _ _ _ _
   | exact impl_StockOk.mono _ _
   | exact laws_cellSum.mono _ _ _
   | exact spec_DrawMove.mono _ _
   | exact spec_Move.mono _ _ _ _ _
   | exact LeO.none _
   | refine LeO.ite ?_ ?_
   | refine LeO.bind ?_ (fun _ => ?_)
  ·intro y0 y1 y2 y3 y4 y5
   unfold laws_FnMoved.l1
   repeat' first
   | (with_reducible exact ih0 _ _)
   | (with_reducible exact ih1 _ _ _ _ _ _ _)
   | (with_reducible exact ih2 _ _ _ _ _ _)
   | (with_reducible exact impl_Move.mono _ _ _ _ _)
   | (with_reducible exact impl_StockOk.mono _ _)
   | (with_reducible exact laws_cellSum.mono _ _ _)
   | (with_reducible exact spec_DrawMove.mono _ _)
   | (with_reducible exact spec_Move.mono _ _ _ _ _)
   | (with_reducible exact LeO.refl _)
   | (with_reducible exact LeO.none _)
   | (with_reducible refine LeO.ite ?_ ?_)
   | (with_reducible refine LeO.bind ?_ (fun _ => ?_))
   | exact ih0 _ _
   | exact ih1 _ _ _ _ _ _ _
   | exact ih2 _ _ _ _ _ _
   | exact impl_Move.mono _ _ _ _ _
   | exact impl_StockOk.mono _ _
   | exact laws_cellSum.mono _ _ _
   | exact spec_DrawMove.mono _ _
   | exact spec_Move.mono _ _ _ _ _
   | exact LeO.none _
   | refine LeO.ite ?_ ?_
   | refine LeO.bind ?_ (fun _ => ?_)
theorem laws_FnMoved.mono : ∀ a0 k, LeO (laws_FnMoved.f k a0) (laws_FnMoved.f (k + 1) a0) := by
 intro a0 k
 obtain ⟨ih0, ih1, ih2⟩ := laws_FnMoved.mono_l k
 unfold laws_FnMoved.f
 repeat' first
   | (with_reducible exact ih0 _ _)
   | (with_reducible exact ih1 _ _ _ _ _ _ _)
   | (with_reducible exact ih2 _ _ _ _ _ _)
   | (with_reducible exact impl_Move.mono _ _ _ _ _)
   | (with_reducible exact impl_StockOk.mono _ _)
   | (with_reducible exact laws_cellSum.mono _ _ _)
   | (with_reducible exact spec_DrawMove.mono _ _)
   | (with_reducible exact spec_Move.mono _ _ _ _ _)
   | (with_reducible exact LeO.refl _)
   | (with_reducible exact LeO.none _)
   | (with_reducible refine LeO.ite ?_ ?_)
   | (with_reducible refine LeO.bind ?_ (fun _ => ?_))
   | exact ih0 _ _
   | exact ih1 _ _ _ _ _ _ _
   | exact ih2 _ _ _ _ _ _
   | exact impl_Move.mono _ _ _ _ _
   | exact impl_StockOk.mono _ _
   | exact laws_cellSum.mono _ _ _
   | exact spec_DrawMove.mono _ _
   | exact spec_Move.mono _ _ _ _ _
   | exact LeO.none _
   | refine LeO.ite ?_ ?_
   | refine LeO.bind ?_ (fun _ => ?_)
set_option maxHeartbeats 8000000 in
set_option maxRecDepth 100000 in
theorem laws_FnMoved.calls (k : Nat) (A0 : Option Addr) (c0 : Nat) (l0 : List Int) (r : Bool) (w : World) (hr0 : Kd.C (Kd.int .u8) w A0 l0.length l0) (hc0 : l0.length ≤ c0) (h : laws_FnMoved.f k l0 = some r) :
  Calls Try.prog 13 #[.slice A0 l0.length c0] w fun e w' => e = .returned (.bool r) ∧ Below w.heap.size w w' := by
 have hu117 := Try.underlying117
 have HR0 := Aside0.mk hr0
 have HC0 := Aside0.mk hc0
 clear hr0 hc0
 have HB := Aside0.mk (Below.refl w.heap.size w)
 have H : ((laws_big.f l0).bind fun t433 => (if t433 = true then (some true) else ((impl_Move.f k (([(⟨(⟨#[105]⟩ : ByteArray), (⟨#[112]⟩ : ByteArray), (⟨#[]⟩ : ByteArray), 3, 5, 2⟩ : S117)] : List (S117))) 0 (⟨#[113]⟩ : ByteArray) 3).bind fun bt437 => (if bt437.2 = 0 then (if (bt437.1.length : Int) = 2 then (if 0 < (bt437.1.length : Int) then (if ((rd_T117 bt437.1 0).f4) = 2 then (if 1 < (bt437.1.length : Int) then (if ((rd_T117 bt437.1 1).f4) = 3 then (if ((rd_T117 bt437.1 1).f3) = 3 then (laws_FnMoved.j0 k l0 (((rd_T117 bt437.1 1).f1).toList != ([113] : List UInt8))) else (laws_FnMoved.j0 k l0 true)) else (laws_FnMoved.j0 k l0 true)) else (none)) else (laws_FnMoved.j0 k l0 true)) else (none)) else (laws_FnMoved.j0 k l0 true)) else (laws_FnMoved.j0 k l0 true))))) = some r := h
 clear h
 replace H := Option.bind_eq_some_iff.mp H
 obtain ⟨t433, A20, H⟩ := H
 replace H : (if t433 = true then (some true) else ((impl_Move.f k (([(⟨(⟨#[105]⟩ : ByteArray), (⟨#[112]⟩ : ByteArray), (⟨#[]⟩ : ByteArray), 3, 5, 2⟩ : S117)] : List (S117))) 0 (⟨#[113]⟩ : ByteArray) 3).bind fun bt437 => (if bt437.2 = 0 then (if (bt437.1.length : Int) = 2 then (if 0 < (bt437.1.length : Int) then (if ((rd_T117 bt437.1 0).f4) = 2 then (if 1 < (bt437.1.length : Int) then (if ((rd_T117 bt437.1 1).f4) = 3 then (if ((rd_T117 bt437.1 1).f3) = 3 then (laws_FnMoved.j0 k l0 (((rd_T117 bt437.1 1).f1).toList != ([113] : List UInt8))) else (laws_FnMoved.j0 k l0 true)) else (laws_FnMoved.j0 k l0 true)) else (none)) else (laws_FnMoved.j0 k l0 true)) else (none)) else (laws_FnMoved.j0 k l0 true)) else (laws_FnMoved.j0 k l0 true)))) = some r := H
 have A2 := Aside0.mk A20
 clear A20
 by_cases c3 : t433 = true
 ·subst c3
  have H1 : (some true) = some r := by rw [if_pos rfl] at H; exact H
  clear H
  have H := H1
  clear H1
  obtain rfl := Option.some.inj H
  go_enter Try.func13, Try.ntmps13
  go_wp2_with (first | (go_at_call 15; (with_reducible refine (laws_big.calls _ _ l0 true _ ?side1 ?side2 A2.out).mono ?_); (case side1 => repeat (first | exact HR0.out | (with_reducible refine Kd.qu0 ?_ _) | (with_reducible refine Kd.qt0 ?_ _) | (with_reducible refine Kd.qy0 ?_))); (case side2 => exact HC0.out); rintro e w' ⟨rfl, ⟨nd, rfl⟩⟩; (try first | exact ⟨rfl, _, World.drewN_drewN _ _ _⟩ | exact ⟨rfl, _, Eq.trans (World.drewN_drewN _ _ _) (congrArg (World.drewN _) (Nat.add_assoc _ _ _))⟩)))
  repeat (go_quiet (first | (go_at_call 15; (with_reducible refine (laws_big.calls _ _ l0 true _ ?side1 ?side2 A2.out).mono ?_); (case side1 => repeat (first | exact HR0.out | (with_reducible refine Kd.qu0 ?_ _) | (with_reducible refine Kd.qt0 ?_ _) | (with_reducible refine Kd.qy0 ?_))); (case side2 => exact HC0.out); rintro e w' ⟨rfl, ⟨nd, rfl⟩⟩; (try first | exact ⟨rfl, _, World.drewN_drewN _ _ _⟩ | exact ⟨rfl, _, Eq.trans (World.drewN_drewN _ _ _) (congrArg (World.drewN _) (Nat.add_assoc _ _ _))⟩))); try go_wp2_with (first | (go_at_call 15; (with_reducible refine (laws_big.calls _ _ l0 true _ ?side1 ?side2 A2.out).mono ?_); (case side1 => repeat (first | exact HR0.out | (with_reducible refine Kd.qu0 ?_ _) | (with_reducible refine Kd.qt0 ?_ _) | (with_reducible refine Kd.qy0 ?_))); (case side2 => exact HC0.out); rintro e w' ⟨rfl, ⟨nd, rfl⟩⟩; (try first | exact ⟨rfl, _, World.drewN_drewN _ _ _⟩ | exact ⟨rfl, _, Eq.trans (World.drewN_drewN _ _ _) (congrArg (World.drewN _) (Nat.add_assoc _ _ _))⟩))))
  go_ret
  exact ⟨by first | rfl | (simp [errW_none, errW_some] <;> rfl) | (simp [*, errW_none, errW_some] <;> rfl), by repeat (first | (with_reducible first | exact HB.out | apply qc0 | apply qa0 | apply qb0) | exact HB.out)⟩
 replace c3 := Bool.eq_false_iff.mpr c3
 subst c3
 have H1 : ((impl_Move.f k (([(⟨(⟨#[105]⟩ : ByteArray), (⟨#[112]⟩ : ByteArray), (⟨#[]⟩ : ByteArray), 3, 5, 2⟩ : S117)] : List (S117))) 0 (⟨#[113]⟩ : ByteArray) 3).bind fun bt437 => (if bt437.2 = 0 then (if (bt437.1.length : Int) = 2 then (if 0 < (bt437.1.length : Int) then (if ((rd_T117 bt437.1 0).f4) = 2 then (if 1 < (bt437.1.length : Int) then (if ((rd_T117 bt437.1 1).f4) = 3 then (if ((rd_T117 bt437.1 1).f3) = 3 then (laws_FnMoved.j0 k l0 (((rd_T117 bt437.1 1).f1).toList != ([113] : List UInt8))) else (laws_FnMoved.j0 k l0 true)) else (laws_FnMoved.j0 k l0 true)) else (none)) else (laws_FnMoved.j0 k l0 true)) else (none)) else (laws_FnMoved.j0 k l0 true)) else (laws_FnMoved.j0 k l0 true))) = some r := by rw [if_neg (show ¬ (false = true) by decide)] at H; exact H
 clear H
 have H := H1
 clear H1
 obtain ⟨y434, hy434⟩ : ∃ y_ : List (S117), y_ = (([(⟨(⟨#[105]⟩ : ByteArray), (⟨#[112]⟩ : ByteArray), (⟨#[]⟩ : ByteArray), 3, 5, 2⟩ : S117)] : List (S117))) := ⟨_, rfl⟩
 replace H : ((impl_Move.f k y434 0 (⟨#[113]⟩ : ByteArray) 3).bind fun bt437 => (if bt437.2 = 0 then (if (bt437.1.length : Int) = 2 then (if 0 < (bt437.1.length : Int) then (if ((rd_T117 bt437.1 0).f4) = 2 then (if 1 < (bt437.1.length : Int) then (if ((rd_T117 bt437.1 1).f4) = 3 then (if ((rd_T117 bt437.1 1).f3) = 3 then (laws_FnMoved.j0 k l0 (((rd_T117 bt437.1 1).f1).toList != ([113] : List UInt8))) else (laws_FnMoved.j0 k l0 true)) else (laws_FnMoved.j0 k l0 true)) else (none)) else (laws_FnMoved.j0 k l0 true)) else (none)) else (laws_FnMoved.j0 k l0 true)) else (laws_FnMoved.j0 k l0 true))) = some r := by first | (rw [hy434]; with_reducible exact H) | (have H2_ := (Option.bind_some _ _).symm.trans H; rw [hy434]; with_reducible exact H2_) | (have H2_ := (Option.bind_some _ _).symm.trans H; with_reducible exact H2_) | with_reducible exact H | (rw [hy434]; exact H) | exact H
 have Ny434 := Aside0.mk hy434
 clear hy434
 replace H := Option.bind_eq_some_iff.mp H
 obtain ⟨⟨t437, t438⟩, A40, H⟩ := H
 replace H : (if t438 = 0 then (if (t437.length : Int) = 2 then (if 0 < (t437.length : Int) then (if ((rd_T117 t437 0).f4) = 2 then (if 1 < (t437.length : Int) then (if ((rd_T117 t437 1).f4) = 3 then (if ((rd_T117 t437 1).f3) = 3 then (laws_FnMoved.j0 k l0 (((rd_T117 t437 1).f1).toList != ([113] : List UInt8))) else (laws_FnMoved.j0 k l0 true)) else (laws_FnMoved.j0 k l0 true)) else (none)) else (laws_FnMoved.j0 k l0 true)) else (none)) else (laws_FnMoved.j0 k l0 true)) else (laws_FnMoved.j0 k l0 true)) = some r := H
 have A4 := Aside0.mk A40
 clear A40
 have HC5 := Aside0.mk H
 clear H
 go_enter Try.func13, Try.ntmps13
 go_upto_region 4 with (first | (go_at_call 15; (with_reducible refine (laws_big.calls _ _ l0 false _ ?side1 ?side2 A2.out).mono ?_); (case side1 => repeat (first | exact HR0.out | (with_reducible refine Kd.qu0 ?_ _) | (with_reducible refine Kd.qt0 ?_ _) | (with_reducible refine Kd.qy0 ?_))); (case side2 => exact HC0.out); rintro e w' ⟨rfl, ⟨nd, rfl⟩⟩; (try first | exact ⟨rfl, _, World.drewN_drewN _ _ _⟩ | exact ⟨rfl, _, Eq.trans (World.drewN_drewN _ _ _) (congrArg (World.drewN _) (Nat.add_assoc _ _ _))⟩)) | ((with_reducible refine gate_dst (N := 25) rfl ?_); (try (refine gate_guard (by rfl) ?_; dsimp only)); refine Kd.R_lit k117 _ 117 ?hg (N := 25) ?hd (xs := ([(⟨(⟨#[105]⟩ : ByteArray), (⟨#[112]⟩ : ByteArray), (⟨#[]⟩ : ByteArray), 3, 5, 2⟩ : S117)] : List (S117))) (inner := [.string (⟨#[105]⟩ : ByteArray), .string (⟨#[112]⟩ : ByteArray), .string (⟨#[]⟩ : ByteArray), .int .i64 3, .int .i64 5, .int .i64 2]) (ok := fun _ => True) (okp := fun _ => True) ?hr ?hp (fun _ hk => hk) trivial (Below.refl _ _) (Nat.le_refl _) (by simp) ?_; (case hd => rfl); (case hg => rfl); (case hr => first | (go_simp; done) | (go_simp; rfl)); (case hp => exact (Reps.c6 (show Kd.M k117 _ _ _ (⟨(⟨#[105]⟩ : ByteArray), (⟨#[112]⟩ : ByteArray), (⟨#[]⟩ : ByteArray), 3, 5, 2⟩ : S117) [.string (⟨#[105]⟩ : ByteArray), .string (⟨#[112]⟩ : ByteArray), .string (⟨#[]⟩ : ByteArray), .int .i64 3, .int .i64 5, .int .i64 2] from (k117_mkM _ _ _ (⟨(⟨#[105]⟩ : ByteArray), (⟨#[112]⟩ : ByteArray), (⟨#[]⟩ : ByteArray), 3, 5, 2⟩ : S117) )) (Reps.none _ _))); intro v435 w6 ho7 hb hg_ hnew_; clear hg_ hnew_; (first | rw [← Ny434.out] at ho7 | (simp only [Int.reduceToNat] at ho7; rw [← Ny434.out] at ho7)); have n0_ := Aside0.mk (Kd.qb1 ho7 (ql0 (by repeat (first | (with_reducible first | exact HB.out | apply qc0 | apply qa0 | apply qb0) | exact HB.out)))); have n1_ := Aside0.mk (qk0 (by repeat (first | (with_reducible first | exact HB.out | apply qc0 | apply qa0 | apply qb0) | exact HB.out)) hb); clear HB; have HO436 := n0_; have HB := n1_; clear n0_ n1_; clear hb ho7; obtain ⟨Ao8, co8, eo8⟩ := Kd.qe1 HO436.out; subst eo8) | (go_at_call 71; (with_reducible refine (impl_Move.calls k _ _ y434 0 (⟨#[113]⟩ : ByteArray) 3 t437 t438 _ ?side1 ?side2 A4.out).mono ?_); (case side1 => repeat (first | exact (Kd.qf0 HO436.out).2.2 | (with_reducible refine Kd.qu0 ?_ _) | (with_reducible refine Kd.qt0 ?_ _) | (with_reducible refine Kd.qy0 ?_))); (case side2 => exact (Kd.qf0 HO436.out).2.1); rintro e w9 ⟨v439, rfl, ho0, hb⟩; have n0_ := Aside0.mk (Kd.qd1 (by (with_reducible repeat (first | apply Kd.qi0 | apply Kd.qh0 | apply Kd.qj0)); exact HO436.out) (Kd.qj1 ho0) hb); have n1_ := Aside0.mk (Kd.qb1 (Kd.qi1 ho0 (Kd.R_lt (by (with_reducible repeat (first | apply Kd.qi0 | apply Kd.qh0 | apply Kd.qj0)); exact HO436.out))) (ql0 (by repeat (first | (with_reducible first | exact HB.out | apply qc0 | apply qa0 | apply qb0) | exact HB.out)))); have n2_ := Aside0.mk (qk0 (by repeat (first | (with_reducible first | exact HB.out | apply qc0 | apply qa0 | apply qb0) | exact HB.out)) hb); clear HO436; clear HB; have HO436 := n0_; have HO440 := n1_; have HB := n2_; clear n0_ n1_ n2_; (try clear hb); (try clear hb2); (try clear hk); (try clear hi); (try clear ho0)))
 repeat (go_quiet (first | (go_at_call 15; (with_reducible refine (laws_big.calls _ _ l0 false _ ?side1 ?side2 A2.out).mono ?_); (case side1 => repeat (first | exact HR0.out | (with_reducible refine Kd.qu0 ?_ _) | (with_reducible refine Kd.qt0 ?_ _) | (with_reducible refine Kd.qy0 ?_))); (case side2 => exact HC0.out); rintro e w' ⟨rfl, ⟨nd, rfl⟩⟩; (try first | exact ⟨rfl, _, World.drewN_drewN _ _ _⟩ | exact ⟨rfl, _, Eq.trans (World.drewN_drewN _ _ _) (congrArg (World.drewN _) (Nat.add_assoc _ _ _))⟩)) | ((with_reducible refine gate_dst (N := 25) rfl ?_); (try (refine gate_guard (by rfl) ?_; dsimp only)); refine Kd.R_lit k117 _ 117 ?hg (N := 25) ?hd (xs := ([(⟨(⟨#[105]⟩ : ByteArray), (⟨#[112]⟩ : ByteArray), (⟨#[]⟩ : ByteArray), 3, 5, 2⟩ : S117)] : List (S117))) (inner := [.string (⟨#[105]⟩ : ByteArray), .string (⟨#[112]⟩ : ByteArray), .string (⟨#[]⟩ : ByteArray), .int .i64 3, .int .i64 5, .int .i64 2]) (ok := fun _ => True) (okp := fun _ => True) ?hr ?hp (fun _ hk => hk) trivial (Below.refl _ _) (Nat.le_refl _) (by simp) ?_; (case hd => rfl); (case hg => rfl); (case hr => first | (go_simp; done) | (go_simp; rfl)); (case hp => exact (Reps.c6 (show Kd.M k117 _ _ _ (⟨(⟨#[105]⟩ : ByteArray), (⟨#[112]⟩ : ByteArray), (⟨#[]⟩ : ByteArray), 3, 5, 2⟩ : S117) [.string (⟨#[105]⟩ : ByteArray), .string (⟨#[112]⟩ : ByteArray), .string (⟨#[]⟩ : ByteArray), .int .i64 3, .int .i64 5, .int .i64 2] from (k117_mkM _ _ _ (⟨(⟨#[105]⟩ : ByteArray), (⟨#[112]⟩ : ByteArray), (⟨#[]⟩ : ByteArray), 3, 5, 2⟩ : S117) )) (Reps.none _ _))); intro v435 w6 ho7 hb hg_ hnew_; clear hg_ hnew_; (first | rw [← Ny434.out] at ho7 | (simp only [Int.reduceToNat] at ho7; rw [← Ny434.out] at ho7)); have n0_ := Aside0.mk (Kd.qb1 ho7 (ql0 (by repeat (first | (with_reducible first | exact HB.out | apply qc0 | apply qa0 | apply qb0) | exact HB.out)))); have n1_ := Aside0.mk (qk0 (by repeat (first | (with_reducible first | exact HB.out | apply qc0 | apply qa0 | apply qb0) | exact HB.out)) hb); clear HB; have HO436 := n0_; have HB := n1_; clear n0_ n1_; clear hb ho7; obtain ⟨Ao8, co8, eo8⟩ := Kd.qe1 HO436.out; subst eo8) | (go_at_call 71; (with_reducible refine (impl_Move.calls k _ _ y434 0 (⟨#[113]⟩ : ByteArray) 3 t437 t438 _ ?side1 ?side2 A4.out).mono ?_); (case side1 => repeat (first | exact (Kd.qf0 HO436.out).2.2 | (with_reducible refine Kd.qu0 ?_ _) | (with_reducible refine Kd.qt0 ?_ _) | (with_reducible refine Kd.qy0 ?_))); (case side2 => exact (Kd.qf0 HO436.out).2.1); rintro e w9 ⟨v439, rfl, ho0, hb⟩; have n0_ := Aside0.mk (Kd.qd1 (by (with_reducible repeat (first | apply Kd.qi0 | apply Kd.qh0 | apply Kd.qj0)); exact HO436.out) (Kd.qj1 ho0) hb); have n1_ := Aside0.mk (Kd.qb1 (Kd.qi1 ho0 (Kd.R_lt (by (with_reducible repeat (first | apply Kd.qi0 | apply Kd.qh0 | apply Kd.qj0)); exact HO436.out))) (ql0 (by repeat (first | (with_reducible first | exact HB.out | apply qc0 | apply qa0 | apply qb0) | exact HB.out)))); have n2_ := Aside0.mk (qk0 (by repeat (first | (with_reducible first | exact HB.out | apply qc0 | apply qa0 | apply qb0) | exact HB.out)) hb); clear HO436; clear HB; have HO436 := n0_; have HO440 := n1_; have HB := n2_; clear n0_ n1_ n2_; (try clear hb); (try clear hb2); (try clear hk); (try clear hi); (try clear ho0))); go_upto_region 4 with (first | (go_at_call 15; (with_reducible refine (laws_big.calls _ _ l0 false _ ?side1 ?side2 A2.out).mono ?_); (case side1 => repeat (first | exact HR0.out | (with_reducible refine Kd.qu0 ?_ _) | (with_reducible refine Kd.qt0 ?_ _) | (with_reducible refine Kd.qy0 ?_))); (case side2 => exact HC0.out); rintro e w' ⟨rfl, ⟨nd, rfl⟩⟩; (try first | exact ⟨rfl, _, World.drewN_drewN _ _ _⟩ | exact ⟨rfl, _, Eq.trans (World.drewN_drewN _ _ _) (congrArg (World.drewN _) (Nat.add_assoc _ _ _))⟩)) | ((with_reducible refine gate_dst (N := 25) rfl ?_); (try (refine gate_guard (by rfl) ?_; dsimp only)); refine Kd.R_lit k117 _ 117 ?hg (N := 25) ?hd (xs := ([(⟨(⟨#[105]⟩ : ByteArray), (⟨#[112]⟩ : ByteArray), (⟨#[]⟩ : ByteArray), 3, 5, 2⟩ : S117)] : List (S117))) (inner := [.string (⟨#[105]⟩ : ByteArray), .string (⟨#[112]⟩ : ByteArray), .string (⟨#[]⟩ : ByteArray), .int .i64 3, .int .i64 5, .int .i64 2]) (ok := fun _ => True) (okp := fun _ => True) ?hr ?hp (fun _ hk => hk) trivial (Below.refl _ _) (Nat.le_refl _) (by simp) ?_; (case hd => rfl); (case hg => rfl); (case hr => first | (go_simp; done) | (go_simp; rfl)); (case hp => exact (Reps.c6 (show Kd.M k117 _ _ _ (⟨(⟨#[105]⟩ : ByteArray), (⟨#[112]⟩ : ByteArray), (⟨#[]⟩ : ByteArray), 3, 5, 2⟩ : S117) [.string (⟨#[105]⟩ : ByteArray), .string (⟨#[112]⟩ : ByteArray), .string (⟨#[]⟩ : ByteArray), .int .i64 3, .int .i64 5, .int .i64 2] from (k117_mkM _ _ _ (⟨(⟨#[105]⟩ : ByteArray), (⟨#[112]⟩ : ByteArray), (⟨#[]⟩ : ByteArray), 3, 5, 2⟩ : S117) )) (Reps.none _ _))); intro v435 w6 ho7 hb hg_ hnew_; clear hg_ hnew_; (first | rw [← Ny434.out] at ho7 | (simp only [Int.reduceToNat] at ho7; rw [← Ny434.out] at ho7)); have n0_ := Aside0.mk (Kd.qb1 ho7 (ql0 (by repeat (first | (with_reducible first | exact HB.out | apply qc0 | apply qa0 | apply qb0) | exact HB.out)))); have n1_ := Aside0.mk (qk0 (by repeat (first | (with_reducible first | exact HB.out | apply qc0 | apply qa0 | apply qb0) | exact HB.out)) hb); clear HB; have HO436 := n0_; have HB := n1_; clear n0_ n1_; clear hb ho7; obtain ⟨Ao8, co8, eo8⟩ := Kd.qe1 HO436.out; subst eo8) | (go_at_call 71; (with_reducible refine (impl_Move.calls k _ _ y434 0 (⟨#[113]⟩ : ByteArray) 3 t437 t438 _ ?side1 ?side2 A4.out).mono ?_); (case side1 => repeat (first | exact (Kd.qf0 HO436.out).2.2 | (with_reducible refine Kd.qu0 ?_ _) | (with_reducible refine Kd.qt0 ?_ _) | (with_reducible refine Kd.qy0 ?_))); (case side2 => exact (Kd.qf0 HO436.out).2.1); rintro e w9 ⟨v439, rfl, ho0, hb⟩; have n0_ := Aside0.mk (Kd.qd1 (by (with_reducible repeat (first | apply Kd.qi0 | apply Kd.qh0 | apply Kd.qj0)); exact HO436.out) (Kd.qj1 ho0) hb); have n1_ := Aside0.mk (Kd.qb1 (Kd.qi1 ho0 (Kd.R_lt (by (with_reducible repeat (first | apply Kd.qi0 | apply Kd.qh0 | apply Kd.qj0)); exact HO436.out))) (ql0 (by repeat (first | (with_reducible first | exact HB.out | apply qc0 | apply qa0 | apply qb0) | exact HB.out)))); have n2_ := Aside0.mk (qk0 (by repeat (first | (with_reducible first | exact HB.out | apply qc0 | apply qa0 | apply qb0) | exact HB.out)) hb); clear HO436; clear HB; have HO436 := n0_; have HO440 := n1_; have HB := n2_; clear n0_ n1_ n2_; (try clear hb); (try clear hb2); (try clear hk); (try clear hi); (try clear ho0))))
 (try simp only [Act.put, List.setIfInBounds_toArray, List.set_cons_zero, List.set_cons_succ])
 go_cut [63] (fun v63 wc => ∃ (kq : Nat) (x63_4 : Bool), v63 = .bool x63_4 ∧ Aside0 (laws_FnMoved.j0 kq l0 x63_4 = some r) ∧ Aside0 (kq ≤ k) ∧ Aside0 (Below w.heap.size w wc))
 case first => as_aux_lemma =>
  have H := HC5.out
  clear HC5
  by_cases c10 : t438 = 0
  ·rw [if_pos c10] at H
   have c10b0 : (t438 == 0) = true := beq_iff_eq.mpr c10
   have c10b1 : (t438 != 0) = false := bne_eq_false_iff_eq.mpr c10
   clear c10
   (first | rw [c10b0] | (simp only [i64_w, i32_w]; rw [c10b0]) | skip)
   by_cases c11 : (t437.length : Int) = 2
   ·rw [if_pos c11] at H
    have c11b0 : ((t437.length : Int) == 2) = true := beq_iff_eq.mpr c11
    have c11b1 : ((t437.length : Int) != 2) = false := bne_eq_false_iff_eq.mpr c11
    clear c11
    by_cases c12 : 0 < (t437.length : Int)
    case neg => rw [if_neg c12] at H; exact absurd H (by simp)
    rw [if_pos c12] at H
    have c12b0 : decide (0 < (t437.length : Int)) = true := decide_eq_true c12
    have c12b1 : decide (0 < t437.length) = true := decide_eq_true (by omega)
    clear c12
    by_cases c13 : ((rd_T117 t437 0).f4) = 2
    ·rw [if_pos c13] at H
     have c13b0 : (((rd_T117 t437 0).f4) == 2) = true := beq_iff_eq.mpr c13
     have c13b1 : (((rd_T117 t437 0).f4) != 2) = false := bne_eq_false_iff_eq.mpr c13
     clear c13
     by_cases c14 : 1 < (t437.length : Int)
     case neg => rw [if_neg c14] at H; exact absurd H (by simp)
     rw [if_pos c14] at H
     have c14b0 : decide (1 < (t437.length : Int)) = true := decide_eq_true c14
     have c14b1 : decide (1 < t437.length) = true := decide_eq_true (by omega)
     clear c14
     by_cases c15 : ((rd_T117 t437 1).f4) = 3
     ·rw [if_pos c15] at H
      have c15b0 : (((rd_T117 t437 1).f4) == 3) = true := beq_iff_eq.mpr c15
      have c15b1 : (((rd_T117 t437 1).f4) != 3) = false := bne_eq_false_iff_eq.mpr c15
      clear c15
      by_cases c16 : ((rd_T117 t437 1).f3) = 3
      ·rw [if_pos c16] at H
       have c16b0 : (((rd_T117 t437 1).f3) == 3) = true := beq_iff_eq.mpr c16
       have c16b1 : (((rd_T117 t437 1).f3) != 3) = false := bne_eq_false_iff_eq.mpr c16
       clear c16
       have H' := Aside0.mk H
       clear H
       obtain ⟨Ao17, co17, eo17⟩ := Kd.qe1 HO440.out
       subst eo17
       have p441 : 0 ≤ (0 : Int) := (by omega)
       have q441 : 0 < (t437.length : Int) := of_decide_eq_true (by first | (with_reducible assumption) | assumption)
       obtain ⟨ad441, e441, hx441_0, hx441_1, hx441_2, hx441_3, hx441_4, hx441_5⟩ := at_T117 (Kd.qf0 HO440.out).2.2 0 p441 q441
       cases e441
       have qi441 : (0 < t437.length) = True := eq_true (by omega)
       (try rw [show ((0 : Int)).toNat = 0 from rfl] at hx441_0)
       (try rw [show 0 * 6 = 0 from rfl] at hx441_0)
       (try rw [Addr.add_zero'] at hx441_0)
       (try rw [show ((0 : Int)).toNat = 0 from rfl] at hx441_1)
       (try rw [show 0 * 6 = 0 from rfl] at hx441_1)
       (try rw [Addr.add_zero'] at hx441_1)
       (try rw [show ((0 : Int)).toNat = 0 from rfl] at hx441_2)
       (try rw [show 0 * 6 = 0 from rfl] at hx441_2)
       (try rw [Addr.add_zero'] at hx441_2)
       (try rw [show ((0 : Int)).toNat = 0 from rfl] at hx441_3)
       (try rw [show 0 * 6 = 0 from rfl] at hx441_3)
       (try rw [Addr.add_zero'] at hx441_3)
       (try rw [show ((0 : Int)).toNat = 0 from rfl] at hx441_4)
       (try rw [show 0 * 6 = 0 from rfl] at hx441_4)
       (try rw [Addr.add_zero'] at hx441_4)
       (try rw [show ((0 : Int)).toNat = 0 from rfl] at hx441_5)
       (try rw [show 0 * 6 = 0 from rfl] at hx441_5)
       (try rw [Addr.add_zero'] at hx441_5)
       replace p441 := eq_true p441
       replace q441 := eq_true q441
       have p442 : 0 ≤ (1 : Int) := (by omega)
       have q442 : 1 < (t437.length : Int) := of_decide_eq_true (by first | (with_reducible assumption) | assumption)
       obtain ⟨ad442, e442, hx442_0, hx442_1, hx442_2, hx442_3, hx442_4, hx442_5⟩ := at_T117 (Kd.qf0 HO440.out).2.2 1 p442 q442
       obtain rfl : ad441 = ad442 := (by injection e442)
       (try simp only [show (1 : Int).toNat = 1 from rfl, Nat.reduceMul, Nat.reduceEqDiff, Go.Addr.add, ↓reduceIte] at hx442_0)
       (try simp only [show (1 : Int).toNat = 1 from rfl, Nat.reduceMul, Nat.reduceEqDiff, Go.Addr.add, ↓reduceIte] at hx442_1)
       (try simp only [show (1 : Int).toNat = 1 from rfl, Nat.reduceMul, Nat.reduceEqDiff, Go.Addr.add, ↓reduceIte] at hx442_2)
       (try simp only [show (1 : Int).toNat = 1 from rfl, Nat.reduceMul, Nat.reduceEqDiff, Go.Addr.add, ↓reduceIte] at hx442_3)
       (try simp only [show (1 : Int).toNat = 1 from rfl, Nat.reduceMul, Nat.reduceEqDiff, Go.Addr.add, ↓reduceIte] at hx442_4)
       (try simp only [show (1 : Int).toNat = 1 from rfl, Nat.reduceMul, Nat.reduceEqDiff, Go.Addr.add, ↓reduceIte] at hx442_5)
       have qi442 : (1 < t437.length) = True := eq_true (by omega)
       (try rw [show ((1 : Int)).toNat = 1 from rfl] at hx442_0)
       (try rw [show 1 * 6 = 6 from rfl] at hx442_0)
       (try rw [show ((1 : Int)).toNat = 1 from rfl] at hx442_1)
       (try rw [show 1 * 6 = 6 from rfl] at hx442_1)
       (try rw [show ((1 : Int)).toNat = 1 from rfl] at hx442_2)
       (try rw [show 1 * 6 = 6 from rfl] at hx442_2)
       (try rw [show ((1 : Int)).toNat = 1 from rfl] at hx442_3)
       (try rw [show 1 * 6 = 6 from rfl] at hx442_3)
       (try rw [show ((1 : Int)).toNat = 1 from rfl] at hx442_4)
       (try rw [show 1 * 6 = 6 from rfl] at hx442_4)
       (try rw [show ((1 : Int)).toNat = 1 from rfl] at hx442_5)
       (try rw [show 1 * 6 = 6 from rfl] at hx442_5)
       replace p442 := eq_true p442
       replace q442 := eq_true q442
       have p443 : 0 ≤ (1 : Int) := (by omega)
       have q443 : 1 < (t437.length : Int) := of_decide_eq_true (by first | (with_reducible assumption) | assumption)
       obtain ⟨ad443, e443, hx443_0, hx443_1, hx443_2, hx443_3, hx443_4, hx443_5⟩ := at_T117 (Kd.qf0 HO440.out).2.2 1 p443 q443
       obtain rfl : ad441 = ad443 := (by injection e443)
       (try simp only [show (1 : Int).toNat = 1 from rfl, Nat.reduceMul, Nat.reduceEqDiff, Go.Addr.add, ↓reduceIte] at hx443_0)
       (try simp only [show (1 : Int).toNat = 1 from rfl, Nat.reduceMul, Nat.reduceEqDiff, Go.Addr.add, ↓reduceIte] at hx443_1)
       (try simp only [show (1 : Int).toNat = 1 from rfl, Nat.reduceMul, Nat.reduceEqDiff, Go.Addr.add, ↓reduceIte] at hx443_2)
       (try simp only [show (1 : Int).toNat = 1 from rfl, Nat.reduceMul, Nat.reduceEqDiff, Go.Addr.add, ↓reduceIte] at hx443_3)
       (try simp only [show (1 : Int).toNat = 1 from rfl, Nat.reduceMul, Nat.reduceEqDiff, Go.Addr.add, ↓reduceIte] at hx443_4)
       (try simp only [show (1 : Int).toNat = 1 from rfl, Nat.reduceMul, Nat.reduceEqDiff, Go.Addr.add, ↓reduceIte] at hx443_5)
       have qi443 : (1 < t437.length) = True := eq_true (by omega)
       (try rw [show ((1 : Int)).toNat = 1 from rfl] at hx443_0)
       (try rw [show 1 * 6 = 6 from rfl] at hx443_0)
       (try rw [show ((1 : Int)).toNat = 1 from rfl] at hx443_1)
       (try rw [show 1 * 6 = 6 from rfl] at hx443_1)
       (try rw [show ((1 : Int)).toNat = 1 from rfl] at hx443_2)
       (try rw [show 1 * 6 = 6 from rfl] at hx443_2)
       (try rw [show ((1 : Int)).toNat = 1 from rfl] at hx443_3)
       (try rw [show 1 * 6 = 6 from rfl] at hx443_3)
       (try rw [show ((1 : Int)).toNat = 1 from rfl] at hx443_4)
       (try rw [show 1 * 6 = 6 from rfl] at hx443_4)
       (try rw [show ((1 : Int)).toNat = 1 from rfl] at hx443_5)
       (try rw [show 1 * 6 = 6 from rfl] at hx443_5)
       replace p443 := eq_true p443
       replace q443 := eq_true q443
       have p444 : 0 ≤ (1 : Int) := (by omega)
       have q444 : 1 < (t437.length : Int) := of_decide_eq_true (by first | (with_reducible assumption) | assumption)
       obtain ⟨ad444, e444, hx444_0, hx444_1, hx444_2, hx444_3, hx444_4, hx444_5⟩ := at_T117 (Kd.qf0 HO440.out).2.2 1 p444 q444
       obtain rfl : ad441 = ad444 := (by injection e444)
       (try simp only [show (1 : Int).toNat = 1 from rfl, Nat.reduceMul, Nat.reduceEqDiff, Go.Addr.add, ↓reduceIte] at hx444_0)
       (try simp only [show (1 : Int).toNat = 1 from rfl, Nat.reduceMul, Nat.reduceEqDiff, Go.Addr.add, ↓reduceIte] at hx444_1)
       (try simp only [show (1 : Int).toNat = 1 from rfl, Nat.reduceMul, Nat.reduceEqDiff, Go.Addr.add, ↓reduceIte] at hx444_2)
       (try simp only [show (1 : Int).toNat = 1 from rfl, Nat.reduceMul, Nat.reduceEqDiff, Go.Addr.add, ↓reduceIte] at hx444_3)
       (try simp only [show (1 : Int).toNat = 1 from rfl, Nat.reduceMul, Nat.reduceEqDiff, Go.Addr.add, ↓reduceIte] at hx444_4)
       (try simp only [show (1 : Int).toNat = 1 from rfl, Nat.reduceMul, Nat.reduceEqDiff, Go.Addr.add, ↓reduceIte] at hx444_5)
       have qi444 : (1 < t437.length) = True := eq_true (by omega)
       (try rw [show ((1 : Int)).toNat = 1 from rfl] at hx444_0)
       (try rw [show 1 * 6 = 6 from rfl] at hx444_0)
       (try rw [show ((1 : Int)).toNat = 1 from rfl] at hx444_1)
       (try rw [show 1 * 6 = 6 from rfl] at hx444_1)
       (try rw [show ((1 : Int)).toNat = 1 from rfl] at hx444_2)
       (try rw [show 1 * 6 = 6 from rfl] at hx444_2)
       (try rw [show ((1 : Int)).toNat = 1 from rfl] at hx444_3)
       (try rw [show 1 * 6 = 6 from rfl] at hx444_3)
       (try rw [show ((1 : Int)).toNat = 1 from rfl] at hx444_4)
       (try rw [show 1 * 6 = 6 from rfl] at hx444_4)
       (try rw [show ((1 : Int)).toNat = 1 from rfl] at hx444_5)
       (try rw [show 1 * 6 = 6 from rfl] at hx444_5)
       replace p444 := eq_true p444
       replace q444 := eq_true q444
       go_wp2
       repeat (go_quiet (fail); try go_wp2)
       go_meet
       case rel => exact ⟨_, ((((rd_T117 t437 1).f1).toList != ([113] : List UInt8))), (by first | rfl | (simp; done) | (simp [*]; done)), H', ⟨by first | omega | exact Nat.le_refl _⟩, ⟨by repeat (first | (with_reducible first | exact HB.out | apply qc0 | apply qa0 | apply qb0) | exact HB.out)⟩⟩
      rw [if_neg c16] at H
      have c16b0 : (((rd_T117 t437 1).f3) == 3) = false := beq_eq_false_iff_ne.mpr c16
      have c16b1 : (((rd_T117 t437 1).f3) != 3) = true := bne_iff_ne.mpr c16
      have H' := Aside0.mk H
      clear H
      obtain ⟨Ao18, co18, eo18⟩ := Kd.qe1 HO440.out
      subst eo18
      have p441 : 0 ≤ (0 : Int) := (by omega)
      have q441 : 0 < (t437.length : Int) := of_decide_eq_true (by first | (with_reducible assumption) | assumption)
      obtain ⟨ad441, e441, hx441_0, hx441_1, hx441_2, hx441_3, hx441_4, hx441_5⟩ := at_T117 (Kd.qf0 HO440.out).2.2 0 p441 q441
      cases e441
      have qi441 : (0 < t437.length) = True := eq_true (by omega)
      (try rw [show ((0 : Int)).toNat = 0 from rfl] at hx441_0)
      (try rw [show 0 * 6 = 0 from rfl] at hx441_0)
      (try rw [Addr.add_zero'] at hx441_0)
      (try rw [show ((0 : Int)).toNat = 0 from rfl] at hx441_1)
      (try rw [show 0 * 6 = 0 from rfl] at hx441_1)
      (try rw [Addr.add_zero'] at hx441_1)
      (try rw [show ((0 : Int)).toNat = 0 from rfl] at hx441_2)
      (try rw [show 0 * 6 = 0 from rfl] at hx441_2)
      (try rw [Addr.add_zero'] at hx441_2)
      (try rw [show ((0 : Int)).toNat = 0 from rfl] at hx441_3)
      (try rw [show 0 * 6 = 0 from rfl] at hx441_3)
      (try rw [Addr.add_zero'] at hx441_3)
      (try rw [show ((0 : Int)).toNat = 0 from rfl] at hx441_4)
      (try rw [show 0 * 6 = 0 from rfl] at hx441_4)
      (try rw [Addr.add_zero'] at hx441_4)
      (try rw [show ((0 : Int)).toNat = 0 from rfl] at hx441_5)
      (try rw [show 0 * 6 = 0 from rfl] at hx441_5)
      (try rw [Addr.add_zero'] at hx441_5)
      replace p441 := eq_true p441
      replace q441 := eq_true q441
      have p442 : 0 ≤ (1 : Int) := (by omega)
      have q442 : 1 < (t437.length : Int) := of_decide_eq_true (by first | (with_reducible assumption) | assumption)
      obtain ⟨ad442, e442, hx442_0, hx442_1, hx442_2, hx442_3, hx442_4, hx442_5⟩ := at_T117 (Kd.qf0 HO440.out).2.2 1 p442 q442
      obtain rfl : ad441 = ad442 := (by injection e442)
      (try simp only [show (1 : Int).toNat = 1 from rfl, Nat.reduceMul, Nat.reduceEqDiff, Go.Addr.add, ↓reduceIte] at hx442_0)
      (try simp only [show (1 : Int).toNat = 1 from rfl, Nat.reduceMul, Nat.reduceEqDiff, Go.Addr.add, ↓reduceIte] at hx442_1)
      (try simp only [show (1 : Int).toNat = 1 from rfl, Nat.reduceMul, Nat.reduceEqDiff, Go.Addr.add, ↓reduceIte] at hx442_2)
      (try simp only [show (1 : Int).toNat = 1 from rfl, Nat.reduceMul, Nat.reduceEqDiff, Go.Addr.add, ↓reduceIte] at hx442_3)
      (try simp only [show (1 : Int).toNat = 1 from rfl, Nat.reduceMul, Nat.reduceEqDiff, Go.Addr.add, ↓reduceIte] at hx442_4)
      (try simp only [show (1 : Int).toNat = 1 from rfl, Nat.reduceMul, Nat.reduceEqDiff, Go.Addr.add, ↓reduceIte] at hx442_5)
      have qi442 : (1 < t437.length) = True := eq_true (by omega)
      (try rw [show ((1 : Int)).toNat = 1 from rfl] at hx442_0)
      (try rw [show 1 * 6 = 6 from rfl] at hx442_0)
      (try rw [show ((1 : Int)).toNat = 1 from rfl] at hx442_1)
      (try rw [show 1 * 6 = 6 from rfl] at hx442_1)
      (try rw [show ((1 : Int)).toNat = 1 from rfl] at hx442_2)
      (try rw [show 1 * 6 = 6 from rfl] at hx442_2)
      (try rw [show ((1 : Int)).toNat = 1 from rfl] at hx442_3)
      (try rw [show 1 * 6 = 6 from rfl] at hx442_3)
      (try rw [show ((1 : Int)).toNat = 1 from rfl] at hx442_4)
      (try rw [show 1 * 6 = 6 from rfl] at hx442_4)
      (try rw [show ((1 : Int)).toNat = 1 from rfl] at hx442_5)
      (try rw [show 1 * 6 = 6 from rfl] at hx442_5)
      replace p442 := eq_true p442
      replace q442 := eq_true q442
      have p443 : 0 ≤ (1 : Int) := (by omega)
      have q443 : 1 < (t437.length : Int) := of_decide_eq_true (by first | (with_reducible assumption) | assumption)
      obtain ⟨ad443, e443, hx443_0, hx443_1, hx443_2, hx443_3, hx443_4, hx443_5⟩ := at_T117 (Kd.qf0 HO440.out).2.2 1 p443 q443
      obtain rfl : ad441 = ad443 := (by injection e443)
      (try simp only [show (1 : Int).toNat = 1 from rfl, Nat.reduceMul, Nat.reduceEqDiff, Go.Addr.add, ↓reduceIte] at hx443_0)
      (try simp only [show (1 : Int).toNat = 1 from rfl, Nat.reduceMul, Nat.reduceEqDiff, Go.Addr.add, ↓reduceIte] at hx443_1)
      (try simp only [show (1 : Int).toNat = 1 from rfl, Nat.reduceMul, Nat.reduceEqDiff, Go.Addr.add, ↓reduceIte] at hx443_2)
      (try simp only [show (1 : Int).toNat = 1 from rfl, Nat.reduceMul, Nat.reduceEqDiff, Go.Addr.add, ↓reduceIte] at hx443_3)
      (try simp only [show (1 : Int).toNat = 1 from rfl, Nat.reduceMul, Nat.reduceEqDiff, Go.Addr.add, ↓reduceIte] at hx443_4)
      (try simp only [show (1 : Int).toNat = 1 from rfl, Nat.reduceMul, Nat.reduceEqDiff, Go.Addr.add, ↓reduceIte] at hx443_5)
      have qi443 : (1 < t437.length) = True := eq_true (by omega)
      (try rw [show ((1 : Int)).toNat = 1 from rfl] at hx443_0)
      (try rw [show 1 * 6 = 6 from rfl] at hx443_0)
      (try rw [show ((1 : Int)).toNat = 1 from rfl] at hx443_1)
      (try rw [show 1 * 6 = 6 from rfl] at hx443_1)
      (try rw [show ((1 : Int)).toNat = 1 from rfl] at hx443_2)
      (try rw [show 1 * 6 = 6 from rfl] at hx443_2)
      (try rw [show ((1 : Int)).toNat = 1 from rfl] at hx443_3)
      (try rw [show 1 * 6 = 6 from rfl] at hx443_3)
      (try rw [show ((1 : Int)).toNat = 1 from rfl] at hx443_4)
      (try rw [show 1 * 6 = 6 from rfl] at hx443_4)
      (try rw [show ((1 : Int)).toNat = 1 from rfl] at hx443_5)
      (try rw [show 1 * 6 = 6 from rfl] at hx443_5)
      replace p443 := eq_true p443
      replace q443 := eq_true q443
      go_wp2
      repeat (go_quiet (fail); try go_wp2)
      go_meet
      case rel => exact ⟨_, (true), (by first | rfl | (simp; done) | (simp [*]; done)), H', ⟨by first | omega | exact Nat.le_refl _⟩, ⟨by repeat (first | (with_reducible first | exact HB.out | apply qc0 | apply qa0 | apply qb0) | exact HB.out)⟩⟩
     rw [if_neg c15] at H
     have c15b0 : (((rd_T117 t437 1).f4) == 3) = false := beq_eq_false_iff_ne.mpr c15
     have c15b1 : (((rd_T117 t437 1).f4) != 3) = true := bne_iff_ne.mpr c15
     have H' := Aside0.mk H
     clear H
     obtain ⟨Ao19, co19, eo19⟩ := Kd.qe1 HO440.out
     subst eo19
     have p441 : 0 ≤ (0 : Int) := (by omega)
     have q441 : 0 < (t437.length : Int) := of_decide_eq_true (by first | (with_reducible assumption) | assumption)
     obtain ⟨ad441, e441, hx441_0, hx441_1, hx441_2, hx441_3, hx441_4, hx441_5⟩ := at_T117 (Kd.qf0 HO440.out).2.2 0 p441 q441
     cases e441
     have qi441 : (0 < t437.length) = True := eq_true (by omega)
     (try rw [show ((0 : Int)).toNat = 0 from rfl] at hx441_0)
     (try rw [show 0 * 6 = 0 from rfl] at hx441_0)
     (try rw [Addr.add_zero'] at hx441_0)
     (try rw [show ((0 : Int)).toNat = 0 from rfl] at hx441_1)
     (try rw [show 0 * 6 = 0 from rfl] at hx441_1)
     (try rw [Addr.add_zero'] at hx441_1)
     (try rw [show ((0 : Int)).toNat = 0 from rfl] at hx441_2)
     (try rw [show 0 * 6 = 0 from rfl] at hx441_2)
     (try rw [Addr.add_zero'] at hx441_2)
     (try rw [show ((0 : Int)).toNat = 0 from rfl] at hx441_3)
     (try rw [show 0 * 6 = 0 from rfl] at hx441_3)
     (try rw [Addr.add_zero'] at hx441_3)
     (try rw [show ((0 : Int)).toNat = 0 from rfl] at hx441_4)
     (try rw [show 0 * 6 = 0 from rfl] at hx441_4)
     (try rw [Addr.add_zero'] at hx441_4)
     (try rw [show ((0 : Int)).toNat = 0 from rfl] at hx441_5)
     (try rw [show 0 * 6 = 0 from rfl] at hx441_5)
     (try rw [Addr.add_zero'] at hx441_5)
     replace p441 := eq_true p441
     replace q441 := eq_true q441
     have p442 : 0 ≤ (1 : Int) := (by omega)
     have q442 : 1 < (t437.length : Int) := of_decide_eq_true (by first | (with_reducible assumption) | assumption)
     obtain ⟨ad442, e442, hx442_0, hx442_1, hx442_2, hx442_3, hx442_4, hx442_5⟩ := at_T117 (Kd.qf0 HO440.out).2.2 1 p442 q442
     obtain rfl : ad441 = ad442 := (by injection e442)
     (try simp only [show (1 : Int).toNat = 1 from rfl, Nat.reduceMul, Nat.reduceEqDiff, Go.Addr.add, ↓reduceIte] at hx442_0)
     (try simp only [show (1 : Int).toNat = 1 from rfl, Nat.reduceMul, Nat.reduceEqDiff, Go.Addr.add, ↓reduceIte] at hx442_1)
     (try simp only [show (1 : Int).toNat = 1 from rfl, Nat.reduceMul, Nat.reduceEqDiff, Go.Addr.add, ↓reduceIte] at hx442_2)
     (try simp only [show (1 : Int).toNat = 1 from rfl, Nat.reduceMul, Nat.reduceEqDiff, Go.Addr.add, ↓reduceIte] at hx442_3)
     (try simp only [show (1 : Int).toNat = 1 from rfl, Nat.reduceMul, Nat.reduceEqDiff, Go.Addr.add, ↓reduceIte] at hx442_4)
     (try simp only [show (1 : Int).toNat = 1 from rfl, Nat.reduceMul, Nat.reduceEqDiff, Go.Addr.add, ↓reduceIte] at hx442_5)
     have qi442 : (1 < t437.length) = True := eq_true (by omega)
     (try rw [show ((1 : Int)).toNat = 1 from rfl] at hx442_0)
     (try rw [show 1 * 6 = 6 from rfl] at hx442_0)
     (try rw [show ((1 : Int)).toNat = 1 from rfl] at hx442_1)
     (try rw [show 1 * 6 = 6 from rfl] at hx442_1)
     (try rw [show ((1 : Int)).toNat = 1 from rfl] at hx442_2)
     (try rw [show 1 * 6 = 6 from rfl] at hx442_2)
     (try rw [show ((1 : Int)).toNat = 1 from rfl] at hx442_3)
     (try rw [show 1 * 6 = 6 from rfl] at hx442_3)
     (try rw [show ((1 : Int)).toNat = 1 from rfl] at hx442_4)
     (try rw [show 1 * 6 = 6 from rfl] at hx442_4)
     (try rw [show ((1 : Int)).toNat = 1 from rfl] at hx442_5)
     (try rw [show 1 * 6 = 6 from rfl] at hx442_5)
     replace p442 := eq_true p442
     replace q442 := eq_true q442
     go_wp2
     repeat (go_quiet (fail); try go_wp2)
     go_meet
     case rel => exact ⟨_, (true), (by first | rfl | (simp; done) | (simp [*]; done)), H', ⟨by first | omega | exact Nat.le_refl _⟩, ⟨by repeat (first | (with_reducible first | exact HB.out | apply qc0 | apply qa0 | apply qb0) | exact HB.out)⟩⟩
    rw [if_neg c13] at H
    have c13b0 : (((rd_T117 t437 0).f4) == 2) = false := beq_eq_false_iff_ne.mpr c13
    have c13b1 : (((rd_T117 t437 0).f4) != 2) = true := bne_iff_ne.mpr c13
    have H' := Aside0.mk H
    clear H
    obtain ⟨Ao20, co20, eo20⟩ := Kd.qe1 HO440.out
    subst eo20
    have p441 : 0 ≤ (0 : Int) := (by omega)
    have q441 : 0 < (t437.length : Int) := of_decide_eq_true (by first | (with_reducible assumption) | assumption)
    obtain ⟨ad441, e441, hx441_0, hx441_1, hx441_2, hx441_3, hx441_4, hx441_5⟩ := at_T117 (Kd.qf0 HO440.out).2.2 0 p441 q441
    cases e441
    have qi441 : (0 < t437.length) = True := eq_true (by omega)
    (try rw [show ((0 : Int)).toNat = 0 from rfl] at hx441_0)
    (try rw [show 0 * 6 = 0 from rfl] at hx441_0)
    (try rw [Addr.add_zero'] at hx441_0)
    (try rw [show ((0 : Int)).toNat = 0 from rfl] at hx441_1)
    (try rw [show 0 * 6 = 0 from rfl] at hx441_1)
    (try rw [Addr.add_zero'] at hx441_1)
    (try rw [show ((0 : Int)).toNat = 0 from rfl] at hx441_2)
    (try rw [show 0 * 6 = 0 from rfl] at hx441_2)
    (try rw [Addr.add_zero'] at hx441_2)
    (try rw [show ((0 : Int)).toNat = 0 from rfl] at hx441_3)
    (try rw [show 0 * 6 = 0 from rfl] at hx441_3)
    (try rw [Addr.add_zero'] at hx441_3)
    (try rw [show ((0 : Int)).toNat = 0 from rfl] at hx441_4)
    (try rw [show 0 * 6 = 0 from rfl] at hx441_4)
    (try rw [Addr.add_zero'] at hx441_4)
    (try rw [show ((0 : Int)).toNat = 0 from rfl] at hx441_5)
    (try rw [show 0 * 6 = 0 from rfl] at hx441_5)
    (try rw [Addr.add_zero'] at hx441_5)
    replace p441 := eq_true p441
    replace q441 := eq_true q441
    go_wp2
    repeat (go_quiet (fail); try go_wp2)
    go_meet
    case rel => exact ⟨_, (true), (by first | rfl | (simp; done) | (simp [*]; done)), H', ⟨by first | omega | exact Nat.le_refl _⟩, ⟨by repeat (first | (with_reducible first | exact HB.out | apply qc0 | apply qa0 | apply qb0) | exact HB.out)⟩⟩
   rw [if_neg c11] at H
   have c11b0 : ((t437.length : Int) == 2) = false := beq_eq_false_iff_ne.mpr c11
   have c11b1 : ((t437.length : Int) != 2) = true := bne_iff_ne.mpr c11
   have H' := Aside0.mk H
   clear H
   obtain ⟨Ao21, co21, eo21⟩ := Kd.qe1 HO440.out
   subst eo21
   go_wp2
   repeat (go_quiet (fail); try go_wp2)
   go_meet
   case rel => exact ⟨_, (true), (by first | rfl | (simp; done) | (simp [*]; done)), H', ⟨by first | omega | exact Nat.le_refl _⟩, ⟨by repeat (first | (with_reducible first | exact HB.out | apply qc0 | apply qa0 | apply qb0) | exact HB.out)⟩⟩
  rw [if_neg c10] at H
  have c10b0 : (t438 == 0) = false := beq_eq_false_iff_ne.mpr c10
  have c10b1 : (t438 != 0) = true := bne_iff_ne.mpr c10
  (first | rw [c10b0] | (simp only [i64_w, i32_w]; rw [c10b0]) | skip)
  have H' := Aside0.mk H
  clear H
  go_wp2
  repeat (go_quiet (fail); try go_wp2)
  go_meet
  case rel => exact ⟨_, (true), (by first | rfl | (simp; done) | (simp [*]; done)), H', ⟨by first | omega | exact Nat.le_refl _⟩, ⟨by repeat (first | (with_reducible first | exact HB.out | apply qc0 | apply qa0 | apply qb0) | exact HB.out)⟩⟩
 case rest => as_aux_lemma =>
  clear HC5
  try clear c1
  try clear p2
  try clear c3
  try clear p4
  try clear q4
  try clear hx4
  try clear qi4
  try clear c6
  try clear c10
  try clear c10b0
  try clear c10b1
  try clear c11
  try clear c11b0
  try clear c11b1
  try clear c12
  try clear c12b0
  try clear c12b1
  try clear c13
  try clear c13b0
  try clear c13b1
  try clear c14
  try clear c14b0
  try clear c14b1
  try clear c15
  try clear c15b0
  try clear c15b1
  try clear c16
  try clear c16b0
  try clear c16b1
  try clear hx441_0
  try clear hx441_1
  try clear hx441_2
  try clear hx441_3
  try clear hx441_4
  try clear hx441_5
  try clear hx442_0
  try clear hx442_1
  try clear hx442_2
  try clear hx442_3
  try clear hx442_4
  try clear hx442_5
  try clear hx443_0
  try clear hx443_1
  try clear hx443_2
  try clear hx443_3
  try clear hx443_4
  try clear hx443_5
  try clear hx444_0
  try clear hx444_1
  try clear hx444_2
  try clear hx444_3
  try clear hx444_4
  try clear hx444_5
  try clear p441
  try clear p442
  try clear p443
  try clear p444
  try clear q441
  try clear q442
  try clear q443
  try clear q444
  obtain ⟨kq, x63_4, rfl, HA, HJ4, HB⟩ := hcut
  cases kq with
  | zero => exact absurd HA.out (by simp [laws_FnMoved.j0])
  | succ kj4 =>
   have H := HA.out
   clear HA
   simp only [laws_FnMoved.j0] at H
   by_cases c22 : x63_4 = true
   ·subst c22
    have H1 : (some false) = some r := by rw [if_pos rfl] at H; exact H
    clear H
    have H := H1
    clear H1
    obtain rfl := Option.some.inj H
    go_wp2
    repeat (go_quiet (fail); try go_wp2)
    go_ret
    exact ⟨by first | rfl | (simp [errW_none, errW_some] <;> rfl) | (simp [*, errW_none, errW_some] <;> rfl), by repeat (first | (with_reducible first | exact HB.out | apply qc0 | apply qa0 | apply qb0) | exact HB.out)⟩
   replace c22 := Bool.eq_false_iff.mpr c22
   subst c22
   have H1 : ((spec_DrawMove.f kj4 l0).bind fun bt445 => ((spec_Move.f kj4 bt445.1 bt445.2.1 bt445.2.2.1 bt445.2.2.2).bind fun bt451 => ((impl_Move.f kj4 bt445.1 bt445.2.1 bt445.2.2.1 bt445.2.2.2).bind fun bt455 => (if bt455.2 = bt451.2 then (if bt451.2 = 1 then (some ((bt455.1.length : Int) == 0)) else ((impl_StockOk.f kj4 bt455.1).bind fun t459 => (if t459 = true then (laws_FnMoved.l0 kj4 bt445.1 bt445.2.1 bt445.2.2.1 bt445.2.2.2 bt451.2 bt455.1 0) else (some false)))) else (some false))))) = some r := by rw [if_neg (show ¬ (false = true) by decide)] at H; exact H
   clear H
   have H := H1
   clear H1
   replace H := Option.bind_eq_some_iff.mp H
   obtain ⟨⟨t445, t446, t447, t448⟩, A230, H⟩ := H
   replace H : ((spec_Move.f kj4 t445 t446 t447 t448).bind fun bt451 => ((impl_Move.f kj4 t445 t446 t447 t448).bind fun bt455 => (if bt455.2 = bt451.2 then (if bt451.2 = 1 then (some ((bt455.1.length : Int) == 0)) else ((impl_StockOk.f kj4 bt455.1).bind fun t459 => (if t459 = true then (laws_FnMoved.l0 kj4 t445 t446 t447 t448 bt451.2 bt455.1 0) else (some false)))) else (some false)))) = some r := H
   have A23 := Aside0.mk A230
   clear A230
   replace H := Option.bind_eq_some_iff.mp H
   obtain ⟨⟨t451, t452⟩, A240, H⟩ := H
   replace H : ((impl_Move.f kj4 t445 t446 t447 t448).bind fun bt455 => (if bt455.2 = t452 then (if t452 = 1 then (some ((bt455.1.length : Int) == 0)) else ((impl_StockOk.f kj4 bt455.1).bind fun t459 => (if t459 = true then (laws_FnMoved.l0 kj4 t445 t446 t447 t448 t452 bt455.1 0) else (some false)))) else (some false))) = some r := H
   have A24 := Aside0.mk A240
   clear A240
   replace H := Option.bind_eq_some_iff.mp H
   obtain ⟨⟨t455, t456⟩, A250, H⟩ := H
   replace H : (if t456 = t452 then (if t452 = 1 then (some ((t455.length : Int) == 0)) else ((impl_StockOk.f kj4 t455).bind fun t459 => (if t459 = true then (laws_FnMoved.l0 kj4 t445 t446 t447 t448 t452 t455 0) else (some false)))) else (some false)) = some r := H
   have A25 := Aside0.mk A250
   clear A250
   by_cases c26 : t456 = t452
   ·rw [if_pos c26] at H
    have c26b0 : (t456 == t452) = true := beq_iff_eq.mpr c26
    have c26b1 : (t456 != t452) = false := bne_eq_false_iff_eq.mpr c26
    clear c26
    by_cases c27 : t452 = 1
    ·rw [if_pos c27] at H
     have c27b0 : (t452 == 1) = true := beq_iff_eq.mpr c27
     have c27b1 : (t452 != 1) = false := bne_eq_false_iff_eq.mpr c27
     clear c27
     obtain rfl := Option.some.inj H
     go_wp2_with (first | (go_at_call 72; (with_reducible refine (spec_DrawMove.calls kj4 _ _ l0 t445 t446 t447 t448 _ ?side1 ?side2 A23.out).mono ?_); (case side1 => repeat (first | exact (Kd.qp1 HR0.out HB.out) | (with_reducible refine Kd.qu0 ?_ _) | (with_reducible refine Kd.qt0 ?_ _) | (with_reducible refine Kd.qy0 ?_))); (case side2 => exact HC0.out); rintro e w28 ⟨v449, rfl, ho0, hb⟩; have n0_ := Aside0.mk (Kd.qb1 ho0 (ql0 (by repeat (first | (with_reducible first | exact HB.out | apply qc0 | apply qa0 | apply qb0) | exact HB.out)))); have n1_ := Aside0.mk (qk0 (by repeat (first | (with_reducible first | exact HB.out | apply qc0 | apply qa0 | apply qb0) | exact HB.out)) hb); clear HB; have HO450 := n0_; have HB := n1_; clear n0_ n1_; (try clear hb); (try clear hb2); (try clear hk); (try clear hi); (try clear ho0); obtain ⟨Ao29, co29, eo29⟩ := Kd.qe1 HO450.out; subst eo29) | (go_at_call 73; (with_reducible refine (spec_Move.calls kj4 _ _ t445 t446 t447 t448 t451 t452 _ ?side1 ?side2 A24.out).mono ?_); (case side1 => repeat (first | exact (Kd.qf0 HO450.out).2.2 | (with_reducible refine Kd.qu0 ?_ _) | (with_reducible refine Kd.qt0 ?_ _) | (with_reducible refine Kd.qy0 ?_))); (case side2 => exact (Kd.qf0 HO450.out).2.1); rintro e w30 ⟨v453, rfl, ho0, hb⟩; have n0_ := Aside0.mk (Kd.qd1 (by (with_reducible repeat (first | apply Kd.qi0 | apply Kd.qh0 | apply Kd.qj0)); exact HO450.out) (Kd.qj1 ho0) hb); have n1_ := Aside0.mk (Kd.qb1 (Kd.qi1 ho0 (Kd.R_lt (by (with_reducible repeat (first | apply Kd.qi0 | apply Kd.qh0 | apply Kd.qj0)); exact HO450.out))) (ql0 (by repeat (first | (with_reducible first | exact HB.out | apply qc0 | apply qa0 | apply qb0) | exact HB.out)))); have n2_ := Aside0.mk (qk0 (by repeat (first | (with_reducible first | exact HB.out | apply qc0 | apply qa0 | apply qb0) | exact HB.out)) hb); clear HO450; clear HB; have HO450 := n0_; have HO454 := n1_; have HB := n2_; clear n0_ n1_ n2_; (try clear hb); (try clear hb2); (try clear hk); (try clear hi); (try clear ho0)) | (go_at_call 71; (with_reducible refine (impl_Move.calls kj4 _ _ t445 t446 t447 t448 t455 t456 _ ?side1 ?side2 A25.out).mono ?_); (case side1 => repeat (first | exact (Kd.qf0 HO450.out).2.2 | (with_reducible refine Kd.qu0 ?_ _) | (with_reducible refine Kd.qt0 ?_ _) | (with_reducible refine Kd.qy0 ?_))); (case side2 => exact (Kd.qf0 HO450.out).2.1); rintro e w31 ⟨v457, rfl, ho0, hb⟩; have n0_ := Aside0.mk (Kd.qd1 (by (with_reducible repeat (first | apply Kd.qi0 | apply Kd.qh0 | apply Kd.qj0)); exact HO450.out) (Kd.qj1 ho0) hb); have n1_ := Aside0.mk (Kd.qd1 (by (with_reducible repeat (first | apply Kd.qi0 | apply Kd.qh0 | apply Kd.qj0)); exact HO454.out) (Kd.qj1 ho0) hb); have n2_ := Aside0.mk (Kd.qb1 (Kd.qi1 (Kd.qi1 ho0 (Kd.R_lt (by (with_reducible repeat (first | apply Kd.qi0 | apply Kd.qh0 | apply Kd.qj0)); exact HO450.out))) (Kd.R_lt (by (with_reducible repeat (first | apply Kd.qi0 | apply Kd.qh0 | apply Kd.qj0)); exact HO454.out))) (ql0 (by repeat (first | (with_reducible first | exact HB.out | apply qc0 | apply qa0 | apply qb0) | exact HB.out)))); have n3_ := Aside0.mk (qk0 (by repeat (first | (with_reducible first | exact HB.out | apply qc0 | apply qa0 | apply qb0) | exact HB.out)) hb); clear HO450; clear HO454; clear HB; have HO450 := n0_; have HO454 := n1_; have HO458 := n2_; have HB := n3_; clear n0_ n1_ n2_ n3_; (try clear hb); (try clear hb2); (try clear hk); (try clear hi); (try clear ho0); obtain ⟨Ao32, co32, eo32⟩ := Kd.qe1 HO458.out; subst eo32))
     repeat (go_quiet (first | (go_at_call 72; (with_reducible refine (spec_DrawMove.calls kj4 _ _ l0 t445 t446 t447 t448 _ ?side1 ?side2 A23.out).mono ?_); (case side1 => repeat (first | exact (Kd.qp1 HR0.out HB.out) | (with_reducible refine Kd.qu0 ?_ _) | (with_reducible refine Kd.qt0 ?_ _) | (with_reducible refine Kd.qy0 ?_))); (case side2 => exact HC0.out); rintro e w28 ⟨v449, rfl, ho0, hb⟩; have n0_ := Aside0.mk (Kd.qb1 ho0 (ql0 (by repeat (first | (with_reducible first | exact HB.out | apply qc0 | apply qa0 | apply qb0) | exact HB.out)))); have n1_ := Aside0.mk (qk0 (by repeat (first | (with_reducible first | exact HB.out | apply qc0 | apply qa0 | apply qb0) | exact HB.out)) hb); clear HB; have HO450 := n0_; have HB := n1_; clear n0_ n1_; (try clear hb); (try clear hb2); (try clear hk); (try clear hi); (try clear ho0); obtain ⟨Ao29, co29, eo29⟩ := Kd.qe1 HO450.out; subst eo29) | (go_at_call 73; (with_reducible refine (spec_Move.calls kj4 _ _ t445 t446 t447 t448 t451 t452 _ ?side1 ?side2 A24.out).mono ?_); (case side1 => repeat (first | exact (Kd.qf0 HO450.out).2.2 | (with_reducible refine Kd.qu0 ?_ _) | (with_reducible refine Kd.qt0 ?_ _) | (with_reducible refine Kd.qy0 ?_))); (case side2 => exact (Kd.qf0 HO450.out).2.1); rintro e w30 ⟨v453, rfl, ho0, hb⟩; have n0_ := Aside0.mk (Kd.qd1 (by (with_reducible repeat (first | apply Kd.qi0 | apply Kd.qh0 | apply Kd.qj0)); exact HO450.out) (Kd.qj1 ho0) hb); have n1_ := Aside0.mk (Kd.qb1 (Kd.qi1 ho0 (Kd.R_lt (by (with_reducible repeat (first | apply Kd.qi0 | apply Kd.qh0 | apply Kd.qj0)); exact HO450.out))) (ql0 (by repeat (first | (with_reducible first | exact HB.out | apply qc0 | apply qa0 | apply qb0) | exact HB.out)))); have n2_ := Aside0.mk (qk0 (by repeat (first | (with_reducible first | exact HB.out | apply qc0 | apply qa0 | apply qb0) | exact HB.out)) hb); clear HO450; clear HB; have HO450 := n0_; have HO454 := n1_; have HB := n2_; clear n0_ n1_ n2_; (try clear hb); (try clear hb2); (try clear hk); (try clear hi); (try clear ho0)) | (go_at_call 71; (with_reducible refine (impl_Move.calls kj4 _ _ t445 t446 t447 t448 t455 t456 _ ?side1 ?side2 A25.out).mono ?_); (case side1 => repeat (first | exact (Kd.qf0 HO450.out).2.2 | (with_reducible refine Kd.qu0 ?_ _) | (with_reducible refine Kd.qt0 ?_ _) | (with_reducible refine Kd.qy0 ?_))); (case side2 => exact (Kd.qf0 HO450.out).2.1); rintro e w31 ⟨v457, rfl, ho0, hb⟩; have n0_ := Aside0.mk (Kd.qd1 (by (with_reducible repeat (first | apply Kd.qi0 | apply Kd.qh0 | apply Kd.qj0)); exact HO450.out) (Kd.qj1 ho0) hb); have n1_ := Aside0.mk (Kd.qd1 (by (with_reducible repeat (first | apply Kd.qi0 | apply Kd.qh0 | apply Kd.qj0)); exact HO454.out) (Kd.qj1 ho0) hb); have n2_ := Aside0.mk (Kd.qb1 (Kd.qi1 (Kd.qi1 ho0 (Kd.R_lt (by (with_reducible repeat (first | apply Kd.qi0 | apply Kd.qh0 | apply Kd.qj0)); exact HO450.out))) (Kd.R_lt (by (with_reducible repeat (first | apply Kd.qi0 | apply Kd.qh0 | apply Kd.qj0)); exact HO454.out))) (ql0 (by repeat (first | (with_reducible first | exact HB.out | apply qc0 | apply qa0 | apply qb0) | exact HB.out)))); have n3_ := Aside0.mk (qk0 (by repeat (first | (with_reducible first | exact HB.out | apply qc0 | apply qa0 | apply qb0) | exact HB.out)) hb); clear HO450; clear HO454; clear HB; have HO450 := n0_; have HO454 := n1_; have HO458 := n2_; have HB := n3_; clear n0_ n1_ n2_ n3_; (try clear hb); (try clear hb2); (try clear hk); (try clear hi); (try clear ho0); obtain ⟨Ao32, co32, eo32⟩ := Kd.qe1 HO458.out; subst eo32)); try go_wp2_with (first | (go_at_call 72; (with_reducible refine (spec_DrawMove.calls kj4 _ _ l0 t445 t446 t447 t448 _ ?side1 ?side2 A23.out).mono ?_); (case side1 => repeat (first | exact (Kd.qp1 HR0.out HB.out) | (with_reducible refine Kd.qu0 ?_ _) | (with_reducible refine Kd.qt0 ?_ _) | (with_reducible refine Kd.qy0 ?_))); (case side2 => exact HC0.out); rintro e w28 ⟨v449, rfl, ho0, hb⟩; have n0_ := Aside0.mk (Kd.qb1 ho0 (ql0 (by repeat (first | (with_reducible first | exact HB.out | apply qc0 | apply qa0 | apply qb0) | exact HB.out)))); have n1_ := Aside0.mk (qk0 (by repeat (first | (with_reducible first | exact HB.out | apply qc0 | apply qa0 | apply qb0) | exact HB.out)) hb); clear HB; have HO450 := n0_; have HB := n1_; clear n0_ n1_; (try clear hb); (try clear hb2); (try clear hk); (try clear hi); (try clear ho0); obtain ⟨Ao29, co29, eo29⟩ := Kd.qe1 HO450.out; subst eo29) | (go_at_call 73; (with_reducible refine (spec_Move.calls kj4 _ _ t445 t446 t447 t448 t451 t452 _ ?side1 ?side2 A24.out).mono ?_); (case side1 => repeat (first | exact (Kd.qf0 HO450.out).2.2 | (with_reducible refine Kd.qu0 ?_ _) | (with_reducible refine Kd.qt0 ?_ _) | (with_reducible refine Kd.qy0 ?_))); (case side2 => exact (Kd.qf0 HO450.out).2.1); rintro e w30 ⟨v453, rfl, ho0, hb⟩; have n0_ := Aside0.mk (Kd.qd1 (by (with_reducible repeat (first | apply Kd.qi0 | apply Kd.qh0 | apply Kd.qj0)); exact HO450.out) (Kd.qj1 ho0) hb); have n1_ := Aside0.mk (Kd.qb1 (Kd.qi1 ho0 (Kd.R_lt (by (with_reducible repeat (first | apply Kd.qi0 | apply Kd.qh0 | apply Kd.qj0)); exact HO450.out))) (ql0 (by repeat (first | (with_reducible first | exact HB.out | apply qc0 | apply qa0 | apply qb0) | exact HB.out)))); have n2_ := Aside0.mk (qk0 (by repeat (first | (with_reducible first | exact HB.out | apply qc0 | apply qa0 | apply qb0) | exact HB.out)) hb); clear HO450; clear HB; have HO450 := n0_; have HO454 := n1_; have HB := n2_; clear n0_ n1_ n2_; (try clear hb); (try clear hb2); (try clear hk); (try clear hi); (try clear ho0)) | (go_at_call 71; (with_reducible refine (impl_Move.calls kj4 _ _ t445 t446 t447 t448 t455 t456 _ ?side1 ?side2 A25.out).mono ?_); (case side1 => repeat (first | exact (Kd.qf0 HO450.out).2.2 | (with_reducible refine Kd.qu0 ?_ _) | (with_reducible refine Kd.qt0 ?_ _) | (with_reducible refine Kd.qy0 ?_))); (case side2 => exact (Kd.qf0 HO450.out).2.1); rintro e w31 ⟨v457, rfl, ho0, hb⟩; have n0_ := Aside0.mk (Kd.qd1 (by (with_reducible repeat (first | apply Kd.qi0 | apply Kd.qh0 | apply Kd.qj0)); exact HO450.out) (Kd.qj1 ho0) hb); have n1_ := Aside0.mk (Kd.qd1 (by (with_reducible repeat (first | apply Kd.qi0 | apply Kd.qh0 | apply Kd.qj0)); exact HO454.out) (Kd.qj1 ho0) hb); have n2_ := Aside0.mk (Kd.qb1 (Kd.qi1 (Kd.qi1 ho0 (Kd.R_lt (by (with_reducible repeat (first | apply Kd.qi0 | apply Kd.qh0 | apply Kd.qj0)); exact HO450.out))) (Kd.R_lt (by (with_reducible repeat (first | apply Kd.qi0 | apply Kd.qh0 | apply Kd.qj0)); exact HO454.out))) (ql0 (by repeat (first | (with_reducible first | exact HB.out | apply qc0 | apply qa0 | apply qb0) | exact HB.out)))); have n3_ := Aside0.mk (qk0 (by repeat (first | (with_reducible first | exact HB.out | apply qc0 | apply qa0 | apply qb0) | exact HB.out)) hb); clear HO450; clear HO454; clear HB; have HO450 := n0_; have HO454 := n1_; have HO458 := n2_; have HB := n3_; clear n0_ n1_ n2_ n3_; (try clear hb); (try clear hb2); (try clear hk); (try clear hi); (try clear ho0); obtain ⟨Ao32, co32, eo32⟩ := Kd.qe1 HO458.out; subst eo32)))
     go_ret
     exact ⟨by first | rfl | (simp [errW_none, errW_some] <;> rfl) | (simp [*, errW_none, errW_some] <;> rfl), by repeat (first | (with_reducible first | exact HB.out | apply qc0 | apply qa0 | apply qb0) | exact HB.out)⟩
    rw [if_neg c27] at H
    have c27b0 : (t452 == 1) = false := beq_eq_false_iff_ne.mpr c27
    have c27b1 : (t452 != 1) = true := bne_iff_ne.mpr c27
    replace H := Option.bind_eq_some_iff.mp H
    obtain ⟨t459, A330, H⟩ := H
    replace H : (if t459 = true then (laws_FnMoved.l0 kj4 t445 t446 t447 t448 t452 t455 0) else (some false)) = some r := H
    have A33 := Aside0.mk A330
    clear A330
    by_cases c34 : t459 = true
    ·subst c34
     have H1 : (laws_FnMoved.l0 kj4 t445 t446 t447 t448 t452 t455 0) = some r := by rw [if_pos rfl] at H; exact H
     clear H
     have H := H1
     clear H1
     have H' := Aside0.mk H
     clear H
     go_wp2_with (first | (go_at_call 72; (with_reducible refine (spec_DrawMove.calls kj4 _ _ l0 t445 t446 t447 t448 _ ?side1 ?side2 A23.out).mono ?_); (case side1 => repeat (first | exact (Kd.qp1 HR0.out HB.out) | (with_reducible refine Kd.qu0 ?_ _) | (with_reducible refine Kd.qt0 ?_ _) | (with_reducible refine Kd.qy0 ?_))); (case side2 => exact HC0.out); rintro e w35 ⟨v449, rfl, ho0, hb⟩; have n0_ := Aside0.mk (Kd.qb1 ho0 (ql0 (by repeat (first | (with_reducible first | exact HB.out | apply qc0 | apply qa0 | apply qb0) | exact HB.out)))); have n1_ := Aside0.mk (qk0 (by repeat (first | (with_reducible first | exact HB.out | apply qc0 | apply qa0 | apply qb0) | exact HB.out)) hb); clear HB; have HO450 := n0_; have HB := n1_; clear n0_ n1_; (try clear hb); (try clear hb2); (try clear hk); (try clear hi); (try clear ho0); obtain ⟨Ao36, co36, eo36⟩ := Kd.qe1 HO450.out; subst eo36) | (go_at_call 73; (with_reducible refine (spec_Move.calls kj4 _ _ t445 t446 t447 t448 t451 t452 _ ?side1 ?side2 A24.out).mono ?_); (case side1 => repeat (first | exact (Kd.qf0 HO450.out).2.2 | (with_reducible refine Kd.qu0 ?_ _) | (with_reducible refine Kd.qt0 ?_ _) | (with_reducible refine Kd.qy0 ?_))); (case side2 => exact (Kd.qf0 HO450.out).2.1); rintro e w37 ⟨v453, rfl, ho0, hb⟩; have n0_ := Aside0.mk (Kd.qd1 (by (with_reducible repeat (first | apply Kd.qi0 | apply Kd.qh0 | apply Kd.qj0)); exact HO450.out) (Kd.qj1 ho0) hb); have n1_ := Aside0.mk (Kd.qb1 (Kd.qi1 ho0 (Kd.R_lt (by (with_reducible repeat (first | apply Kd.qi0 | apply Kd.qh0 | apply Kd.qj0)); exact HO450.out))) (ql0 (by repeat (first | (with_reducible first | exact HB.out | apply qc0 | apply qa0 | apply qb0) | exact HB.out)))); have n2_ := Aside0.mk (qk0 (by repeat (first | (with_reducible first | exact HB.out | apply qc0 | apply qa0 | apply qb0) | exact HB.out)) hb); clear HO450; clear HB; have HO450 := n0_; have HO454 := n1_; have HB := n2_; clear n0_ n1_ n2_; (try clear hb); (try clear hb2); (try clear hk); (try clear hi); (try clear ho0)) | (go_at_call 71; (with_reducible refine (impl_Move.calls kj4 _ _ t445 t446 t447 t448 t455 t456 _ ?side1 ?side2 A25.out).mono ?_); (case side1 => repeat (first | exact (Kd.qf0 HO450.out).2.2 | (with_reducible refine Kd.qu0 ?_ _) | (with_reducible refine Kd.qt0 ?_ _) | (with_reducible refine Kd.qy0 ?_))); (case side2 => exact (Kd.qf0 HO450.out).2.1); rintro e w38 ⟨v457, rfl, ho0, hb⟩; have n0_ := Aside0.mk (Kd.qd1 (by (with_reducible repeat (first | apply Kd.qi0 | apply Kd.qh0 | apply Kd.qj0)); exact HO450.out) (Kd.qj1 ho0) hb); have n1_ := Aside0.mk (Kd.qd1 (by (with_reducible repeat (first | apply Kd.qi0 | apply Kd.qh0 | apply Kd.qj0)); exact HO454.out) (Kd.qj1 ho0) hb); have n2_ := Aside0.mk (Kd.qb1 (Kd.qi1 (Kd.qi1 ho0 (Kd.R_lt (by (with_reducible repeat (first | apply Kd.qi0 | apply Kd.qh0 | apply Kd.qj0)); exact HO450.out))) (Kd.R_lt (by (with_reducible repeat (first | apply Kd.qi0 | apply Kd.qh0 | apply Kd.qj0)); exact HO454.out))) (ql0 (by repeat (first | (with_reducible first | exact HB.out | apply qc0 | apply qa0 | apply qb0) | exact HB.out)))); have n3_ := Aside0.mk (qk0 (by repeat (first | (with_reducible first | exact HB.out | apply qc0 | apply qa0 | apply qb0) | exact HB.out)) hb); clear HO450; clear HO454; clear HB; have HO450 := n0_; have HO454 := n1_; have HO458 := n2_; have HB := n3_; clear n0_ n1_ n2_ n3_; (try clear hb); (try clear hb2); (try clear hk); (try clear hi); (try clear ho0); obtain ⟨Ao39, co39, eo39⟩ := Kd.qe1 HO458.out; subst eo39) | (go_at_call 74; (with_reducible refine (impl_StockOk.calls kj4 _ _ t455 true _ ?side1 ?side2 A33.out).mono ?_); (case side1 => repeat (first | exact (Kd.qf0 HO458.out).2.2 | (with_reducible refine Kd.qu0 ?_ _) | (with_reducible refine Kd.qt0 ?_ _) | (with_reducible refine Kd.qy0 ?_))); (case side2 => exact (Kd.qf0 HO458.out).2.1); rintro e w40 ⟨rfl, hb⟩; have n0_ := Aside0.mk (Kd.qg1 (by (with_reducible repeat (first | apply Kd.qi0 | apply Kd.qh0 | apply Kd.qj0)); exact HO450.out) hb); have n1_ := Aside0.mk (Kd.qg1 (by (with_reducible repeat (first | apply Kd.qi0 | apply Kd.qh0 | apply Kd.qj0)); exact HO454.out) hb); have n2_ := Aside0.mk (Kd.qg1 (by (with_reducible repeat (first | apply Kd.qi0 | apply Kd.qh0 | apply Kd.qj0)); exact HO458.out) hb); have n3_ := Aside0.mk (qk0 (by repeat (first | (with_reducible first | exact HB.out | apply qc0 | apply qa0 | apply qb0) | exact HB.out)) hb); clear HO450; clear HO454; clear HO458; clear HB; have HO450 := n0_; have HO454 := n1_; have HO458 := n2_; have HB := n3_; clear n0_ n1_ n2_ n3_; (try clear hb); (try clear hb2); (try clear hk); (try clear hi)))
     repeat (go_quiet (first | (go_at_call 72; (with_reducible refine (spec_DrawMove.calls kj4 _ _ l0 t445 t446 t447 t448 _ ?side1 ?side2 A23.out).mono ?_); (case side1 => repeat (first | exact (Kd.qp1 HR0.out HB.out) | (with_reducible refine Kd.qu0 ?_ _) | (with_reducible refine Kd.qt0 ?_ _) | (with_reducible refine Kd.qy0 ?_))); (case side2 => exact HC0.out); rintro e w35 ⟨v449, rfl, ho0, hb⟩; have n0_ := Aside0.mk (Kd.qb1 ho0 (ql0 (by repeat (first | (with_reducible first | exact HB.out | apply qc0 | apply qa0 | apply qb0) | exact HB.out)))); have n1_ := Aside0.mk (qk0 (by repeat (first | (with_reducible first | exact HB.out | apply qc0 | apply qa0 | apply qb0) | exact HB.out)) hb); clear HB; have HO450 := n0_; have HB := n1_; clear n0_ n1_; (try clear hb); (try clear hb2); (try clear hk); (try clear hi); (try clear ho0); obtain ⟨Ao36, co36, eo36⟩ := Kd.qe1 HO450.out; subst eo36) | (go_at_call 73; (with_reducible refine (spec_Move.calls kj4 _ _ t445 t446 t447 t448 t451 t452 _ ?side1 ?side2 A24.out).mono ?_); (case side1 => repeat (first | exact (Kd.qf0 HO450.out).2.2 | (with_reducible refine Kd.qu0 ?_ _) | (with_reducible refine Kd.qt0 ?_ _) | (with_reducible refine Kd.qy0 ?_))); (case side2 => exact (Kd.qf0 HO450.out).2.1); rintro e w37 ⟨v453, rfl, ho0, hb⟩; have n0_ := Aside0.mk (Kd.qd1 (by (with_reducible repeat (first | apply Kd.qi0 | apply Kd.qh0 | apply Kd.qj0)); exact HO450.out) (Kd.qj1 ho0) hb); have n1_ := Aside0.mk (Kd.qb1 (Kd.qi1 ho0 (Kd.R_lt (by (with_reducible repeat (first | apply Kd.qi0 | apply Kd.qh0 | apply Kd.qj0)); exact HO450.out))) (ql0 (by repeat (first | (with_reducible first | exact HB.out | apply qc0 | apply qa0 | apply qb0) | exact HB.out)))); have n2_ := Aside0.mk (qk0 (by repeat (first | (with_reducible first | exact HB.out | apply qc0 | apply qa0 | apply qb0) | exact HB.out)) hb); clear HO450; clear HB; have HO450 := n0_; have HO454 := n1_; have HB := n2_; clear n0_ n1_ n2_; (try clear hb); (try clear hb2); (try clear hk); (try clear hi); (try clear ho0)) | (go_at_call 71; (with_reducible refine (impl_Move.calls kj4 _ _ t445 t446 t447 t448 t455 t456 _ ?side1 ?side2 A25.out).mono ?_); (case side1 => repeat (first | exact (Kd.qf0 HO450.out).2.2 | (with_reducible refine Kd.qu0 ?_ _) | (with_reducible refine Kd.qt0 ?_ _) | (with_reducible refine Kd.qy0 ?_))); (case side2 => exact (Kd.qf0 HO450.out).2.1); rintro e w38 ⟨v457, rfl, ho0, hb⟩; have n0_ := Aside0.mk (Kd.qd1 (by (with_reducible repeat (first | apply Kd.qi0 | apply Kd.qh0 | apply Kd.qj0)); exact HO450.out) (Kd.qj1 ho0) hb); have n1_ := Aside0.mk (Kd.qd1 (by (with_reducible repeat (first | apply Kd.qi0 | apply Kd.qh0 | apply Kd.qj0)); exact HO454.out) (Kd.qj1 ho0) hb); have n2_ := Aside0.mk (Kd.qb1 (Kd.qi1 (Kd.qi1 ho0 (Kd.R_lt (by (with_reducible repeat (first | apply Kd.qi0 | apply Kd.qh0 | apply Kd.qj0)); exact HO450.out))) (Kd.R_lt (by (with_reducible repeat (first | apply Kd.qi0 | apply Kd.qh0 | apply Kd.qj0)); exact HO454.out))) (ql0 (by repeat (first | (with_reducible first | exact HB.out | apply qc0 | apply qa0 | apply qb0) | exact HB.out)))); have n3_ := Aside0.mk (qk0 (by repeat (first | (with_reducible first | exact HB.out | apply qc0 | apply qa0 | apply qb0) | exact HB.out)) hb); clear HO450; clear HO454; clear HB; have HO450 := n0_; have HO454 := n1_; have HO458 := n2_; have HB := n3_; clear n0_ n1_ n2_ n3_; (try clear hb); (try clear hb2); (try clear hk); (try clear hi); (try clear ho0); obtain ⟨Ao39, co39, eo39⟩ := Kd.qe1 HO458.out; subst eo39) | (go_at_call 74; (with_reducible refine (impl_StockOk.calls kj4 _ _ t455 true _ ?side1 ?side2 A33.out).mono ?_); (case side1 => repeat (first | exact (Kd.qf0 HO458.out).2.2 | (with_reducible refine Kd.qu0 ?_ _) | (with_reducible refine Kd.qt0 ?_ _) | (with_reducible refine Kd.qy0 ?_))); (case side2 => exact (Kd.qf0 HO458.out).2.1); rintro e w40 ⟨rfl, hb⟩; have n0_ := Aside0.mk (Kd.qg1 (by (with_reducible repeat (first | apply Kd.qi0 | apply Kd.qh0 | apply Kd.qj0)); exact HO450.out) hb); have n1_ := Aside0.mk (Kd.qg1 (by (with_reducible repeat (first | apply Kd.qi0 | apply Kd.qh0 | apply Kd.qj0)); exact HO454.out) hb); have n2_ := Aside0.mk (Kd.qg1 (by (with_reducible repeat (first | apply Kd.qi0 | apply Kd.qh0 | apply Kd.qj0)); exact HO458.out) hb); have n3_ := Aside0.mk (qk0 (by repeat (first | (with_reducible first | exact HB.out | apply qc0 | apply qa0 | apply qb0) | exact HB.out)) hb); clear HO450; clear HO454; clear HO458; clear HB; have HO450 := n0_; have HO454 := n1_; have HO458 := n2_; have HB := n3_; clear n0_ n1_ n2_ n3_; (try clear hb); (try clear hb2); (try clear hk); (try clear hi))); try go_wp2_with (first | (go_at_call 72; (with_reducible refine (spec_DrawMove.calls kj4 _ _ l0 t445 t446 t447 t448 _ ?side1 ?side2 A23.out).mono ?_); (case side1 => repeat (first | exact (Kd.qp1 HR0.out HB.out) | (with_reducible refine Kd.qu0 ?_ _) | (with_reducible refine Kd.qt0 ?_ _) | (with_reducible refine Kd.qy0 ?_))); (case side2 => exact HC0.out); rintro e w35 ⟨v449, rfl, ho0, hb⟩; have n0_ := Aside0.mk (Kd.qb1 ho0 (ql0 (by repeat (first | (with_reducible first | exact HB.out | apply qc0 | apply qa0 | apply qb0) | exact HB.out)))); have n1_ := Aside0.mk (qk0 (by repeat (first | (with_reducible first | exact HB.out | apply qc0 | apply qa0 | apply qb0) | exact HB.out)) hb); clear HB; have HO450 := n0_; have HB := n1_; clear n0_ n1_; (try clear hb); (try clear hb2); (try clear hk); (try clear hi); (try clear ho0); obtain ⟨Ao36, co36, eo36⟩ := Kd.qe1 HO450.out; subst eo36) | (go_at_call 73; (with_reducible refine (spec_Move.calls kj4 _ _ t445 t446 t447 t448 t451 t452 _ ?side1 ?side2 A24.out).mono ?_); (case side1 => repeat (first | exact (Kd.qf0 HO450.out).2.2 | (with_reducible refine Kd.qu0 ?_ _) | (with_reducible refine Kd.qt0 ?_ _) | (with_reducible refine Kd.qy0 ?_))); (case side2 => exact (Kd.qf0 HO450.out).2.1); rintro e w37 ⟨v453, rfl, ho0, hb⟩; have n0_ := Aside0.mk (Kd.qd1 (by (with_reducible repeat (first | apply Kd.qi0 | apply Kd.qh0 | apply Kd.qj0)); exact HO450.out) (Kd.qj1 ho0) hb); have n1_ := Aside0.mk (Kd.qb1 (Kd.qi1 ho0 (Kd.R_lt (by (with_reducible repeat (first | apply Kd.qi0 | apply Kd.qh0 | apply Kd.qj0)); exact HO450.out))) (ql0 (by repeat (first | (with_reducible first | exact HB.out | apply qc0 | apply qa0 | apply qb0) | exact HB.out)))); have n2_ := Aside0.mk (qk0 (by repeat (first | (with_reducible first | exact HB.out | apply qc0 | apply qa0 | apply qb0) | exact HB.out)) hb); clear HO450; clear HB; have HO450 := n0_; have HO454 := n1_; have HB := n2_; clear n0_ n1_ n2_; (try clear hb); (try clear hb2); (try clear hk); (try clear hi); (try clear ho0)) | (go_at_call 71; (with_reducible refine (impl_Move.calls kj4 _ _ t445 t446 t447 t448 t455 t456 _ ?side1 ?side2 A25.out).mono ?_); (case side1 => repeat (first | exact (Kd.qf0 HO450.out).2.2 | (with_reducible refine Kd.qu0 ?_ _) | (with_reducible refine Kd.qt0 ?_ _) | (with_reducible refine Kd.qy0 ?_))); (case side2 => exact (Kd.qf0 HO450.out).2.1); rintro e w38 ⟨v457, rfl, ho0, hb⟩; have n0_ := Aside0.mk (Kd.qd1 (by (with_reducible repeat (first | apply Kd.qi0 | apply Kd.qh0 | apply Kd.qj0)); exact HO450.out) (Kd.qj1 ho0) hb); have n1_ := Aside0.mk (Kd.qd1 (by (with_reducible repeat (first | apply Kd.qi0 | apply Kd.qh0 | apply Kd.qj0)); exact HO454.out) (Kd.qj1 ho0) hb); have n2_ := Aside0.mk (Kd.qb1 (Kd.qi1 (Kd.qi1 ho0 (Kd.R_lt (by (with_reducible repeat (first | apply Kd.qi0 | apply Kd.qh0 | apply Kd.qj0)); exact HO450.out))) (Kd.R_lt (by (with_reducible repeat (first | apply Kd.qi0 | apply Kd.qh0 | apply Kd.qj0)); exact HO454.out))) (ql0 (by repeat (first | (with_reducible first | exact HB.out | apply qc0 | apply qa0 | apply qb0) | exact HB.out)))); have n3_ := Aside0.mk (qk0 (by repeat (first | (with_reducible first | exact HB.out | apply qc0 | apply qa0 | apply qb0) | exact HB.out)) hb); clear HO450; clear HO454; clear HB; have HO450 := n0_; have HO454 := n1_; have HO458 := n2_; have HB := n3_; clear n0_ n1_ n2_ n3_; (try clear hb); (try clear hb2); (try clear hk); (try clear hi); (try clear ho0); obtain ⟨Ao39, co39, eo39⟩ := Kd.qe1 HO458.out; subst eo39) | (go_at_call 74; (with_reducible refine (impl_StockOk.calls kj4 _ _ t455 true _ ?side1 ?side2 A33.out).mono ?_); (case side1 => repeat (first | exact (Kd.qf0 HO458.out).2.2 | (with_reducible refine Kd.qu0 ?_ _) | (with_reducible refine Kd.qt0 ?_ _) | (with_reducible refine Kd.qy0 ?_))); (case side2 => exact (Kd.qf0 HO458.out).2.1); rintro e w40 ⟨rfl, hb⟩; have n0_ := Aside0.mk (Kd.qg1 (by (with_reducible repeat (first | apply Kd.qi0 | apply Kd.qh0 | apply Kd.qj0)); exact HO450.out) hb); have n1_ := Aside0.mk (Kd.qg1 (by (with_reducible repeat (first | apply Kd.qi0 | apply Kd.qh0 | apply Kd.qj0)); exact HO454.out) hb); have n2_ := Aside0.mk (Kd.qg1 (by (with_reducible repeat (first | apply Kd.qi0 | apply Kd.qh0 | apply Kd.qj0)); exact HO458.out) hb); have n3_ := Aside0.mk (qk0 (by repeat (first | (with_reducible first | exact HB.out | apply qc0 | apply qa0 | apply qb0) | exact HB.out)) hb); clear HO450; clear HO454; clear HO458; clear HB; have HO450 := n0_; have HO454 := n1_; have HO458 := n2_; have HB := n3_; clear n0_ n1_ n2_ n3_; (try clear hb); (try clear hb2); (try clear hk); (try clear hi))))
     go_loopg [13] kj4 (fun kq v13 w' => ∃ (x13_2 : Int), v13 = .int .i64 x13_2 ∧ Aside0 (laws_FnMoved.l0 kq t445 t446 t447 t448 t452 t455 x13_2 = some r) ∧ Aside0 (kq ≤ kj4) ∧ Aside0 (Kd.R k117 117 w' w.heap.size (fun k_ => some k_ ≠ ((.slice Ao39 t455.length co39) : Value).ownBlock) (.slice Ao36 t445.length co36) t445) ∧ Aside0 (Kd.R k117 117 w' w.heap.size (fun k_ => some k_ ≠ ((.slice Ao36 t445.length co36) : Value).ownBlock) (.slice Ao39 t455.length co39) t455) ∧ Aside0 (Below w.heap.size w w'))
     case atStart => exact ⟨(0), (by first | rfl | (simp; done) | (simp [*]; done)), H', ⟨Nat.le_refl _⟩, ⟨by (with_reducible repeat (first | apply Kd.qi0 | apply Kd.qh0 | apply Kd.qj0)); exact Kd.qv0 HO450.out (fun _ hk => hk.2)⟩, ⟨by (with_reducible repeat (first | apply Kd.qi0 | apply Kd.qh0 | apply Kd.qj0)); exact Kd.qv0 HO458.out (fun _ hk => hk.1.2)⟩, ⟨by repeat (first | (with_reducible first | exact HB.out | apply qc0 | apply qa0 | apply qb0) | exact HB.out)⟩⟩
     case round => as_aux_lemma =>
      clear H'
      try clear c1
      try clear c2
      try clear p2
      try clear c3
      try clear p4
      try clear q4
      try clear hx4
      try clear qi4
      try clear c6
      try clear c10
      try clear c10b0
      try clear c10b1
      try clear c11
      try clear c11b0
      try clear c11b1
      try clear c12
      try clear c12b0
      try clear c12b1
      try clear c13
      try clear c13b0
      try clear c13b1
      try clear c14
      try clear c14b0
      try clear c14b1
      try clear c15
      try clear c15b0
      try clear c15b1
      try clear c16
      try clear c16b0
      try clear c16b1
      try clear c22
      try clear c26
      try clear c26b0
      try clear c26b1
      try clear c27
      try clear c27b0
      try clear c27b1
      try clear c34
      try clear hx441_0
      try clear hx441_1
      try clear hx441_2
      try clear hx441_3
      try clear hx441_4
      try clear hx441_5
      try clear hx442_0
      try clear hx442_1
      try clear hx442_2
      try clear hx442_3
      try clear hx442_4
      try clear hx442_5
      try clear hx443_0
      try clear hx443_1
      try clear hx443_2
      try clear hx443_3
      try clear hx443_4
      try clear hx443_5
      try clear hx444_0
      try clear hx444_1
      try clear hx444_2
      try clear hx444_3
      try clear hx444_4
      try clear hx444_5
      try clear p2
      try clear p4
      try clear p441
      try clear p442
      try clear p443
      try clear p444
      try clear q4
      try clear q441
      try clear q442
      try clear q443
      try clear q444
      obtain ⟨x13_2, rfl, HA, HK2, HO_5, HO_11, HB⟩ := hrel
      cases gk with
      | zero => exact absurd HA.out (by simp [laws_FnMoved.l0])
      | succ k2 =>
       have H := HA.out
       clear HA
       simp only [laws_FnMoved.l0] at H
       by_cases c41 : x13_2 < (t445.length : Int)
       ·rw [if_pos c41] at H
        have c41b0 : decide (x13_2 < (t445.length : Int)) = true := decide_eq_true c41
        clear c41
        by_cases c42 : 0 ≤ x13_2
        case neg => rw [if_neg c42] at H; exact absurd H (by simp)
        rw [if_pos c42] at H
        have c42b0 : decide (0 ≤ x13_2) = true := decide_eq_true c42
        clear c42
        replace H := Option.bind_eq_some_iff.mp H
        obtain ⟨⟨t461, t462⟩, A430, H⟩ := H
        replace H : ((laws_cellSum.f k2 t455 ((rd_T117 t445 x13_2).f0)).bind fun bt464 => (if t461 = bt464.1 then (if t462 = bt464.2 then (if t452 = 0 then (laws_FnMoved.l0 k2 t445 t446 t447 t448 t452 t455 (wrap64 (x13_2 + 1))) else (if x13_2 < (t455.length : Int) then (if (!((((rd_T117 t455 x13_2).f0).toList) == (((rd_T117 t445 x13_2).f0).toList)) || (!((((rd_T117 t455 x13_2).f1).toList) == (((rd_T117 t445 x13_2).f1).toList)) || (!((((rd_T117 t455 x13_2).f2).toList) == (((rd_T117 t445 x13_2).f2).toList)) || (!(((rd_T117 t455 x13_2).f3) == ((rd_T117 t445 x13_2).f3)) || (!(((rd_T117 t455 x13_2).f4) == ((rd_T117 t445 x13_2).f4)) || (!(((rd_T117 t455 x13_2).f5) == ((rd_T117 t445 x13_2).f5)))))))) = true then (some false) else (laws_FnMoved.l0 k2 t445 t446 t447 t448 t452 t455 (wrap64 (x13_2 + 1)))) else (none))) else (some false)) else (some false))) = some r := H
        have A43 := Aside0.mk A430
        clear A430
        replace H := Option.bind_eq_some_iff.mp H
        obtain ⟨⟨t464, t465⟩, A440, H⟩ := H
        replace H : (if t461 = t464 then (if t462 = t465 then (if t452 = 0 then (laws_FnMoved.l0 k2 t445 t446 t447 t448 t452 t455 (wrap64 (x13_2 + 1))) else (if x13_2 < (t455.length : Int) then (if (!((((rd_T117 t455 x13_2).f0).toList) == (((rd_T117 t445 x13_2).f0).toList)) || (!((((rd_T117 t455 x13_2).f1).toList) == (((rd_T117 t445 x13_2).f1).toList)) || (!((((rd_T117 t455 x13_2).f2).toList) == (((rd_T117 t445 x13_2).f2).toList)) || (!(((rd_T117 t455 x13_2).f3) == ((rd_T117 t445 x13_2).f3)) || (!(((rd_T117 t455 x13_2).f4) == ((rd_T117 t445 x13_2).f4)) || (!(((rd_T117 t455 x13_2).f5) == ((rd_T117 t445 x13_2).f5)))))))) = true then (some false) else (laws_FnMoved.l0 k2 t445 t446 t447 t448 t452 t455 (wrap64 (x13_2 + 1)))) else (none))) else (some false)) else (some false)) = some r := H
        have A44 := Aside0.mk A440
        clear A440
        by_cases c45 : t461 = t464
        ·rw [if_pos c45] at H
         have c45b0 : (t461 == t464) = true := beq_iff_eq.mpr c45
         have c45b1 : (t461 != t464) = false := bne_eq_false_iff_eq.mpr c45
         clear c45
         by_cases c46 : t462 = t465
         ·rw [if_pos c46] at H
          have c46b0 : (t462 == t465) = true := beq_iff_eq.mpr c46
          have c46b1 : (t462 != t465) = false := bne_eq_false_iff_eq.mpr c46
          clear c46
          by_cases c47 : t452 = 0
          ·rw [if_pos c47] at H
           have c47b0 : (t452 == 0) = true := beq_iff_eq.mpr c47
           have c47b1 : (t452 != 0) = false := bne_eq_false_iff_eq.mpr c47
           clear c47
           have H' := Aside0.mk H
           clear H
           have p460 : 0 ≤ (x13_2 : Int) := of_decide_eq_true (by first | (with_reducible assumption) | assumption)
           have q460 : x13_2 < (t445.length : Int) := of_decide_eq_true (by first | (with_reducible assumption) | assumption)
           obtain ⟨ad460, e460, hx460_0, hx460_1, hx460_2, hx460_3, hx460_4, hx460_5⟩ := at_T117 (Kd.qf0 HO_5.out).2.2 x13_2 p460 q460
           cases e460
           replace p460 := eq_true p460
           replace q460 := eq_true q460
           go_wp2_with (first | (go_at_call 75; (with_reducible refine (laws_cellSum.calls k2 _ _ t445 ((rd_T117 t445 x13_2).f0) t461 t462 _ ?side1 ?side2 A43.out).mono ?_); (case side1 => repeat (first | exact (Kd.qf0 HO_5.out).2.2 | (with_reducible refine Kd.qu0 ?_ _) | (with_reducible refine Kd.qt0 ?_ _) | (with_reducible refine Kd.qy0 ?_))); (case side2 => exact (Kd.qf0 HO_5.out).2.1); rintro e w' ⟨rfl, ⟨nd, rfl⟩⟩; (try first | exact ⟨rfl, _, World.drewN_drewN _ _ _⟩ | exact ⟨rfl, _, Eq.trans (World.drewN_drewN _ _ _) (congrArg (World.drewN _) (Nat.add_assoc _ _ _))⟩); have p463 : 0 ≤ (x13_2 : Int) := of_decide_eq_true (by first | (with_reducible assumption) | assumption); have q463 : x13_2 < (t445.length : Int) := of_decide_eq_true (by first | (with_reducible assumption) | assumption); obtain ⟨ad463, e463, hx463_0, hx463_1, hx463_2, hx463_3, hx463_4, hx463_5⟩ := at_T117 (Kd.qf0 HO_5.out).2.2 x13_2 p463 q463; obtain rfl : ad460 = ad463 := (by injection e463); replace p463 := eq_true p463; replace q463 := eq_true q463) | (go_at_call 75; (with_reducible refine (laws_cellSum.calls k2 _ _ t455 ((rd_T117 t445 x13_2).f0) t464 t465 _ ?side1 ?side2 A44.out).mono ?_); (case side1 => repeat (first | exact (Kd.qf0 HO_11.out).2.2 | (with_reducible refine Kd.qu0 ?_ _) | (with_reducible refine Kd.qt0 ?_ _) | (with_reducible refine Kd.qy0 ?_))); (case side2 => exact (Kd.qf0 HO_11.out).2.1); rintro e w' ⟨rfl, ⟨nd, rfl⟩⟩; (try first | exact ⟨rfl, _, World.drewN_drewN _ _ _⟩ | exact ⟨rfl, _, Eq.trans (World.drewN_drewN _ _ _) (congrArg (World.drewN _) (Nat.add_assoc _ _ _))⟩)))
           repeat (go_quiet (first | (go_at_call 75; (with_reducible refine (laws_cellSum.calls k2 _ _ t445 ((rd_T117 t445 x13_2).f0) t461 t462 _ ?side1 ?side2 A43.out).mono ?_); (case side1 => repeat (first | exact (Kd.qf0 HO_5.out).2.2 | (with_reducible refine Kd.qu0 ?_ _) | (with_reducible refine Kd.qt0 ?_ _) | (with_reducible refine Kd.qy0 ?_))); (case side2 => exact (Kd.qf0 HO_5.out).2.1); rintro e w' ⟨rfl, ⟨nd, rfl⟩⟩; (try first | exact ⟨rfl, _, World.drewN_drewN _ _ _⟩ | exact ⟨rfl, _, Eq.trans (World.drewN_drewN _ _ _) (congrArg (World.drewN _) (Nat.add_assoc _ _ _))⟩); have p463 : 0 ≤ (x13_2 : Int) := of_decide_eq_true (by first | (with_reducible assumption) | assumption); have q463 : x13_2 < (t445.length : Int) := of_decide_eq_true (by first | (with_reducible assumption) | assumption); obtain ⟨ad463, e463, hx463_0, hx463_1, hx463_2, hx463_3, hx463_4, hx463_5⟩ := at_T117 (Kd.qf0 HO_5.out).2.2 x13_2 p463 q463; obtain rfl : ad460 = ad463 := (by injection e463); replace p463 := eq_true p463; replace q463 := eq_true q463) | (go_at_call 75; (with_reducible refine (laws_cellSum.calls k2 _ _ t455 ((rd_T117 t445 x13_2).f0) t464 t465 _ ?side1 ?side2 A44.out).mono ?_); (case side1 => repeat (first | exact (Kd.qf0 HO_11.out).2.2 | (with_reducible refine Kd.qu0 ?_ _) | (with_reducible refine Kd.qt0 ?_ _) | (with_reducible refine Kd.qy0 ?_))); (case side2 => exact (Kd.qf0 HO_11.out).2.1); rintro e w' ⟨rfl, ⟨nd, rfl⟩⟩; (try first | exact ⟨rfl, _, World.drewN_drewN _ _ _⟩ | exact ⟨rfl, _, Eq.trans (World.drewN_drewN _ _ _) (congrArg (World.drewN _) (Nat.add_assoc _ _ _))⟩))); try go_wp2_with (first | (go_at_call 75; (with_reducible refine (laws_cellSum.calls k2 _ _ t445 ((rd_T117 t445 x13_2).f0) t461 t462 _ ?side1 ?side2 A43.out).mono ?_); (case side1 => repeat (first | exact (Kd.qf0 HO_5.out).2.2 | (with_reducible refine Kd.qu0 ?_ _) | (with_reducible refine Kd.qt0 ?_ _) | (with_reducible refine Kd.qy0 ?_))); (case side2 => exact (Kd.qf0 HO_5.out).2.1); rintro e w' ⟨rfl, ⟨nd, rfl⟩⟩; (try first | exact ⟨rfl, _, World.drewN_drewN _ _ _⟩ | exact ⟨rfl, _, Eq.trans (World.drewN_drewN _ _ _) (congrArg (World.drewN _) (Nat.add_assoc _ _ _))⟩); have p463 : 0 ≤ (x13_2 : Int) := of_decide_eq_true (by first | (with_reducible assumption) | assumption); have q463 : x13_2 < (t445.length : Int) := of_decide_eq_true (by first | (with_reducible assumption) | assumption); obtain ⟨ad463, e463, hx463_0, hx463_1, hx463_2, hx463_3, hx463_4, hx463_5⟩ := at_T117 (Kd.qf0 HO_5.out).2.2 x13_2 p463 q463; obtain rfl : ad460 = ad463 := (by injection e463); replace p463 := eq_true p463; replace q463 := eq_true q463) | (go_at_call 75; (with_reducible refine (laws_cellSum.calls k2 _ _ t455 ((rd_T117 t445 x13_2).f0) t464 t465 _ ?side1 ?side2 A44.out).mono ?_); (case side1 => repeat (first | exact (Kd.qf0 HO_11.out).2.2 | (with_reducible refine Kd.qu0 ?_ _) | (with_reducible refine Kd.qt0 ?_ _) | (with_reducible refine Kd.qy0 ?_))); (case side2 => exact (Kd.qf0 HO_11.out).2.1); rintro e w' ⟨rfl, ⟨nd, rfl⟩⟩; (try first | exact ⟨rfl, _, World.drewN_drewN _ _ _⟩ | exact ⟨rfl, _, Eq.trans (World.drewN_drewN _ _ _) (congrArg (World.drewN _) (Nat.add_assoc _ _ _))⟩))))
           go_roundg k2
           case measure => have := HJ4.out; have := HK2.out; omega
           case rel => exact ⟨(wrap64 (x13_2 + 1)), (by first | rfl | (simp; done) | (simp [*]; done)), H', ⟨by have := HJ4.out; have := HK2.out; omega⟩, ⟨by (with_reducible repeat (first | apply Kd.qi0 | apply Kd.qh0 | apply Kd.qj0)); exact HO_5.out⟩, ⟨by (with_reducible repeat (first | apply Kd.qi0 | apply Kd.qh0 | apply Kd.qj0)); exact HO_11.out⟩, ⟨by repeat (first | (with_reducible first | exact HB.out | apply qc0 | apply qa0 | apply qb0) | exact HB.out)⟩⟩
          rw [if_neg c47] at H
          have c47b0 : (t452 == 0) = false := beq_eq_false_iff_ne.mpr c47
          have c47b1 : (t452 != 0) = true := bne_iff_ne.mpr c47
          by_cases c48 : x13_2 < (t455.length : Int)
          case neg => rw [if_neg c48] at H; exact absurd H (by simp)
          rw [if_pos c48] at H
          have c48b0 : decide (x13_2 < (t455.length : Int)) = true := decide_eq_true c48
          clear c48
          by_cases c49 : (!((((rd_T117 t455 x13_2).f0).toList) == (((rd_T117 t445 x13_2).f0).toList)) || (!((((rd_T117 t455 x13_2).f1).toList) == (((rd_T117 t445 x13_2).f1).toList)) || (!((((rd_T117 t455 x13_2).f2).toList) == (((rd_T117 t445 x13_2).f2).toList)) || (!(((rd_T117 t455 x13_2).f3) == ((rd_T117 t445 x13_2).f3)) || (!(((rd_T117 t455 x13_2).f4) == ((rd_T117 t445 x13_2).f4)) || (!(((rd_T117 t455 x13_2).f5) == ((rd_T117 t445 x13_2).f5)))))))) = true
          ·rw [if_pos c49] at H
           have c49b0 : (!((((rd_T117 t455 x13_2).f0).toList) == (((rd_T117 t445 x13_2).f0).toList)) || (!((((rd_T117 t455 x13_2).f1).toList) == (((rd_T117 t445 x13_2).f1).toList)) || (!((((rd_T117 t455 x13_2).f2).toList) == (((rd_T117 t445 x13_2).f2).toList)) || (!(((rd_T117 t455 x13_2).f3) == ((rd_T117 t445 x13_2).f3)) || (!(((rd_T117 t455 x13_2).f4) == ((rd_T117 t445 x13_2).f4)) || (!(((rd_T117 t455 x13_2).f5) == ((rd_T117 t445 x13_2).f5)))))))) = true := c49
           clear c49
           obtain rfl := Option.some.inj H
           have p460 : 0 ≤ (x13_2 : Int) := of_decide_eq_true (by first | (with_reducible assumption) | assumption)
           have q460 : x13_2 < (t445.length : Int) := of_decide_eq_true (by first | (with_reducible assumption) | assumption)
           obtain ⟨ad460, e460, hx460_0, hx460_1, hx460_2, hx460_3, hx460_4, hx460_5⟩ := at_T117 (Kd.qf0 HO_5.out).2.2 x13_2 p460 q460
           cases e460
           replace p460 := eq_true p460
           replace q460 := eq_true q460
           go_wp2_with (first | (go_at_call 75; (with_reducible refine (laws_cellSum.calls k2 _ _ t445 ((rd_T117 t445 x13_2).f0) t461 t462 _ ?side1 ?side2 A43.out).mono ?_); (case side1 => repeat (first | exact (Kd.qf0 HO_5.out).2.2 | (with_reducible refine Kd.qu0 ?_ _) | (with_reducible refine Kd.qt0 ?_ _) | (with_reducible refine Kd.qy0 ?_))); (case side2 => exact (Kd.qf0 HO_5.out).2.1); rintro e w' ⟨rfl, ⟨nd, rfl⟩⟩; (try first | exact ⟨rfl, _, World.drewN_drewN _ _ _⟩ | exact ⟨rfl, _, Eq.trans (World.drewN_drewN _ _ _) (congrArg (World.drewN _) (Nat.add_assoc _ _ _))⟩); have p463 : 0 ≤ (x13_2 : Int) := of_decide_eq_true (by first | (with_reducible assumption) | assumption); have q463 : x13_2 < (t445.length : Int) := of_decide_eq_true (by first | (with_reducible assumption) | assumption); obtain ⟨ad463, e463, hx463_0, hx463_1, hx463_2, hx463_3, hx463_4, hx463_5⟩ := at_T117 (Kd.qf0 HO_5.out).2.2 x13_2 p463 q463; obtain rfl : ad460 = ad463 := (by injection e463); replace p463 := eq_true p463; replace q463 := eq_true q463) | (go_at_call 75; (with_reducible refine (laws_cellSum.calls k2 _ _ t455 ((rd_T117 t445 x13_2).f0) t464 t465 _ ?side1 ?side2 A44.out).mono ?_); (case side1 => repeat (first | exact (Kd.qf0 HO_11.out).2.2 | (with_reducible refine Kd.qu0 ?_ _) | (with_reducible refine Kd.qt0 ?_ _) | (with_reducible refine Kd.qy0 ?_))); (case side2 => exact (Kd.qf0 HO_11.out).2.1); rintro e w' ⟨rfl, ⟨nd, rfl⟩⟩; (try first | exact ⟨rfl, _, World.drewN_drewN _ _ _⟩ | exact ⟨rfl, _, Eq.trans (World.drewN_drewN _ _ _) (congrArg (World.drewN _) (Nat.add_assoc _ _ _))⟩); have p466 : 0 ≤ (x13_2 : Int) := of_decide_eq_true (by first | (with_reducible assumption) | assumption); have q466 : x13_2 < (t455.length : Int) := of_decide_eq_true (by first | (with_reducible assumption) | assumption); obtain ⟨ad466, e466, hx466_0, hx466_1, hx466_2, hx466_3, hx466_4, hx466_5⟩ := at_T117 (Kd.qf0 HO_11.out).2.2 x13_2 p466 q466; cases e466; replace p466 := eq_true p466; replace q466 := eq_true q466; have p467 : 0 ≤ (x13_2 : Int) := of_decide_eq_true (by first | (with_reducible assumption) | assumption); have q467 : x13_2 < (t445.length : Int) := of_decide_eq_true (by first | (with_reducible assumption) | assumption); obtain ⟨ad467, e467, hx467_0, hx467_1, hx467_2, hx467_3, hx467_4, hx467_5⟩ := at_T117 (Kd.qf0 HO_5.out).2.2 x13_2 p467 q467; obtain rfl : ad460 = ad467 := (by injection e467); replace p467 := eq_true p467; replace q467 := eq_true q467))
           repeat (go_quiet (first | (go_at_call 75; (with_reducible refine (laws_cellSum.calls k2 _ _ t445 ((rd_T117 t445 x13_2).f0) t461 t462 _ ?side1 ?side2 A43.out).mono ?_); (case side1 => repeat (first | exact (Kd.qf0 HO_5.out).2.2 | (with_reducible refine Kd.qu0 ?_ _) | (with_reducible refine Kd.qt0 ?_ _) | (with_reducible refine Kd.qy0 ?_))); (case side2 => exact (Kd.qf0 HO_5.out).2.1); rintro e w' ⟨rfl, ⟨nd, rfl⟩⟩; (try first | exact ⟨rfl, _, World.drewN_drewN _ _ _⟩ | exact ⟨rfl, _, Eq.trans (World.drewN_drewN _ _ _) (congrArg (World.drewN _) (Nat.add_assoc _ _ _))⟩); have p463 : 0 ≤ (x13_2 : Int) := of_decide_eq_true (by first | (with_reducible assumption) | assumption); have q463 : x13_2 < (t445.length : Int) := of_decide_eq_true (by first | (with_reducible assumption) | assumption); obtain ⟨ad463, e463, hx463_0, hx463_1, hx463_2, hx463_3, hx463_4, hx463_5⟩ := at_T117 (Kd.qf0 HO_5.out).2.2 x13_2 p463 q463; obtain rfl : ad460 = ad463 := (by injection e463); replace p463 := eq_true p463; replace q463 := eq_true q463) | (go_at_call 75; (with_reducible refine (laws_cellSum.calls k2 _ _ t455 ((rd_T117 t445 x13_2).f0) t464 t465 _ ?side1 ?side2 A44.out).mono ?_); (case side1 => repeat (first | exact (Kd.qf0 HO_11.out).2.2 | (with_reducible refine Kd.qu0 ?_ _) | (with_reducible refine Kd.qt0 ?_ _) | (with_reducible refine Kd.qy0 ?_))); (case side2 => exact (Kd.qf0 HO_11.out).2.1); rintro e w' ⟨rfl, ⟨nd, rfl⟩⟩; (try first | exact ⟨rfl, _, World.drewN_drewN _ _ _⟩ | exact ⟨rfl, _, Eq.trans (World.drewN_drewN _ _ _) (congrArg (World.drewN _) (Nat.add_assoc _ _ _))⟩); have p466 : 0 ≤ (x13_2 : Int) := of_decide_eq_true (by first | (with_reducible assumption) | assumption); have q466 : x13_2 < (t455.length : Int) := of_decide_eq_true (by first | (with_reducible assumption) | assumption); obtain ⟨ad466, e466, hx466_0, hx466_1, hx466_2, hx466_3, hx466_4, hx466_5⟩ := at_T117 (Kd.qf0 HO_11.out).2.2 x13_2 p466 q466; cases e466; replace p466 := eq_true p466; replace q466 := eq_true q466; have p467 : 0 ≤ (x13_2 : Int) := of_decide_eq_true (by first | (with_reducible assumption) | assumption); have q467 : x13_2 < (t445.length : Int) := of_decide_eq_true (by first | (with_reducible assumption) | assumption); obtain ⟨ad467, e467, hx467_0, hx467_1, hx467_2, hx467_3, hx467_4, hx467_5⟩ := at_T117 (Kd.qf0 HO_5.out).2.2 x13_2 p467 q467; obtain rfl : ad460 = ad467 := (by injection e467); replace p467 := eq_true p467; replace q467 := eq_true q467)); try go_wp2_with (first | (go_at_call 75; (with_reducible refine (laws_cellSum.calls k2 _ _ t445 ((rd_T117 t445 x13_2).f0) t461 t462 _ ?side1 ?side2 A43.out).mono ?_); (case side1 => repeat (first | exact (Kd.qf0 HO_5.out).2.2 | (with_reducible refine Kd.qu0 ?_ _) | (with_reducible refine Kd.qt0 ?_ _) | (with_reducible refine Kd.qy0 ?_))); (case side2 => exact (Kd.qf0 HO_5.out).2.1); rintro e w' ⟨rfl, ⟨nd, rfl⟩⟩; (try first | exact ⟨rfl, _, World.drewN_drewN _ _ _⟩ | exact ⟨rfl, _, Eq.trans (World.drewN_drewN _ _ _) (congrArg (World.drewN _) (Nat.add_assoc _ _ _))⟩); have p463 : 0 ≤ (x13_2 : Int) := of_decide_eq_true (by first | (with_reducible assumption) | assumption); have q463 : x13_2 < (t445.length : Int) := of_decide_eq_true (by first | (with_reducible assumption) | assumption); obtain ⟨ad463, e463, hx463_0, hx463_1, hx463_2, hx463_3, hx463_4, hx463_5⟩ := at_T117 (Kd.qf0 HO_5.out).2.2 x13_2 p463 q463; obtain rfl : ad460 = ad463 := (by injection e463); replace p463 := eq_true p463; replace q463 := eq_true q463) | (go_at_call 75; (with_reducible refine (laws_cellSum.calls k2 _ _ t455 ((rd_T117 t445 x13_2).f0) t464 t465 _ ?side1 ?side2 A44.out).mono ?_); (case side1 => repeat (first | exact (Kd.qf0 HO_11.out).2.2 | (with_reducible refine Kd.qu0 ?_ _) | (with_reducible refine Kd.qt0 ?_ _) | (with_reducible refine Kd.qy0 ?_))); (case side2 => exact (Kd.qf0 HO_11.out).2.1); rintro e w' ⟨rfl, ⟨nd, rfl⟩⟩; (try first | exact ⟨rfl, _, World.drewN_drewN _ _ _⟩ | exact ⟨rfl, _, Eq.trans (World.drewN_drewN _ _ _) (congrArg (World.drewN _) (Nat.add_assoc _ _ _))⟩); have p466 : 0 ≤ (x13_2 : Int) := of_decide_eq_true (by first | (with_reducible assumption) | assumption); have q466 : x13_2 < (t455.length : Int) := of_decide_eq_true (by first | (with_reducible assumption) | assumption); obtain ⟨ad466, e466, hx466_0, hx466_1, hx466_2, hx466_3, hx466_4, hx466_5⟩ := at_T117 (Kd.qf0 HO_11.out).2.2 x13_2 p466 q466; cases e466; replace p466 := eq_true p466; replace q466 := eq_true q466; have p467 : 0 ≤ (x13_2 : Int) := of_decide_eq_true (by first | (with_reducible assumption) | assumption); have q467 : x13_2 < (t445.length : Int) := of_decide_eq_true (by first | (with_reducible assumption) | assumption); obtain ⟨ad467, e467, hx467_0, hx467_1, hx467_2, hx467_3, hx467_4, hx467_5⟩ := at_T117 (Kd.qf0 HO_5.out).2.2 x13_2 p467 q467; obtain rfl : ad460 = ad467 := (by injection e467); replace p467 := eq_true p467; replace q467 := eq_true q467)))
           go_ret
           exact ⟨by first | rfl | (simp [errW_none, errW_some] <;> rfl) | (simp [*, errW_none, errW_some] <;> rfl), by repeat (first | (with_reducible first | exact HB.out | apply qc0 | apply qa0 | apply qb0) | exact HB.out)⟩
          rw [if_neg c49] at H
          have c49b0 : (!((((rd_T117 t455 x13_2).f0).toList) == (((rd_T117 t445 x13_2).f0).toList)) || (!((((rd_T117 t455 x13_2).f1).toList) == (((rd_T117 t445 x13_2).f1).toList)) || (!((((rd_T117 t455 x13_2).f2).toList) == (((rd_T117 t445 x13_2).f2).toList)) || (!(((rd_T117 t455 x13_2).f3) == ((rd_T117 t445 x13_2).f3)) || (!(((rd_T117 t455 x13_2).f4) == ((rd_T117 t445 x13_2).f4)) || (!(((rd_T117 t455 x13_2).f5) == ((rd_T117 t445 x13_2).f5)))))))) = false := by simpa using c49
          clear c49
          have H' := Aside0.mk H
          clear H
          have p460 : 0 ≤ (x13_2 : Int) := of_decide_eq_true (by first | (with_reducible assumption) | assumption)
          have q460 : x13_2 < (t445.length : Int) := of_decide_eq_true (by first | (with_reducible assumption) | assumption)
          obtain ⟨ad460, e460, hx460_0, hx460_1, hx460_2, hx460_3, hx460_4, hx460_5⟩ := at_T117 (Kd.qf0 HO_5.out).2.2 x13_2 p460 q460
          cases e460
          replace p460 := eq_true p460
          replace q460 := eq_true q460
          go_wp2_with (first | (go_at_call 75; (with_reducible refine (laws_cellSum.calls k2 _ _ t445 ((rd_T117 t445 x13_2).f0) t461 t462 _ ?side1 ?side2 A43.out).mono ?_); (case side1 => repeat (first | exact (Kd.qf0 HO_5.out).2.2 | (with_reducible refine Kd.qu0 ?_ _) | (with_reducible refine Kd.qt0 ?_ _) | (with_reducible refine Kd.qy0 ?_))); (case side2 => exact (Kd.qf0 HO_5.out).2.1); rintro e w' ⟨rfl, ⟨nd, rfl⟩⟩; (try first | exact ⟨rfl, _, World.drewN_drewN _ _ _⟩ | exact ⟨rfl, _, Eq.trans (World.drewN_drewN _ _ _) (congrArg (World.drewN _) (Nat.add_assoc _ _ _))⟩); have p463 : 0 ≤ (x13_2 : Int) := of_decide_eq_true (by first | (with_reducible assumption) | assumption); have q463 : x13_2 < (t445.length : Int) := of_decide_eq_true (by first | (with_reducible assumption) | assumption); obtain ⟨ad463, e463, hx463_0, hx463_1, hx463_2, hx463_3, hx463_4, hx463_5⟩ := at_T117 (Kd.qf0 HO_5.out).2.2 x13_2 p463 q463; obtain rfl : ad460 = ad463 := (by injection e463); replace p463 := eq_true p463; replace q463 := eq_true q463) | (go_at_call 75; (with_reducible refine (laws_cellSum.calls k2 _ _ t455 ((rd_T117 t445 x13_2).f0) t464 t465 _ ?side1 ?side2 A44.out).mono ?_); (case side1 => repeat (first | exact (Kd.qf0 HO_11.out).2.2 | (with_reducible refine Kd.qu0 ?_ _) | (with_reducible refine Kd.qt0 ?_ _) | (with_reducible refine Kd.qy0 ?_))); (case side2 => exact (Kd.qf0 HO_11.out).2.1); rintro e w' ⟨rfl, ⟨nd, rfl⟩⟩; (try first | exact ⟨rfl, _, World.drewN_drewN _ _ _⟩ | exact ⟨rfl, _, Eq.trans (World.drewN_drewN _ _ _) (congrArg (World.drewN _) (Nat.add_assoc _ _ _))⟩); have p466 : 0 ≤ (x13_2 : Int) := of_decide_eq_true (by first | (with_reducible assumption) | assumption); have q466 : x13_2 < (t455.length : Int) := of_decide_eq_true (by first | (with_reducible assumption) | assumption); obtain ⟨ad466, e466, hx466_0, hx466_1, hx466_2, hx466_3, hx466_4, hx466_5⟩ := at_T117 (Kd.qf0 HO_11.out).2.2 x13_2 p466 q466; cases e466; replace p466 := eq_true p466; replace q466 := eq_true q466; have p467 : 0 ≤ (x13_2 : Int) := of_decide_eq_true (by first | (with_reducible assumption) | assumption); have q467 : x13_2 < (t445.length : Int) := of_decide_eq_true (by first | (with_reducible assumption) | assumption); obtain ⟨ad467, e467, hx467_0, hx467_1, hx467_2, hx467_3, hx467_4, hx467_5⟩ := at_T117 (Kd.qf0 HO_5.out).2.2 x13_2 p467 q467; obtain rfl : ad460 = ad467 := (by injection e467); replace p467 := eq_true p467; replace q467 := eq_true q467))
          repeat (go_quiet (first | (go_at_call 75; (with_reducible refine (laws_cellSum.calls k2 _ _ t445 ((rd_T117 t445 x13_2).f0) t461 t462 _ ?side1 ?side2 A43.out).mono ?_); (case side1 => repeat (first | exact (Kd.qf0 HO_5.out).2.2 | (with_reducible refine Kd.qu0 ?_ _) | (with_reducible refine Kd.qt0 ?_ _) | (with_reducible refine Kd.qy0 ?_))); (case side2 => exact (Kd.qf0 HO_5.out).2.1); rintro e w' ⟨rfl, ⟨nd, rfl⟩⟩; (try first | exact ⟨rfl, _, World.drewN_drewN _ _ _⟩ | exact ⟨rfl, _, Eq.trans (World.drewN_drewN _ _ _) (congrArg (World.drewN _) (Nat.add_assoc _ _ _))⟩); have p463 : 0 ≤ (x13_2 : Int) := of_decide_eq_true (by first | (with_reducible assumption) | assumption); have q463 : x13_2 < (t445.length : Int) := of_decide_eq_true (by first | (with_reducible assumption) | assumption); obtain ⟨ad463, e463, hx463_0, hx463_1, hx463_2, hx463_3, hx463_4, hx463_5⟩ := at_T117 (Kd.qf0 HO_5.out).2.2 x13_2 p463 q463; obtain rfl : ad460 = ad463 := (by injection e463); replace p463 := eq_true p463; replace q463 := eq_true q463) | (go_at_call 75; (with_reducible refine (laws_cellSum.calls k2 _ _ t455 ((rd_T117 t445 x13_2).f0) t464 t465 _ ?side1 ?side2 A44.out).mono ?_); (case side1 => repeat (first | exact (Kd.qf0 HO_11.out).2.2 | (with_reducible refine Kd.qu0 ?_ _) | (with_reducible refine Kd.qt0 ?_ _) | (with_reducible refine Kd.qy0 ?_))); (case side2 => exact (Kd.qf0 HO_11.out).2.1); rintro e w' ⟨rfl, ⟨nd, rfl⟩⟩; (try first | exact ⟨rfl, _, World.drewN_drewN _ _ _⟩ | exact ⟨rfl, _, Eq.trans (World.drewN_drewN _ _ _) (congrArg (World.drewN _) (Nat.add_assoc _ _ _))⟩); have p466 : 0 ≤ (x13_2 : Int) := of_decide_eq_true (by first | (with_reducible assumption) | assumption); have q466 : x13_2 < (t455.length : Int) := of_decide_eq_true (by first | (with_reducible assumption) | assumption); obtain ⟨ad466, e466, hx466_0, hx466_1, hx466_2, hx466_3, hx466_4, hx466_5⟩ := at_T117 (Kd.qf0 HO_11.out).2.2 x13_2 p466 q466; cases e466; replace p466 := eq_true p466; replace q466 := eq_true q466; have p467 : 0 ≤ (x13_2 : Int) := of_decide_eq_true (by first | (with_reducible assumption) | assumption); have q467 : x13_2 < (t445.length : Int) := of_decide_eq_true (by first | (with_reducible assumption) | assumption); obtain ⟨ad467, e467, hx467_0, hx467_1, hx467_2, hx467_3, hx467_4, hx467_5⟩ := at_T117 (Kd.qf0 HO_5.out).2.2 x13_2 p467 q467; obtain rfl : ad460 = ad467 := (by injection e467); replace p467 := eq_true p467; replace q467 := eq_true q467)); try go_wp2_with (first | (go_at_call 75; (with_reducible refine (laws_cellSum.calls k2 _ _ t445 ((rd_T117 t445 x13_2).f0) t461 t462 _ ?side1 ?side2 A43.out).mono ?_); (case side1 => repeat (first | exact (Kd.qf0 HO_5.out).2.2 | (with_reducible refine Kd.qu0 ?_ _) | (with_reducible refine Kd.qt0 ?_ _) | (with_reducible refine Kd.qy0 ?_))); (case side2 => exact (Kd.qf0 HO_5.out).2.1); rintro e w' ⟨rfl, ⟨nd, rfl⟩⟩; (try first | exact ⟨rfl, _, World.drewN_drewN _ _ _⟩ | exact ⟨rfl, _, Eq.trans (World.drewN_drewN _ _ _) (congrArg (World.drewN _) (Nat.add_assoc _ _ _))⟩); have p463 : 0 ≤ (x13_2 : Int) := of_decide_eq_true (by first | (with_reducible assumption) | assumption); have q463 : x13_2 < (t445.length : Int) := of_decide_eq_true (by first | (with_reducible assumption) | assumption); obtain ⟨ad463, e463, hx463_0, hx463_1, hx463_2, hx463_3, hx463_4, hx463_5⟩ := at_T117 (Kd.qf0 HO_5.out).2.2 x13_2 p463 q463; obtain rfl : ad460 = ad463 := (by injection e463); replace p463 := eq_true p463; replace q463 := eq_true q463) | (go_at_call 75; (with_reducible refine (laws_cellSum.calls k2 _ _ t455 ((rd_T117 t445 x13_2).f0) t464 t465 _ ?side1 ?side2 A44.out).mono ?_); (case side1 => repeat (first | exact (Kd.qf0 HO_11.out).2.2 | (with_reducible refine Kd.qu0 ?_ _) | (with_reducible refine Kd.qt0 ?_ _) | (with_reducible refine Kd.qy0 ?_))); (case side2 => exact (Kd.qf0 HO_11.out).2.1); rintro e w' ⟨rfl, ⟨nd, rfl⟩⟩; (try first | exact ⟨rfl, _, World.drewN_drewN _ _ _⟩ | exact ⟨rfl, _, Eq.trans (World.drewN_drewN _ _ _) (congrArg (World.drewN _) (Nat.add_assoc _ _ _))⟩); have p466 : 0 ≤ (x13_2 : Int) := of_decide_eq_true (by first | (with_reducible assumption) | assumption); have q466 : x13_2 < (t455.length : Int) := of_decide_eq_true (by first | (with_reducible assumption) | assumption); obtain ⟨ad466, e466, hx466_0, hx466_1, hx466_2, hx466_3, hx466_4, hx466_5⟩ := at_T117 (Kd.qf0 HO_11.out).2.2 x13_2 p466 q466; cases e466; replace p466 := eq_true p466; replace q466 := eq_true q466; have p467 : 0 ≤ (x13_2 : Int) := of_decide_eq_true (by first | (with_reducible assumption) | assumption); have q467 : x13_2 < (t445.length : Int) := of_decide_eq_true (by first | (with_reducible assumption) | assumption); obtain ⟨ad467, e467, hx467_0, hx467_1, hx467_2, hx467_3, hx467_4, hx467_5⟩ := at_T117 (Kd.qf0 HO_5.out).2.2 x13_2 p467 q467; obtain rfl : ad460 = ad467 := (by injection e467); replace p467 := eq_true p467; replace q467 := eq_true q467)))
          go_roundg k2
          case measure => have := HJ4.out; have := HK2.out; omega
          case rel => exact ⟨(wrap64 (x13_2 + 1)), (by first | rfl | (simp; done) | (simp [*]; done)), H', ⟨by have := HJ4.out; have := HK2.out; omega⟩, ⟨by (with_reducible repeat (first | apply Kd.qi0 | apply Kd.qh0 | apply Kd.qj0)); exact HO_5.out⟩, ⟨by (with_reducible repeat (first | apply Kd.qi0 | apply Kd.qh0 | apply Kd.qj0)); exact HO_11.out⟩, ⟨by repeat (first | (with_reducible first | exact HB.out | apply qc0 | apply qa0 | apply qb0) | exact HB.out)⟩⟩
         rw [if_neg c46] at H
         have c46b0 : (t462 == t465) = false := beq_eq_false_iff_ne.mpr c46
         have c46b1 : (t462 != t465) = true := bne_iff_ne.mpr c46
         obtain rfl := Option.some.inj H
         have p460 : 0 ≤ (x13_2 : Int) := of_decide_eq_true (by first | (with_reducible assumption) | assumption)
         have q460 : x13_2 < (t445.length : Int) := of_decide_eq_true (by first | (with_reducible assumption) | assumption)
         obtain ⟨ad460, e460, hx460_0, hx460_1, hx460_2, hx460_3, hx460_4, hx460_5⟩ := at_T117 (Kd.qf0 HO_5.out).2.2 x13_2 p460 q460
         cases e460
         replace p460 := eq_true p460
         replace q460 := eq_true q460
         go_wp2_with (first | (go_at_call 75; (with_reducible refine (laws_cellSum.calls k2 _ _ t445 ((rd_T117 t445 x13_2).f0) t461 t462 _ ?side1 ?side2 A43.out).mono ?_); (case side1 => repeat (first | exact (Kd.qf0 HO_5.out).2.2 | (with_reducible refine Kd.qu0 ?_ _) | (with_reducible refine Kd.qt0 ?_ _) | (with_reducible refine Kd.qy0 ?_))); (case side2 => exact (Kd.qf0 HO_5.out).2.1); rintro e w' ⟨rfl, ⟨nd, rfl⟩⟩; (try first | exact ⟨rfl, _, World.drewN_drewN _ _ _⟩ | exact ⟨rfl, _, Eq.trans (World.drewN_drewN _ _ _) (congrArg (World.drewN _) (Nat.add_assoc _ _ _))⟩); have p463 : 0 ≤ (x13_2 : Int) := of_decide_eq_true (by first | (with_reducible assumption) | assumption); have q463 : x13_2 < (t445.length : Int) := of_decide_eq_true (by first | (with_reducible assumption) | assumption); obtain ⟨ad463, e463, hx463_0, hx463_1, hx463_2, hx463_3, hx463_4, hx463_5⟩ := at_T117 (Kd.qf0 HO_5.out).2.2 x13_2 p463 q463; obtain rfl : ad460 = ad463 := (by injection e463); replace p463 := eq_true p463; replace q463 := eq_true q463) | (go_at_call 75; (with_reducible refine (laws_cellSum.calls k2 _ _ t455 ((rd_T117 t445 x13_2).f0) t464 t465 _ ?side1 ?side2 A44.out).mono ?_); (case side1 => repeat (first | exact (Kd.qf0 HO_11.out).2.2 | (with_reducible refine Kd.qu0 ?_ _) | (with_reducible refine Kd.qt0 ?_ _) | (with_reducible refine Kd.qy0 ?_))); (case side2 => exact (Kd.qf0 HO_11.out).2.1); rintro e w' ⟨rfl, ⟨nd, rfl⟩⟩; (try first | exact ⟨rfl, _, World.drewN_drewN _ _ _⟩ | exact ⟨rfl, _, Eq.trans (World.drewN_drewN _ _ _) (congrArg (World.drewN _) (Nat.add_assoc _ _ _))⟩)))
         repeat (go_quiet (first | (go_at_call 75; (with_reducible refine (laws_cellSum.calls k2 _ _ t445 ((rd_T117 t445 x13_2).f0) t461 t462 _ ?side1 ?side2 A43.out).mono ?_); (case side1 => repeat (first | exact (Kd.qf0 HO_5.out).2.2 | (with_reducible refine Kd.qu0 ?_ _) | (with_reducible refine Kd.qt0 ?_ _) | (with_reducible refine Kd.qy0 ?_))); (case side2 => exact (Kd.qf0 HO_5.out).2.1); rintro e w' ⟨rfl, ⟨nd, rfl⟩⟩; (try first | exact ⟨rfl, _, World.drewN_drewN _ _ _⟩ | exact ⟨rfl, _, Eq.trans (World.drewN_drewN _ _ _) (congrArg (World.drewN _) (Nat.add_assoc _ _ _))⟩); have p463 : 0 ≤ (x13_2 : Int) := of_decide_eq_true (by first | (with_reducible assumption) | assumption); have q463 : x13_2 < (t445.length : Int) := of_decide_eq_true (by first | (with_reducible assumption) | assumption); obtain ⟨ad463, e463, hx463_0, hx463_1, hx463_2, hx463_3, hx463_4, hx463_5⟩ := at_T117 (Kd.qf0 HO_5.out).2.2 x13_2 p463 q463; obtain rfl : ad460 = ad463 := (by injection e463); replace p463 := eq_true p463; replace q463 := eq_true q463) | (go_at_call 75; (with_reducible refine (laws_cellSum.calls k2 _ _ t455 ((rd_T117 t445 x13_2).f0) t464 t465 _ ?side1 ?side2 A44.out).mono ?_); (case side1 => repeat (first | exact (Kd.qf0 HO_11.out).2.2 | (with_reducible refine Kd.qu0 ?_ _) | (with_reducible refine Kd.qt0 ?_ _) | (with_reducible refine Kd.qy0 ?_))); (case side2 => exact (Kd.qf0 HO_11.out).2.1); rintro e w' ⟨rfl, ⟨nd, rfl⟩⟩; (try first | exact ⟨rfl, _, World.drewN_drewN _ _ _⟩ | exact ⟨rfl, _, Eq.trans (World.drewN_drewN _ _ _) (congrArg (World.drewN _) (Nat.add_assoc _ _ _))⟩))); try go_wp2_with (first | (go_at_call 75; (with_reducible refine (laws_cellSum.calls k2 _ _ t445 ((rd_T117 t445 x13_2).f0) t461 t462 _ ?side1 ?side2 A43.out).mono ?_); (case side1 => repeat (first | exact (Kd.qf0 HO_5.out).2.2 | (with_reducible refine Kd.qu0 ?_ _) | (with_reducible refine Kd.qt0 ?_ _) | (with_reducible refine Kd.qy0 ?_))); (case side2 => exact (Kd.qf0 HO_5.out).2.1); rintro e w' ⟨rfl, ⟨nd, rfl⟩⟩; (try first | exact ⟨rfl, _, World.drewN_drewN _ _ _⟩ | exact ⟨rfl, _, Eq.trans (World.drewN_drewN _ _ _) (congrArg (World.drewN _) (Nat.add_assoc _ _ _))⟩); have p463 : 0 ≤ (x13_2 : Int) := of_decide_eq_true (by first | (with_reducible assumption) | assumption); have q463 : x13_2 < (t445.length : Int) := of_decide_eq_true (by first | (with_reducible assumption) | assumption); obtain ⟨ad463, e463, hx463_0, hx463_1, hx463_2, hx463_3, hx463_4, hx463_5⟩ := at_T117 (Kd.qf0 HO_5.out).2.2 x13_2 p463 q463; obtain rfl : ad460 = ad463 := (by injection e463); replace p463 := eq_true p463; replace q463 := eq_true q463) | (go_at_call 75; (with_reducible refine (laws_cellSum.calls k2 _ _ t455 ((rd_T117 t445 x13_2).f0) t464 t465 _ ?side1 ?side2 A44.out).mono ?_); (case side1 => repeat (first | exact (Kd.qf0 HO_11.out).2.2 | (with_reducible refine Kd.qu0 ?_ _) | (with_reducible refine Kd.qt0 ?_ _) | (with_reducible refine Kd.qy0 ?_))); (case side2 => exact (Kd.qf0 HO_11.out).2.1); rintro e w' ⟨rfl, ⟨nd, rfl⟩⟩; (try first | exact ⟨rfl, _, World.drewN_drewN _ _ _⟩ | exact ⟨rfl, _, Eq.trans (World.drewN_drewN _ _ _) (congrArg (World.drewN _) (Nat.add_assoc _ _ _))⟩))))
         go_ret
         exact ⟨by first | rfl | (simp [errW_none, errW_some] <;> rfl) | (simp [*, errW_none, errW_some] <;> rfl), by repeat (first | (with_reducible first | exact HB.out | apply qc0 | apply qa0 | apply qb0) | exact HB.out)⟩
        rw [if_neg c45] at H
        have c45b0 : (t461 == t464) = false := beq_eq_false_iff_ne.mpr c45
        have c45b1 : (t461 != t464) = true := bne_iff_ne.mpr c45
        obtain rfl := Option.some.inj H
        have p460 : 0 ≤ (x13_2 : Int) := of_decide_eq_true (by first | (with_reducible assumption) | assumption)
        have q460 : x13_2 < (t445.length : Int) := of_decide_eq_true (by first | (with_reducible assumption) | assumption)
        obtain ⟨ad460, e460, hx460_0, hx460_1, hx460_2, hx460_3, hx460_4, hx460_5⟩ := at_T117 (Kd.qf0 HO_5.out).2.2 x13_2 p460 q460
        cases e460
        replace p460 := eq_true p460
        replace q460 := eq_true q460
        go_wp2_with (first | (go_at_call 75; (with_reducible refine (laws_cellSum.calls k2 _ _ t445 ((rd_T117 t445 x13_2).f0) t461 t462 _ ?side1 ?side2 A43.out).mono ?_); (case side1 => repeat (first | exact (Kd.qf0 HO_5.out).2.2 | (with_reducible refine Kd.qu0 ?_ _) | (with_reducible refine Kd.qt0 ?_ _) | (with_reducible refine Kd.qy0 ?_))); (case side2 => exact (Kd.qf0 HO_5.out).2.1); rintro e w' ⟨rfl, ⟨nd, rfl⟩⟩; (try first | exact ⟨rfl, _, World.drewN_drewN _ _ _⟩ | exact ⟨rfl, _, Eq.trans (World.drewN_drewN _ _ _) (congrArg (World.drewN _) (Nat.add_assoc _ _ _))⟩); have p463 : 0 ≤ (x13_2 : Int) := of_decide_eq_true (by first | (with_reducible assumption) | assumption); have q463 : x13_2 < (t445.length : Int) := of_decide_eq_true (by first | (with_reducible assumption) | assumption); obtain ⟨ad463, e463, hx463_0, hx463_1, hx463_2, hx463_3, hx463_4, hx463_5⟩ := at_T117 (Kd.qf0 HO_5.out).2.2 x13_2 p463 q463; obtain rfl : ad460 = ad463 := (by injection e463); replace p463 := eq_true p463; replace q463 := eq_true q463) | (go_at_call 75; (with_reducible refine (laws_cellSum.calls k2 _ _ t455 ((rd_T117 t445 x13_2).f0) t464 t465 _ ?side1 ?side2 A44.out).mono ?_); (case side1 => repeat (first | exact (Kd.qf0 HO_11.out).2.2 | (with_reducible refine Kd.qu0 ?_ _) | (with_reducible refine Kd.qt0 ?_ _) | (with_reducible refine Kd.qy0 ?_))); (case side2 => exact (Kd.qf0 HO_11.out).2.1); rintro e w' ⟨rfl, ⟨nd, rfl⟩⟩; (try first | exact ⟨rfl, _, World.drewN_drewN _ _ _⟩ | exact ⟨rfl, _, Eq.trans (World.drewN_drewN _ _ _) (congrArg (World.drewN _) (Nat.add_assoc _ _ _))⟩)))
        repeat (go_quiet (first | (go_at_call 75; (with_reducible refine (laws_cellSum.calls k2 _ _ t445 ((rd_T117 t445 x13_2).f0) t461 t462 _ ?side1 ?side2 A43.out).mono ?_); (case side1 => repeat (first | exact (Kd.qf0 HO_5.out).2.2 | (with_reducible refine Kd.qu0 ?_ _) | (with_reducible refine Kd.qt0 ?_ _) | (with_reducible refine Kd.qy0 ?_))); (case side2 => exact (Kd.qf0 HO_5.out).2.1); rintro e w' ⟨rfl, ⟨nd, rfl⟩⟩; (try first | exact ⟨rfl, _, World.drewN_drewN _ _ _⟩ | exact ⟨rfl, _, Eq.trans (World.drewN_drewN _ _ _) (congrArg (World.drewN _) (Nat.add_assoc _ _ _))⟩); have p463 : 0 ≤ (x13_2 : Int) := of_decide_eq_true (by first | (with_reducible assumption) | assumption); have q463 : x13_2 < (t445.length : Int) := of_decide_eq_true (by first | (with_reducible assumption) | assumption); obtain ⟨ad463, e463, hx463_0, hx463_1, hx463_2, hx463_3, hx463_4, hx463_5⟩ := at_T117 (Kd.qf0 HO_5.out).2.2 x13_2 p463 q463; obtain rfl : ad460 = ad463 := (by injection e463); replace p463 := eq_true p463; replace q463 := eq_true q463) | (go_at_call 75; (with_reducible refine (laws_cellSum.calls k2 _ _ t455 ((rd_T117 t445 x13_2).f0) t464 t465 _ ?side1 ?side2 A44.out).mono ?_); (case side1 => repeat (first | exact (Kd.qf0 HO_11.out).2.2 | (with_reducible refine Kd.qu0 ?_ _) | (with_reducible refine Kd.qt0 ?_ _) | (with_reducible refine Kd.qy0 ?_))); (case side2 => exact (Kd.qf0 HO_11.out).2.1); rintro e w' ⟨rfl, ⟨nd, rfl⟩⟩; (try first | exact ⟨rfl, _, World.drewN_drewN _ _ _⟩ | exact ⟨rfl, _, Eq.trans (World.drewN_drewN _ _ _) (congrArg (World.drewN _) (Nat.add_assoc _ _ _))⟩))); try go_wp2_with (first | (go_at_call 75; (with_reducible refine (laws_cellSum.calls k2 _ _ t445 ((rd_T117 t445 x13_2).f0) t461 t462 _ ?side1 ?side2 A43.out).mono ?_); (case side1 => repeat (first | exact (Kd.qf0 HO_5.out).2.2 | (with_reducible refine Kd.qu0 ?_ _) | (with_reducible refine Kd.qt0 ?_ _) | (with_reducible refine Kd.qy0 ?_))); (case side2 => exact (Kd.qf0 HO_5.out).2.1); rintro e w' ⟨rfl, ⟨nd, rfl⟩⟩; (try first | exact ⟨rfl, _, World.drewN_drewN _ _ _⟩ | exact ⟨rfl, _, Eq.trans (World.drewN_drewN _ _ _) (congrArg (World.drewN _) (Nat.add_assoc _ _ _))⟩); have p463 : 0 ≤ (x13_2 : Int) := of_decide_eq_true (by first | (with_reducible assumption) | assumption); have q463 : x13_2 < (t445.length : Int) := of_decide_eq_true (by first | (with_reducible assumption) | assumption); obtain ⟨ad463, e463, hx463_0, hx463_1, hx463_2, hx463_3, hx463_4, hx463_5⟩ := at_T117 (Kd.qf0 HO_5.out).2.2 x13_2 p463 q463; obtain rfl : ad460 = ad463 := (by injection e463); replace p463 := eq_true p463; replace q463 := eq_true q463) | (go_at_call 75; (with_reducible refine (laws_cellSum.calls k2 _ _ t455 ((rd_T117 t445 x13_2).f0) t464 t465 _ ?side1 ?side2 A44.out).mono ?_); (case side1 => repeat (first | exact (Kd.qf0 HO_11.out).2.2 | (with_reducible refine Kd.qu0 ?_ _) | (with_reducible refine Kd.qt0 ?_ _) | (with_reducible refine Kd.qy0 ?_))); (case side2 => exact (Kd.qf0 HO_11.out).2.1); rintro e w' ⟨rfl, ⟨nd, rfl⟩⟩; (try first | exact ⟨rfl, _, World.drewN_drewN _ _ _⟩ | exact ⟨rfl, _, Eq.trans (World.drewN_drewN _ _ _) (congrArg (World.drewN _) (Nat.add_assoc _ _ _))⟩))))
        go_ret
        exact ⟨by first | rfl | (simp [errW_none, errW_some] <;> rfl) | (simp [*, errW_none, errW_some] <;> rfl), by repeat (first | (with_reducible first | exact HB.out | apply qc0 | apply qa0 | apply qb0) | exact HB.out)⟩
       rw [if_neg c41] at H
       have c41b0 : decide (x13_2 < (t445.length : Int)) = false := decide_eq_false c41
       clear c41
       by_cases c50 : t452 = 0
       ·rw [if_pos c50] at H
        have c50b0 : (t452 == 0) = true := beq_iff_eq.mpr c50
        have c50b1 : (t452 != 0) = false := bne_eq_false_iff_eq.mpr c50
        clear c50
        have H' := Aside0.mk H
        clear H
        go_wp2
        repeat (go_quiet (fail); try go_wp2)
        go_loopg [18] k2 (fun kq v18 w' => ∃ (x18_3 : Int), v18 = .int .i64 x18_3 ∧ Aside0 (laws_FnMoved.l1 kq t445 t446 t447 t448 t455 x18_3 = some r) ∧ Aside0 (kq ≤ k2) ∧ Aside0 (Kd.R k117 117 w' w.heap.size (fun k_ => some k_ ≠ ((.slice Ao39 t455.length co39) : Value).ownBlock) (.slice Ao36 t445.length co36) t445) ∧ Aside0 (Kd.R k117 117 w' w.heap.size (fun k_ => some k_ ≠ ((.slice Ao36 t445.length co36) : Value).ownBlock) (.slice Ao39 t455.length co39) t455) ∧ Aside0 (Below w.heap.size w w'))
        case atStart => exact ⟨(0), (by first | rfl | (simp; done) | (simp [*]; done)), H', ⟨Nat.le_refl _⟩, ⟨by (with_reducible repeat (first | apply Kd.qi0 | apply Kd.qh0 | apply Kd.qj0)); exact HO_5.out⟩, ⟨by (with_reducible repeat (first | apply Kd.qi0 | apply Kd.qh0 | apply Kd.qj0)); exact HO_11.out⟩, ⟨by repeat (first | (with_reducible first | exact HB.out | apply qc0 | apply qa0 | apply qb0) | exact HB.out)⟩⟩
        case round => as_aux_lemma =>
         clear H'
         try clear c1
         try clear c2
         try clear p2
         try clear c3
         try clear c4
         try clear p4
         try clear q4
         try clear hx4
         try clear qi4
         try clear c5
         try clear c6
         try clear p6
         try clear c10
         try clear c10b0
         try clear c10b1
         try clear c11
         try clear c11b0
         try clear c11b1
         try clear c12
         try clear c12b0
         try clear c12b1
         try clear c13
         try clear c13b0
         try clear c13b1
         try clear c14
         try clear c14b0
         try clear c14b1
         try clear c15
         try clear c15b0
         try clear c15b1
         try clear c16
         try clear c16b0
         try clear c16b1
         try clear c22
         try clear c26
         try clear c26b0
         try clear c26b1
         try clear c27
         try clear c27b0
         try clear c27b1
         try clear c34
         try clear c41
         try clear c41b0
         try clear c42
         try clear c42b0
         try clear p44
         try clear q44
         try clear hx44
         try clear qi44
         try clear c45
         try clear c45b0
         try clear c45b1
         try clear c46
         try clear c46b0
         try clear c46b1
         try clear p46
         try clear q46
         try clear hx46
         try clear c47
         try clear c47b0
         try clear c47b1
         try clear c48
         try clear c48b0
         try clear c49
         try clear c49b0
         try clear c50
         try clear c50b0
         try clear c50b1
         try clear hx441_0
         try clear hx441_1
         try clear hx441_2
         try clear hx441_3
         try clear hx441_4
         try clear hx441_5
         try clear hx442_0
         try clear hx442_1
         try clear hx442_2
         try clear hx442_3
         try clear hx442_4
         try clear hx442_5
         try clear hx443_0
         try clear hx443_1
         try clear hx443_2
         try clear hx443_3
         try clear hx443_4
         try clear hx443_5
         try clear hx444_0
         try clear hx444_1
         try clear hx444_2
         try clear hx444_3
         try clear hx444_4
         try clear hx444_5
         try clear hx460_0
         try clear hx460_1
         try clear hx460_2
         try clear hx460_3
         try clear hx460_4
         try clear hx460_5
         try clear hx463_0
         try clear hx463_1
         try clear hx463_2
         try clear hx463_3
         try clear hx463_4
         try clear hx463_5
         try clear hx466_0
         try clear hx466_1
         try clear hx466_2
         try clear hx466_3
         try clear hx466_4
         try clear hx466_5
         try clear hx467_0
         try clear hx467_1
         try clear hx467_2
         try clear hx467_3
         try clear hx467_4
         try clear hx467_5
         try clear p2
         try clear p4
         try clear p441
         try clear p442
         try clear p443
         try clear p444
         try clear p460
         try clear p463
         try clear p466
         try clear p467
         try clear q4
         try clear q441
         try clear q442
         try clear q443
         try clear q444
         try clear q460
         try clear q463
         try clear q466
         try clear q467
         obtain ⟨x18_3, rfl, HA, HK3, HO_5, HO_11, HB⟩ := hrel
         cases gk with
         | zero => exact absurd HA.out (by simp [laws_FnMoved.l1])
         | succ k3 =>
          have H := HA.out
          clear HA
          simp only [laws_FnMoved.l1] at H
          by_cases c51 : x18_3 < (t455.length : Int)
          ·rw [if_pos c51] at H
           have c51b0 : decide (x18_3 < (t455.length : Int)) = true := decide_eq_true c51
           clear c51
           by_cases c52 : 0 ≤ x18_3
           case neg => rw [if_neg c52] at H; exact absurd H (by simp)
           rw [if_pos c52] at H
           have c52b0 : decide (0 ≤ x18_3) = true := decide_eq_true c52
           clear c52
           by_cases c53 : 0 ≤ t446
           case neg => rw [if_neg c53] at H; exact absurd H (by simp)
           rw [if_pos c53] at H
           have c53b0 : decide (0 ≤ t446) = true := decide_eq_true c53
           clear c53
           by_cases c54 : t446 < (t445.length : Int)
           case neg => rw [if_neg c54] at H; exact absurd H (by simp)
           rw [if_pos c54] at H
           have c54b0 : decide (t446 < (t445.length : Int)) = true := decide_eq_true c54
           clear c54
           by_cases c55 : ((rd_T117 t455 x18_3).f0).toList = ((rd_T117 t445 t446).f0).toList
           ·rw [if_pos c55] at H
            have c55b0 : (((rd_T117 t455 x18_3).f0).toList == ((rd_T117 t445 t446).f0).toList) = true := beq_iff_eq.mpr c55
            have c55b1 : (((rd_T117 t455 x18_3).f0).toList != ((rd_T117 t445 t446).f0).toList) = false := bne_eq_false_iff_eq.mpr c55
            clear c55
            by_cases c56 : ((rd_T117 t455 x18_3).f2).toList = ((rd_T117 t445 t446).f2).toList
            ·rw [if_pos c56] at H
             have c56b0 : (((rd_T117 t455 x18_3).f2).toList == ((rd_T117 t445 t446).f2).toList) = true := beq_iff_eq.mpr c56
             have c56b1 : (((rd_T117 t455 x18_3).f2).toList != ((rd_T117 t445 t446).f2).toList) = false := bne_eq_false_iff_eq.mpr c56
             clear c56
             by_cases c57 : ((rd_T117 t455 x18_3).f1).toList = t447.toList
             ·rw [if_pos c57] at H
              have c57b0 : (((rd_T117 t455 x18_3).f1).toList == t447.toList) = true := beq_iff_eq.mpr c57
              have c57b1 : (((rd_T117 t455 x18_3).f1).toList != t447.toList) = false := bne_eq_false_iff_eq.mpr c57
              clear c57
              replace H := Option.bind_eq_some_iff.mp H
              obtain ⟨⟨t474, t475⟩, A580, H⟩ := H
              replace H : (if t475 = 0 then (if t446 < (t474.length : Int) then (if ((((rd_T117 t474 t446).f0).toList) == (((rd_T117 t445 t446).f0).toList) && ((((rd_T117 t474 t446).f1).toList) == (((rd_T117 t445 t446).f1).toList) && ((((rd_T117 t474 t446).f2).toList) == (((rd_T117 t445 t446).f2).toList) && (((rd_T117 t474 t446).f3) == ((rd_T117 t445 t446).f3) && (((rd_T117 t474 t446).f4) == ((rd_T117 t445 t446).f4) && (((rd_T117 t474 t446).f5) == ((rd_T117 t445 t446).f5))))))) = true then (some ((t474.length : Int) == (t455.length : Int))) else (some false)) else (none)) else (some false)) = some r := H
              have A58 := Aside0.mk A580
              clear A580
              by_cases c59 : t475 = 0
              ·rw [if_pos c59] at H
               have c59b0 : (t475 == 0) = true := beq_iff_eq.mpr c59
               have c59b1 : (t475 != 0) = false := bne_eq_false_iff_eq.mpr c59
               clear c59
               by_cases c60 : t446 < (t474.length : Int)
               case neg => rw [if_neg c60] at H; exact absurd H (by simp)
               rw [if_pos c60] at H
               have c60b0 : decide (t446 < (t474.length : Int)) = true := decide_eq_true c60
               clear c60
               by_cases c61 : ((((rd_T117 t474 t446).f0).toList) == (((rd_T117 t445 t446).f0).toList) && ((((rd_T117 t474 t446).f1).toList) == (((rd_T117 t445 t446).f1).toList) && ((((rd_T117 t474 t446).f2).toList) == (((rd_T117 t445 t446).f2).toList) && (((rd_T117 t474 t446).f3) == ((rd_T117 t445 t446).f3) && (((rd_T117 t474 t446).f4) == ((rd_T117 t445 t446).f4) && (((rd_T117 t474 t446).f5) == ((rd_T117 t445 t446).f5))))))) = true
               ·rw [if_pos c61] at H
                have c61b0 : ((((rd_T117 t474 t446).f0).toList) == (((rd_T117 t445 t446).f0).toList) && ((((rd_T117 t474 t446).f1).toList) == (((rd_T117 t445 t446).f1).toList) && ((((rd_T117 t474 t446).f2).toList) == (((rd_T117 t445 t446).f2).toList) && (((rd_T117 t474 t446).f3) == ((rd_T117 t445 t446).f3) && (((rd_T117 t474 t446).f4) == ((rd_T117 t445 t446).f4) && (((rd_T117 t474 t446).f5) == ((rd_T117 t445 t446).f5))))))) = true := c61
                (try (have c61b1 : decide ((((rd_T117 t474 t446).f0).toList) = (((rd_T117 t445 t446).f0).toList) && ((((rd_T117 t474 t446).f1).toList) == (((rd_T117 t445 t446).f1).toList) && ((((rd_T117 t474 t446).f2).toList) == (((rd_T117 t445 t446).f2).toList) && (((rd_T117 t474 t446).f3) == ((rd_T117 t445 t446).f3) && (((rd_T117 t474 t446).f4) == ((rd_T117 t445 t446).f4) && (((rd_T117 t474 t446).f5) == ((rd_T117 t445 t446).f5))))))) = true := by simpa using c61))
                (try (have c61b2 : ((((rd_T117 t474 t446).f0).toList) == (((rd_T117 t445 t446).f0).toList) && ((((rd_T117 t474 t446).f1).toList) == (((rd_T117 t445 t446).f1).toList) && ((((rd_T117 t474 t446).f2).toList) == (((rd_T117 t445 t446).f2).toList) && (((rd_T117 t474 t446).f3) == ((rd_T117 t445 t446).f3) && (((rd_T117 t474 t446).f4) == ((rd_T117 t445 t446).f4) && (((rd_T117 t474 t446).f5) == ((rd_T117 t445 t446).f5))))))) = true := by simpa using c61))
                clear c61
                obtain rfl := Option.some.inj H
                have p468 : 0 ≤ (x18_3 : Int) := of_decide_eq_true (by first | (with_reducible assumption) | assumption)
                have q468 : x18_3 < (t455.length : Int) := of_decide_eq_true (by first | (with_reducible assumption) | assumption)
                obtain ⟨ad468, e468, hx468_0, hx468_1, hx468_2, hx468_3, hx468_4, hx468_5⟩ := at_T117 (Kd.qf0 HO_11.out).2.2 x18_3 p468 q468
                cases e468
                replace p468 := eq_true p468
                replace q468 := eq_true q468
                have p469 : 0 ≤ (t446 : Int) := of_decide_eq_true (by first | (with_reducible assumption) | assumption)
                have q469 : t446 < (t445.length : Int) := of_decide_eq_true (by first | (with_reducible assumption) | assumption)
                obtain ⟨ad469, e469, hx469_0, hx469_1, hx469_2, hx469_3, hx469_4, hx469_5⟩ := at_T117 (Kd.qf0 HO_5.out).2.2 t446 p469 q469
                cases e469
                replace p469 := eq_true p469
                replace q469 := eq_true q469
                have p470 : 0 ≤ (x18_3 : Int) := of_decide_eq_true (by first | (with_reducible assumption) | assumption)
                have q470 : x18_3 < (t455.length : Int) := of_decide_eq_true (by first | (with_reducible assumption) | assumption)
                obtain ⟨ad470, e470, hx470_0, hx470_1, hx470_2, hx470_3, hx470_4, hx470_5⟩ := at_T117 (Kd.qf0 HO_11.out).2.2 x18_3 p470 q470
                obtain rfl : ad468 = ad470 := (by injection e470)
                replace p470 := eq_true p470
                replace q470 := eq_true q470
                have p471 : 0 ≤ (t446 : Int) := of_decide_eq_true (by first | (with_reducible assumption) | assumption)
                have q471 : t446 < (t445.length : Int) := of_decide_eq_true (by first | (with_reducible assumption) | assumption)
                obtain ⟨ad471, e471, hx471_0, hx471_1, hx471_2, hx471_3, hx471_4, hx471_5⟩ := at_T117 (Kd.qf0 HO_5.out).2.2 t446 p471 q471
                obtain rfl : ad469 = ad471 := (by injection e471)
                replace p471 := eq_true p471
                replace q471 := eq_true q471
                have p472 : 0 ≤ (x18_3 : Int) := of_decide_eq_true (by first | (with_reducible assumption) | assumption)
                have q472 : x18_3 < (t455.length : Int) := of_decide_eq_true (by first | (with_reducible assumption) | assumption)
                obtain ⟨ad472, e472, hx472_0, hx472_1, hx472_2, hx472_3, hx472_4, hx472_5⟩ := at_T117 (Kd.qf0 HO_11.out).2.2 x18_3 p472 q472
                obtain rfl : ad468 = ad472 := (by injection e472)
                replace p472 := eq_true p472
                replace q472 := eq_true q472
                have p473 : 0 ≤ (t446 : Int) := of_decide_eq_true (by first | (with_reducible assumption) | assumption)
                have q473 : t446 < (t445.length : Int) := of_decide_eq_true (by first | (with_reducible assumption) | assumption)
                obtain ⟨ad473, e473, hx473_0, hx473_1, hx473_2, hx473_3, hx473_4, hx473_5⟩ := at_T117 (Kd.qf0 HO_5.out).2.2 t446 p473 q473
                obtain rfl : ad469 = ad473 := (by injection e473)
                replace p473 := eq_true p473
                replace q473 := eq_true q473
                go_wp2_with (first | (go_at_call 71; (with_reducible refine (impl_Move.calls k3 _ _ t455 x18_3 ((rd_T117 t445 t446).f1) t448 t474 t475 _ ?side1 ?side2 A58.out).mono ?_); (case side1 => repeat (first | exact (Kd.qf0 HO_11.out).2.2 | (with_reducible refine Kd.qu0 ?_ _) | (with_reducible refine Kd.qt0 ?_ _) | (with_reducible refine Kd.qy0 ?_))); (case side2 => exact (Kd.qf0 HO_11.out).2.1); rintro e w62 ⟨v476, rfl, ho0, hb⟩; have n0_ := Aside0.mk (Kd.qd1 (by (with_reducible repeat (first | apply Kd.qi0 | apply Kd.qh0 | apply Kd.qj0)); exact HO_5.out) (Kd.qj1 ho0) hb); have n1_ := Aside0.mk (Kd.qd1 (by (with_reducible repeat (first | apply Kd.qi0 | apply Kd.qh0 | apply Kd.qj0)); exact HO_11.out) (Kd.qj1 ho0) hb); have n2_ := Aside0.mk (Kd.qb1 (Kd.qi1 (Kd.qi1 ho0 (Kd.R_lt (by (with_reducible repeat (first | apply Kd.qi0 | apply Kd.qh0 | apply Kd.qj0)); exact HO_5.out))) (Kd.R_lt (by (with_reducible repeat (first | apply Kd.qi0 | apply Kd.qh0 | apply Kd.qj0)); exact HO_11.out))) (ql0 (by repeat (first | (with_reducible first | exact HB.out | apply qc0 | apply qa0 | apply qb0) | exact HB.out)))); have n3_ := Aside0.mk (qk0 (by repeat (first | (with_reducible first | exact HB.out | apply qc0 | apply qa0 | apply qb0) | exact HB.out)) hb); clear HO_5; clear HO_11; clear HB; have HO_5 := n0_; have HO_11 := n1_; have HO477 := n2_; have HB := n3_; clear n0_ n1_ n2_ n3_; (try clear hb); (try clear hb2); (try clear hk); (try clear hi); (try clear ho0); obtain ⟨Ao63, co63, eo63⟩ := Kd.qe1 HO477.out; subst eo63; have p478 : 0 ≤ (t446 : Int) := of_decide_eq_true (by first | (with_reducible assumption) | assumption); have q478 : t446 < (t474.length : Int) := of_decide_eq_true (by first | (with_reducible assumption) | assumption); obtain ⟨ad478, e478, hx478_0, hx478_1, hx478_2, hx478_3, hx478_4, hx478_5⟩ := at_T117 (Kd.qf0 HO477.out).2.2 t446 p478 q478; cases e478; replace p478 := eq_true p478; replace q478 := eq_true q478; have p479 : 0 ≤ (t446 : Int) := of_decide_eq_true (by first | (with_reducible assumption) | assumption); have q479 : t446 < (t445.length : Int) := of_decide_eq_true (by first | (with_reducible assumption) | assumption); obtain ⟨ad479, e479, hx479_0, hx479_1, hx479_2, hx479_3, hx479_4, hx479_5⟩ := at_T117 (Kd.qf0 HO_5.out).2.2 t446 p479 q479; obtain rfl : ad469 = ad479 := (by injection e479); replace p479 := eq_true p479; replace q479 := eq_true q479))
                repeat (go_quiet (first | (go_at_call 71; (with_reducible refine (impl_Move.calls k3 _ _ t455 x18_3 ((rd_T117 t445 t446).f1) t448 t474 t475 _ ?side1 ?side2 A58.out).mono ?_); (case side1 => repeat (first | exact (Kd.qf0 HO_11.out).2.2 | (with_reducible refine Kd.qu0 ?_ _) | (with_reducible refine Kd.qt0 ?_ _) | (with_reducible refine Kd.qy0 ?_))); (case side2 => exact (Kd.qf0 HO_11.out).2.1); rintro e w62 ⟨v476, rfl, ho0, hb⟩; have n0_ := Aside0.mk (Kd.qd1 (by (with_reducible repeat (first | apply Kd.qi0 | apply Kd.qh0 | apply Kd.qj0)); exact HO_5.out) (Kd.qj1 ho0) hb); have n1_ := Aside0.mk (Kd.qd1 (by (with_reducible repeat (first | apply Kd.qi0 | apply Kd.qh0 | apply Kd.qj0)); exact HO_11.out) (Kd.qj1 ho0) hb); have n2_ := Aside0.mk (Kd.qb1 (Kd.qi1 (Kd.qi1 ho0 (Kd.R_lt (by (with_reducible repeat (first | apply Kd.qi0 | apply Kd.qh0 | apply Kd.qj0)); exact HO_5.out))) (Kd.R_lt (by (with_reducible repeat (first | apply Kd.qi0 | apply Kd.qh0 | apply Kd.qj0)); exact HO_11.out))) (ql0 (by repeat (first | (with_reducible first | exact HB.out | apply qc0 | apply qa0 | apply qb0) | exact HB.out)))); have n3_ := Aside0.mk (qk0 (by repeat (first | (with_reducible first | exact HB.out | apply qc0 | apply qa0 | apply qb0) | exact HB.out)) hb); clear HO_5; clear HO_11; clear HB; have HO_5 := n0_; have HO_11 := n1_; have HO477 := n2_; have HB := n3_; clear n0_ n1_ n2_ n3_; (try clear hb); (try clear hb2); (try clear hk); (try clear hi); (try clear ho0); obtain ⟨Ao63, co63, eo63⟩ := Kd.qe1 HO477.out; subst eo63; have p478 : 0 ≤ (t446 : Int) := of_decide_eq_true (by first | (with_reducible assumption) | assumption); have q478 : t446 < (t474.length : Int) := of_decide_eq_true (by first | (with_reducible assumption) | assumption); obtain ⟨ad478, e478, hx478_0, hx478_1, hx478_2, hx478_3, hx478_4, hx478_5⟩ := at_T117 (Kd.qf0 HO477.out).2.2 t446 p478 q478; cases e478; replace p478 := eq_true p478; replace q478 := eq_true q478; have p479 : 0 ≤ (t446 : Int) := of_decide_eq_true (by first | (with_reducible assumption) | assumption); have q479 : t446 < (t445.length : Int) := of_decide_eq_true (by first | (with_reducible assumption) | assumption); obtain ⟨ad479, e479, hx479_0, hx479_1, hx479_2, hx479_3, hx479_4, hx479_5⟩ := at_T117 (Kd.qf0 HO_5.out).2.2 t446 p479 q479; obtain rfl : ad469 = ad479 := (by injection e479); replace p479 := eq_true p479; replace q479 := eq_true q479)); try go_wp2_with (first | (go_at_call 71; (with_reducible refine (impl_Move.calls k3 _ _ t455 x18_3 ((rd_T117 t445 t446).f1) t448 t474 t475 _ ?side1 ?side2 A58.out).mono ?_); (case side1 => repeat (first | exact (Kd.qf0 HO_11.out).2.2 | (with_reducible refine Kd.qu0 ?_ _) | (with_reducible refine Kd.qt0 ?_ _) | (with_reducible refine Kd.qy0 ?_))); (case side2 => exact (Kd.qf0 HO_11.out).2.1); rintro e w62 ⟨v476, rfl, ho0, hb⟩; have n0_ := Aside0.mk (Kd.qd1 (by (with_reducible repeat (first | apply Kd.qi0 | apply Kd.qh0 | apply Kd.qj0)); exact HO_5.out) (Kd.qj1 ho0) hb); have n1_ := Aside0.mk (Kd.qd1 (by (with_reducible repeat (first | apply Kd.qi0 | apply Kd.qh0 | apply Kd.qj0)); exact HO_11.out) (Kd.qj1 ho0) hb); have n2_ := Aside0.mk (Kd.qb1 (Kd.qi1 (Kd.qi1 ho0 (Kd.R_lt (by (with_reducible repeat (first | apply Kd.qi0 | apply Kd.qh0 | apply Kd.qj0)); exact HO_5.out))) (Kd.R_lt (by (with_reducible repeat (first | apply Kd.qi0 | apply Kd.qh0 | apply Kd.qj0)); exact HO_11.out))) (ql0 (by repeat (first | (with_reducible first | exact HB.out | apply qc0 | apply qa0 | apply qb0) | exact HB.out)))); have n3_ := Aside0.mk (qk0 (by repeat (first | (with_reducible first | exact HB.out | apply qc0 | apply qa0 | apply qb0) | exact HB.out)) hb); clear HO_5; clear HO_11; clear HB; have HO_5 := n0_; have HO_11 := n1_; have HO477 := n2_; have HB := n3_; clear n0_ n1_ n2_ n3_; (try clear hb); (try clear hb2); (try clear hk); (try clear hi); (try clear ho0); obtain ⟨Ao63, co63, eo63⟩ := Kd.qe1 HO477.out; subst eo63; have p478 : 0 ≤ (t446 : Int) := of_decide_eq_true (by first | (with_reducible assumption) | assumption); have q478 : t446 < (t474.length : Int) := of_decide_eq_true (by first | (with_reducible assumption) | assumption); obtain ⟨ad478, e478, hx478_0, hx478_1, hx478_2, hx478_3, hx478_4, hx478_5⟩ := at_T117 (Kd.qf0 HO477.out).2.2 t446 p478 q478; cases e478; replace p478 := eq_true p478; replace q478 := eq_true q478; have p479 : 0 ≤ (t446 : Int) := of_decide_eq_true (by first | (with_reducible assumption) | assumption); have q479 : t446 < (t445.length : Int) := of_decide_eq_true (by first | (with_reducible assumption) | assumption); obtain ⟨ad479, e479, hx479_0, hx479_1, hx479_2, hx479_3, hx479_4, hx479_5⟩ := at_T117 (Kd.qf0 HO_5.out).2.2 t446 p479 q479; obtain rfl : ad469 = ad479 := (by injection e479); replace p479 := eq_true p479; replace q479 := eq_true q479)))
                go_ret
                exact ⟨by first | rfl | (simp [errW_none, errW_some] <;> rfl) | (simp [*, errW_none, errW_some] <;> rfl), by repeat (first | (with_reducible first | exact HB.out | apply qc0 | apply qa0 | apply qb0) | exact HB.out)⟩
               rw [if_neg c61] at H
               have c61b0 : ((((rd_T117 t474 t446).f0).toList) == (((rd_T117 t445 t446).f0).toList) && ((((rd_T117 t474 t446).f1).toList) == (((rd_T117 t445 t446).f1).toList) && ((((rd_T117 t474 t446).f2).toList) == (((rd_T117 t445 t446).f2).toList) && (((rd_T117 t474 t446).f3) == ((rd_T117 t445 t446).f3) && (((rd_T117 t474 t446).f4) == ((rd_T117 t445 t446).f4) && (((rd_T117 t474 t446).f5) == ((rd_T117 t445 t446).f5))))))) = false := by simpa using c61
               (try (have c61b1 : decide ((((rd_T117 t474 t446).f0).toList) = (((rd_T117 t445 t446).f0).toList) && ((((rd_T117 t474 t446).f1).toList) == (((rd_T117 t445 t446).f1).toList) && ((((rd_T117 t474 t446).f2).toList) == (((rd_T117 t445 t446).f2).toList) && (((rd_T117 t474 t446).f3) == ((rd_T117 t445 t446).f3) && (((rd_T117 t474 t446).f4) == ((rd_T117 t445 t446).f4) && (((rd_T117 t474 t446).f5) == ((rd_T117 t445 t446).f5))))))) = false := by simpa using c61))
               (try (have c61b2 : ((((rd_T117 t474 t446).f0).toList) == (((rd_T117 t445 t446).f0).toList) && ((((rd_T117 t474 t446).f1).toList) == (((rd_T117 t445 t446).f1).toList) && ((((rd_T117 t474 t446).f2).toList) == (((rd_T117 t445 t446).f2).toList) && (((rd_T117 t474 t446).f3) == ((rd_T117 t445 t446).f3) && (((rd_T117 t474 t446).f4) == ((rd_T117 t445 t446).f4) && (((rd_T117 t474 t446).f5) == ((rd_T117 t445 t446).f5))))))) = false := by simpa using c61))
               (try (have c61b3 : ¬ ((((rd_T117 t474 t446).f0).toList) = (((rd_T117 t445 t446).f0).toList) && ((((rd_T117 t474 t446).f1).toList) == (((rd_T117 t445 t446).f1).toList) && ((((rd_T117 t474 t446).f2).toList) == (((rd_T117 t445 t446).f2).toList) && (((rd_T117 t474 t446).f3) == ((rd_T117 t445 t446).f3) && (((rd_T117 t474 t446).f4) == ((rd_T117 t445 t446).f4) && (((rd_T117 t474 t446).f5) == ((rd_T117 t445 t446).f5))))))) := by simpa using c61))
               clear c61
               obtain rfl := Option.some.inj H
               have p468 : 0 ≤ (x18_3 : Int) := of_decide_eq_true (by first | (with_reducible assumption) | assumption)
               have q468 : x18_3 < (t455.length : Int) := of_decide_eq_true (by first | (with_reducible assumption) | assumption)
               obtain ⟨ad468, e468, hx468_0, hx468_1, hx468_2, hx468_3, hx468_4, hx468_5⟩ := at_T117 (Kd.qf0 HO_11.out).2.2 x18_3 p468 q468
               cases e468
               replace p468 := eq_true p468
               replace q468 := eq_true q468
               have p469 : 0 ≤ (t446 : Int) := of_decide_eq_true (by first | (with_reducible assumption) | assumption)
               have q469 : t446 < (t445.length : Int) := of_decide_eq_true (by first | (with_reducible assumption) | assumption)
               obtain ⟨ad469, e469, hx469_0, hx469_1, hx469_2, hx469_3, hx469_4, hx469_5⟩ := at_T117 (Kd.qf0 HO_5.out).2.2 t446 p469 q469
               cases e469
               replace p469 := eq_true p469
               replace q469 := eq_true q469
               have p470 : 0 ≤ (x18_3 : Int) := of_decide_eq_true (by first | (with_reducible assumption) | assumption)
               have q470 : x18_3 < (t455.length : Int) := of_decide_eq_true (by first | (with_reducible assumption) | assumption)
               obtain ⟨ad470, e470, hx470_0, hx470_1, hx470_2, hx470_3, hx470_4, hx470_5⟩ := at_T117 (Kd.qf0 HO_11.out).2.2 x18_3 p470 q470
               obtain rfl : ad468 = ad470 := (by injection e470)
               replace p470 := eq_true p470
               replace q470 := eq_true q470
               have p471 : 0 ≤ (t446 : Int) := of_decide_eq_true (by first | (with_reducible assumption) | assumption)
               have q471 : t446 < (t445.length : Int) := of_decide_eq_true (by first | (with_reducible assumption) | assumption)
               obtain ⟨ad471, e471, hx471_0, hx471_1, hx471_2, hx471_3, hx471_4, hx471_5⟩ := at_T117 (Kd.qf0 HO_5.out).2.2 t446 p471 q471
               obtain rfl : ad469 = ad471 := (by injection e471)
               replace p471 := eq_true p471
               replace q471 := eq_true q471
               have p472 : 0 ≤ (x18_3 : Int) := of_decide_eq_true (by first | (with_reducible assumption) | assumption)
               have q472 : x18_3 < (t455.length : Int) := of_decide_eq_true (by first | (with_reducible assumption) | assumption)
               obtain ⟨ad472, e472, hx472_0, hx472_1, hx472_2, hx472_3, hx472_4, hx472_5⟩ := at_T117 (Kd.qf0 HO_11.out).2.2 x18_3 p472 q472
               obtain rfl : ad468 = ad472 := (by injection e472)
               replace p472 := eq_true p472
               replace q472 := eq_true q472
               have p473 : 0 ≤ (t446 : Int) := of_decide_eq_true (by first | (with_reducible assumption) | assumption)
               have q473 : t446 < (t445.length : Int) := of_decide_eq_true (by first | (with_reducible assumption) | assumption)
               obtain ⟨ad473, e473, hx473_0, hx473_1, hx473_2, hx473_3, hx473_4, hx473_5⟩ := at_T117 (Kd.qf0 HO_5.out).2.2 t446 p473 q473
               obtain rfl : ad469 = ad473 := (by injection e473)
               replace p473 := eq_true p473
               replace q473 := eq_true q473
               go_wp2_with (first | (go_at_call 71; (with_reducible refine (impl_Move.calls k3 _ _ t455 x18_3 ((rd_T117 t445 t446).f1) t448 t474 t475 _ ?side1 ?side2 A58.out).mono ?_); (case side1 => repeat (first | exact (Kd.qf0 HO_11.out).2.2 | (with_reducible refine Kd.qu0 ?_ _) | (with_reducible refine Kd.qt0 ?_ _) | (with_reducible refine Kd.qy0 ?_))); (case side2 => exact (Kd.qf0 HO_11.out).2.1); rintro e w64 ⟨v476, rfl, ho0, hb⟩; have n0_ := Aside0.mk (Kd.qd1 (by (with_reducible repeat (first | apply Kd.qi0 | apply Kd.qh0 | apply Kd.qj0)); exact HO_5.out) (Kd.qj1 ho0) hb); have n1_ := Aside0.mk (Kd.qd1 (by (with_reducible repeat (first | apply Kd.qi0 | apply Kd.qh0 | apply Kd.qj0)); exact HO_11.out) (Kd.qj1 ho0) hb); have n2_ := Aside0.mk (Kd.qb1 (Kd.qi1 (Kd.qi1 ho0 (Kd.R_lt (by (with_reducible repeat (first | apply Kd.qi0 | apply Kd.qh0 | apply Kd.qj0)); exact HO_5.out))) (Kd.R_lt (by (with_reducible repeat (first | apply Kd.qi0 | apply Kd.qh0 | apply Kd.qj0)); exact HO_11.out))) (ql0 (by repeat (first | (with_reducible first | exact HB.out | apply qc0 | apply qa0 | apply qb0) | exact HB.out)))); have n3_ := Aside0.mk (qk0 (by repeat (first | (with_reducible first | exact HB.out | apply qc0 | apply qa0 | apply qb0) | exact HB.out)) hb); clear HO_5; clear HO_11; clear HB; have HO_5 := n0_; have HO_11 := n1_; have HO477 := n2_; have HB := n3_; clear n0_ n1_ n2_ n3_; (try clear hb); (try clear hb2); (try clear hk); (try clear hi); (try clear ho0); obtain ⟨Ao65, co65, eo65⟩ := Kd.qe1 HO477.out; subst eo65; have p478 : 0 ≤ (t446 : Int) := of_decide_eq_true (by first | (with_reducible assumption) | assumption); have q478 : t446 < (t474.length : Int) := of_decide_eq_true (by first | (with_reducible assumption) | assumption); obtain ⟨ad478, e478, hx478_0, hx478_1, hx478_2, hx478_3, hx478_4, hx478_5⟩ := at_T117 (Kd.qf0 HO477.out).2.2 t446 p478 q478; cases e478; replace p478 := eq_true p478; replace q478 := eq_true q478; have p479 : 0 ≤ (t446 : Int) := of_decide_eq_true (by first | (with_reducible assumption) | assumption); have q479 : t446 < (t445.length : Int) := of_decide_eq_true (by first | (with_reducible assumption) | assumption); obtain ⟨ad479, e479, hx479_0, hx479_1, hx479_2, hx479_3, hx479_4, hx479_5⟩ := at_T117 (Kd.qf0 HO_5.out).2.2 t446 p479 q479; obtain rfl : ad469 = ad479 := (by injection e479); replace p479 := eq_true p479; replace q479 := eq_true q479))
               repeat (go_quiet (first | (go_at_call 71; (with_reducible refine (impl_Move.calls k3 _ _ t455 x18_3 ((rd_T117 t445 t446).f1) t448 t474 t475 _ ?side1 ?side2 A58.out).mono ?_); (case side1 => repeat (first | exact (Kd.qf0 HO_11.out).2.2 | (with_reducible refine Kd.qu0 ?_ _) | (with_reducible refine Kd.qt0 ?_ _) | (with_reducible refine Kd.qy0 ?_))); (case side2 => exact (Kd.qf0 HO_11.out).2.1); rintro e w64 ⟨v476, rfl, ho0, hb⟩; have n0_ := Aside0.mk (Kd.qd1 (by (with_reducible repeat (first | apply Kd.qi0 | apply Kd.qh0 | apply Kd.qj0)); exact HO_5.out) (Kd.qj1 ho0) hb); have n1_ := Aside0.mk (Kd.qd1 (by (with_reducible repeat (first | apply Kd.qi0 | apply Kd.qh0 | apply Kd.qj0)); exact HO_11.out) (Kd.qj1 ho0) hb); have n2_ := Aside0.mk (Kd.qb1 (Kd.qi1 (Kd.qi1 ho0 (Kd.R_lt (by (with_reducible repeat (first | apply Kd.qi0 | apply Kd.qh0 | apply Kd.qj0)); exact HO_5.out))) (Kd.R_lt (by (with_reducible repeat (first | apply Kd.qi0 | apply Kd.qh0 | apply Kd.qj0)); exact HO_11.out))) (ql0 (by repeat (first | (with_reducible first | exact HB.out | apply qc0 | apply qa0 | apply qb0) | exact HB.out)))); have n3_ := Aside0.mk (qk0 (by repeat (first | (with_reducible first | exact HB.out | apply qc0 | apply qa0 | apply qb0) | exact HB.out)) hb); clear HO_5; clear HO_11; clear HB; have HO_5 := n0_; have HO_11 := n1_; have HO477 := n2_; have HB := n3_; clear n0_ n1_ n2_ n3_; (try clear hb); (try clear hb2); (try clear hk); (try clear hi); (try clear ho0); obtain ⟨Ao65, co65, eo65⟩ := Kd.qe1 HO477.out; subst eo65; have p478 : 0 ≤ (t446 : Int) := of_decide_eq_true (by first | (with_reducible assumption) | assumption); have q478 : t446 < (t474.length : Int) := of_decide_eq_true (by first | (with_reducible assumption) | assumption); obtain ⟨ad478, e478, hx478_0, hx478_1, hx478_2, hx478_3, hx478_4, hx478_5⟩ := at_T117 (Kd.qf0 HO477.out).2.2 t446 p478 q478; cases e478; replace p478 := eq_true p478; replace q478 := eq_true q478; have p479 : 0 ≤ (t446 : Int) := of_decide_eq_true (by first | (with_reducible assumption) | assumption); have q479 : t446 < (t445.length : Int) := of_decide_eq_true (by first | (with_reducible assumption) | assumption); obtain ⟨ad479, e479, hx479_0, hx479_1, hx479_2, hx479_3, hx479_4, hx479_5⟩ := at_T117 (Kd.qf0 HO_5.out).2.2 t446 p479 q479; obtain rfl : ad469 = ad479 := (by injection e479); replace p479 := eq_true p479; replace q479 := eq_true q479)); try go_wp2_with (first | (go_at_call 71; (with_reducible refine (impl_Move.calls k3 _ _ t455 x18_3 ((rd_T117 t445 t446).f1) t448 t474 t475 _ ?side1 ?side2 A58.out).mono ?_); (case side1 => repeat (first | exact (Kd.qf0 HO_11.out).2.2 | (with_reducible refine Kd.qu0 ?_ _) | (with_reducible refine Kd.qt0 ?_ _) | (with_reducible refine Kd.qy0 ?_))); (case side2 => exact (Kd.qf0 HO_11.out).2.1); rintro e w64 ⟨v476, rfl, ho0, hb⟩; have n0_ := Aside0.mk (Kd.qd1 (by (with_reducible repeat (first | apply Kd.qi0 | apply Kd.qh0 | apply Kd.qj0)); exact HO_5.out) (Kd.qj1 ho0) hb); have n1_ := Aside0.mk (Kd.qd1 (by (with_reducible repeat (first | apply Kd.qi0 | apply Kd.qh0 | apply Kd.qj0)); exact HO_11.out) (Kd.qj1 ho0) hb); have n2_ := Aside0.mk (Kd.qb1 (Kd.qi1 (Kd.qi1 ho0 (Kd.R_lt (by (with_reducible repeat (first | apply Kd.qi0 | apply Kd.qh0 | apply Kd.qj0)); exact HO_5.out))) (Kd.R_lt (by (with_reducible repeat (first | apply Kd.qi0 | apply Kd.qh0 | apply Kd.qj0)); exact HO_11.out))) (ql0 (by repeat (first | (with_reducible first | exact HB.out | apply qc0 | apply qa0 | apply qb0) | exact HB.out)))); have n3_ := Aside0.mk (qk0 (by repeat (first | (with_reducible first | exact HB.out | apply qc0 | apply qa0 | apply qb0) | exact HB.out)) hb); clear HO_5; clear HO_11; clear HB; have HO_5 := n0_; have HO_11 := n1_; have HO477 := n2_; have HB := n3_; clear n0_ n1_ n2_ n3_; (try clear hb); (try clear hb2); (try clear hk); (try clear hi); (try clear ho0); obtain ⟨Ao65, co65, eo65⟩ := Kd.qe1 HO477.out; subst eo65; have p478 : 0 ≤ (t446 : Int) := of_decide_eq_true (by first | (with_reducible assumption) | assumption); have q478 : t446 < (t474.length : Int) := of_decide_eq_true (by first | (with_reducible assumption) | assumption); obtain ⟨ad478, e478, hx478_0, hx478_1, hx478_2, hx478_3, hx478_4, hx478_5⟩ := at_T117 (Kd.qf0 HO477.out).2.2 t446 p478 q478; cases e478; replace p478 := eq_true p478; replace q478 := eq_true q478; have p479 : 0 ≤ (t446 : Int) := of_decide_eq_true (by first | (with_reducible assumption) | assumption); have q479 : t446 < (t445.length : Int) := of_decide_eq_true (by first | (with_reducible assumption) | assumption); obtain ⟨ad479, e479, hx479_0, hx479_1, hx479_2, hx479_3, hx479_4, hx479_5⟩ := at_T117 (Kd.qf0 HO_5.out).2.2 t446 p479 q479; obtain rfl : ad469 = ad479 := (by injection e479); replace p479 := eq_true p479; replace q479 := eq_true q479)))
               go_ret
               exact ⟨by first | rfl | (simp [errW_none, errW_some] <;> rfl) | (simp [*, errW_none, errW_some] <;> rfl), by repeat (first | (with_reducible first | exact HB.out | apply qc0 | apply qa0 | apply qb0) | exact HB.out)⟩
              rw [if_neg c59] at H
              have c59b0 : (t475 == 0) = false := beq_eq_false_iff_ne.mpr c59
              have c59b1 : (t475 != 0) = true := bne_iff_ne.mpr c59
              obtain rfl := Option.some.inj H
              have p468 : 0 ≤ (x18_3 : Int) := of_decide_eq_true (by first | (with_reducible assumption) | assumption)
              have q468 : x18_3 < (t455.length : Int) := of_decide_eq_true (by first | (with_reducible assumption) | assumption)
              obtain ⟨ad468, e468, hx468_0, hx468_1, hx468_2, hx468_3, hx468_4, hx468_5⟩ := at_T117 (Kd.qf0 HO_11.out).2.2 x18_3 p468 q468
              cases e468
              replace p468 := eq_true p468
              replace q468 := eq_true q468
              have p469 : 0 ≤ (t446 : Int) := of_decide_eq_true (by first | (with_reducible assumption) | assumption)
              have q469 : t446 < (t445.length : Int) := of_decide_eq_true (by first | (with_reducible assumption) | assumption)
              obtain ⟨ad469, e469, hx469_0, hx469_1, hx469_2, hx469_3, hx469_4, hx469_5⟩ := at_T117 (Kd.qf0 HO_5.out).2.2 t446 p469 q469
              cases e469
              replace p469 := eq_true p469
              replace q469 := eq_true q469
              have p470 : 0 ≤ (x18_3 : Int) := of_decide_eq_true (by first | (with_reducible assumption) | assumption)
              have q470 : x18_3 < (t455.length : Int) := of_decide_eq_true (by first | (with_reducible assumption) | assumption)
              obtain ⟨ad470, e470, hx470_0, hx470_1, hx470_2, hx470_3, hx470_4, hx470_5⟩ := at_T117 (Kd.qf0 HO_11.out).2.2 x18_3 p470 q470
              obtain rfl : ad468 = ad470 := (by injection e470)
              replace p470 := eq_true p470
              replace q470 := eq_true q470
              have p471 : 0 ≤ (t446 : Int) := of_decide_eq_true (by first | (with_reducible assumption) | assumption)
              have q471 : t446 < (t445.length : Int) := of_decide_eq_true (by first | (with_reducible assumption) | assumption)
              obtain ⟨ad471, e471, hx471_0, hx471_1, hx471_2, hx471_3, hx471_4, hx471_5⟩ := at_T117 (Kd.qf0 HO_5.out).2.2 t446 p471 q471
              obtain rfl : ad469 = ad471 := (by injection e471)
              replace p471 := eq_true p471
              replace q471 := eq_true q471
              have p472 : 0 ≤ (x18_3 : Int) := of_decide_eq_true (by first | (with_reducible assumption) | assumption)
              have q472 : x18_3 < (t455.length : Int) := of_decide_eq_true (by first | (with_reducible assumption) | assumption)
              obtain ⟨ad472, e472, hx472_0, hx472_1, hx472_2, hx472_3, hx472_4, hx472_5⟩ := at_T117 (Kd.qf0 HO_11.out).2.2 x18_3 p472 q472
              obtain rfl : ad468 = ad472 := (by injection e472)
              replace p472 := eq_true p472
              replace q472 := eq_true q472
              have p473 : 0 ≤ (t446 : Int) := of_decide_eq_true (by first | (with_reducible assumption) | assumption)
              have q473 : t446 < (t445.length : Int) := of_decide_eq_true (by first | (with_reducible assumption) | assumption)
              obtain ⟨ad473, e473, hx473_0, hx473_1, hx473_2, hx473_3, hx473_4, hx473_5⟩ := at_T117 (Kd.qf0 HO_5.out).2.2 t446 p473 q473
              obtain rfl : ad469 = ad473 := (by injection e473)
              replace p473 := eq_true p473
              replace q473 := eq_true q473
              go_wp2_with (first | (go_at_call 71; (with_reducible refine (impl_Move.calls k3 _ _ t455 x18_3 ((rd_T117 t445 t446).f1) t448 t474 t475 _ ?side1 ?side2 A58.out).mono ?_); (case side1 => repeat (first | exact (Kd.qf0 HO_11.out).2.2 | (with_reducible refine Kd.qu0 ?_ _) | (with_reducible refine Kd.qt0 ?_ _) | (with_reducible refine Kd.qy0 ?_))); (case side2 => exact (Kd.qf0 HO_11.out).2.1); rintro e w66 ⟨v476, rfl, ho0, hb⟩; have n0_ := Aside0.mk (Kd.qd1 (by (with_reducible repeat (first | apply Kd.qi0 | apply Kd.qh0 | apply Kd.qj0)); exact HO_5.out) (Kd.qj1 ho0) hb); have n1_ := Aside0.mk (Kd.qd1 (by (with_reducible repeat (first | apply Kd.qi0 | apply Kd.qh0 | apply Kd.qj0)); exact HO_11.out) (Kd.qj1 ho0) hb); have n2_ := Aside0.mk (Kd.qb1 (Kd.qi1 (Kd.qi1 ho0 (Kd.R_lt (by (with_reducible repeat (first | apply Kd.qi0 | apply Kd.qh0 | apply Kd.qj0)); exact HO_5.out))) (Kd.R_lt (by (with_reducible repeat (first | apply Kd.qi0 | apply Kd.qh0 | apply Kd.qj0)); exact HO_11.out))) (ql0 (by repeat (first | (with_reducible first | exact HB.out | apply qc0 | apply qa0 | apply qb0) | exact HB.out)))); have n3_ := Aside0.mk (qk0 (by repeat (first | (with_reducible first | exact HB.out | apply qc0 | apply qa0 | apply qb0) | exact HB.out)) hb); clear HO_5; clear HO_11; clear HB; have HO_5 := n0_; have HO_11 := n1_; have HO477 := n2_; have HB := n3_; clear n0_ n1_ n2_ n3_; (try clear hb); (try clear hb2); (try clear hk); (try clear hi); (try clear ho0)))
              repeat (go_quiet (first | (go_at_call 71; (with_reducible refine (impl_Move.calls k3 _ _ t455 x18_3 ((rd_T117 t445 t446).f1) t448 t474 t475 _ ?side1 ?side2 A58.out).mono ?_); (case side1 => repeat (first | exact (Kd.qf0 HO_11.out).2.2 | (with_reducible refine Kd.qu0 ?_ _) | (with_reducible refine Kd.qt0 ?_ _) | (with_reducible refine Kd.qy0 ?_))); (case side2 => exact (Kd.qf0 HO_11.out).2.1); rintro e w66 ⟨v476, rfl, ho0, hb⟩; have n0_ := Aside0.mk (Kd.qd1 (by (with_reducible repeat (first | apply Kd.qi0 | apply Kd.qh0 | apply Kd.qj0)); exact HO_5.out) (Kd.qj1 ho0) hb); have n1_ := Aside0.mk (Kd.qd1 (by (with_reducible repeat (first | apply Kd.qi0 | apply Kd.qh0 | apply Kd.qj0)); exact HO_11.out) (Kd.qj1 ho0) hb); have n2_ := Aside0.mk (Kd.qb1 (Kd.qi1 (Kd.qi1 ho0 (Kd.R_lt (by (with_reducible repeat (first | apply Kd.qi0 | apply Kd.qh0 | apply Kd.qj0)); exact HO_5.out))) (Kd.R_lt (by (with_reducible repeat (first | apply Kd.qi0 | apply Kd.qh0 | apply Kd.qj0)); exact HO_11.out))) (ql0 (by repeat (first | (with_reducible first | exact HB.out | apply qc0 | apply qa0 | apply qb0) | exact HB.out)))); have n3_ := Aside0.mk (qk0 (by repeat (first | (with_reducible first | exact HB.out | apply qc0 | apply qa0 | apply qb0) | exact HB.out)) hb); clear HO_5; clear HO_11; clear HB; have HO_5 := n0_; have HO_11 := n1_; have HO477 := n2_; have HB := n3_; clear n0_ n1_ n2_ n3_; (try clear hb); (try clear hb2); (try clear hk); (try clear hi); (try clear ho0))); try go_wp2_with (first | (go_at_call 71; (with_reducible refine (impl_Move.calls k3 _ _ t455 x18_3 ((rd_T117 t445 t446).f1) t448 t474 t475 _ ?side1 ?side2 A58.out).mono ?_); (case side1 => repeat (first | exact (Kd.qf0 HO_11.out).2.2 | (with_reducible refine Kd.qu0 ?_ _) | (with_reducible refine Kd.qt0 ?_ _) | (with_reducible refine Kd.qy0 ?_))); (case side2 => exact (Kd.qf0 HO_11.out).2.1); rintro e w66 ⟨v476, rfl, ho0, hb⟩; have n0_ := Aside0.mk (Kd.qd1 (by (with_reducible repeat (first | apply Kd.qi0 | apply Kd.qh0 | apply Kd.qj0)); exact HO_5.out) (Kd.qj1 ho0) hb); have n1_ := Aside0.mk (Kd.qd1 (by (with_reducible repeat (first | apply Kd.qi0 | apply Kd.qh0 | apply Kd.qj0)); exact HO_11.out) (Kd.qj1 ho0) hb); have n2_ := Aside0.mk (Kd.qb1 (Kd.qi1 (Kd.qi1 ho0 (Kd.R_lt (by (with_reducible repeat (first | apply Kd.qi0 | apply Kd.qh0 | apply Kd.qj0)); exact HO_5.out))) (Kd.R_lt (by (with_reducible repeat (first | apply Kd.qi0 | apply Kd.qh0 | apply Kd.qj0)); exact HO_11.out))) (ql0 (by repeat (first | (with_reducible first | exact HB.out | apply qc0 | apply qa0 | apply qb0) | exact HB.out)))); have n3_ := Aside0.mk (qk0 (by repeat (first | (with_reducible first | exact HB.out | apply qc0 | apply qa0 | apply qb0) | exact HB.out)) hb); clear HO_5; clear HO_11; clear HB; have HO_5 := n0_; have HO_11 := n1_; have HO477 := n2_; have HB := n3_; clear n0_ n1_ n2_ n3_; (try clear hb); (try clear hb2); (try clear hk); (try clear hi); (try clear ho0))))
              go_ret
              exact ⟨by first | rfl | (simp [errW_none, errW_some] <;> rfl) | (simp [*, errW_none, errW_some] <;> rfl), by repeat (first | (with_reducible first | exact HB.out | apply qc0 | apply qa0 | apply qb0) | exact HB.out)⟩
             rw [if_neg c57] at H
             have c57b0 : (((rd_T117 t455 x18_3).f1).toList == t447.toList) = false := beq_eq_false_iff_ne.mpr c57
             have c57b1 : (((rd_T117 t455 x18_3).f1).toList != t447.toList) = true := bne_iff_ne.mpr c57
             have H' := Aside0.mk H
             clear H
             have p468 : 0 ≤ (x18_3 : Int) := of_decide_eq_true (by first | (with_reducible assumption) | assumption)
             have q468 : x18_3 < (t455.length : Int) := of_decide_eq_true (by first | (with_reducible assumption) | assumption)
             obtain ⟨ad468, e468, hx468_0, hx468_1, hx468_2, hx468_3, hx468_4, hx468_5⟩ := at_T117 (Kd.qf0 HO_11.out).2.2 x18_3 p468 q468
             cases e468
             replace p468 := eq_true p468
             replace q468 := eq_true q468
             have p469 : 0 ≤ (t446 : Int) := of_decide_eq_true (by first | (with_reducible assumption) | assumption)
             have q469 : t446 < (t445.length : Int) := of_decide_eq_true (by first | (with_reducible assumption) | assumption)
             obtain ⟨ad469, e469, hx469_0, hx469_1, hx469_2, hx469_3, hx469_4, hx469_5⟩ := at_T117 (Kd.qf0 HO_5.out).2.2 t446 p469 q469
             cases e469
             replace p469 := eq_true p469
             replace q469 := eq_true q469
             have p470 : 0 ≤ (x18_3 : Int) := of_decide_eq_true (by first | (with_reducible assumption) | assumption)
             have q470 : x18_3 < (t455.length : Int) := of_decide_eq_true (by first | (with_reducible assumption) | assumption)
             obtain ⟨ad470, e470, hx470_0, hx470_1, hx470_2, hx470_3, hx470_4, hx470_5⟩ := at_T117 (Kd.qf0 HO_11.out).2.2 x18_3 p470 q470
             obtain rfl : ad468 = ad470 := (by injection e470)
             replace p470 := eq_true p470
             replace q470 := eq_true q470
             have p471 : 0 ≤ (t446 : Int) := of_decide_eq_true (by first | (with_reducible assumption) | assumption)
             have q471 : t446 < (t445.length : Int) := of_decide_eq_true (by first | (with_reducible assumption) | assumption)
             obtain ⟨ad471, e471, hx471_0, hx471_1, hx471_2, hx471_3, hx471_4, hx471_5⟩ := at_T117 (Kd.qf0 HO_5.out).2.2 t446 p471 q471
             obtain rfl : ad469 = ad471 := (by injection e471)
             replace p471 := eq_true p471
             replace q471 := eq_true q471
             have p472 : 0 ≤ (x18_3 : Int) := of_decide_eq_true (by first | (with_reducible assumption) | assumption)
             have q472 : x18_3 < (t455.length : Int) := of_decide_eq_true (by first | (with_reducible assumption) | assumption)
             obtain ⟨ad472, e472, hx472_0, hx472_1, hx472_2, hx472_3, hx472_4, hx472_5⟩ := at_T117 (Kd.qf0 HO_11.out).2.2 x18_3 p472 q472
             obtain rfl : ad468 = ad472 := (by injection e472)
             replace p472 := eq_true p472
             replace q472 := eq_true q472
             go_wp2
             repeat (go_quiet (fail); try go_wp2)
             go_roundg k3
             case measure => have := HJ4.out; have := HK2.out; have := HK3.out; omega
             case rel => exact ⟨(wrap64 (x18_3 + 1)), (by first | rfl | (simp; done) | (simp [*]; done)), H', ⟨by have := HJ4.out; have := HK2.out; have := HK3.out; omega⟩, ⟨by (with_reducible repeat (first | apply Kd.qi0 | apply Kd.qh0 | apply Kd.qj0)); exact HO_5.out⟩, ⟨by (with_reducible repeat (first | apply Kd.qi0 | apply Kd.qh0 | apply Kd.qj0)); exact HO_11.out⟩, ⟨by repeat (first | (with_reducible first | exact HB.out | apply qc0 | apply qa0 | apply qb0) | exact HB.out)⟩⟩
            rw [if_neg c56] at H
            have c56b0 : (((rd_T117 t455 x18_3).f2).toList == ((rd_T117 t445 t446).f2).toList) = false := beq_eq_false_iff_ne.mpr c56
            have c56b1 : (((rd_T117 t455 x18_3).f2).toList != ((rd_T117 t445 t446).f2).toList) = true := bne_iff_ne.mpr c56
            have H' := Aside0.mk H
            clear H
            have p468 : 0 ≤ (x18_3 : Int) := of_decide_eq_true (by first | (with_reducible assumption) | assumption)
            have q468 : x18_3 < (t455.length : Int) := of_decide_eq_true (by first | (with_reducible assumption) | assumption)
            obtain ⟨ad468, e468, hx468_0, hx468_1, hx468_2, hx468_3, hx468_4, hx468_5⟩ := at_T117 (Kd.qf0 HO_11.out).2.2 x18_3 p468 q468
            cases e468
            replace p468 := eq_true p468
            replace q468 := eq_true q468
            have p469 : 0 ≤ (t446 : Int) := of_decide_eq_true (by first | (with_reducible assumption) | assumption)
            have q469 : t446 < (t445.length : Int) := of_decide_eq_true (by first | (with_reducible assumption) | assumption)
            obtain ⟨ad469, e469, hx469_0, hx469_1, hx469_2, hx469_3, hx469_4, hx469_5⟩ := at_T117 (Kd.qf0 HO_5.out).2.2 t446 p469 q469
            cases e469
            replace p469 := eq_true p469
            replace q469 := eq_true q469
            have p470 : 0 ≤ (x18_3 : Int) := of_decide_eq_true (by first | (with_reducible assumption) | assumption)
            have q470 : x18_3 < (t455.length : Int) := of_decide_eq_true (by first | (with_reducible assumption) | assumption)
            obtain ⟨ad470, e470, hx470_0, hx470_1, hx470_2, hx470_3, hx470_4, hx470_5⟩ := at_T117 (Kd.qf0 HO_11.out).2.2 x18_3 p470 q470
            obtain rfl : ad468 = ad470 := (by injection e470)
            replace p470 := eq_true p470
            replace q470 := eq_true q470
            have p471 : 0 ≤ (t446 : Int) := of_decide_eq_true (by first | (with_reducible assumption) | assumption)
            have q471 : t446 < (t445.length : Int) := of_decide_eq_true (by first | (with_reducible assumption) | assumption)
            obtain ⟨ad471, e471, hx471_0, hx471_1, hx471_2, hx471_3, hx471_4, hx471_5⟩ := at_T117 (Kd.qf0 HO_5.out).2.2 t446 p471 q471
            obtain rfl : ad469 = ad471 := (by injection e471)
            replace p471 := eq_true p471
            replace q471 := eq_true q471
            go_wp2
            repeat (go_quiet (fail); try go_wp2)
            go_roundg k3
            case measure => have := HJ4.out; have := HK2.out; have := HK3.out; omega
            case rel => exact ⟨(wrap64 (x18_3 + 1)), (by first | rfl | (simp; done) | (simp [*]; done)), H', ⟨by have := HJ4.out; have := HK2.out; have := HK3.out; omega⟩, ⟨by (with_reducible repeat (first | apply Kd.qi0 | apply Kd.qh0 | apply Kd.qj0)); exact HO_5.out⟩, ⟨by (with_reducible repeat (first | apply Kd.qi0 | apply Kd.qh0 | apply Kd.qj0)); exact HO_11.out⟩, ⟨by repeat (first | (with_reducible first | exact HB.out | apply qc0 | apply qa0 | apply qb0) | exact HB.out)⟩⟩
           rw [if_neg c55] at H
           have c55b0 : (((rd_T117 t455 x18_3).f0).toList == ((rd_T117 t445 t446).f0).toList) = false := beq_eq_false_iff_ne.mpr c55
           have c55b1 : (((rd_T117 t455 x18_3).f0).toList != ((rd_T117 t445 t446).f0).toList) = true := bne_iff_ne.mpr c55
           have H' := Aside0.mk H
           clear H
           have p468 : 0 ≤ (x18_3 : Int) := of_decide_eq_true (by first | (with_reducible assumption) | assumption)
           have q468 : x18_3 < (t455.length : Int) := of_decide_eq_true (by first | (with_reducible assumption) | assumption)
           obtain ⟨ad468, e468, hx468_0, hx468_1, hx468_2, hx468_3, hx468_4, hx468_5⟩ := at_T117 (Kd.qf0 HO_11.out).2.2 x18_3 p468 q468
           cases e468
           replace p468 := eq_true p468
           replace q468 := eq_true q468
           have p469 : 0 ≤ (t446 : Int) := of_decide_eq_true (by first | (with_reducible assumption) | assumption)
           have q469 : t446 < (t445.length : Int) := of_decide_eq_true (by first | (with_reducible assumption) | assumption)
           obtain ⟨ad469, e469, hx469_0, hx469_1, hx469_2, hx469_3, hx469_4, hx469_5⟩ := at_T117 (Kd.qf0 HO_5.out).2.2 t446 p469 q469
           cases e469
           replace p469 := eq_true p469
           replace q469 := eq_true q469
           go_wp2
           repeat (go_quiet (fail); try go_wp2)
           go_roundg k3
           case measure => have := HJ4.out; have := HK2.out; have := HK3.out; omega
           case rel => exact ⟨(wrap64 (x18_3 + 1)), (by first | rfl | (simp; done) | (simp [*]; done)), H', ⟨by have := HJ4.out; have := HK2.out; have := HK3.out; omega⟩, ⟨by (with_reducible repeat (first | apply Kd.qi0 | apply Kd.qh0 | apply Kd.qj0)); exact HO_5.out⟩, ⟨by (with_reducible repeat (first | apply Kd.qi0 | apply Kd.qh0 | apply Kd.qj0)); exact HO_11.out⟩, ⟨by repeat (first | (with_reducible first | exact HB.out | apply qc0 | apply qa0 | apply qb0) | exact HB.out)⟩⟩
          rw [if_neg c51] at H
          have c51b0 : decide (x18_3 < (t455.length : Int)) = false := decide_eq_false c51
          clear c51
          obtain rfl := Option.some.inj H
          go_wp2
          repeat (go_quiet (fail); try go_wp2)
          go_ret
          exact ⟨by first | rfl | (simp [errW_none, errW_some] <;> rfl) | (simp [*, errW_none, errW_some] <;> rfl), by repeat (first | (with_reducible first | exact HB.out | apply qc0 | apply qa0 | apply qb0) | exact HB.out)⟩
       rw [if_neg c50] at H
       have c50b0 : (t452 == 0) = false := beq_eq_false_iff_ne.mpr c50
       have c50b1 : (t452 != 0) = true := bne_iff_ne.mpr c50
       obtain rfl := Option.some.inj H
       go_wp2
       repeat (go_quiet (fail); try go_wp2)
       go_ret
       exact ⟨by first | rfl | (simp [errW_none, errW_some] <;> rfl) | (simp [*, errW_none, errW_some] <;> rfl), by repeat (first | (with_reducible first | exact HB.out | apply qc0 | apply qa0 | apply qb0) | exact HB.out)⟩
    replace c34 := Bool.eq_false_iff.mpr c34
    subst c34
    have H1 : (some false) = some r := by rw [if_neg (show ¬ (false = true) by decide)] at H; exact H
    clear H
    have H := H1
    clear H1
    obtain rfl := Option.some.inj H
    go_wp2_with (first | (go_at_call 72; (with_reducible refine (spec_DrawMove.calls kj4 _ _ l0 t445 t446 t447 t448 _ ?side1 ?side2 A23.out).mono ?_); (case side1 => repeat (first | exact (Kd.qp1 HR0.out HB.out) | (with_reducible refine Kd.qu0 ?_ _) | (with_reducible refine Kd.qt0 ?_ _) | (with_reducible refine Kd.qy0 ?_))); (case side2 => exact HC0.out); rintro e w67 ⟨v449, rfl, ho0, hb⟩; have n0_ := Aside0.mk (Kd.qb1 ho0 (ql0 (by repeat (first | (with_reducible first | exact HB.out | apply qc0 | apply qa0 | apply qb0) | exact HB.out)))); have n1_ := Aside0.mk (qk0 (by repeat (first | (with_reducible first | exact HB.out | apply qc0 | apply qa0 | apply qb0) | exact HB.out)) hb); clear HB; have HO450 := n0_; have HB := n1_; clear n0_ n1_; (try clear hb); (try clear hb2); (try clear hk); (try clear hi); (try clear ho0); obtain ⟨Ao68, co68, eo68⟩ := Kd.qe1 HO450.out; subst eo68) | (go_at_call 73; (with_reducible refine (spec_Move.calls kj4 _ _ t445 t446 t447 t448 t451 t452 _ ?side1 ?side2 A24.out).mono ?_); (case side1 => repeat (first | exact (Kd.qf0 HO450.out).2.2 | (with_reducible refine Kd.qu0 ?_ _) | (with_reducible refine Kd.qt0 ?_ _) | (with_reducible refine Kd.qy0 ?_))); (case side2 => exact (Kd.qf0 HO450.out).2.1); rintro e w69 ⟨v453, rfl, ho0, hb⟩; have n0_ := Aside0.mk (Kd.qd1 (by (with_reducible repeat (first | apply Kd.qi0 | apply Kd.qh0 | apply Kd.qj0)); exact HO450.out) (Kd.qj1 ho0) hb); have n1_ := Aside0.mk (Kd.qb1 (Kd.qi1 ho0 (Kd.R_lt (by (with_reducible repeat (first | apply Kd.qi0 | apply Kd.qh0 | apply Kd.qj0)); exact HO450.out))) (ql0 (by repeat (first | (with_reducible first | exact HB.out | apply qc0 | apply qa0 | apply qb0) | exact HB.out)))); have n2_ := Aside0.mk (qk0 (by repeat (first | (with_reducible first | exact HB.out | apply qc0 | apply qa0 | apply qb0) | exact HB.out)) hb); clear HO450; clear HB; have HO450 := n0_; have HO454 := n1_; have HB := n2_; clear n0_ n1_ n2_; (try clear hb); (try clear hb2); (try clear hk); (try clear hi); (try clear ho0)) | (go_at_call 71; (with_reducible refine (impl_Move.calls kj4 _ _ t445 t446 t447 t448 t455 t456 _ ?side1 ?side2 A25.out).mono ?_); (case side1 => repeat (first | exact (Kd.qf0 HO450.out).2.2 | (with_reducible refine Kd.qu0 ?_ _) | (with_reducible refine Kd.qt0 ?_ _) | (with_reducible refine Kd.qy0 ?_))); (case side2 => exact (Kd.qf0 HO450.out).2.1); rintro e w70 ⟨v457, rfl, ho0, hb⟩; have n0_ := Aside0.mk (Kd.qd1 (by (with_reducible repeat (first | apply Kd.qi0 | apply Kd.qh0 | apply Kd.qj0)); exact HO450.out) (Kd.qj1 ho0) hb); have n1_ := Aside0.mk (Kd.qd1 (by (with_reducible repeat (first | apply Kd.qi0 | apply Kd.qh0 | apply Kd.qj0)); exact HO454.out) (Kd.qj1 ho0) hb); have n2_ := Aside0.mk (Kd.qb1 (Kd.qi1 (Kd.qi1 ho0 (Kd.R_lt (by (with_reducible repeat (first | apply Kd.qi0 | apply Kd.qh0 | apply Kd.qj0)); exact HO450.out))) (Kd.R_lt (by (with_reducible repeat (first | apply Kd.qi0 | apply Kd.qh0 | apply Kd.qj0)); exact HO454.out))) (ql0 (by repeat (first | (with_reducible first | exact HB.out | apply qc0 | apply qa0 | apply qb0) | exact HB.out)))); have n3_ := Aside0.mk (qk0 (by repeat (first | (with_reducible first | exact HB.out | apply qc0 | apply qa0 | apply qb0) | exact HB.out)) hb); clear HO450; clear HO454; clear HB; have HO450 := n0_; have HO454 := n1_; have HO458 := n2_; have HB := n3_; clear n0_ n1_ n2_ n3_; (try clear hb); (try clear hb2); (try clear hk); (try clear hi); (try clear ho0); obtain ⟨Ao71, co71, eo71⟩ := Kd.qe1 HO458.out; subst eo71) | (go_at_call 74; (with_reducible refine (impl_StockOk.calls kj4 _ _ t455 false _ ?side1 ?side2 A33.out).mono ?_); (case side1 => repeat (first | exact (Kd.qf0 HO458.out).2.2 | (with_reducible refine Kd.qu0 ?_ _) | (with_reducible refine Kd.qt0 ?_ _) | (with_reducible refine Kd.qy0 ?_))); (case side2 => exact (Kd.qf0 HO458.out).2.1); rintro e w72 ⟨rfl, hb⟩; have n0_ := Aside0.mk (Kd.qg1 (by (with_reducible repeat (first | apply Kd.qi0 | apply Kd.qh0 | apply Kd.qj0)); exact HO450.out) hb); have n1_ := Aside0.mk (Kd.qg1 (by (with_reducible repeat (first | apply Kd.qi0 | apply Kd.qh0 | apply Kd.qj0)); exact HO454.out) hb); have n2_ := Aside0.mk (Kd.qg1 (by (with_reducible repeat (first | apply Kd.qi0 | apply Kd.qh0 | apply Kd.qj0)); exact HO458.out) hb); have n3_ := Aside0.mk (qk0 (by repeat (first | (with_reducible first | exact HB.out | apply qc0 | apply qa0 | apply qb0) | exact HB.out)) hb); clear HO450; clear HO454; clear HO458; clear HB; have HO450 := n0_; have HO454 := n1_; have HO458 := n2_; have HB := n3_; clear n0_ n1_ n2_ n3_; (try clear hb); (try clear hb2); (try clear hk); (try clear hi)))
    repeat (go_quiet (first | (go_at_call 72; (with_reducible refine (spec_DrawMove.calls kj4 _ _ l0 t445 t446 t447 t448 _ ?side1 ?side2 A23.out).mono ?_); (case side1 => repeat (first | exact (Kd.qp1 HR0.out HB.out) | (with_reducible refine Kd.qu0 ?_ _) | (with_reducible refine Kd.qt0 ?_ _) | (with_reducible refine Kd.qy0 ?_))); (case side2 => exact HC0.out); rintro e w67 ⟨v449, rfl, ho0, hb⟩; have n0_ := Aside0.mk (Kd.qb1 ho0 (ql0 (by repeat (first | (with_reducible first | exact HB.out | apply qc0 | apply qa0 | apply qb0) | exact HB.out)))); have n1_ := Aside0.mk (qk0 (by repeat (first | (with_reducible first | exact HB.out | apply qc0 | apply qa0 | apply qb0) | exact HB.out)) hb); clear HB; have HO450 := n0_; have HB := n1_; clear n0_ n1_; (try clear hb); (try clear hb2); (try clear hk); (try clear hi); (try clear ho0); obtain ⟨Ao68, co68, eo68⟩ := Kd.qe1 HO450.out; subst eo68) | (go_at_call 73; (with_reducible refine (spec_Move.calls kj4 _ _ t445 t446 t447 t448 t451 t452 _ ?side1 ?side2 A24.out).mono ?_); (case side1 => repeat (first | exact (Kd.qf0 HO450.out).2.2 | (with_reducible refine Kd.qu0 ?_ _) | (with_reducible refine Kd.qt0 ?_ _) | (with_reducible refine Kd.qy0 ?_))); (case side2 => exact (Kd.qf0 HO450.out).2.1); rintro e w69 ⟨v453, rfl, ho0, hb⟩; have n0_ := Aside0.mk (Kd.qd1 (by (with_reducible repeat (first | apply Kd.qi0 | apply Kd.qh0 | apply Kd.qj0)); exact HO450.out) (Kd.qj1 ho0) hb); have n1_ := Aside0.mk (Kd.qb1 (Kd.qi1 ho0 (Kd.R_lt (by (with_reducible repeat (first | apply Kd.qi0 | apply Kd.qh0 | apply Kd.qj0)); exact HO450.out))) (ql0 (by repeat (first | (with_reducible first | exact HB.out | apply qc0 | apply qa0 | apply qb0) | exact HB.out)))); have n2_ := Aside0.mk (qk0 (by repeat (first | (with_reducible first | exact HB.out | apply qc0 | apply qa0 | apply qb0) | exact HB.out)) hb); clear HO450; clear HB; have HO450 := n0_; have HO454 := n1_; have HB := n2_; clear n0_ n1_ n2_; (try clear hb); (try clear hb2); (try clear hk); (try clear hi); (try clear ho0)) | (go_at_call 71; (with_reducible refine (impl_Move.calls kj4 _ _ t445 t446 t447 t448 t455 t456 _ ?side1 ?side2 A25.out).mono ?_); (case side1 => repeat (first | exact (Kd.qf0 HO450.out).2.2 | (with_reducible refine Kd.qu0 ?_ _) | (with_reducible refine Kd.qt0 ?_ _) | (with_reducible refine Kd.qy0 ?_))); (case side2 => exact (Kd.qf0 HO450.out).2.1); rintro e w70 ⟨v457, rfl, ho0, hb⟩; have n0_ := Aside0.mk (Kd.qd1 (by (with_reducible repeat (first | apply Kd.qi0 | apply Kd.qh0 | apply Kd.qj0)); exact HO450.out) (Kd.qj1 ho0) hb); have n1_ := Aside0.mk (Kd.qd1 (by (with_reducible repeat (first | apply Kd.qi0 | apply Kd.qh0 | apply Kd.qj0)); exact HO454.out) (Kd.qj1 ho0) hb); have n2_ := Aside0.mk (Kd.qb1 (Kd.qi1 (Kd.qi1 ho0 (Kd.R_lt (by (with_reducible repeat (first | apply Kd.qi0 | apply Kd.qh0 | apply Kd.qj0)); exact HO450.out))) (Kd.R_lt (by (with_reducible repeat (first | apply Kd.qi0 | apply Kd.qh0 | apply Kd.qj0)); exact HO454.out))) (ql0 (by repeat (first | (with_reducible first | exact HB.out | apply qc0 | apply qa0 | apply qb0) | exact HB.out)))); have n3_ := Aside0.mk (qk0 (by repeat (first | (with_reducible first | exact HB.out | apply qc0 | apply qa0 | apply qb0) | exact HB.out)) hb); clear HO450; clear HO454; clear HB; have HO450 := n0_; have HO454 := n1_; have HO458 := n2_; have HB := n3_; clear n0_ n1_ n2_ n3_; (try clear hb); (try clear hb2); (try clear hk); (try clear hi); (try clear ho0); obtain ⟨Ao71, co71, eo71⟩ := Kd.qe1 HO458.out; subst eo71) | (go_at_call 74; (with_reducible refine (impl_StockOk.calls kj4 _ _ t455 false _ ?side1 ?side2 A33.out).mono ?_); (case side1 => repeat (first | exact (Kd.qf0 HO458.out).2.2 | (with_reducible refine Kd.qu0 ?_ _) | (with_reducible refine Kd.qt0 ?_ _) | (with_reducible refine Kd.qy0 ?_))); (case side2 => exact (Kd.qf0 HO458.out).2.1); rintro e w72 ⟨rfl, hb⟩; have n0_ := Aside0.mk (Kd.qg1 (by (with_reducible repeat (first | apply Kd.qi0 | apply Kd.qh0 | apply Kd.qj0)); exact HO450.out) hb); have n1_ := Aside0.mk (Kd.qg1 (by (with_reducible repeat (first | apply Kd.qi0 | apply Kd.qh0 | apply Kd.qj0)); exact HO454.out) hb); have n2_ := Aside0.mk (Kd.qg1 (by (with_reducible repeat (first | apply Kd.qi0 | apply Kd.qh0 | apply Kd.qj0)); exact HO458.out) hb); have n3_ := Aside0.mk (qk0 (by repeat (first | (with_reducible first | exact HB.out | apply qc0 | apply qa0 | apply qb0) | exact HB.out)) hb); clear HO450; clear HO454; clear HO458; clear HB; have HO450 := n0_; have HO454 := n1_; have HO458 := n2_; have HB := n3_; clear n0_ n1_ n2_ n3_; (try clear hb); (try clear hb2); (try clear hk); (try clear hi))); try go_wp2_with (first | (go_at_call 72; (with_reducible refine (spec_DrawMove.calls kj4 _ _ l0 t445 t446 t447 t448 _ ?side1 ?side2 A23.out).mono ?_); (case side1 => repeat (first | exact (Kd.qp1 HR0.out HB.out) | (with_reducible refine Kd.qu0 ?_ _) | (with_reducible refine Kd.qt0 ?_ _) | (with_reducible refine Kd.qy0 ?_))); (case side2 => exact HC0.out); rintro e w67 ⟨v449, rfl, ho0, hb⟩; have n0_ := Aside0.mk (Kd.qb1 ho0 (ql0 (by repeat (first | (with_reducible first | exact HB.out | apply qc0 | apply qa0 | apply qb0) | exact HB.out)))); have n1_ := Aside0.mk (qk0 (by repeat (first | (with_reducible first | exact HB.out | apply qc0 | apply qa0 | apply qb0) | exact HB.out)) hb); clear HB; have HO450 := n0_; have HB := n1_; clear n0_ n1_; (try clear hb); (try clear hb2); (try clear hk); (try clear hi); (try clear ho0); obtain ⟨Ao68, co68, eo68⟩ := Kd.qe1 HO450.out; subst eo68) | (go_at_call 73; (with_reducible refine (spec_Move.calls kj4 _ _ t445 t446 t447 t448 t451 t452 _ ?side1 ?side2 A24.out).mono ?_); (case side1 => repeat (first | exact (Kd.qf0 HO450.out).2.2 | (with_reducible refine Kd.qu0 ?_ _) | (with_reducible refine Kd.qt0 ?_ _) | (with_reducible refine Kd.qy0 ?_))); (case side2 => exact (Kd.qf0 HO450.out).2.1); rintro e w69 ⟨v453, rfl, ho0, hb⟩; have n0_ := Aside0.mk (Kd.qd1 (by (with_reducible repeat (first | apply Kd.qi0 | apply Kd.qh0 | apply Kd.qj0)); exact HO450.out) (Kd.qj1 ho0) hb); have n1_ := Aside0.mk (Kd.qb1 (Kd.qi1 ho0 (Kd.R_lt (by (with_reducible repeat (first | apply Kd.qi0 | apply Kd.qh0 | apply Kd.qj0)); exact HO450.out))) (ql0 (by repeat (first | (with_reducible first | exact HB.out | apply qc0 | apply qa0 | apply qb0) | exact HB.out)))); have n2_ := Aside0.mk (qk0 (by repeat (first | (with_reducible first | exact HB.out | apply qc0 | apply qa0 | apply qb0) | exact HB.out)) hb); clear HO450; clear HB; have HO450 := n0_; have HO454 := n1_; have HB := n2_; clear n0_ n1_ n2_; (try clear hb); (try clear hb2); (try clear hk); (try clear hi); (try clear ho0)) | (go_at_call 71; (with_reducible refine (impl_Move.calls kj4 _ _ t445 t446 t447 t448 t455 t456 _ ?side1 ?side2 A25.out).mono ?_); (case side1 => repeat (first | exact (Kd.qf0 HO450.out).2.2 | (with_reducible refine Kd.qu0 ?_ _) | (with_reducible refine Kd.qt0 ?_ _) | (with_reducible refine Kd.qy0 ?_))); (case side2 => exact (Kd.qf0 HO450.out).2.1); rintro e w70 ⟨v457, rfl, ho0, hb⟩; have n0_ := Aside0.mk (Kd.qd1 (by (with_reducible repeat (first | apply Kd.qi0 | apply Kd.qh0 | apply Kd.qj0)); exact HO450.out) (Kd.qj1 ho0) hb); have n1_ := Aside0.mk (Kd.qd1 (by (with_reducible repeat (first | apply Kd.qi0 | apply Kd.qh0 | apply Kd.qj0)); exact HO454.out) (Kd.qj1 ho0) hb); have n2_ := Aside0.mk (Kd.qb1 (Kd.qi1 (Kd.qi1 ho0 (Kd.R_lt (by (with_reducible repeat (first | apply Kd.qi0 | apply Kd.qh0 | apply Kd.qj0)); exact HO450.out))) (Kd.R_lt (by (with_reducible repeat (first | apply Kd.qi0 | apply Kd.qh0 | apply Kd.qj0)); exact HO454.out))) (ql0 (by repeat (first | (with_reducible first | exact HB.out | apply qc0 | apply qa0 | apply qb0) | exact HB.out)))); have n3_ := Aside0.mk (qk0 (by repeat (first | (with_reducible first | exact HB.out | apply qc0 | apply qa0 | apply qb0) | exact HB.out)) hb); clear HO450; clear HO454; clear HB; have HO450 := n0_; have HO454 := n1_; have HO458 := n2_; have HB := n3_; clear n0_ n1_ n2_ n3_; (try clear hb); (try clear hb2); (try clear hk); (try clear hi); (try clear ho0); obtain ⟨Ao71, co71, eo71⟩ := Kd.qe1 HO458.out; subst eo71) | (go_at_call 74; (with_reducible refine (impl_StockOk.calls kj4 _ _ t455 false _ ?side1 ?side2 A33.out).mono ?_); (case side1 => repeat (first | exact (Kd.qf0 HO458.out).2.2 | (with_reducible refine Kd.qu0 ?_ _) | (with_reducible refine Kd.qt0 ?_ _) | (with_reducible refine Kd.qy0 ?_))); (case side2 => exact (Kd.qf0 HO458.out).2.1); rintro e w72 ⟨rfl, hb⟩; have n0_ := Aside0.mk (Kd.qg1 (by (with_reducible repeat (first | apply Kd.qi0 | apply Kd.qh0 | apply Kd.qj0)); exact HO450.out) hb); have n1_ := Aside0.mk (Kd.qg1 (by (with_reducible repeat (first | apply Kd.qi0 | apply Kd.qh0 | apply Kd.qj0)); exact HO454.out) hb); have n2_ := Aside0.mk (Kd.qg1 (by (with_reducible repeat (first | apply Kd.qi0 | apply Kd.qh0 | apply Kd.qj0)); exact HO458.out) hb); have n3_ := Aside0.mk (qk0 (by repeat (first | (with_reducible first | exact HB.out | apply qc0 | apply qa0 | apply qb0) | exact HB.out)) hb); clear HO450; clear HO454; clear HO458; clear HB; have HO450 := n0_; have HO454 := n1_; have HO458 := n2_; have HB := n3_; clear n0_ n1_ n2_ n3_; (try clear hb); (try clear hb2); (try clear hk); (try clear hi))))
    go_ret
    exact ⟨by first | rfl | (simp [errW_none, errW_some] <;> rfl) | (simp [*, errW_none, errW_some] <;> rfl), by repeat (first | (with_reducible first | exact HB.out | apply qc0 | apply qa0 | apply qb0) | exact HB.out)⟩
   rw [if_neg c26] at H
   have c26b0 : (t456 == t452) = false := beq_eq_false_iff_ne.mpr c26
   have c26b1 : (t456 != t452) = true := bne_iff_ne.mpr c26
   obtain rfl := Option.some.inj H
   go_wp2_with (first | (go_at_call 72; (with_reducible refine (spec_DrawMove.calls kj4 _ _ l0 t445 t446 t447 t448 _ ?side1 ?side2 A23.out).mono ?_); (case side1 => repeat (first | exact (Kd.qp1 HR0.out HB.out) | (with_reducible refine Kd.qu0 ?_ _) | (with_reducible refine Kd.qt0 ?_ _) | (with_reducible refine Kd.qy0 ?_))); (case side2 => exact HC0.out); rintro e w73 ⟨v449, rfl, ho0, hb⟩; have n0_ := Aside0.mk (Kd.qb1 ho0 (ql0 (by repeat (first | (with_reducible first | exact HB.out | apply qc0 | apply qa0 | apply qb0) | exact HB.out)))); have n1_ := Aside0.mk (qk0 (by repeat (first | (with_reducible first | exact HB.out | apply qc0 | apply qa0 | apply qb0) | exact HB.out)) hb); clear HB; have HO450 := n0_; have HB := n1_; clear n0_ n1_; (try clear hb); (try clear hb2); (try clear hk); (try clear hi); (try clear ho0); obtain ⟨Ao74, co74, eo74⟩ := Kd.qe1 HO450.out; subst eo74) | (go_at_call 73; (with_reducible refine (spec_Move.calls kj4 _ _ t445 t446 t447 t448 t451 t452 _ ?side1 ?side2 A24.out).mono ?_); (case side1 => repeat (first | exact (Kd.qf0 HO450.out).2.2 | (with_reducible refine Kd.qu0 ?_ _) | (with_reducible refine Kd.qt0 ?_ _) | (with_reducible refine Kd.qy0 ?_))); (case side2 => exact (Kd.qf0 HO450.out).2.1); rintro e w75 ⟨v453, rfl, ho0, hb⟩; have n0_ := Aside0.mk (Kd.qd1 (by (with_reducible repeat (first | apply Kd.qi0 | apply Kd.qh0 | apply Kd.qj0)); exact HO450.out) (Kd.qj1 ho0) hb); have n1_ := Aside0.mk (Kd.qb1 (Kd.qi1 ho0 (Kd.R_lt (by (with_reducible repeat (first | apply Kd.qi0 | apply Kd.qh0 | apply Kd.qj0)); exact HO450.out))) (ql0 (by repeat (first | (with_reducible first | exact HB.out | apply qc0 | apply qa0 | apply qb0) | exact HB.out)))); have n2_ := Aside0.mk (qk0 (by repeat (first | (with_reducible first | exact HB.out | apply qc0 | apply qa0 | apply qb0) | exact HB.out)) hb); clear HO450; clear HB; have HO450 := n0_; have HO454 := n1_; have HB := n2_; clear n0_ n1_ n2_; (try clear hb); (try clear hb2); (try clear hk); (try clear hi); (try clear ho0)) | (go_at_call 71; (with_reducible refine (impl_Move.calls kj4 _ _ t445 t446 t447 t448 t455 t456 _ ?side1 ?side2 A25.out).mono ?_); (case side1 => repeat (first | exact (Kd.qf0 HO450.out).2.2 | (with_reducible refine Kd.qu0 ?_ _) | (with_reducible refine Kd.qt0 ?_ _) | (with_reducible refine Kd.qy0 ?_))); (case side2 => exact (Kd.qf0 HO450.out).2.1); rintro e w76 ⟨v457, rfl, ho0, hb⟩; have n0_ := Aside0.mk (Kd.qd1 (by (with_reducible repeat (first | apply Kd.qi0 | apply Kd.qh0 | apply Kd.qj0)); exact HO450.out) (Kd.qj1 ho0) hb); have n1_ := Aside0.mk (Kd.qd1 (by (with_reducible repeat (first | apply Kd.qi0 | apply Kd.qh0 | apply Kd.qj0)); exact HO454.out) (Kd.qj1 ho0) hb); have n2_ := Aside0.mk (Kd.qb1 (Kd.qi1 (Kd.qi1 ho0 (Kd.R_lt (by (with_reducible repeat (first | apply Kd.qi0 | apply Kd.qh0 | apply Kd.qj0)); exact HO450.out))) (Kd.R_lt (by (with_reducible repeat (first | apply Kd.qi0 | apply Kd.qh0 | apply Kd.qj0)); exact HO454.out))) (ql0 (by repeat (first | (with_reducible first | exact HB.out | apply qc0 | apply qa0 | apply qb0) | exact HB.out)))); have n3_ := Aside0.mk (qk0 (by repeat (first | (with_reducible first | exact HB.out | apply qc0 | apply qa0 | apply qb0) | exact HB.out)) hb); clear HO450; clear HO454; clear HB; have HO450 := n0_; have HO454 := n1_; have HO458 := n2_; have HB := n3_; clear n0_ n1_ n2_ n3_; (try clear hb); (try clear hb2); (try clear hk); (try clear hi); (try clear ho0)))
   repeat (go_quiet (first | (go_at_call 72; (with_reducible refine (spec_DrawMove.calls kj4 _ _ l0 t445 t446 t447 t448 _ ?side1 ?side2 A23.out).mono ?_); (case side1 => repeat (first | exact (Kd.qp1 HR0.out HB.out) | (with_reducible refine Kd.qu0 ?_ _) | (with_reducible refine Kd.qt0 ?_ _) | (with_reducible refine Kd.qy0 ?_))); (case side2 => exact HC0.out); rintro e w73 ⟨v449, rfl, ho0, hb⟩; have n0_ := Aside0.mk (Kd.qb1 ho0 (ql0 (by repeat (first | (with_reducible first | exact HB.out | apply qc0 | apply qa0 | apply qb0) | exact HB.out)))); have n1_ := Aside0.mk (qk0 (by repeat (first | (with_reducible first | exact HB.out | apply qc0 | apply qa0 | apply qb0) | exact HB.out)) hb); clear HB; have HO450 := n0_; have HB := n1_; clear n0_ n1_; (try clear hb); (try clear hb2); (try clear hk); (try clear hi); (try clear ho0); obtain ⟨Ao74, co74, eo74⟩ := Kd.qe1 HO450.out; subst eo74) | (go_at_call 73; (with_reducible refine (spec_Move.calls kj4 _ _ t445 t446 t447 t448 t451 t452 _ ?side1 ?side2 A24.out).mono ?_); (case side1 => repeat (first | exact (Kd.qf0 HO450.out).2.2 | (with_reducible refine Kd.qu0 ?_ _) | (with_reducible refine Kd.qt0 ?_ _) | (with_reducible refine Kd.qy0 ?_))); (case side2 => exact (Kd.qf0 HO450.out).2.1); rintro e w75 ⟨v453, rfl, ho0, hb⟩; have n0_ := Aside0.mk (Kd.qd1 (by (with_reducible repeat (first | apply Kd.qi0 | apply Kd.qh0 | apply Kd.qj0)); exact HO450.out) (Kd.qj1 ho0) hb); have n1_ := Aside0.mk (Kd.qb1 (Kd.qi1 ho0 (Kd.R_lt (by (with_reducible repeat (first | apply Kd.qi0 | apply Kd.qh0 | apply Kd.qj0)); exact HO450.out))) (ql0 (by repeat (first | (with_reducible first | exact HB.out | apply qc0 | apply qa0 | apply qb0) | exact HB.out)))); have n2_ := Aside0.mk (qk0 (by repeat (first | (with_reducible first | exact HB.out | apply qc0 | apply qa0 | apply qb0) | exact HB.out)) hb); clear HO450; clear HB; have HO450 := n0_; have HO454 := n1_; have HB := n2_; clear n0_ n1_ n2_; (try clear hb); (try clear hb2); (try clear hk); (try clear hi); (try clear ho0)) | (go_at_call 71; (with_reducible refine (impl_Move.calls kj4 _ _ t445 t446 t447 t448 t455 t456 _ ?side1 ?side2 A25.out).mono ?_); (case side1 => repeat (first | exact (Kd.qf0 HO450.out).2.2 | (with_reducible refine Kd.qu0 ?_ _) | (with_reducible refine Kd.qt0 ?_ _) | (with_reducible refine Kd.qy0 ?_))); (case side2 => exact (Kd.qf0 HO450.out).2.1); rintro e w76 ⟨v457, rfl, ho0, hb⟩; have n0_ := Aside0.mk (Kd.qd1 (by (with_reducible repeat (first | apply Kd.qi0 | apply Kd.qh0 | apply Kd.qj0)); exact HO450.out) (Kd.qj1 ho0) hb); have n1_ := Aside0.mk (Kd.qd1 (by (with_reducible repeat (first | apply Kd.qi0 | apply Kd.qh0 | apply Kd.qj0)); exact HO454.out) (Kd.qj1 ho0) hb); have n2_ := Aside0.mk (Kd.qb1 (Kd.qi1 (Kd.qi1 ho0 (Kd.R_lt (by (with_reducible repeat (first | apply Kd.qi0 | apply Kd.qh0 | apply Kd.qj0)); exact HO450.out))) (Kd.R_lt (by (with_reducible repeat (first | apply Kd.qi0 | apply Kd.qh0 | apply Kd.qj0)); exact HO454.out))) (ql0 (by repeat (first | (with_reducible first | exact HB.out | apply qc0 | apply qa0 | apply qb0) | exact HB.out)))); have n3_ := Aside0.mk (qk0 (by repeat (first | (with_reducible first | exact HB.out | apply qc0 | apply qa0 | apply qb0) | exact HB.out)) hb); clear HO450; clear HO454; clear HB; have HO450 := n0_; have HO454 := n1_; have HO458 := n2_; have HB := n3_; clear n0_ n1_ n2_ n3_; (try clear hb); (try clear hb2); (try clear hk); (try clear hi); (try clear ho0))); try go_wp2_with (first | (go_at_call 72; (with_reducible refine (spec_DrawMove.calls kj4 _ _ l0 t445 t446 t447 t448 _ ?side1 ?side2 A23.out).mono ?_); (case side1 => repeat (first | exact (Kd.qp1 HR0.out HB.out) | (with_reducible refine Kd.qu0 ?_ _) | (with_reducible refine Kd.qt0 ?_ _) | (with_reducible refine Kd.qy0 ?_))); (case side2 => exact HC0.out); rintro e w73 ⟨v449, rfl, ho0, hb⟩; have n0_ := Aside0.mk (Kd.qb1 ho0 (ql0 (by repeat (first | (with_reducible first | exact HB.out | apply qc0 | apply qa0 | apply qb0) | exact HB.out)))); have n1_ := Aside0.mk (qk0 (by repeat (first | (with_reducible first | exact HB.out | apply qc0 | apply qa0 | apply qb0) | exact HB.out)) hb); clear HB; have HO450 := n0_; have HB := n1_; clear n0_ n1_; (try clear hb); (try clear hb2); (try clear hk); (try clear hi); (try clear ho0); obtain ⟨Ao74, co74, eo74⟩ := Kd.qe1 HO450.out; subst eo74) | (go_at_call 73; (with_reducible refine (spec_Move.calls kj4 _ _ t445 t446 t447 t448 t451 t452 _ ?side1 ?side2 A24.out).mono ?_); (case side1 => repeat (first | exact (Kd.qf0 HO450.out).2.2 | (with_reducible refine Kd.qu0 ?_ _) | (with_reducible refine Kd.qt0 ?_ _) | (with_reducible refine Kd.qy0 ?_))); (case side2 => exact (Kd.qf0 HO450.out).2.1); rintro e w75 ⟨v453, rfl, ho0, hb⟩; have n0_ := Aside0.mk (Kd.qd1 (by (with_reducible repeat (first | apply Kd.qi0 | apply Kd.qh0 | apply Kd.qj0)); exact HO450.out) (Kd.qj1 ho0) hb); have n1_ := Aside0.mk (Kd.qb1 (Kd.qi1 ho0 (Kd.R_lt (by (with_reducible repeat (first | apply Kd.qi0 | apply Kd.qh0 | apply Kd.qj0)); exact HO450.out))) (ql0 (by repeat (first | (with_reducible first | exact HB.out | apply qc0 | apply qa0 | apply qb0) | exact HB.out)))); have n2_ := Aside0.mk (qk0 (by repeat (first | (with_reducible first | exact HB.out | apply qc0 | apply qa0 | apply qb0) | exact HB.out)) hb); clear HO450; clear HB; have HO450 := n0_; have HO454 := n1_; have HB := n2_; clear n0_ n1_ n2_; (try clear hb); (try clear hb2); (try clear hk); (try clear hi); (try clear ho0)) | (go_at_call 71; (with_reducible refine (impl_Move.calls kj4 _ _ t445 t446 t447 t448 t455 t456 _ ?side1 ?side2 A25.out).mono ?_); (case side1 => repeat (first | exact (Kd.qf0 HO450.out).2.2 | (with_reducible refine Kd.qu0 ?_ _) | (with_reducible refine Kd.qt0 ?_ _) | (with_reducible refine Kd.qy0 ?_))); (case side2 => exact (Kd.qf0 HO450.out).2.1); rintro e w76 ⟨v457, rfl, ho0, hb⟩; have n0_ := Aside0.mk (Kd.qd1 (by (with_reducible repeat (first | apply Kd.qi0 | apply Kd.qh0 | apply Kd.qj0)); exact HO450.out) (Kd.qj1 ho0) hb); have n1_ := Aside0.mk (Kd.qd1 (by (with_reducible repeat (first | apply Kd.qi0 | apply Kd.qh0 | apply Kd.qj0)); exact HO454.out) (Kd.qj1 ho0) hb); have n2_ := Aside0.mk (Kd.qb1 (Kd.qi1 (Kd.qi1 ho0 (Kd.R_lt (by (with_reducible repeat (first | apply Kd.qi0 | apply Kd.qh0 | apply Kd.qj0)); exact HO450.out))) (Kd.R_lt (by (with_reducible repeat (first | apply Kd.qi0 | apply Kd.qh0 | apply Kd.qj0)); exact HO454.out))) (ql0 (by repeat (first | (with_reducible first | exact HB.out | apply qc0 | apply qa0 | apply qb0) | exact HB.out)))); have n3_ := Aside0.mk (qk0 (by repeat (first | (with_reducible first | exact HB.out | apply qc0 | apply qa0 | apply qb0) | exact HB.out)) hb); clear HO450; clear HO454; clear HB; have HO450 := n0_; have HO454 := n1_; have HO458 := n2_; have HB := n3_; clear n0_ n1_ n2_ n3_; (try clear hb); (try clear hb2); (try clear hk); (try clear hi); (try clear ho0))))
   go_ret
   exact ⟨by first | rfl | (simp [errW_none, errW_some] <;> rfl) | (simp [*, errW_none, errW_some] <;> rfl), by repeat (first | (with_reducible first | exact HB.out | apply qc0 | apply qa0 | apply qb0) | exact HB.out)⟩

/-- THE ONE PURE STATEMENT of laws_FnMoved: yours. -/
def laws_FnMoved.Pure : Prop := ∀ (l0 : List Int), l0.length ≤ maxLen → l0.length * 1 ≤ 140737488351232 → (∀ x ∈ l0, (Lit.int .u8 x).wf = true) → ∃ k, laws_FnMoved.f k l0 = some true
theorem laws_FnMoved.walk (P : laws_FnMoved.Pure) (a0 : Option Addr) (len0 cap0 : Nat) (z0 : List Int) (w : World) (w0 : (a0 = none ∧ len0 = 0 ∧ cap0 = 0 ∧ z0 = []) ∨ ∃ x, a0 = some x ∧ len0 ≤ cap0 ∧ cap0 ≤ maxLen ∧ z0.length = cap0 ∧ (∀ i, i < z0.length → w.cell? (x.add i) = some (.int .u8 (z0.getD i 0))) ∧ ∀ n ∈ z0, (Lit.int .u8 n).wf = true) (y0 : len0 * 1 ≤ 140737488351232) :
  Calls Try.prog 13 #[.slice a0 len0 cap0] w fun e w' => e = .returned (.bool true) ∧ Below w.heap.size w w' := by
 obtain ⟨l0, rfl, hr0, hm0, hw0, hc0⟩ := qn1.ofRowC w0
 obtain ⟨k, h⟩ := P l0 hm0 y0 hw0
 refine (laws_FnMoved.calls k _ _ l0 true w (Kd.C_of_reads (d := (0 : Int)) (h1 := fun _ => rfl) hr0) hc0 h).mono ?_
 rintro e w' ⟨rfl, hd⟩
 exact ⟨rfl, hd⟩

end Go.Proofs.Ytinibkdbfpafcaa.PFnMoved
