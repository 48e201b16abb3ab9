/- Lines by a program (a changed copy of the kit's print: this repo's wip/tools): Go functions as Lean functions, and proofs that the calls answer so. -/
import Derived.Test.YtkkdmmefnicmaaaZPFnLevelledx0
import Derived.Test.YtkkdmmefnicmaaaZPFnLevelledx9
import Derived.Test.YtkkdmmefnicmaaaZPFnLevelledx10
namespace Go.Proofs.Ytkkdmmefnicmaaa.PFnLevelled
open Go.RowKit Go.Proofs.YtkkdmmefnicmaaaW.PrintWords Go.Proofs.YtkkdmmefnicmaaaW.PrintLast Go.Proofs.YtkkdmmefnicmaaaW.PrintMore
attribute [local go_sem] max2_int min2_int max_two min_two max_three min_three max_four min_four   -- for this text's walks alone
set_option linter.unusedVariables false
set_option linter.unusedSimpArgs false

/-! ### spec_ItemsOk: function 27 -/
mutual
def spec_ItemsOk.l0 : Nat → List (S52) → Int → Int → Option (Bool)
 | 0, _, _, _ => none
 | k + 1, x0, x3, x4 => if x4 < x3 then (if 0 ≤ x4 then (if x4 < (x0.length : Int) then ((spec_NameOk.f k ((rd_T52 x0 x4).f0)).bind fun t285 => (if t285 = true then ((spec_l1In.f ((rd_T52 x0 x4).f1) 1 1000000).bind fun t286 => (if t286 = true then (if (((rd_T52 x0 x4).f3).length : Int) > 30 then (spec_ItemsOk.j1 k x0 x3 x4 true ((rd_T52 x0 x4).f0) ((rd_T52 x0 x4).f1) ((rd_T52 x0 x4).f2) ((rd_T52 x0 x4).f3) ((rd_T52 x0 x4).f4)) else (if (((rd_T52 x0 x4).f4).length : Int) > 30 then (spec_ItemsOk.j1 k x0 x3 x4 true ((rd_T52 x0 x4).f0) ((rd_T52 x0 x4).f1) ((rd_T52 x0 x4).f2) ((rd_T52 x0 x4).f3) ((rd_T52 x0 x4).f4)) else (if (rd_T52 x0 x4).f2 = true then (if (((rd_T52 x0 x4).f3).length : Int) = 0 then (spec_ItemsOk.j1 k x0 x3 x4 true ((rd_T52 x0 x4).f0) ((rd_T52 x0 x4).f1) ((rd_T52 x0 x4).f2) ((rd_T52 x0 x4).f3) ((rd_T52 x0 x4).f4)) else (spec_ItemsOk.j1 k x0 x3 x4 (decide ((((rd_T52 x0 x4).f4).length : Int) > 0)) ((rd_T52 x0 x4).f0) ((rd_T52 x0 x4).f1) ((rd_T52 x0 x4).f2) ((rd_T52 x0 x4).f3) ((rd_T52 x0 x4).f4))) else (spec_ItemsOk.j1 k x0 x3 x4 false ((rd_T52 x0 x4).f0) ((rd_T52 x0 x4).f1) ((rd_T52 x0 x4).f2) ((rd_T52 x0 x4).f3) ((rd_T52 x0 x4).f4))))) else (spec_ItemsOk.j1 k x0 x3 x4 true ((rd_T52 x0 x4).f0) ((rd_T52 x0 x4).f1) ((rd_T52 x0 x4).f2) ((rd_T52 x0 x4).f3) ((rd_T52 x0 x4).f4)))) else (spec_ItemsOk.j1 k x0 x3 x4 true ((rd_T52 x0 x4).f0) ((rd_T52 x0 x4).f1) ((rd_T52 x0 x4).f2) ((rd_T52 x0 x4).f3) ((rd_T52 x0 x4).f4)))) else (none)) else (none)) else ((spec_l17Levels.f k x0).bind fun t294 => (spec_ItemsOk.l4 k x3 t294 0))
def spec_ItemsOk.j1 : Nat → List (S52) → Int → Int → Bool → ByteArray → Int → Bool → List (S54) → List (S54) → Option (Bool)
 | 0, _, _, _, _, _, _, _, _, _ => none
 | k + 1, x0, x3, x4, x62, x285000, x285001, x285002, x285003, x285004 => if x62 = true then (some false) else (spec_ItemsOk.l1 k x0 x3 x4 0 x285000 x285001 x285002 x285003 x285004)
def spec_ItemsOk.l1 : Nat → List (S52) → Int → Int → Int → ByteArray → Int → Bool → List (S54) → List (S54) → Option (Bool)
 | 0, _, _, _, _, _, _, _, _, _ => none
 | k + 1, x0, x3, x4, x6, x285000, x285001, x285002, x285003, x285004 => if x6 < x4 then (if 0 ≤ x6 then (if x6 < (x0.length : Int) then (if ((rd_T52 x0 x6).f0).toList = x285000.toList then (some false) else (spec_ItemsOk.l1 k x0 x3 x4 (wrap64 (x6 + 1)) x285000 x285001 x285002 x285003 x285004)) else (none)) else (none)) else (spec_ItemsOk.l2 k x0 x3 x4 0 x285000 x285001 x285002 x285003 x285004)
def spec_ItemsOk.l2 : Nat → List (S52) → Int → Int → Int → ByteArray → Int → Bool → List (S54) → List (S54) → Option (Bool)
 | 0, _, _, _, _, _, _, _, _, _ => none
 | k + 1, x0, x3, x4, x7, x285000, x285001, x285002, x285003, x285004 => if x7 < (x285003.length : Int) then (if 0 ≤ x7 then ((spec_l17Part.f ((rd_T54 x285003 x7).f0) ((rd_T54 x285003 x7).f1) ((rd_T54 x285003 x7).f2) ((rd_T54 x285003 x7).f3) ((rd_T54 x285003 x7).f4) ((rd_T54 x285003 x7).f5) x4 x3).bind fun t289 => (if t289 = true then (spec_ItemsOk.l2 k x0 x3 x4 (wrap64 (x7 + 1)) x285000 x285001 x285002 x285003 x285004) else (some false))) else (none)) else (spec_ItemsOk.l3 k x0 x3 x4 0 x285000 x285001 x285002 x285003 x285004)
def spec_ItemsOk.l3 : Nat → List (S52) → Int → Int → Int → ByteArray → Int → Bool → List (S54) → List (S54) → Option (Bool)
 | 0, _, _, _, _, _, _, _, _, _ => none
 | k + 1, x0, x3, x4, x8, x285000, x285001, x285002, x285003, x285004 => if x8 < (x285004.length : Int) then (if 0 ≤ x8 then ((spec_l17Part.f ((rd_T54 x285004 x8).f0) ((rd_T54 x285004 x8).f1) ((rd_T54 x285004 x8).f2) ((rd_T54 x285004 x8).f3) ((rd_T54 x285004 x8).f4) ((rd_T54 x285004 x8).f5) x4 x3).bind fun t291 => (if t291 = true then (if ((rd_T54 x285004 x8).f2) = 0 then (if ((rd_T54 x285004 x8).f5) = 0 then (spec_ItemsOk.l3 k x0 x3 x4 (wrap64 (x8 + 1)) x285000 x285001 x285002 x285003 x285004) else (some false)) else (some false)) else (some false))) else (none)) else (spec_ItemsOk.l0 k x0 x3 (wrap64 (x4 + 1)))
def spec_ItemsOk.l4 : Nat → Int → List Int → Int → Option (Bool)
 | 0, _, _, _ => none
 | k + 1, x3, x9, x10 => if x10 < x3 then (if 0 ≤ x10 then (if x10 < (x9.length : Int) then (if (rd x9 x10) > 20 then (some false) else (spec_ItemsOk.l4 k x3 x9 (wrap64 (x10 + 1)))) else (none)) else (none)) else (some true)
end
def spec_ItemsOk.f (k : Nat) (l0 : List (S52)) : Option (Bool) := (spec_l1In.f (l0.length : Int) 1 60).bind fun t282 => (if t282 = true then (spec_ItemsOk.l0 k l0 (l0.length : Int) 0) else (some false))
theorem spec_ItemsOk.mono_l : ∀ k, (∀ y0 y1 y2, LeO (spec_ItemsOk.l0 k y0 y1 y2) (spec_ItemsOk.l0 (k + 1) y0 y1 y2)) ∧ (∀ y0 y1 y2 y3 y4 y5 y6 y7 y8, LeO (spec_ItemsOk.j1 k y0 y1 y2 y3 y4 y5 y6 y7 y8) (spec_ItemsOk.j1 (k + 1) y0 y1 y2 y3 y4 y5 y6 y7 y8)) ∧ (∀ y0 y1 y2 y3 y4 y5 y6 y7 y8, LeO (spec_ItemsOk.l1 k y0 y1 y2 y3 y4 y5 y6 y7 y8) (spec_ItemsOk.l1 (k + 1) y0 y1 y2 y3 y4 y5 y6 y7 y8)) ∧ (∀ y0 y1 y2 y3 y4 y5 y6 y7 y8, LeO (spec_ItemsOk.l2 k y0 y1 y2 y3 y4 y5 y6 y7 y8) (spec_ItemsOk.l2 (k + 1) y0 y1 y2 y3 y4 y5 y6 y7 y8)) ∧ (∀ y0 y1 y2 y3 y4 y5 y6 y7 y8, LeO (spec_ItemsOk.l3 k y0 y1 y2 y3 y4 y5 y6 y7 y8) (spec_ItemsOk.l3 (k + 1) y0 y1 y2 y3 y4 y5 y6 y7 y8)) ∧ (∀ y0 y1 y2, LeO (spec_ItemsOk.l4 k y0 y1 y2) (spec_ItemsOk.l4 (k + 1) y0 y1 y2))
 | 0 => ⟨fun _ _ _ r h => by simp [spec_ItemsOk.l0] at h, fun _ _ _ _ _ _ _ _ _ r h => by simp [spec_ItemsOk.j1] at h, fun _ _ _ _ _ _ _ _ _ r h => by simp [spec_ItemsOk.l1] at h, fun _ _ _ _ _ _ _ _ _ r h => by simp [spec_ItemsOk.l2] at h, fun _ _ _ _ _ _ _ _ _ r h => by simp [spec_ItemsOk.l3] at h, fun _ _ _ r h => by simp [spec_ItemsOk.l4] at h⟩
 | k + 1 => by
  obtain ⟨ih0, ih1, ih2, ih3, ih4, ih5⟩ := spec_ItemsOk.mono_l k
  refine ⟨?_, ?_, ?_, ?_, ?_, ?_⟩
  ·intro y0 y1 y2
   unfold spec_ItemsOk.l0
   repeat' first
   | (with_reducible exact ih0 _ _ _)
   | (with_reducible exact ih1 _ _ _ _ _ _ _ _ _)
   | (with_reducible exact ih2 _ _ _ _ _ _ _ _ _)
   | (with_reducible exact ih3 _ _ _ _ _ _ _ _ _)
   | (with_reducible exact ih4 _ _ _ _ _ _ _ _ _)
   | (with_reducible exact ih5 _ _ _)
   | (with_reducible exact spec_NameOk.mono _ _)
   | (with_reducible exact spec_l17Levels.mono _ _)
   | (with_reducible exact LeO.refl _)
   | (with_reducible exact LeO.none _)
   | (with_reducible refine LeO.ite ?_ ?_)
   | (with_reducible refine LeO.bind ?_ (fun _ => ?_))
   | exact ih0 _ _ _
   | exact ih1 _ _ _ _ _ _ _ _ _
   | exact ih2 _ _ _ _ _ _ _ _ _
   | exact ih3 _ _ _ _ _ _ _ _ _
   | exact ih4 _ _ _ _ _ _ _ _ _
   | exact ih5 _ _ _
   | exact spec_NameOk.mono _ _
   | exact spec_l17Levels.mono _ _
   | exact LeO.none _
   | refine LeO.ite ?_ ?_
   | refine LeO.bind ?_ (fun _ => ?_)
  ·intro y0 y1 y2 y3 y4 y5 y6 y7 y8
   unfold spec_ItemsOk.j1
   repeat' first
   | (with_reducible exact ih0 _ _ _)
   | (with_reducible exact ih1 _ _ _ _ _ _ _ _ _)
   | (with_reducible exact ih2 _ _ _ _ _ _ _ _ _)
   | (with_reducible exact ih3 _ _ _ _ _ _ _ _ _)
   | (with_reducible exact ih4 _ _ _ _ _ _ _ _ _)
   | (with_reducible exact ih5 _ _ _)
   | (with_reducible exact spec_NameOk.mono _ _)
   | (with_reducible exact spec_l17Levels.mono _ _)
   | (with_reducible exact LeO.refl _)
   | (with_reducible exact LeO.none _)
   | (with_reducible refine LeO.ite ?_ ?_)
   | (with_reducible refine LeO.bind ?_ (fun _ => ?_))
   | exact ih0 _ _ _
   | exact ih1 _ _ _ _ _ _ _ _ _
   | exact ih2 _ _ _ _ _ _ _ _ _
   | exact ih3 _ _ _ _ _ _ _ _ _
   | exact ih4 _ _ _ _ _ _ _ _ _
   | exact ih5 _ _ _
   | exact spec_NameOk.mono _ _
   | exact spec_l17Levels.mono _ _
   | exact LeO.none _
   | refine LeO.ite ?_ ?_
   | refine LeO.bind ?_ (fun _ => ?_)
  ·intro y0 y1 y2 y3 y4 y5 y6 y7 y8
   unfold spec_ItemsOk.l1
   repeat' first
   | (with_reducible exact ih0 _ _ _)
   | (with_reducible exact ih1 _ _ _ _ _ _ _ _ _)
   | (with_reducible exact ih2 _ _ _ _ _ _ _ _ _)
   | (with_reducible exact ih3 _ _ _ _ _ _ _ _ _)
   | (with_reducible exact ih4 _ _ _ _ _ _ _ _ _)
   | (with_reducible exact ih5 _ _ _)
   | (with_reducible exact spec_NameOk.mono _ _)
   | (with_reducible exact spec_l17Levels.mono _ _)
   | (with_reducible exact LeO.refl _)
   | (with_reducible exact LeO.none _)
   | (with_reducible refine LeO.ite ?_ ?_)
   | (with_reducible refine LeO.bind ?_ (fun _ => ?_))
   | exact ih0 _ _ _
   | exact ih1 _ _ _ _ _ _ _ _ _
   | exact ih2 _ _ _ _ _ _ _ _ _
   | exact ih3 _ _ _ _ _ _ _ _ _
   | exact ih4 _ _ _ _ _ _ _ _ _
   | exact ih5 _ _ _
   | exact spec_NameOk.mono _ _
   | exact spec_l17Levels.mono _ _
   | exact LeO.none _
   | refine LeO.ite ?_ ?_
   | refine LeO.bind ?_ (fun _ => ?_)
  ·intro y0 y1 y2 y3 y4 y5 y6 y7 y8
   unfold spec_ItemsOk.l2
   repeat' first
   | (with_reducible exact ih0 _ _ _)
   | (with_reducible exact ih1 _ _ _ _ _ _ _ _ _)
   | (with_reducible exact ih2 _ _ _ _ _ _ _ _ _)
   | (with_reducible exact ih3 _ _ _ _ _ _ _ _ _)
   | (with_reducible exact ih4 _ _ _ _ _ _ _ _ _)
   | (with_reducible exact ih5 _ _ _)
   | (with_reducible exact spec_NameOk.mono _ _)
   | (with_reducible exact spec_l17Levels.mono _ _)
   | (with_reducible exact LeO.refl _)
   | (with_reducible exact LeO.none _)
   | (with_reducible refine LeO.ite ?_ ?_)
   | (with_reducible refine LeO.bind ?_ (fun _ => ?_))
   | exact ih0 _ _ _
   | exact ih1 _ _ _ _ _ _ _ _ _
   | exact ih2 _ _ _ _ _ _ _ _ _
   | exact ih3 _ _ _ _ _ _ _ _ _
   | exact ih4 _ _ _ _ _ _ _ _ _
   | exact ih5 _ _ _
   | exact spec_NameOk.mono _ _
   | exact spec_l17Levels.mono _ _
   | exact LeO.none _
   | refine LeO.ite ?_ ?_
   | refine LeO.bind ?_ (fun _ => ?_)
  ·intro y0 y1 y2 y3 y4 y5 y6 y7 y8
   unfold spec_ItemsOk.l3
   repeat' first
   | (with_reducible exact ih0 _ _ _)
   | (with_reducible exact ih1 _ _ _ _ _ _ _ _ _)
   | (with_reducible exact ih2 _ _ _ _ _ _ _ _ _)
   | (with_reducible exact ih3 _ _ _ _ _ _ _ _ _)
   | (with_reducible exact ih4 _ _ _ _ _ _ _ _ _)
   | (with_reducible exact ih5 _ _ _)
   | (with_reducible exact spec_NameOk.mono _ _)
   | (with_reducible exact spec_l17Levels.mono _ _)
   | (with_reducible exact LeO.refl _)
   | (with_reducible exact LeO.none _)
   | (with_reducible refine LeO.ite ?_ ?_)
   | (with_reducible refine LeO.bind ?_ (fun _ => ?_))
   | exact ih0 _ _ _
   | exact ih1 _ _ _ _ _ _ _ _ _
   | exact ih2 _ _ _ _ _ _ _ _ _
   | exact ih3 _ _ _ _ _ _ _ _ _
   | exact ih4 _ _ _ _ _ _ _ _ _
   | exact ih5 _ _ _
   | exact spec_NameOk.mono _ _
   | exact spec_l17Levels.mono _ _
   | exact LeO.none _
   | refine LeO.ite ?_ ?_
   | refine LeO.bind ?_ (fun _ => ?_)
  ·intro y0 y1 y2
   unfold spec_ItemsOk.l4
   repeat' first
   | (with_reducible exact ih0 _ _ _)
   | (with_reducible exact ih1 _ _ _ _ _ _ _ _ _)
   | (with_reducible exact ih2 _ _ _ _ _ _ _ _ _)
   | (with_reducible exact ih3 _ _ _ _ _ _ _ _ _)
   | (with_reducible exact ih4 _ _ _ _ _ _ _ _ _)
   | (with_reducible exact ih5 _ _ _)
   | (with_reducible exact spec_NameOk.mono _ _)
   | (with_reducible exact spec_l17Levels.mono _ _)
   | (with_reducible exact LeO.refl _)
   | (with_reducible exact LeO.none _)
   | (with_reducible refine LeO.ite ?_ ?_)
   | (with_reducible refine LeO.bind ?_ (fun _ => ?_))
   | exact ih0 _ _ _
   | exact ih1 _ _ _ _ _ _ _ _ _
   | exact ih2 _ _ _ _ _ _ _ _ _
   | exact ih3 _ _ _ _ _ _ _ _ _
   | exact ih4 _ _ _ _ _ _ _ _ _
   | exact ih5 _ _ _
   | exact spec_NameOk.mono _ _
   | exact spec_l17Levels.mono _ _
   | exact LeO.none _
   | refine LeO.ite ?_ ?_
   | refine LeO.bind ?_ (fun _ => ?_)
theorem spec_ItemsOk.mono : ∀ a0 k, LeO (spec_ItemsOk.f k a0) (spec_ItemsOk.f (k + 1) a0) := by
 intro a0 k
 obtain ⟨ih0, ih1, ih2, ih3, ih4, ih5⟩ := spec_ItemsOk.mono_l k
 unfold spec_ItemsOk.f
 repeat' first
   | (with_reducible exact ih0 _ _ _)
   | (with_reducible exact ih1 _ _ _ _ _ _ _ _ _)
   | (with_reducible exact ih2 _ _ _ _ _ _ _ _ _)
   | (with_reducible exact ih3 _ _ _ _ _ _ _ _ _)
   | (with_reducible exact ih4 _ _ _ _ _ _ _ _ _)
   | (with_reducible exact ih5 _ _ _)
   | (with_reducible exact spec_NameOk.mono _ _)
   | (with_reducible exact spec_l17Levels.mono _ _)
   | (with_reducible exact LeO.refl _)
   | (with_reducible exact LeO.none _)
   | (with_reducible refine LeO.ite ?_ ?_)
   | (with_reducible refine LeO.bind ?_ (fun _ => ?_))
   | exact ih0 _ _ _
   | exact ih1 _ _ _ _ _ _ _ _ _
   | exact ih2 _ _ _ _ _ _ _ _ _
   | exact ih3 _ _ _ _ _ _ _ _ _
   | exact ih4 _ _ _ _ _ _ _ _ _
   | exact ih5 _ _ _
   | exact spec_NameOk.mono _ _
   | exact spec_l17Levels.mono _ _
   | exact LeO.none _
   | refine LeO.ite ?_ ?_
   | refine LeO.bind ?_ (fun _ => ?_)
set_option maxHeartbeats 8000000 in
set_option maxRecDepth 100000 in
theorem spec_ItemsOk.calls (k : Nat) (A0 : Option Addr) (c0 : Nat) (l0 : List (S52)) (r : Bool) (w : World) (hr0 : Kd.C k52 w A0 l0.length l0) (hc0 : l0.length ≤ c0) (h : spec_ItemsOk.f k l0 = some r) :
  Calls Try.prog 27 #[.slice A0 l0.length c0] w fun e w' => e = .returned (.bool r) ∧ Below w.heap.size w w' := by
 have hu52 := Try.underlying52
 have hu54 := Try.underlying54
 have HR0 := Aside0.mk hr0
 have HC0 := Aside0.mk hc0
 clear hr0 hc0
 have HB := Aside0.mk (Below.refl w.heap.size w)
 have H : ((spec_l1In.f (l0.length : Int) 1 60).bind fun t282 => (if t282 = true then (spec_ItemsOk.l0 k l0 (l0.length : Int) 0) else (some false))) = some r := h
 clear h
 replace H := Option.bind_eq_some_iff.mp H
 obtain ⟨t282, A20, H⟩ := H
 replace H : (if t282 = true then (spec_ItemsOk.l0 k l0 (l0.length : Int) 0) else (some false)) = some r := H
 have A2 := Aside0.mk A20
 clear A20
 by_cases c3 : t282 = true
 ·subst c3
  have H1 : (spec_ItemsOk.l0 k l0 (l0.length : Int) 0) = some r := by rw [if_pos rfl] at H; exact H
  clear H
  have H := H1
  clear H1
  have H' := Aside0.mk H
  clear H
  go_enter Try.func27, Try.ntmps27
  go_wp2_with (first | (go_at_call 79; (with_reducible refine (spec_l1In.calls (l0.length : Int) 1 60 true _ A2.out).mono ?_); rintro e w' ⟨rfl, ⟨nd, rfl⟩⟩; (try first | exact ⟨rfl, _, World.drewN_drewN _ _ _⟩ | exact ⟨rfl, _, Eq.trans (World.drewN_drewN _ _ _) (congrArg (World.drewN _) (Nat.add_assoc _ _ _))⟩)))
  repeat (go_quiet (first | (go_at_call 79; (with_reducible refine (spec_l1In.calls (l0.length : Int) 1 60 true _ A2.out).mono ?_); rintro e w' ⟨rfl, ⟨nd, rfl⟩⟩; (try first | exact ⟨rfl, _, World.drewN_drewN _ _ _⟩ | exact ⟨rfl, _, Eq.trans (World.drewN_drewN _ _ _) (congrArg (World.drewN _) (Nat.add_assoc _ _ _))⟩))); try go_wp2_with (first | (go_at_call 79; (with_reducible refine (spec_l1In.calls (l0.length : Int) 1 60 true _ A2.out).mono ?_); rintro e w' ⟨rfl, ⟨nd, rfl⟩⟩; (try first | exact ⟨rfl, _, World.drewN_drewN _ _ _⟩ | exact ⟨rfl, _, Eq.trans (World.drewN_drewN _ _ _) (congrArg (World.drewN _) (Nat.add_assoc _ _ _))⟩))))
  go_loopg [4] k (fun kq v4 w' => ∃ (x4_1 : Int), v4 = .int .i64 x4_1 ∧ Aside0 (spec_ItemsOk.l0 kq l0 (l0.length : Int) x4_1 = some r) ∧ Aside0 (kq ≤ k) ∧ Aside0 (Below w.heap.size w w'))
  case atStart => exact ⟨(0), (by first | rfl | (simp; done) | (simp [*]; done)), H', ⟨Nat.le_refl _⟩, ⟨by repeat (first | (with_reducible first | exact HB.out | apply qc0 | apply qa0 | apply qd0) | exact HB.out)⟩⟩
  case round =>
   clear H'
   try clear c2
   try clear p2
   try clear c3
   obtain ⟨x4_1, rfl, HA, HK1, HB⟩ := hrel
   cases gk with
   | zero => exact absurd HA.out (by simp [spec_ItemsOk.l0])
   | succ k1 =>
    have H := HA.out
    clear HA
    simp only [spec_ItemsOk.l0] at H
    by_cases c4 : x4_1 < (l0.length : Int)
    ·rw [if_pos c4] at H
     have c4b0 : decide (x4_1 < (l0.length : Int)) = true := decide_eq_true c4
     clear c4
     by_cases c5 : 0 ≤ x4_1
     case neg => rw [if_neg c5] at H; exact absurd H (by simp)
     rw [if_pos c5] at H
     have c5b0 : decide (0 ≤ x4_1) = true := decide_eq_true c5
     clear c5
     by_cases c6 : x4_1 < (l0.length : Int)
     case neg => rw [if_neg c6] at H; exact absurd H (by simp)
     rw [if_pos c6] at H
     have c6b0 : decide (x4_1 < (l0.length : Int)) = true := decide_eq_true c6
     clear c6
     have HC7 := Aside0.mk H
     clear H
     have p283 : 0 ≤ (x4_1 : Int) := of_decide_eq_true (by first | (with_reducible assumption) | assumption)
     have q283 : x4_1 < (l0.length : Int) := of_decide_eq_true (by first | (with_reducible assumption) | assumption)
     obtain ⟨ad283, A283_3, c283_3, A283_4, c283_4, e283, hx283_0, hx283_1, hx283_2, hx283_3, hx283_4, hl283_3, hi283_3, hl283_4, hi283_4⟩ := at_T52 HR0.out x4_1 p283 q283
     cases e283
     replace hx283_0 := (HB.out.cell (World.block_lt_of_cell? w _ hx283_0)).trans hx283_0
     replace hx283_1 := (HB.out.cell (World.block_lt_of_cell? w _ hx283_1)).trans hx283_1
     replace hx283_2 := (HB.out.cell (World.block_lt_of_cell? w _ hx283_2)).trans hx283_2
     replace hx283_3 := (HB.out.cell (World.block_lt_of_cell? w _ hx283_3)).trans hx283_3
     replace hx283_4 := (HB.out.cell (World.block_lt_of_cell? w _ hx283_4)).trans hx283_4
     have HR283_3 := Aside0.mk hi283_3
     have HC283_3 := Aside0.mk hl283_3
     clear hi283_3 hl283_3
     have HR283_4 := Aside0.mk hi283_4
     have HC283_4 := Aside0.mk hl283_4
     clear hi283_4 hl283_4
     replace p283 := eq_true p283
     replace q283 := eq_true q283
     go_upto_region 8 with (first | ((with_reducible refine qz0 (N := 5) rfl ?_); (try (refine gate_guard (by rfl) ?_; dsimp only)); refine qg1 ?hg (N := 5) ?hd (cs := #[.string (⟨#[]⟩ : ByteArray), .int .i64 0, .bool false, .slice none 0 0, .slice none 0 0]) (t := 52) ?hr ?_; (case hd => rfl); (case hg => rfl); (case hr => first | (go_simp; done) | (go_simp; rfl)); intro gb284 hg w8 hbox hb; have n0_ := Aside0.mk (qk0 (by repeat (first | (with_reducible first | exact HB.out | apply qc0 | apply qa0 | apply qd0) | exact HB.out)) hb); have n1_ := Aside0.mk (hbox); have n2_ := Aside0.mk ((by rw [hg]; exact (qm0 (by repeat (first | (with_reducible first | exact HB.out | apply qc0 | apply qa0 | apply qd0) | exact HB.out))) : w.heap.size ≤ gb284)); have n3_ := Aside0.mk ((by rw [hg]; exact (qm0 (by repeat (first | (with_reducible first | exact HB.out | apply qc0 | apply qa0 | apply qd0) | exact HB.out))) : w.heap.size ≤ gb284)); clear HB; have HB := n0_; have BK284 := n1_; have GW284 := n2_; have GE284 := n3_; clear n0_ n1_ n2_ n3_; clear hb hbox hg; have hcz9_0 : w8.cell? ⟨gb284, 0, none⟩ = some (.string (⟨#[]⟩ : ByteArray)) := (qe0 BK284.out 0).trans rfl; have hcz9_1 : w8.cell? ⟨gb284, 1, none⟩ = some (.int .i64 0) := (qe0 BK284.out 1).trans rfl; have hcz9_2 : w8.cell? ⟨gb284, 2, none⟩ = some (.bool false) := (qe0 BK284.out 2).trans rfl; have hcz9_3 : w8.cell? ⟨gb284, 3, none⟩ = some (.slice none 0 0) := (qe0 BK284.out 3).trans rfl; have hcz9_4 : w8.cell? ⟨gb284, 4, none⟩ = some (.slice none 0 0) := (qe0 BK284.out 4).trans rfl; have hfz9_0 := qb0 BK284.out 0; have hfz9_1 := qb0 BK284.out 1; have hfz9_2 := qb0 BK284.out 2; have hfz9_3 := qb0 BK284.out 3; have hfz9_4 := qb0 BK284.out 4))
     repeat (go_quiet (first | ((with_reducible refine qz0 (N := 5) rfl ?_); (try (refine gate_guard (by rfl) ?_; dsimp only)); refine qg1 ?hg (N := 5) ?hd (cs := #[.string (⟨#[]⟩ : ByteArray), .int .i64 0, .bool false, .slice none 0 0, .slice none 0 0]) (t := 52) ?hr ?_; (case hd => rfl); (case hg => rfl); (case hr => first | (go_simp; done) | (go_simp; rfl)); intro gb284 hg w8 hbox hb; have n0_ := Aside0.mk (qk0 (by repeat (first | (with_reducible first | exact HB.out | apply qc0 | apply qa0 | apply qd0) | exact HB.out)) hb); have n1_ := Aside0.mk (hbox); have n2_ := Aside0.mk ((by rw [hg]; exact (qm0 (by repeat (first | (with_reducible first | exact HB.out | apply qc0 | apply qa0 | apply qd0) | exact HB.out))) : w.heap.size ≤ gb284)); have n3_ := Aside0.mk ((by rw [hg]; exact (qm0 (by repeat (first | (with_reducible first | exact HB.out | apply qc0 | apply qa0 | apply qd0) | exact HB.out))) : w.heap.size ≤ gb284)); clear HB; have HB := n0_; have BK284 := n1_; have GW284 := n2_; have GE284 := n3_; clear n0_ n1_ n2_ n3_; clear hb hbox hg; have hcz9_0 : w8.cell? ⟨gb284, 0, none⟩ = some (.string (⟨#[]⟩ : ByteArray)) := (qe0 BK284.out 0).trans rfl; have hcz9_1 : w8.cell? ⟨gb284, 1, none⟩ = some (.int .i64 0) := (qe0 BK284.out 1).trans rfl; have hcz9_2 : w8.cell? ⟨gb284, 2, none⟩ = some (.bool false) := (qe0 BK284.out 2).trans rfl; have hcz9_3 : w8.cell? ⟨gb284, 3, none⟩ = some (.slice none 0 0) := (qe0 BK284.out 3).trans rfl; have hcz9_4 : w8.cell? ⟨gb284, 4, none⟩ = some (.slice none 0 0) := (qe0 BK284.out 4).trans rfl; have hfz9_0 := qb0 BK284.out 0; have hfz9_1 := qb0 BK284.out 1; have hfz9_2 := qb0 BK284.out 2; have hfz9_3 := qb0 BK284.out 3; have hfz9_4 := qb0 BK284.out 4)); go_upto_region 8 with (first | ((with_reducible refine qz0 (N := 5) rfl ?_); (try (refine gate_guard (by rfl) ?_; dsimp only)); refine qg1 ?hg (N := 5) ?hd (cs := #[.string (⟨#[]⟩ : ByteArray), .int .i64 0, .bool false, .slice none 0 0, .slice none 0 0]) (t := 52) ?hr ?_; (case hd => rfl); (case hg => rfl); (case hr => first | (go_simp; done) | (go_simp; rfl)); intro gb284 hg w8 hbox hb; have n0_ := Aside0.mk (qk0 (by repeat (first | (with_reducible first | exact HB.out | apply qc0 | apply qa0 | apply qd0) | exact HB.out)) hb); have n1_ := Aside0.mk (hbox); have n2_ := Aside0.mk ((by rw [hg]; exact (qm0 (by repeat (first | (with_reducible first | exact HB.out | apply qc0 | apply qa0 | apply qd0) | exact HB.out))) : w.heap.size ≤ gb284)); have n3_ := Aside0.mk ((by rw [hg]; exact (qm0 (by repeat (first | (with_reducible first | exact HB.out | apply qc0 | apply qa0 | apply qd0) | exact HB.out))) : w.heap.size ≤ gb284)); clear HB; have HB := n0_; have BK284 := n1_; have GW284 := n2_; have GE284 := n3_; clear n0_ n1_ n2_ n3_; clear hb hbox hg; have hcz9_0 : w8.cell? ⟨gb284, 0, none⟩ = some (.string (⟨#[]⟩ : ByteArray)) := (qe0 BK284.out 0).trans rfl; have hcz9_1 : w8.cell? ⟨gb284, 1, none⟩ = some (.int .i64 0) := (qe0 BK284.out 1).trans rfl; have hcz9_2 : w8.cell? ⟨gb284, 2, none⟩ = some (.bool false) := (qe0 BK284.out 2).trans rfl; have hcz9_3 : w8.cell? ⟨gb284, 3, none⟩ = some (.slice none 0 0) := (qe0 BK284.out 3).trans rfl; have hcz9_4 : w8.cell? ⟨gb284, 4, none⟩ = some (.slice none 0 0) := (qe0 BK284.out 4).trans rfl; have hfz9_0 := qb0 BK284.out 0; have hfz9_1 := qb0 BK284.out 1; have hfz9_2 := qb0 BK284.out 2; have hfz9_3 := qb0 BK284.out 3; have hfz9_4 := qb0 BK284.out 4)))
     (try simp only [Act.put, List.setIfInBounds_toArray, List.set_cons_zero, List.set_cons_succ])
     go_cut [62] (fun v62 wc => ∃ (kq : Nat) (x62_6 : Bool), v62 = .bool x62_6 ∧ Aside0 (spec_ItemsOk.j1 kq l0 (l0.length : Int) x4_1 x62_6 ((rd_T52 l0 x4_1).f0) ((rd_T52 l0 x4_1).f1) ((rd_T52 l0 x4_1).f2) ((rd_T52 l0 x4_1).f3) ((rd_T52 l0 x4_1).f4) = some r) ∧ Aside0 (kq ≤ k1) ∧ Aside0 (wc.heap[gb284]? = some (.cells #[.string ((rd_T52 l0 x4_1).f0), .int .i64 ((rd_T52 l0 x4_1).f1), .bool ((rd_T52 l0 x4_1).f2), (.slice A283_3 ((rd_T52 l0 x4_1).f3).length c283_3), (.slice A283_4 ((rd_T52 l0 x4_1).f4).length c283_4)] 52 (0, 0))) ∧ Aside0 (Below w.heap.size w wc))
     case first =>
      have H := HC7.out
      clear HC7
      replace H := Option.bind_eq_some_iff.mp H
      obtain ⟨t285, A100, H⟩ := H
      replace H : (if t285 = true then ((spec_l1In.f ((rd_T52 l0 x4_1).f1) 1 1000000).bind fun t286 => (if t286 = true then (if (((rd_T52 l0 x4_1).f3).length : Int) > 30 then (spec_ItemsOk.j1 k1 l0 (l0.length : Int) x4_1 true ((rd_T52 l0 x4_1).f0) ((rd_T52 l0 x4_1).f1) ((rd_T52 l0 x4_1).f2) ((rd_T52 l0 x4_1).f3) ((rd_T52 l0 x4_1).f4)) else (if (((rd_T52 l0 x4_1).f4).length : Int) > 30 then (spec_ItemsOk.j1 k1 l0 (l0.length : Int) x4_1 true ((rd_T52 l0 x4_1).f0) ((rd_T52 l0 x4_1).f1) ((rd_T52 l0 x4_1).f2) ((rd_T52 l0 x4_1).f3) ((rd_T52 l0 x4_1).f4)) else (if (rd_T52 l0 x4_1).f2 = true then (if (((rd_T52 l0 x4_1).f3).length : Int) = 0 then (spec_ItemsOk.j1 k1 l0 (l0.length : Int) x4_1 true ((rd_T52 l0 x4_1).f0) ((rd_T52 l0 x4_1).f1) ((rd_T52 l0 x4_1).f2) ((rd_T52 l0 x4_1).f3) ((rd_T52 l0 x4_1).f4)) else (spec_ItemsOk.j1 k1 l0 (l0.length : Int) x4_1 (decide ((((rd_T52 l0 x4_1).f4).length : Int) > 0)) ((rd_T52 l0 x4_1).f0) ((rd_T52 l0 x4_1).f1) ((rd_T52 l0 x4_1).f2) ((rd_T52 l0 x4_1).f3) ((rd_T52 l0 x4_1).f4))) else (spec_ItemsOk.j1 k1 l0 (l0.length : Int) x4_1 false ((rd_T52 l0 x4_1).f0) ((rd_T52 l0 x4_1).f1) ((rd_T52 l0 x4_1).f2) ((rd_T52 l0 x4_1).f3) ((rd_T52 l0 x4_1).f4))))) else (spec_ItemsOk.j1 k1 l0 (l0.length : Int) x4_1 true ((rd_T52 l0 x4_1).f0) ((rd_T52 l0 x4_1).f1) ((rd_T52 l0 x4_1).f2) ((rd_T52 l0 x4_1).f3) ((rd_T52 l0 x4_1).f4)))) else (spec_ItemsOk.j1 k1 l0 (l0.length : Int) x4_1 true ((rd_T52 l0 x4_1).f0) ((rd_T52 l0 x4_1).f1) ((rd_T52 l0 x4_1).f2) ((rd_T52 l0 x4_1).f3) ((rd_T52 l0 x4_1).f4))) = some r := H
      have A10 := Aside0.mk A100
      clear A100
      by_cases c11 : t285 = true
      ·subst c11
       have H1 : ((spec_l1In.f ((rd_T52 l0 x4_1).f1) 1 1000000).bind fun t286 => (if t286 = true then (if (((rd_T52 l0 x4_1).f3).length : Int) > 30 then (spec_ItemsOk.j1 k1 l0 (l0.length : Int) x4_1 true ((rd_T52 l0 x4_1).f0) ((rd_T52 l0 x4_1).f1) ((rd_T52 l0 x4_1).f2) ((rd_T52 l0 x4_1).f3) ((rd_T52 l0 x4_1).f4)) else (if (((rd_T52 l0 x4_1).f4).length : Int) > 30 then (spec_ItemsOk.j1 k1 l0 (l0.length : Int) x4_1 true ((rd_T52 l0 x4_1).f0) ((rd_T52 l0 x4_1).f1) ((rd_T52 l0 x4_1).f2) ((rd_T52 l0 x4_1).f3) ((rd_T52 l0 x4_1).f4)) else (if (rd_T52 l0 x4_1).f2 = true then (if (((rd_T52 l0 x4_1).f3).length : Int) = 0 then (spec_ItemsOk.j1 k1 l0 (l0.length : Int) x4_1 true ((rd_T52 l0 x4_1).f0) ((rd_T52 l0 x4_1).f1) ((rd_T52 l0 x4_1).f2) ((rd_T52 l0 x4_1).f3) ((rd_T52 l0 x4_1).f4)) else (spec_ItemsOk.j1 k1 l0 (l0.length : Int) x4_1 (decide ((((rd_T52 l0 x4_1).f4).length : Int) > 0)) ((rd_T52 l0 x4_1).f0) ((rd_T52 l0 x4_1).f1) ((rd_T52 l0 x4_1).f2) ((rd_T52 l0 x4_1).f3) ((rd_T52 l0 x4_1).f4))) else (spec_ItemsOk.j1 k1 l0 (l0.length : Int) x4_1 false ((rd_T52 l0 x4_1).f0) ((rd_T52 l0 x4_1).f1) ((rd_T52 l0 x4_1).f2) ((rd_T52 l0 x4_1).f3) ((rd_T52 l0 x4_1).f4))))) else (spec_ItemsOk.j1 k1 l0 (l0.length : Int) x4_1 true ((rd_T52 l0 x4_1).f0) ((rd_T52 l0 x4_1).f1) ((rd_T52 l0 x4_1).f2) ((rd_T52 l0 x4_1).f3) ((rd_T52 l0 x4_1).f4)))) = some r := by rw [if_pos rfl] at H; exact H
       clear H
       have H := H1
       clear H1
       replace H := Option.bind_eq_some_iff.mp H
       obtain ⟨t286, A120, H⟩ := H
       replace H : (if t286 = true then (if (((rd_T52 l0 x4_1).f3).length : Int) > 30 then (spec_ItemsOk.j1 k1 l0 (l0.length : Int) x4_1 true ((rd_T52 l0 x4_1).f0) ((rd_T52 l0 x4_1).f1) ((rd_T52 l0 x4_1).f2) ((rd_T52 l0 x4_1).f3) ((rd_T52 l0 x4_1).f4)) else (if (((rd_T52 l0 x4_1).f4).length : Int) > 30 then (spec_ItemsOk.j1 k1 l0 (l0.length : Int) x4_1 true ((rd_T52 l0 x4_1).f0) ((rd_T52 l0 x4_1).f1) ((rd_T52 l0 x4_1).f2) ((rd_T52 l0 x4_1).f3) ((rd_T52 l0 x4_1).f4)) else (if (rd_T52 l0 x4_1).f2 = true then (if (((rd_T52 l0 x4_1).f3).length : Int) = 0 then (spec_ItemsOk.j1 k1 l0 (l0.length : Int) x4_1 true ((rd_T52 l0 x4_1).f0) ((rd_T52 l0 x4_1).f1) ((rd_T52 l0 x4_1).f2) ((rd_T52 l0 x4_1).f3) ((rd_T52 l0 x4_1).f4)) else (spec_ItemsOk.j1 k1 l0 (l0.length : Int) x4_1 (decide ((((rd_T52 l0 x4_1).f4).length : Int) > 0)) ((rd_T52 l0 x4_1).f0) ((rd_T52 l0 x4_1).f1) ((rd_T52 l0 x4_1).f2) ((rd_T52 l0 x4_1).f3) ((rd_T52 l0 x4_1).f4))) else (spec_ItemsOk.j1 k1 l0 (l0.length : Int) x4_1 false ((rd_T52 l0 x4_1).f0) ((rd_T52 l0 x4_1).f1) ((rd_T52 l0 x4_1).f2) ((rd_T52 l0 x4_1).f3) ((rd_T52 l0 x4_1).f4))))) else (spec_ItemsOk.j1 k1 l0 (l0.length : Int) x4_1 true ((rd_T52 l0 x4_1).f0) ((rd_T52 l0 x4_1).f1) ((rd_T52 l0 x4_1).f2) ((rd_T52 l0 x4_1).f3) ((rd_T52 l0 x4_1).f4))) = some r := H
       have A12 := Aside0.mk A120
       clear A120
       by_cases c13 : t286 = true
       ·subst c13
        have H1 : (if (((rd_T52 l0 x4_1).f3).length : Int) > 30 then (spec_ItemsOk.j1 k1 l0 (l0.length : Int) x4_1 true ((rd_T52 l0 x4_1).f0) ((rd_T52 l0 x4_1).f1) ((rd_T52 l0 x4_1).f2) ((rd_T52 l0 x4_1).f3) ((rd_T52 l0 x4_1).f4)) else (if (((rd_T52 l0 x4_1).f4).length : Int) > 30 then (spec_ItemsOk.j1 k1 l0 (l0.length : Int) x4_1 true ((rd_T52 l0 x4_1).f0) ((rd_T52 l0 x4_1).f1) ((rd_T52 l0 x4_1).f2) ((rd_T52 l0 x4_1).f3) ((rd_T52 l0 x4_1).f4)) else (if (rd_T52 l0 x4_1).f2 = true then (if (((rd_T52 l0 x4_1).f3).length : Int) = 0 then (spec_ItemsOk.j1 k1 l0 (l0.length : Int) x4_1 true ((rd_T52 l0 x4_1).f0) ((rd_T52 l0 x4_1).f1) ((rd_T52 l0 x4_1).f2) ((rd_T52 l0 x4_1).f3) ((rd_T52 l0 x4_1).f4)) else (spec_ItemsOk.j1 k1 l0 (l0.length : Int) x4_1 (decide ((((rd_T52 l0 x4_1).f4).length : Int) > 0)) ((rd_T52 l0 x4_1).f0) ((rd_T52 l0 x4_1).f1) ((rd_T52 l0 x4_1).f2) ((rd_T52 l0 x4_1).f3) ((rd_T52 l0 x4_1).f4))) else (spec_ItemsOk.j1 k1 l0 (l0.length : Int) x4_1 false ((rd_T52 l0 x4_1).f0) ((rd_T52 l0 x4_1).f1) ((rd_T52 l0 x4_1).f2) ((rd_T52 l0 x4_1).f3) ((rd_T52 l0 x4_1).f4))))) = some r := by rw [if_pos rfl] at H; exact H
        clear H
        have H := H1
        clear H1
        by_cases c14 : (((rd_T52 l0 x4_1).f3).length : Int) > 30
        ·rw [if_pos c14] at H
         have c14b0 : decide (30 < (((rd_T52 l0 x4_1).f3).length : Int)) = true := decide_eq_true c14
         have c14b1 : decide (30 < ((rd_T52 l0 x4_1).f3).length) = true := decide_eq_true (by omega)
         clear c14
         (first | rw [c14b0] | (simp only [i64_w, i32_w]; rw [c14b0]) | skip)
         have H' := Aside0.mk H
         clear H
         have hcz15_0 : w8.cell? ⟨gb284, 0, none⟩ = some (.string (⟨#[]⟩ : ByteArray)) := (qe0 BK284.out 0).trans rfl
         have hcz15_1 : w8.cell? ⟨gb284, 1, none⟩ = some (.int .i64 0) := (qe0 BK284.out 1).trans rfl
         have hcz15_2 : w8.cell? ⟨gb284, 2, none⟩ = some (.bool false) := (qe0 BK284.out 2).trans rfl
         have hcz15_3 : w8.cell? ⟨gb284, 3, none⟩ = some (.slice none 0 0) := (qe0 BK284.out 3).trans rfl
         have hcz15_4 : w8.cell? ⟨gb284, 4, none⟩ = some (.slice none 0 0) := (qe0 BK284.out 4).trans rfl
         have hfz15_0 := qb0 BK284.out 0
         have hfz15_1 := qb0 BK284.out 1
         have hfz15_2 := qb0 BK284.out 2
         have hfz15_3 := qb0 BK284.out 3
         have hfz15_4 := qb0 BK284.out 4
         go_wp2_with (first | (go_at_call 78; (with_reducible refine (spec_NameOk.calls k1 ((rd_T52 l0 x4_1).f0) true _ A10.out).mono ?_); rintro e w' ⟨rfl, ⟨nd, rfl⟩⟩; (try first | exact ⟨rfl, _, World.drewN_drewN _ _ _⟩ | exact ⟨rfl, _, Eq.trans (World.drewN_drewN _ _ _) (congrArg (World.drewN _) (Nat.add_assoc _ _ _))⟩)) | (go_at_call 79; (with_reducible refine (spec_l1In.calls ((rd_T52 l0 x4_1).f1) 1 1000000 true _ A12.out).mono ?_); rintro e w' ⟨rfl, ⟨nd, rfl⟩⟩; (try first | exact ⟨rfl, _, World.drewN_drewN _ _ _⟩ | exact ⟨rfl, _, Eq.trans (World.drewN_drewN _ _ _) (congrArg (World.drewN _) (Nat.add_assoc _ _ _))⟩)))
         repeat (go_quiet (first | (go_at_call 78; (with_reducible refine (spec_NameOk.calls k1 ((rd_T52 l0 x4_1).f0) true _ A10.out).mono ?_); rintro e w' ⟨rfl, ⟨nd, rfl⟩⟩; (try first | exact ⟨rfl, _, World.drewN_drewN _ _ _⟩ | exact ⟨rfl, _, Eq.trans (World.drewN_drewN _ _ _) (congrArg (World.drewN _) (Nat.add_assoc _ _ _))⟩)) | (go_at_call 79; (with_reducible refine (spec_l1In.calls ((rd_T52 l0 x4_1).f1) 1 1000000 true _ A12.out).mono ?_); rintro e w' ⟨rfl, ⟨nd, rfl⟩⟩; (try first | exact ⟨rfl, _, World.drewN_drewN _ _ _⟩ | exact ⟨rfl, _, Eq.trans (World.drewN_drewN _ _ _) (congrArg (World.drewN _) (Nat.add_assoc _ _ _))⟩))); try go_wp2_with (first | (go_at_call 78; (with_reducible refine (spec_NameOk.calls k1 ((rd_T52 l0 x4_1).f0) true _ A10.out).mono ?_); rintro e w' ⟨rfl, ⟨nd, rfl⟩⟩; (try first | exact ⟨rfl, _, World.drewN_drewN _ _ _⟩ | exact ⟨rfl, _, Eq.trans (World.drewN_drewN _ _ _) (congrArg (World.drewN _) (Nat.add_assoc _ _ _))⟩)) | (go_at_call 79; (with_reducible refine (spec_l1In.calls ((rd_T52 l0 x4_1).f1) 1 1000000 true _ A12.out).mono ?_); rintro e w' ⟨rfl, ⟨nd, rfl⟩⟩; (try first | exact ⟨rfl, _, World.drewN_drewN _ _ _⟩ | exact ⟨rfl, _, Eq.trans (World.drewN_drewN _ _ _) (congrArg (World.drewN _) (Nat.add_assoc _ _ _))⟩))))
         go_meet
         case rel => exact ⟨_, (true), (by first | rfl | (simp; done) | (simp [*]; done)), H', ⟨by have := HK1.out; first | omega | exact Nat.le_refl _⟩, ⟨by (with_reducible repeat (first | refine qg0 ?_ _ | refine qh0 ?_ | refine qf0 ?_ _)); refine ql0 (cs := #[.string ((rd_T52 l0 x4_1).f0), .int .i64 ((rd_T52 l0 x4_1).f1), .bool ((rd_T52 l0 x4_1).f2), .slice A283_3 ((rd_T52 l0 x4_1).f3).length c283_3, .slice none 0 0]) ?_ 4 _ rfl; (with_reducible repeat (first | refine qg0 ?_ _ | refine qh0 ?_ | refine qf0 ?_ _)); refine ql0 (cs := #[.string ((rd_T52 l0 x4_1).f0), .int .i64 ((rd_T52 l0 x4_1).f1), .bool ((rd_T52 l0 x4_1).f2), .slice none 0 0, .slice none 0 0]) ?_ 3 _ rfl; (with_reducible repeat (first | refine qg0 ?_ _ | refine qh0 ?_ | refine qf0 ?_ _)); refine ql0 (cs := #[.string ((rd_T52 l0 x4_1).f0), .int .i64 ((rd_T52 l0 x4_1).f1), .bool false, .slice none 0 0, .slice none 0 0]) ?_ 2 _ rfl; (with_reducible repeat (first | refine qg0 ?_ _ | refine qh0 ?_ | refine qf0 ?_ _)); refine ql0 (cs := #[.string ((rd_T52 l0 x4_1).f0), .int .i64 0, .bool false, .slice none 0 0, .slice none 0 0]) ?_ 1 _ rfl; (with_reducible repeat (first | refine qg0 ?_ _ | refine qh0 ?_ | refine qf0 ?_ _)); refine ql0 (cs := #[.string (⟨#[]⟩ : ByteArray), .int .i64 0, .bool false, .slice none 0 0, .slice none 0 0]) ?_ 0 _ rfl; (with_reducible repeat (first | refine qg0 ?_ _ | refine qh0 ?_ | refine qf0 ?_ _)); exact BK284.out⟩, ⟨by repeat (first | (with_reducible first | exact HB.out | apply qc0 | apply qa0 | apply qd0 | refine qi0 ?_ GE284.out) | exact HB.out)⟩⟩
        rw [if_neg c14] at H
        have c14b0 : decide (30 < (((rd_T52 l0 x4_1).f3).length : Int)) = false := decide_eq_false c14
        have c14b1 : decide (30 < ((rd_T52 l0 x4_1).f3).length) = false := decide_eq_false (by omega)
        clear c14
        (first | rw [c14b0] | (simp only [i64_w, i32_w]; rw [c14b0]) | skip)
        by_cases c16 : (((rd_T52 l0 x4_1).f4).length : Int) > 30
        ·rw [if_pos c16] at H
         have c16b0 : decide (30 < (((rd_T52 l0 x4_1).f4).length : Int)) = true := decide_eq_true c16
         have c16b1 : decide (30 < ((rd_T52 l0 x4_1).f4).length) = true := decide_eq_true (by omega)
         clear c16
         have H' := Aside0.mk H
         clear H
         have hcz17_0 : w8.cell? ⟨gb284, 0, none⟩ = some (.string (⟨#[]⟩ : ByteArray)) := (qe0 BK284.out 0).trans rfl
         have hcz17_1 : w8.cell? ⟨gb284, 1, none⟩ = some (.int .i64 0) := (qe0 BK284.out 1).trans rfl
         have hcz17_2 : w8.cell? ⟨gb284, 2, none⟩ = some (.bool false) := (qe0 BK284.out 2).trans rfl
         have hcz17_3 : w8.cell? ⟨gb284, 3, none⟩ = some (.slice none 0 0) := (qe0 BK284.out 3).trans rfl
         have hcz17_4 : w8.cell? ⟨gb284, 4, none⟩ = some (.slice none 0 0) := (qe0 BK284.out 4).trans rfl
         have hfz17_0 := qb0 BK284.out 0
         have hfz17_1 := qb0 BK284.out 1
         have hfz17_2 := qb0 BK284.out 2
         have hfz17_3 := qb0 BK284.out 3
         have hfz17_4 := qb0 BK284.out 4
         go_wp2_with (first | (go_at_call 78; (with_reducible refine (spec_NameOk.calls k1 ((rd_T52 l0 x4_1).f0) true _ A10.out).mono ?_); rintro e w' ⟨rfl, ⟨nd, rfl⟩⟩; (try first | exact ⟨rfl, _, World.drewN_drewN _ _ _⟩ | exact ⟨rfl, _, Eq.trans (World.drewN_drewN _ _ _) (congrArg (World.drewN _) (Nat.add_assoc _ _ _))⟩)) | (go_at_call 79; (with_reducible refine (spec_l1In.calls ((rd_T52 l0 x4_1).f1) 1 1000000 true _ A12.out).mono ?_); rintro e w' ⟨rfl, ⟨nd, rfl⟩⟩; (try first | exact ⟨rfl, _, World.drewN_drewN _ _ _⟩ | exact ⟨rfl, _, Eq.trans (World.drewN_drewN _ _ _) (congrArg (World.drewN _) (Nat.add_assoc _ _ _))⟩)))
         repeat (go_quiet (first | (go_at_call 78; (with_reducible refine (spec_NameOk.calls k1 ((rd_T52 l0 x4_1).f0) true _ A10.out).mono ?_); rintro e w' ⟨rfl, ⟨nd, rfl⟩⟩; (try first | exact ⟨rfl, _, World.drewN_drewN _ _ _⟩ | exact ⟨rfl, _, Eq.trans (World.drewN_drewN _ _ _) (congrArg (World.drewN _) (Nat.add_assoc _ _ _))⟩)) | (go_at_call 79; (with_reducible refine (spec_l1In.calls ((rd_T52 l0 x4_1).f1) 1 1000000 true _ A12.out).mono ?_); rintro e w' ⟨rfl, ⟨nd, rfl⟩⟩; (try first | exact ⟨rfl, _, World.drewN_drewN _ _ _⟩ | exact ⟨rfl, _, Eq.trans (World.drewN_drewN _ _ _) (congrArg (World.drewN _) (Nat.add_assoc _ _ _))⟩))); try go_wp2_with (first | (go_at_call 78; (with_reducible refine (spec_NameOk.calls k1 ((rd_T52 l0 x4_1).f0) true _ A10.out).mono ?_); rintro e w' ⟨rfl, ⟨nd, rfl⟩⟩; (try first | exact ⟨rfl, _, World.drewN_drewN _ _ _⟩ | exact ⟨rfl, _, Eq.trans (World.drewN_drewN _ _ _) (congrArg (World.drewN _) (Nat.add_assoc _ _ _))⟩)) | (go_at_call 79; (with_reducible refine (spec_l1In.calls ((rd_T52 l0 x4_1).f1) 1 1000000 true _ A12.out).mono ?_); rintro e w' ⟨rfl, ⟨nd, rfl⟩⟩; (try first | exact ⟨rfl, _, World.drewN_drewN _ _ _⟩ | exact ⟨rfl, _, Eq.trans (World.drewN_drewN _ _ _) (congrArg (World.drewN _) (Nat.add_assoc _ _ _))⟩))))
         go_meet
         case rel => exact ⟨_, (true), (by first | rfl | (simp; done) | (simp [*]; done)), H', ⟨by have := HK1.out; first | omega | exact Nat.le_refl _⟩, ⟨by (with_reducible repeat (first | refine qg0 ?_ _ | refine qh0 ?_ | refine qf0 ?_ _)); refine ql0 (cs := #[.string ((rd_T52 l0 x4_1).f0), .int .i64 ((rd_T52 l0 x4_1).f1), .bool ((rd_T52 l0 x4_1).f2), .slice A283_3 ((rd_T52 l0 x4_1).f3).length c283_3, .slice none 0 0]) ?_ 4 _ rfl; (with_reducible repeat (first | refine qg0 ?_ _ | refine qh0 ?_ | refine qf0 ?_ _)); refine ql0 (cs := #[.string ((rd_T52 l0 x4_1).f0), .int .i64 ((rd_T52 l0 x4_1).f1), .bool ((rd_T52 l0 x4_1).f2), .slice none 0 0, .slice none 0 0]) ?_ 3 _ rfl; (with_reducible repeat (first | refine qg0 ?_ _ | refine qh0 ?_ | refine qf0 ?_ _)); refine ql0 (cs := #[.string ((rd_T52 l0 x4_1).f0), .int .i64 ((rd_T52 l0 x4_1).f1), .bool false, .slice none 0 0, .slice none 0 0]) ?_ 2 _ rfl; (with_reducible repeat (first | refine qg0 ?_ _ | refine qh0 ?_ | refine qf0 ?_ _)); refine ql0 (cs := #[.string ((rd_T52 l0 x4_1).f0), .int .i64 0, .bool false, .slice none 0 0, .slice none 0 0]) ?_ 1 _ rfl; (with_reducible repeat (first | refine qg0 ?_ _ | refine qh0 ?_ | refine qf0 ?_ _)); refine ql0 (cs := #[.string (⟨#[]⟩ : ByteArray), .int .i64 0, .bool false, .slice none 0 0, .slice none 0 0]) ?_ 0 _ rfl; (with_reducible repeat (first | refine qg0 ?_ _ | refine qh0 ?_ | refine qf0 ?_ _)); exact BK284.out⟩, ⟨by repeat (first | (with_reducible first | exact HB.out | apply qc0 | apply qa0 | apply qd0 | refine qi0 ?_ GE284.out) | exact HB.out)⟩⟩
        rw [if_neg c16] at H
        have c16b0 : decide (30 < (((rd_T52 l0 x4_1).f4).length : Int)) = false := decide_eq_false c16
        have c16b1 : decide (30 < ((rd_T52 l0 x4_1).f4).length) = false := decide_eq_false (by omega)
        clear c16




        by_cases c19 : (rd_T52 l0 x4_1).f2 = true
        ·skip
         have H1 := H; rw [if_pos c19] at H1
         clear H
         have H := H1
         clear H1
         by_cases c20 : (((rd_T52 l0 x4_1).f3).length : Int) = 0
         ·rw [if_pos c20] at H
          have c20b0 : ((((rd_T52 l0 x4_1).f3).length : Int) == 0) = true := beq_iff_eq.mpr c20
          have c20b1 : ((((rd_T52 l0 x4_1).f3).length : Int) != 0) = false := bne_eq_false_iff_eq.mpr c20
          clear c20
          have H' := Aside0.mk H
          clear H
          have hcz21_0 : w8.cell? ⟨gb284, 0, none⟩ = some (.string (⟨#[]⟩ : ByteArray)) := (qe0 BK284.out 0).trans rfl
          have hcz21_1 : w8.cell? ⟨gb284, 1, none⟩ = some (.int .i64 0) := (qe0 BK284.out 1).trans rfl
          have hcz21_2 : w8.cell? ⟨gb284, 2, none⟩ = some (.bool false) := (qe0 BK284.out 2).trans rfl
          have hcz21_3 : w8.cell? ⟨gb284, 3, none⟩ = some (.slice none 0 0) := (qe0 BK284.out 3).trans rfl
          have hcz21_4 : w8.cell? ⟨gb284, 4, none⟩ = some (.slice none 0 0) := (qe0 BK284.out 4).trans rfl
          have hfz21_0 := qb0 BK284.out 0
          have hfz21_1 := qb0 BK284.out 1
          have hfz21_2 := qb0 BK284.out 2
          have hfz21_3 := qb0 BK284.out 3
          have hfz21_4 := qb0 BK284.out 4
          go_wp2_with (first | (go_at_call 78; (with_reducible refine (spec_NameOk.calls k1 ((rd_T52 l0 x4_1).f0) true _ A10.out).mono ?_); rintro e w' ⟨rfl, ⟨nd, rfl⟩⟩; (try first | exact ⟨rfl, _, World.drewN_drewN _ _ _⟩ | exact ⟨rfl, _, Eq.trans (World.drewN_drewN _ _ _) (congrArg (World.drewN _) (Nat.add_assoc _ _ _))⟩)) | (go_at_call 79; (with_reducible refine (spec_l1In.calls ((rd_T52 l0 x4_1).f1) 1 1000000 true _ A12.out).mono ?_); rintro e w' ⟨rfl, ⟨nd, rfl⟩⟩; (try first | exact ⟨rfl, _, World.drewN_drewN _ _ _⟩ | exact ⟨rfl, _, Eq.trans (World.drewN_drewN _ _ _) (congrArg (World.drewN _) (Nat.add_assoc _ _ _))⟩)))
          repeat (go_quiet (first | (go_at_call 78; (with_reducible refine (spec_NameOk.calls k1 ((rd_T52 l0 x4_1).f0) true _ A10.out).mono ?_); rintro e w' ⟨rfl, ⟨nd, rfl⟩⟩; (try first | exact ⟨rfl, _, World.drewN_drewN _ _ _⟩ | exact ⟨rfl, _, Eq.trans (World.drewN_drewN _ _ _) (congrArg (World.drewN _) (Nat.add_assoc _ _ _))⟩)) | (go_at_call 79; (with_reducible refine (spec_l1In.calls ((rd_T52 l0 x4_1).f1) 1 1000000 true _ A12.out).mono ?_); rintro e w' ⟨rfl, ⟨nd, rfl⟩⟩; (try first | exact ⟨rfl, _, World.drewN_drewN _ _ _⟩ | exact ⟨rfl, _, Eq.trans (World.drewN_drewN _ _ _) (congrArg (World.drewN _) (Nat.add_assoc _ _ _))⟩))); try go_wp2_with (first | (go_at_call 78; (with_reducible refine (spec_NameOk.calls k1 ((rd_T52 l0 x4_1).f0) true _ A10.out).mono ?_); rintro e w' ⟨rfl, ⟨nd, rfl⟩⟩; (try first | exact ⟨rfl, _, World.drewN_drewN _ _ _⟩ | exact ⟨rfl, _, Eq.trans (World.drewN_drewN _ _ _) (congrArg (World.drewN _) (Nat.add_assoc _ _ _))⟩)) | (go_at_call 79; (with_reducible refine (spec_l1In.calls ((rd_T52 l0 x4_1).f1) 1 1000000 true _ A12.out).mono ?_); rintro e w' ⟨rfl, ⟨nd, rfl⟩⟩; (try first | exact ⟨rfl, _, World.drewN_drewN _ _ _⟩ | exact ⟨rfl, _, Eq.trans (World.drewN_drewN _ _ _) (congrArg (World.drewN _) (Nat.add_assoc _ _ _))⟩))))
          go_meet
          case rel => exact ⟨_, (true), (by first | rfl | (simp; done) | (simp [*]; done)), H', ⟨by have := HK1.out; first | omega | exact Nat.le_refl _⟩, ⟨by (with_reducible repeat (first | refine qg0 ?_ _ | refine qh0 ?_ | refine qf0 ?_ _)); refine ql0 (cs := #[.string ((rd_T52 l0 x4_1).f0), .int .i64 ((rd_T52 l0 x4_1).f1), .bool ((rd_T52 l0 x4_1).f2), .slice A283_3 ((rd_T52 l0 x4_1).f3).length c283_3, .slice none 0 0]) ?_ 4 _ rfl; (with_reducible repeat (first | refine qg0 ?_ _ | refine qh0 ?_ | refine qf0 ?_ _)); refine ql0 (cs := #[.string ((rd_T52 l0 x4_1).f0), .int .i64 ((rd_T52 l0 x4_1).f1), .bool ((rd_T52 l0 x4_1).f2), .slice none 0 0, .slice none 0 0]) ?_ 3 _ rfl; (with_reducible repeat (first | refine qg0 ?_ _ | refine qh0 ?_ | refine qf0 ?_ _)); refine ql0 (cs := #[.string ((rd_T52 l0 x4_1).f0), .int .i64 ((rd_T52 l0 x4_1).f1), .bool false, .slice none 0 0, .slice none 0 0]) ?_ 2 _ (by first | rfl | (rw [c19]; rfl) | (simp only [c19]; rfl)); (with_reducible repeat (first | refine qg0 ?_ _ | refine qh0 ?_ | refine qf0 ?_ _)); refine ql0 (cs := #[.string ((rd_T52 l0 x4_1).f0), .int .i64 0, .bool false, .slice none 0 0, .slice none 0 0]) ?_ 1 _ rfl; (with_reducible repeat (first | refine qg0 ?_ _ | refine qh0 ?_ | refine qf0 ?_ _)); refine ql0 (cs := #[.string (⟨#[]⟩ : ByteArray), .int .i64 0, .bool false, .slice none 0 0, .slice none 0 0]) ?_ 0 _ rfl; (with_reducible repeat (first | refine qg0 ?_ _ | refine qh0 ?_ | refine qf0 ?_ _)); exact BK284.out⟩, ⟨by repeat (first | (with_reducible first | exact HB.out | apply qc0 | apply qa0 | apply qd0 | refine qi0 ?_ GE284.out) | exact HB.out)⟩⟩
         rw [if_neg c20] at H
         have c20b0 : ((((rd_T52 l0 x4_1).f3).length : Int) == 0) = false := beq_eq_false_iff_ne.mpr c20
         have c20b1 : ((((rd_T52 l0 x4_1).f3).length : Int) != 0) = true := bne_iff_ne.mpr c20
         have c20b2 : ¬ (((rd_T52 l0 x4_1).f3) = []) := fun h_ => c20 (by rw [h_]; rfl)
         have H' := Aside0.mk H
         clear H
         have hcz22_0 : w8.cell? ⟨gb284, 0, none⟩ = some (.string (⟨#[]⟩ : ByteArray)) := (qe0 BK284.out 0).trans rfl
         have hcz22_1 : w8.cell? ⟨gb284, 1, none⟩ = some (.int .i64 0) := (qe0 BK284.out 1).trans rfl
         have hcz22_2 : w8.cell? ⟨gb284, 2, none⟩ = some (.bool false) := (qe0 BK284.out 2).trans rfl
         have hcz22_3 : w8.cell? ⟨gb284, 3, none⟩ = some (.slice none 0 0) := (qe0 BK284.out 3).trans rfl
         have hcz22_4 : w8.cell? ⟨gb284, 4, none⟩ = some (.slice none 0 0) := (qe0 BK284.out 4).trans rfl
         have hfz22_0 := qb0 BK284.out 0
         have hfz22_1 := qb0 BK284.out 1
         have hfz22_2 := qb0 BK284.out 2
         have hfz22_3 := qb0 BK284.out 3
         have hfz22_4 := qb0 BK284.out 4
         go_wp2_with (first | (go_at_call 78; (with_reducible refine (spec_NameOk.calls k1 ((rd_T52 l0 x4_1).f0) true _ A10.out).mono ?_); rintro e w' ⟨rfl, ⟨nd, rfl⟩⟩; (try first | exact ⟨rfl, _, World.drewN_drewN _ _ _⟩ | exact ⟨rfl, _, Eq.trans (World.drewN_drewN _ _ _) (congrArg (World.drewN _) (Nat.add_assoc _ _ _))⟩)) | (go_at_call 79; (with_reducible refine (spec_l1In.calls ((rd_T52 l0 x4_1).f1) 1 1000000 true _ A12.out).mono ?_); rintro e w' ⟨rfl, ⟨nd, rfl⟩⟩; (try first | exact ⟨rfl, _, World.drewN_drewN _ _ _⟩ | exact ⟨rfl, _, Eq.trans (World.drewN_drewN _ _ _) (congrArg (World.drewN _) (Nat.add_assoc _ _ _))⟩)))
         repeat (go_quiet (first | (go_at_call 78; (with_reducible refine (spec_NameOk.calls k1 ((rd_T52 l0 x4_1).f0) true _ A10.out).mono ?_); rintro e w' ⟨rfl, ⟨nd, rfl⟩⟩; (try first | exact ⟨rfl, _, World.drewN_drewN _ _ _⟩ | exact ⟨rfl, _, Eq.trans (World.drewN_drewN _ _ _) (congrArg (World.drewN _) (Nat.add_assoc _ _ _))⟩)) | (go_at_call 79; (with_reducible refine (spec_l1In.calls ((rd_T52 l0 x4_1).f1) 1 1000000 true _ A12.out).mono ?_); rintro e w' ⟨rfl, ⟨nd, rfl⟩⟩; (try first | exact ⟨rfl, _, World.drewN_drewN _ _ _⟩ | exact ⟨rfl, _, Eq.trans (World.drewN_drewN _ _ _) (congrArg (World.drewN _) (Nat.add_assoc _ _ _))⟩))); try go_wp2_with (first | (go_at_call 78; (with_reducible refine (spec_NameOk.calls k1 ((rd_T52 l0 x4_1).f0) true _ A10.out).mono ?_); rintro e w' ⟨rfl, ⟨nd, rfl⟩⟩; (try first | exact ⟨rfl, _, World.drewN_drewN _ _ _⟩ | exact ⟨rfl, _, Eq.trans (World.drewN_drewN _ _ _) (congrArg (World.drewN _) (Nat.add_assoc _ _ _))⟩)) | (go_at_call 79; (with_reducible refine (spec_l1In.calls ((rd_T52 l0 x4_1).f1) 1 1000000 true _ A12.out).mono ?_); rintro e w' ⟨rfl, ⟨nd, rfl⟩⟩; (try first | exact ⟨rfl, _, World.drewN_drewN _ _ _⟩ | exact ⟨rfl, _, Eq.trans (World.drewN_drewN _ _ _) (congrArg (World.drewN _) (Nat.add_assoc _ _ _))⟩))))
         go_meet
         case rel => exact ⟨_, (decide ((((rd_T52 l0 x4_1).f4).length : Int) > 0)), (by first | rfl | (simp; done) | (simp [*]; done)), H', ⟨by have := HK1.out; first | omega | exact Nat.le_refl _⟩, ⟨by (with_reducible repeat (first | refine qg0 ?_ _ | refine qh0 ?_ | refine qf0 ?_ _)); refine ql0 (cs := #[.string ((rd_T52 l0 x4_1).f0), .int .i64 ((rd_T52 l0 x4_1).f1), .bool ((rd_T52 l0 x4_1).f2), .slice A283_3 ((rd_T52 l0 x4_1).f3).length c283_3, .slice none 0 0]) ?_ 4 _ rfl; (with_reducible repeat (first | refine qg0 ?_ _ | refine qh0 ?_ | refine qf0 ?_ _)); refine ql0 (cs := #[.string ((rd_T52 l0 x4_1).f0), .int .i64 ((rd_T52 l0 x4_1).f1), .bool ((rd_T52 l0 x4_1).f2), .slice none 0 0, .slice none 0 0]) ?_ 3 _ rfl; (with_reducible repeat (first | refine qg0 ?_ _ | refine qh0 ?_ | refine qf0 ?_ _)); refine ql0 (cs := #[.string ((rd_T52 l0 x4_1).f0), .int .i64 ((rd_T52 l0 x4_1).f1), .bool false, .slice none 0 0, .slice none 0 0]) ?_ 2 _ (by first | rfl | (rw [c19]; rfl) | (simp only [c19]; rfl)); (with_reducible repeat (first | refine qg0 ?_ _ | refine qh0 ?_ | refine qf0 ?_ _)); refine ql0 (cs := #[.string ((rd_T52 l0 x4_1).f0), .int .i64 0, .bool false, .slice none 0 0, .slice none 0 0]) ?_ 1 _ rfl; (with_reducible repeat (first | refine qg0 ?_ _ | refine qh0 ?_ | refine qf0 ?_ _)); refine ql0 (cs := #[.string (⟨#[]⟩ : ByteArray), .int .i64 0, .bool false, .slice none 0 0, .slice none 0 0]) ?_ 0 _ rfl; (with_reducible repeat (first | refine qg0 ?_ _ | refine qh0 ?_ | refine qf0 ?_ _)); exact BK284.out⟩, ⟨by repeat (first | (with_reducible first | exact HB.out | apply qc0 | apply qa0 | apply qd0 | refine qi0 ?_ GE284.out) | exact HB.out)⟩⟩
        replace c19 := Bool.eq_false_iff.mpr c19

        have H1 := H; rw [if_neg (by rw [c19]; decide)] at H1
        clear H
        have H := H1
        clear H1
        have H' := Aside0.mk H
        clear H
        have hcz23_0 : w8.cell? ⟨gb284, 0, none⟩ = some (.string (⟨#[]⟩ : ByteArray)) := (qe0 BK284.out 0).trans rfl
        have hcz23_1 : w8.cell? ⟨gb284, 1, none⟩ = some (.int .i64 0) := (qe0 BK284.out 1).trans rfl
        have hcz23_2 : w8.cell? ⟨gb284, 2, none⟩ = some (.bool false) := (qe0 BK284.out 2).trans rfl
        have hcz23_3 : w8.cell? ⟨gb284, 3, none⟩ = some (.slice none 0 0) := (qe0 BK284.out 3).trans rfl
        have hcz23_4 : w8.cell? ⟨gb284, 4, none⟩ = some (.slice none 0 0) := (qe0 BK284.out 4).trans rfl
        have hfz23_0 := qb0 BK284.out 0
        have hfz23_1 := qb0 BK284.out 1
        have hfz23_2 := qb0 BK284.out 2
        have hfz23_3 := qb0 BK284.out 3
        have hfz23_4 := qb0 BK284.out 4
        go_wp2_with (first | (go_at_call 78; (with_reducible refine (spec_NameOk.calls k1 ((rd_T52 l0 x4_1).f0) true _ A10.out).mono ?_); rintro e w' ⟨rfl, ⟨nd, rfl⟩⟩; (try first | exact ⟨rfl, _, World.drewN_drewN _ _ _⟩ | exact ⟨rfl, _, Eq.trans (World.drewN_drewN _ _ _) (congrArg (World.drewN _) (Nat.add_assoc _ _ _))⟩)) | (go_at_call 79; (with_reducible refine (spec_l1In.calls ((rd_T52 l0 x4_1).f1) 1 1000000 true _ A12.out).mono ?_); rintro e w' ⟨rfl, ⟨nd, rfl⟩⟩; (try first | exact ⟨rfl, _, World.drewN_drewN _ _ _⟩ | exact ⟨rfl, _, Eq.trans (World.drewN_drewN _ _ _) (congrArg (World.drewN _) (Nat.add_assoc _ _ _))⟩)))
        repeat (go_quiet (first | (go_at_call 78; (with_reducible refine (spec_NameOk.calls k1 ((rd_T52 l0 x4_1).f0) true _ A10.out).mono ?_); rintro e w' ⟨rfl, ⟨nd, rfl⟩⟩; (try first | exact ⟨rfl, _, World.drewN_drewN _ _ _⟩ | exact ⟨rfl, _, Eq.trans (World.drewN_drewN _ _ _) (congrArg (World.drewN _) (Nat.add_assoc _ _ _))⟩)) | (go_at_call 79; (with_reducible refine (spec_l1In.calls ((rd_T52 l0 x4_1).f1) 1 1000000 true _ A12.out).mono ?_); rintro e w' ⟨rfl, ⟨nd, rfl⟩⟩; (try first | exact ⟨rfl, _, World.drewN_drewN _ _ _⟩ | exact ⟨rfl, _, Eq.trans (World.drewN_drewN _ _ _) (congrArg (World.drewN _) (Nat.add_assoc _ _ _))⟩))); try go_wp2_with (first | (go_at_call 78; (with_reducible refine (spec_NameOk.calls k1 ((rd_T52 l0 x4_1).f0) true _ A10.out).mono ?_); rintro e w' ⟨rfl, ⟨nd, rfl⟩⟩; (try first | exact ⟨rfl, _, World.drewN_drewN _ _ _⟩ | exact ⟨rfl, _, Eq.trans (World.drewN_drewN _ _ _) (congrArg (World.drewN _) (Nat.add_assoc _ _ _))⟩)) | (go_at_call 79; (with_reducible refine (spec_l1In.calls ((rd_T52 l0 x4_1).f1) 1 1000000 true _ A12.out).mono ?_); rintro e w' ⟨rfl, ⟨nd, rfl⟩⟩; (try first | exact ⟨rfl, _, World.drewN_drewN _ _ _⟩ | exact ⟨rfl, _, Eq.trans (World.drewN_drewN _ _ _) (congrArg (World.drewN _) (Nat.add_assoc _ _ _))⟩))))
        go_meet
        case rel => exact ⟨_, (false), (by first | rfl | (simp; done) | (simp [*]; done)), H', ⟨by have := HK1.out; first | omega | exact Nat.le_refl _⟩, ⟨by (with_reducible repeat (first | refine qg0 ?_ _ | refine qh0 ?_ | refine qf0 ?_ _)); refine ql0 (cs := #[.string ((rd_T52 l0 x4_1).f0), .int .i64 ((rd_T52 l0 x4_1).f1), .bool ((rd_T52 l0 x4_1).f2), .slice A283_3 ((rd_T52 l0 x4_1).f3).length c283_3, .slice none 0 0]) ?_ 4 _ rfl; (with_reducible repeat (first | refine qg0 ?_ _ | refine qh0 ?_ | refine qf0 ?_ _)); refine ql0 (cs := #[.string ((rd_T52 l0 x4_1).f0), .int .i64 ((rd_T52 l0 x4_1).f1), .bool ((rd_T52 l0 x4_1).f2), .slice none 0 0, .slice none 0 0]) ?_ 3 _ rfl; (with_reducible repeat (first | refine qg0 ?_ _ | refine qh0 ?_ | refine qf0 ?_ _)); refine ql0 (cs := #[.string ((rd_T52 l0 x4_1).f0), .int .i64 ((rd_T52 l0 x4_1).f1), .bool false, .slice none 0 0, .slice none 0 0]) ?_ 2 _ (by first | rfl | (rw [c19]; rfl) | (simp only [c19]; rfl)); (with_reducible repeat (first | refine qg0 ?_ _ | refine qh0 ?_ | refine qf0 ?_ _)); refine ql0 (cs := #[.string ((rd_T52 l0 x4_1).f0), .int .i64 0, .bool false, .slice none 0 0, .slice none 0 0]) ?_ 1 _ rfl; (with_reducible repeat (first | refine qg0 ?_ _ | refine qh0 ?_ | refine qf0 ?_ _)); refine ql0 (cs := #[.string (⟨#[]⟩ : ByteArray), .int .i64 0, .bool false, .slice none 0 0, .slice none 0 0]) ?_ 0 _ rfl; (with_reducible repeat (first | refine qg0 ?_ _ | refine qh0 ?_ | refine qf0 ?_ _)); exact BK284.out⟩, ⟨by repeat (first | (with_reducible first | exact HB.out | apply qc0 | apply qa0 | apply qd0 | refine qi0 ?_ GE284.out) | exact HB.out)⟩⟩
       replace c13 := Bool.eq_false_iff.mpr c13
       subst c13
       have H1 : (spec_ItemsOk.j1 k1 l0 (l0.length : Int) x4_1 true ((rd_T52 l0 x4_1).f0) ((rd_T52 l0 x4_1).f1) ((rd_T52 l0 x4_1).f2) ((rd_T52 l0 x4_1).f3) ((rd_T52 l0 x4_1).f4)) = some r := by rw [if_neg (show ¬ (false = true) by decide)] at H; exact H
       clear H
       have H := H1
       clear H1
       have H' := Aside0.mk H
       clear H
       have hcz24_0 : w8.cell? ⟨gb284, 0, none⟩ = some (.string (⟨#[]⟩ : ByteArray)) := (qe0 BK284.out 0).trans rfl
       have hcz24_1 : w8.cell? ⟨gb284, 1, none⟩ = some (.int .i64 0) := (qe0 BK284.out 1).trans rfl
       have hcz24_2 : w8.cell? ⟨gb284, 2, none⟩ = some (.bool false) := (qe0 BK284.out 2).trans rfl
       have hcz24_3 : w8.cell? ⟨gb284, 3, none⟩ = some (.slice none 0 0) := (qe0 BK284.out 3).trans rfl
       have hcz24_4 : w8.cell? ⟨gb284, 4, none⟩ = some (.slice none 0 0) := (qe0 BK284.out 4).trans rfl
       have hfz24_0 := qb0 BK284.out 0
       have hfz24_1 := qb0 BK284.out 1
       have hfz24_2 := qb0 BK284.out 2
       have hfz24_3 := qb0 BK284.out 3
       have hfz24_4 := qb0 BK284.out 4
       go_wp2_with (first | (go_at_call 78; (with_reducible refine (spec_NameOk.calls k1 ((rd_T52 l0 x4_1).f0) true _ A10.out).mono ?_); rintro e w' ⟨rfl, ⟨nd, rfl⟩⟩; (try first | exact ⟨rfl, _, World.drewN_drewN _ _ _⟩ | exact ⟨rfl, _, Eq.trans (World.drewN_drewN _ _ _) (congrArg (World.drewN _) (Nat.add_assoc _ _ _))⟩)) | (go_at_call 79; (with_reducible refine (spec_l1In.calls ((rd_T52 l0 x4_1).f1) 1 1000000 false _ A12.out).mono ?_); rintro e w' ⟨rfl, ⟨nd, rfl⟩⟩; (try first | exact ⟨rfl, _, World.drewN_drewN _ _ _⟩ | exact ⟨rfl, _, Eq.trans (World.drewN_drewN _ _ _) (congrArg (World.drewN _) (Nat.add_assoc _ _ _))⟩)))
       repeat (go_quiet (first | (go_at_call 78; (with_reducible refine (spec_NameOk.calls k1 ((rd_T52 l0 x4_1).f0) true _ A10.out).mono ?_); rintro e w' ⟨rfl, ⟨nd, rfl⟩⟩; (try first | exact ⟨rfl, _, World.drewN_drewN _ _ _⟩ | exact ⟨rfl, _, Eq.trans (World.drewN_drewN _ _ _) (congrArg (World.drewN _) (Nat.add_assoc _ _ _))⟩)) | (go_at_call 79; (with_reducible refine (spec_l1In.calls ((rd_T52 l0 x4_1).f1) 1 1000000 false _ A12.out).mono ?_); rintro e w' ⟨rfl, ⟨nd, rfl⟩⟩; (try first | exact ⟨rfl, _, World.drewN_drewN _ _ _⟩ | exact ⟨rfl, _, Eq.trans (World.drewN_drewN _ _ _) (congrArg (World.drewN _) (Nat.add_assoc _ _ _))⟩))); try go_wp2_with (first | (go_at_call 78; (with_reducible refine (spec_NameOk.calls k1 ((rd_T52 l0 x4_1).f0) true _ A10.out).mono ?_); rintro e w' ⟨rfl, ⟨nd, rfl⟩⟩; (try first | exact ⟨rfl, _, World.drewN_drewN _ _ _⟩ | exact ⟨rfl, _, Eq.trans (World.drewN_drewN _ _ _) (congrArg (World.drewN _) (Nat.add_assoc _ _ _))⟩)) | (go_at_call 79; (with_reducible refine (spec_l1In.calls ((rd_T52 l0 x4_1).f1) 1 1000000 false _ A12.out).mono ?_); rintro e w' ⟨rfl, ⟨nd, rfl⟩⟩; (try first | exact ⟨rfl, _, World.drewN_drewN _ _ _⟩ | exact ⟨rfl, _, Eq.trans (World.drewN_drewN _ _ _) (congrArg (World.drewN _) (Nat.add_assoc _ _ _))⟩))))
       go_meet
       case rel => exact ⟨_, (true), (by first | rfl | (simp; done) | (simp [*]; done)), H', ⟨by have := HK1.out; first | omega | exact Nat.le_refl _⟩, ⟨by (with_reducible repeat (first | refine qg0 ?_ _ | refine qh0 ?_ | refine qf0 ?_ _)); refine ql0 (cs := #[.string ((rd_T52 l0 x4_1).f0), .int .i64 ((rd_T52 l0 x4_1).f1), .bool ((rd_T52 l0 x4_1).f2), .slice A283_3 ((rd_T52 l0 x4_1).f3).length c283_3, .slice none 0 0]) ?_ 4 _ rfl; (with_reducible repeat (first | refine qg0 ?_ _ | refine qh0 ?_ | refine qf0 ?_ _)); refine ql0 (cs := #[.string ((rd_T52 l0 x4_1).f0), .int .i64 ((rd_T52 l0 x4_1).f1), .bool ((rd_T52 l0 x4_1).f2), .slice none 0 0, .slice none 0 0]) ?_ 3 _ rfl; (with_reducible repeat (first | refine qg0 ?_ _ | refine qh0 ?_ | refine qf0 ?_ _)); refine ql0 (cs := #[.string ((rd_T52 l0 x4_1).f0), .int .i64 ((rd_T52 l0 x4_1).f1), .bool false, .slice none 0 0, .slice none 0 0]) ?_ 2 _ rfl; (with_reducible repeat (first | refine qg0 ?_ _ | refine qh0 ?_ | refine qf0 ?_ _)); refine ql0 (cs := #[.string ((rd_T52 l0 x4_1).f0), .int .i64 0, .bool false, .slice none 0 0, .slice none 0 0]) ?_ 1 _ rfl; (with_reducible repeat (first | refine qg0 ?_ _ | refine qh0 ?_ | refine qf0 ?_ _)); refine ql0 (cs := #[.string (⟨#[]⟩ : ByteArray), .int .i64 0, .bool false, .slice none 0 0, .slice none 0 0]) ?_ 0 _ rfl; (with_reducible repeat (first | refine qg0 ?_ _ | refine qh0 ?_ | refine qf0 ?_ _)); exact BK284.out⟩, ⟨by repeat (first | (with_reducible first | exact HB.out | apply qc0 | apply qa0 | apply qd0 | refine qi0 ?_ GE284.out) | exact HB.out)⟩⟩
      replace c11 := Bool.eq_false_iff.mpr c11
      subst c11
      have H1 : (spec_ItemsOk.j1 k1 l0 (l0.length : Int) x4_1 true ((rd_T52 l0 x4_1).f0) ((rd_T52 l0 x4_1).f1) ((rd_T52 l0 x4_1).f2) ((rd_T52 l0 x4_1).f3) ((rd_T52 l0 x4_1).f4)) = some r := by rw [if_neg (show ¬ (false = true) by decide)] at H; exact H
      clear H
      have H := H1
      clear H1
      have H' := Aside0.mk H
      clear H
      have hcz25_0 : w8.cell? ⟨gb284, 0, none⟩ = some (.string (⟨#[]⟩ : ByteArray)) := (qe0 BK284.out 0).trans rfl
      have hcz25_1 : w8.cell? ⟨gb284, 1, none⟩ = some (.int .i64 0) := (qe0 BK284.out 1).trans rfl
      have hcz25_2 : w8.cell? ⟨gb284, 2, none⟩ = some (.bool false) := (qe0 BK284.out 2).trans rfl
      have hcz25_3 : w8.cell? ⟨gb284, 3, none⟩ = some (.slice none 0 0) := (qe0 BK284.out 3).trans rfl
      have hcz25_4 : w8.cell? ⟨gb284, 4, none⟩ = some (.slice none 0 0) := (qe0 BK284.out 4).trans rfl
      have hfz25_0 := qb0 BK284.out 0
      have hfz25_1 := qb0 BK284.out 1
      have hfz25_2 := qb0 BK284.out 2
      have hfz25_3 := qb0 BK284.out 3
      have hfz25_4 := qb0 BK284.out 4
      go_wp2_with (first | (go_at_call 78; (with_reducible refine (spec_NameOk.calls k1 ((rd_T52 l0 x4_1).f0) false _ A10.out).mono ?_); rintro e w' ⟨rfl, ⟨nd, rfl⟩⟩; (try first | exact ⟨rfl, _, World.drewN_drewN _ _ _⟩ | exact ⟨rfl, _, Eq.trans (World.drewN_drewN _ _ _) (congrArg (World.drewN _) (Nat.add_assoc _ _ _))⟩)))
      repeat (go_quiet (first | (go_at_call 78; (with_reducible refine (spec_NameOk.calls k1 ((rd_T52 l0 x4_1).f0) false _ A10.out).mono ?_); rintro e w' ⟨rfl, ⟨nd, rfl⟩⟩; (try first | exact ⟨rfl, _, World.drewN_drewN _ _ _⟩ | exact ⟨rfl, _, Eq.trans (World.drewN_drewN _ _ _) (congrArg (World.drewN _) (Nat.add_assoc _ _ _))⟩))); try go_wp2_with (first | (go_at_call 78; (with_reducible refine (spec_NameOk.calls k1 ((rd_T52 l0 x4_1).f0) false _ A10.out).mono ?_); rintro e w' ⟨rfl, ⟨nd, rfl⟩⟩; (try first | exact ⟨rfl, _, World.drewN_drewN _ _ _⟩ | exact ⟨rfl, _, Eq.trans (World.drewN_drewN _ _ _) (congrArg (World.drewN _) (Nat.add_assoc _ _ _))⟩))))
      go_meet
      case rel => exact ⟨_, (true), (by first | rfl | (simp; done) | (simp [*]; done)), H', ⟨by have := HK1.out; first | omega | exact Nat.le_refl _⟩, ⟨by (with_reducible repeat (first | refine qg0 ?_ _ | refine qh0 ?_ | refine qf0 ?_ _)); refine ql0 (cs := #[.string ((rd_T52 l0 x4_1).f0), .int .i64 ((rd_T52 l0 x4_1).f1), .bool ((rd_T52 l0 x4_1).f2), .slice A283_3 ((rd_T52 l0 x4_1).f3).length c283_3, .slice none 0 0]) ?_ 4 _ rfl; (with_reducible repeat (first | refine qg0 ?_ _ | refine qh0 ?_ | refine qf0 ?_ _)); refine ql0 (cs := #[.string ((rd_T52 l0 x4_1).f0), .int .i64 ((rd_T52 l0 x4_1).f1), .bool ((rd_T52 l0 x4_1).f2), .slice none 0 0, .slice none 0 0]) ?_ 3 _ rfl; (with_reducible repeat (first | refine qg0 ?_ _ | refine qh0 ?_ | refine qf0 ?_ _)); refine ql0 (cs := #[.string ((rd_T52 l0 x4_1).f0), .int .i64 ((rd_T52 l0 x4_1).f1), .bool false, .slice none 0 0, .slice none 0 0]) ?_ 2 _ rfl; (with_reducible repeat (first | refine qg0 ?_ _ | refine qh0 ?_ | refine qf0 ?_ _)); refine ql0 (cs := #[.string ((rd_T52 l0 x4_1).f0), .int .i64 0, .bool false, .slice none 0 0, .slice none 0 0]) ?_ 1 _ rfl; (with_reducible repeat (first | refine qg0 ?_ _ | refine qh0 ?_ | refine qf0 ?_ _)); refine ql0 (cs := #[.string (⟨#[]⟩ : ByteArray), .int .i64 0, .bool false, .slice none 0 0, .slice none 0 0]) ?_ 0 _ rfl; (with_reducible repeat (first | refine qg0 ?_ _ | refine qh0 ?_ | refine qf0 ?_ _)); exact BK284.out⟩, ⟨by repeat (first | (with_reducible first | exact HB.out | apply qc0 | apply qa0 | apply qd0 | refine qi0 ?_ GE284.out) | exact HB.out)⟩⟩
     case rest =>
      clear HC7
      try clear c1
      try clear q1
      try clear c2
      try clear p2
      try clear q2
      try clear hx2
      try clear c3
      try clear c4
      try clear c4b0
      try clear c5
      try clear c5b0
      try clear c6
      try clear c6b0
      try clear c11
      try clear c13
      try clear c14
      try clear c14b0
      try clear c14b1
      try clear c16
      try clear c16b0
      try clear c16b1
      try clear q18
      try clear c19
      try clear c20
      try clear c20b0
      try clear c20b1
      try clear c20b2
      try clear hcz15_0
      try clear hcz15_1
      try clear hcz15_2
      try clear hcz15_3
      try clear hcz15_4
      try clear hcz17_0
      try clear hcz17_1
      try clear hcz17_2
      try clear hcz17_3
      try clear hcz17_4
      try clear hcz21_0
      try clear hcz21_1
      try clear hcz21_2
      try clear hcz21_3
      try clear hcz21_4
      try clear hcz22_0
      try clear hcz22_1
      try clear hcz22_2
      try clear hcz22_3
      try clear hcz22_4
      try clear hcz23_0
      try clear hcz23_1
      try clear hcz23_2
      try clear hcz23_3
      try clear hcz23_4
      try clear hcz24_0
      try clear hcz24_1
      try clear hcz24_2
      try clear hcz24_3
      try clear hcz24_4
      try clear hcz25_0
      try clear hcz25_1
      try clear hcz25_2
      try clear hcz25_3
      try clear hcz25_4
      try clear hcz9_0
      try clear hcz9_1
      try clear hcz9_2
      try clear hcz9_3
      try clear hcz9_4
      try clear hfz15_0
      try clear hfz15_1
      try clear hfz15_2
      try clear hfz15_3
      try clear hfz15_4
      try clear hfz17_0
      try clear hfz17_1
      try clear hfz17_2
      try clear hfz17_3
      try clear hfz17_4
      try clear hfz21_0
      try clear hfz21_1
      try clear hfz21_2
      try clear hfz21_3
      try clear hfz21_4
      try clear hfz22_0
      try clear hfz22_1
      try clear hfz22_2
      try clear hfz22_3
      try clear hfz22_4
      try clear hfz23_0
      try clear hfz23_1
      try clear hfz23_2
      try clear hfz23_3
      try clear hfz23_4
      try clear hfz24_0
      try clear hfz24_1
      try clear hfz24_2
      try clear hfz24_3
      try clear hfz24_4
      try clear hfz25_0
      try clear hfz25_1
      try clear hfz25_2
      try clear hfz25_3
      try clear hfz25_4
      try clear hfz9_0
      try clear hfz9_1
      try clear hfz9_2
      try clear hfz9_3
      try clear hfz9_4
      try clear hx283_0
      try clear hx283_1
      try clear hx283_2
      try clear hx283_3
      try clear hx283_4
      try clear p2
      try clear p283
      try clear q283
      obtain ⟨kq, x62_6, rfl, HA, HJ6, BK284, HB⟩ := hcut
      cases kq with
      | zero => exact absurd HA.out (by simp [spec_ItemsOk.j1])
      | succ kj6 =>
       have H := HA.out
       clear HA
       simp only [spec_ItemsOk.j1] at H
       by_cases c26 : x62_6 = true
       ·subst c26
        have H1 : (some false) = some r := by rw [if_pos rfl] at H; exact H
        clear H
        have H := H1
        clear H1
        obtain rfl := Option.some.inj H
        go_wp2
        repeat (go_quiet (fail); try go_wp2)
        go_ret
        exact ⟨by first | rfl | (simp [errW_none, errW_some] <;> rfl) | (simp [*, errW_none, errW_some] <;> rfl), by repeat (first | (with_reducible first | exact HB.out | apply qc0 | apply qa0 | apply qd0 | refine qi0 ?_ GE284.out) | exact HB.out)⟩
       replace c26 := Bool.eq_false_iff.mpr c26
       subst c26
       have H1 : (spec_ItemsOk.l1 kj6 l0 (l0.length : Int) x4_1 0 ((rd_T52 l0 x4_1).f0) ((rd_T52 l0 x4_1).f1) ((rd_T52 l0 x4_1).f2) ((rd_T52 l0 x4_1).f3) ((rd_T52 l0 x4_1).f4)) = some r := by rw [if_neg (show ¬ (false = true) by decide)] at H; exact H
       clear H
       have H := H1
       clear H1
       have H' := Aside0.mk H
       clear H
       go_wp2
       repeat (go_quiet (fail); try go_wp2)
       go_loopg [6] kj6 (fun kq v6 w' => ∃ (x6_3 : Int), v6 = .int .i64 x6_3 ∧ Aside0 (spec_ItemsOk.l1 kq l0 (l0.length : Int) x4_1 x6_3 ((rd_T52 l0 x4_1).f0) ((rd_T52 l0 x4_1).f1) ((rd_T52 l0 x4_1).f2) ((rd_T52 l0 x4_1).f3) ((rd_T52 l0 x4_1).f4) = some r) ∧ Aside0 (kq ≤ kj6) ∧ Aside0 (w'.heap[gb284]? = some (.cells #[.string ((rd_T52 l0 x4_1).f0), .int .i64 ((rd_T52 l0 x4_1).f1), .bool ((rd_T52 l0 x4_1).f2), (.slice A283_3 ((rd_T52 l0 x4_1).f3).length c283_3), (.slice A283_4 ((rd_T52 l0 x4_1).f4).length c283_4)] 52 (0, 0))) ∧ Aside0 (Below w.heap.size w w'))
       case atStart => exact ⟨(0), (by first | rfl | (simp; done) | (simp [*]; done)), H', ⟨Nat.le_refl _⟩, ⟨by (with_reducible repeat (first | refine qg0 ?_ _ | refine qh0 ?_ | refine qf0 ?_ _)); exact BK284.out⟩, ⟨by repeat (first | (with_reducible first | exact HB.out | apply qc0 | apply qa0 | apply qd0 | refine qi0 ?_ GE284.out) | exact HB.out)⟩⟩
       case round =>
        clear H'
        try clear c1
        try clear q1
        try clear c2
        try clear p2
        try clear q2
        try clear hx2
        try clear c3
        try clear c4
        try clear c4b0
        try clear c5
        try clear c5b0
        try clear c6
        try clear c6b0
        try clear c11
        try clear c13
        try clear c14
        try clear c14b0
        try clear c14b1
        try clear c16
        try clear c16b0
        try clear c16b1
        try clear q18
        try clear c19
        try clear c20
        try clear c20b0
        try clear c20b1
        try clear c20b2
        try clear c26
        try clear hcz15_0
        try clear hcz15_1
        try clear hcz15_2
        try clear hcz15_3
        try clear hcz15_4
        try clear hcz17_0
        try clear hcz17_1
        try clear hcz17_2
        try clear hcz17_3
        try clear hcz17_4
        try clear hcz21_0
        try clear hcz21_1
        try clear hcz21_2
        try clear hcz21_3
        try clear hcz21_4
        try clear hcz22_0
        try clear hcz22_1
        try clear hcz22_2
        try clear hcz22_3
        try clear hcz22_4
        try clear hcz23_0
        try clear hcz23_1
        try clear hcz23_2
        try clear hcz23_3
        try clear hcz23_4
        try clear hcz24_0
        try clear hcz24_1
        try clear hcz24_2
        try clear hcz24_3
        try clear hcz24_4
        try clear hcz25_0
        try clear hcz25_1
        try clear hcz25_2
        try clear hcz25_3
        try clear hcz25_4
        try clear hcz9_0
        try clear hcz9_1
        try clear hcz9_2
        try clear hcz9_3
        try clear hcz9_4
        try clear hfz15_0
        try clear hfz15_1
        try clear hfz15_2
        try clear hfz15_3
        try clear hfz15_4
        try clear hfz17_0
        try clear hfz17_1
        try clear hfz17_2
        try clear hfz17_3
        try clear hfz17_4
        try clear hfz21_0
        try clear hfz21_1
        try clear hfz21_2
        try clear hfz21_3
        try clear hfz21_4
        try clear hfz22_0
        try clear hfz22_1
        try clear hfz22_2
        try clear hfz22_3
        try clear hfz22_4
        try clear hfz23_0
        try clear hfz23_1
        try clear hfz23_2
        try clear hfz23_3
        try clear hfz23_4
        try clear hfz24_0
        try clear hfz24_1
        try clear hfz24_2
        try clear hfz24_3
        try clear hfz24_4
        try clear hfz25_0
        try clear hfz25_1
        try clear hfz25_2
        try clear hfz25_3
        try clear hfz25_4
        try clear hfz9_0
        try clear hfz9_1
        try clear hfz9_2
        try clear hfz9_3
        try clear hfz9_4
        try clear hx283_0
        try clear hx283_1
        try clear hx283_2
        try clear hx283_3
        try clear hx283_4
        try clear p2
        try clear p283
        try clear q1
        try clear q18
        try clear q2
        try clear q283
        obtain ⟨x6_3, rfl, HA, HK3, BK284, HB⟩ := hrel
        cases gk with
        | zero => exact absurd HA.out (by simp [spec_ItemsOk.l1])
        | succ k3 =>
         have H := HA.out
         clear HA
         simp only [spec_ItemsOk.l1] at H
         by_cases c27 : x6_3 < x4_1
         ·rw [if_pos c27] at H
          have c27b0 : decide (x6_3 < x4_1) = true := decide_eq_true c27
          clear c27
          by_cases c28 : 0 ≤ x6_3
          case neg => rw [if_neg c28] at H; exact absurd H (by simp)
          rw [if_pos c28] at H
          have c28b0 : decide (0 ≤ x6_3) = true := decide_eq_true c28
          clear c28
          by_cases c29 : x6_3 < (l0.length : Int)
          case neg => rw [if_neg c29] at H; exact absurd H (by simp)
          rw [if_pos c29] at H
          have c29b0 : decide (x6_3 < (l0.length : Int)) = true := decide_eq_true c29
          clear c29
          by_cases c30 : ((rd_T52 l0 x6_3).f0).toList = ((rd_T52 l0 x4_1).f0).toList
          ·rw [if_pos c30] at H
           have c30b0 : (((rd_T52 l0 x6_3).f0).toList == ((rd_T52 l0 x4_1).f0).toList) = true := beq_iff_eq.mpr c30
           have c30b1 : (((rd_T52 l0 x6_3).f0).toList != ((rd_T52 l0 x4_1).f0).toList) = false := bne_eq_false_iff_eq.mpr c30
           clear c30
           obtain rfl := Option.some.inj H
           have p287 : 0 ≤ (x6_3 : Int) := of_decide_eq_true (by first | (with_reducible assumption) | assumption)
           have q287 : x6_3 < (l0.length : Int) := of_decide_eq_true (by first | (with_reducible assumption) | assumption)
           obtain ⟨ad287, A287_3, c287_3, A287_4, c287_4, e287, hx287_0, hx287_1, hx287_2, hx287_3, hx287_4, hl287_3, hi287_3, hl287_4, hi287_4⟩ := at_T52 HR0.out x6_3 p287 q287
           obtain rfl : ad283 = ad287 := (by injection e287)
           replace hx287_0 := (HB.out.cell (World.block_lt_of_cell? w _ hx287_0)).trans hx287_0
           replace hx287_1 := (HB.out.cell (World.block_lt_of_cell? w _ hx287_1)).trans hx287_1
           replace hx287_2 := (HB.out.cell (World.block_lt_of_cell? w _ hx287_2)).trans hx287_2
           replace hx287_3 := (HB.out.cell (World.block_lt_of_cell? w _ hx287_3)).trans hx287_3
           replace hx287_4 := (HB.out.cell (World.block_lt_of_cell? w _ hx287_4)).trans hx287_4
           have HR287_3 := Aside0.mk hi287_3
           have HC287_3 := Aside0.mk hl287_3
           clear hi287_3 hl287_3
           have HR287_4 := Aside0.mk hi287_4
           have HC287_4 := Aside0.mk hl287_4
           clear hi287_4 hl287_4
           replace p287 := eq_true p287
           replace q287 := eq_true q287
           have hcz31_0 : wr.cell? ⟨gb284, 0, none⟩ = some (.string ((rd_T52 l0 x4_1).f0)) := (qe0 BK284.out 0).trans rfl
           have hcz31_1 : wr.cell? ⟨gb284, 1, none⟩ = some (.int .i64 ((rd_T52 l0 x4_1).f1)) := (qe0 BK284.out 1).trans rfl
           have hcz31_2 : wr.cell? ⟨gb284, 2, none⟩ = some (.bool ((rd_T52 l0 x4_1).f2)) := (qe0 BK284.out 2).trans rfl
           have hcz31_3 : wr.cell? ⟨gb284, 3, none⟩ = some (.slice A283_3 ((rd_T52 l0 x4_1).f3).length c283_3) := (qe0 BK284.out 3).trans rfl
           have hcz31_4 : wr.cell? ⟨gb284, 4, none⟩ = some (.slice A283_4 ((rd_T52 l0 x4_1).f4).length c283_4) := (qe0 BK284.out 4).trans rfl
           have hfz31_0 := qb0 BK284.out 0
           have hfz31_1 := qb0 BK284.out 1
           have hfz31_2 := qb0 BK284.out 2
           have hfz31_3 := qb0 BK284.out 3
           have hfz31_4 := qb0 BK284.out 4
           go_wp2
           repeat (go_quiet (fail); try go_wp2)
           go_ret
           exact ⟨by first | rfl | (simp [errW_none, errW_some] <;> rfl) | (simp [*, errW_none, errW_some] <;> rfl), by repeat (first | (with_reducible first | exact HB.out | apply qc0 | apply qa0 | apply qd0 | refine qi0 ?_ GE284.out) | exact HB.out)⟩
          rw [if_neg c30] at H
          have c30b0 : (((rd_T52 l0 x6_3).f0).toList == ((rd_T52 l0 x4_1).f0).toList) = false := beq_eq_false_iff_ne.mpr c30
          have c30b1 : (((rd_T52 l0 x6_3).f0).toList != ((rd_T52 l0 x4_1).f0).toList) = true := bne_iff_ne.mpr c30
          have H' := Aside0.mk H
          clear H
          have p287 : 0 ≤ (x6_3 : Int) := of_decide_eq_true (by first | (with_reducible assumption) | assumption)
          have q287 : x6_3 < (l0.length : Int) := of_decide_eq_true (by first | (with_reducible assumption) | assumption)
          obtain ⟨ad287, A287_3, c287_3, A287_4, c287_4, e287, hx287_0, hx287_1, hx287_2, hx287_3, hx287_4, hl287_3, hi287_3, hl287_4, hi287_4⟩ := at_T52 HR0.out x6_3 p287 q287
          obtain rfl : ad283 = ad287 := (by injection e287)
          replace hx287_0 := (HB.out.cell (World.block_lt_of_cell? w _ hx287_0)).trans hx287_0
          replace hx287_1 := (HB.out.cell (World.block_lt_of_cell? w _ hx287_1)).trans hx287_1
          replace hx287_2 := (HB.out.cell (World.block_lt_of_cell? w _ hx287_2)).trans hx287_2
          replace hx287_3 := (HB.out.cell (World.block_lt_of_cell? w _ hx287_3)).trans hx287_3
          replace hx287_4 := (HB.out.cell (World.block_lt_of_cell? w _ hx287_4)).trans hx287_4
          have HR287_3 := Aside0.mk hi287_3
          have HC287_3 := Aside0.mk hl287_3
          clear hi287_3 hl287_3
          have HR287_4 := Aside0.mk hi287_4
          have HC287_4 := Aside0.mk hl287_4
          clear hi287_4 hl287_4
          replace p287 := eq_true p287
          replace q287 := eq_true q287
          have hcz32_0 : wr.cell? ⟨gb284, 0, none⟩ = some (.string ((rd_T52 l0 x4_1).f0)) := (qe0 BK284.out 0).trans rfl
          have hcz32_1 : wr.cell? ⟨gb284, 1, none⟩ = some (.int .i64 ((rd_T52 l0 x4_1).f1)) := (qe0 BK284.out 1).trans rfl
          have hcz32_2 : wr.cell? ⟨gb284, 2, none⟩ = some (.bool ((rd_T52 l0 x4_1).f2)) := (qe0 BK284.out 2).trans rfl
          have hcz32_3 : wr.cell? ⟨gb284, 3, none⟩ = some (.slice A283_3 ((rd_T52 l0 x4_1).f3).length c283_3) := (qe0 BK284.out 3).trans rfl
          have hcz32_4 : wr.cell? ⟨gb284, 4, none⟩ = some (.slice A283_4 ((rd_T52 l0 x4_1).f4).length c283_4) := (qe0 BK284.out 4).trans rfl
          have hfz32_0 := qb0 BK284.out 0
          have hfz32_1 := qb0 BK284.out 1
          have hfz32_2 := qb0 BK284.out 2
          have hfz32_3 := qb0 BK284.out 3
          have hfz32_4 := qb0 BK284.out 4
          go_wp2
          repeat (go_quiet (fail); try go_wp2)
          go_roundg k3
          case measure => have := HK1.out; have := HJ6.out; have := HK3.out; omega
          case rel => exact ⟨(wrap64 (x6_3 + 1)), (by first | rfl | (simp; done) | (simp [*]; done)), H', ⟨by have := HK1.out; have := HJ6.out; have := HK3.out; omega⟩, ⟨by (with_reducible repeat (first | refine qg0 ?_ _ | refine qh0 ?_ | refine qf0 ?_ _)); exact BK284.out⟩, ⟨by repeat (first | (with_reducible first | exact HB.out | apply qc0 | apply qa0 | apply qd0 | refine qi0 ?_ GE284.out) | exact HB.out)⟩⟩
         rw [if_neg c27] at H
         have c27b0 : decide (x6_3 < x4_1) = false := decide_eq_false c27
         clear c27
         have H' := Aside0.mk H
         clear H
         go_wp2
         repeat (go_quiet (fail); try go_wp2)
         go_loopg [7] k3 (fun kq v7 w' => ∃ (x7_4 : Int), v7 = .int .i64 x7_4 ∧ Aside0 (spec_ItemsOk.l2 kq l0 (l0.length : Int) x4_1 x7_4 ((rd_T52 l0 x4_1).f0) ((rd_T52 l0 x4_1).f1) ((rd_T52 l0 x4_1).f2) ((rd_T52 l0 x4_1).f3) ((rd_T52 l0 x4_1).f4) = some r) ∧ Aside0 (kq ≤ k3) ∧ Aside0 (w'.heap[gb284]? = some (.cells #[.string ((rd_T52 l0 x4_1).f0), .int .i64 ((rd_T52 l0 x4_1).f1), .bool ((rd_T52 l0 x4_1).f2), (.slice A283_3 ((rd_T52 l0 x4_1).f3).length c283_3), (.slice A283_4 ((rd_T52 l0 x4_1).f4).length c283_4)] 52 (0, 0))) ∧ Aside0 (Below w.heap.size w w'))
         case atStart => exact ⟨(0), (by first | rfl | (simp; done) | (simp [*]; done)), H', ⟨Nat.le_refl _⟩, ⟨by (with_reducible repeat (first | refine qg0 ?_ _ | refine qh0 ?_ | refine qf0 ?_ _)); exact BK284.out⟩, ⟨by repeat (first | (with_reducible first | exact HB.out | apply qc0 | apply qa0 | apply qd0 | refine qi0 ?_ GE284.out) | exact HB.out)⟩⟩
         case round =>
          clear H'
          try clear c1
          try clear q1
          try clear c2
          try clear p2
          try clear q2
          try clear hx2
          try clear c3
          try clear c4
          try clear c4b0
          try clear c5
          try clear c5b0
          try clear c6
          try clear c6b0
          try clear p6
          try clear c11
          try clear c13
          try clear c14
          try clear c14b0
          try clear c14b1
          try clear c16
          try clear c16b0
          try clear c16b1
          try clear q18
          try clear c19
          try clear c20
          try clear c20b0
          try clear c20b1
          try clear c20b2
          try clear c26
          try clear c27
          try clear c27b0
          try clear c28
          try clear c28b0
          try clear p28
          try clear q28
          try clear hx28
          try clear c29
          try clear c29b0
          try clear c30
          try clear c30b0
          try clear c30b1
          try clear hcz15_0
          try clear hcz15_1
          try clear hcz15_2
          try clear hcz15_3
          try clear hcz15_4
          try clear hcz17_0
          try clear hcz17_1
          try clear hcz17_2
          try clear hcz17_3
          try clear hcz17_4
          try clear hcz21_0
          try clear hcz21_1
          try clear hcz21_2
          try clear hcz21_3
          try clear hcz21_4
          try clear hcz22_0
          try clear hcz22_1
          try clear hcz22_2
          try clear hcz22_3
          try clear hcz22_4
          try clear hcz23_0
          try clear hcz23_1
          try clear hcz23_2
          try clear hcz23_3
          try clear hcz23_4
          try clear hcz24_0
          try clear hcz24_1
          try clear hcz24_2
          try clear hcz24_3
          try clear hcz24_4
          try clear hcz25_0
          try clear hcz25_1
          try clear hcz25_2
          try clear hcz25_3
          try clear hcz25_4
          try clear hcz31_0
          try clear hcz31_1
          try clear hcz31_2
          try clear hcz31_3
          try clear hcz31_4
          try clear hcz32_0
          try clear hcz32_1
          try clear hcz32_2
          try clear hcz32_3
          try clear hcz32_4
          try clear hcz9_0
          try clear hcz9_1
          try clear hcz9_2
          try clear hcz9_3
          try clear hcz9_4
          try clear hfz15_0
          try clear hfz15_1
          try clear hfz15_2
          try clear hfz15_3
          try clear hfz15_4
          try clear hfz17_0
          try clear hfz17_1
          try clear hfz17_2
          try clear hfz17_3
          try clear hfz17_4
          try clear hfz21_0
          try clear hfz21_1
          try clear hfz21_2
          try clear hfz21_3
          try clear hfz21_4
          try clear hfz22_0
          try clear hfz22_1
          try clear hfz22_2
          try clear hfz22_3
          try clear hfz22_4
          try clear hfz23_0
          try clear hfz23_1
          try clear hfz23_2
          try clear hfz23_3
          try clear hfz23_4
          try clear hfz24_0
          try clear hfz24_1
          try clear hfz24_2
          try clear hfz24_3
          try clear hfz24_4
          try clear hfz25_0
          try clear hfz25_1
          try clear hfz25_2
          try clear hfz25_3
          try clear hfz25_4
          try clear hfz31_0
          try clear hfz31_1
          try clear hfz31_2
          try clear hfz31_3
          try clear hfz31_4
          try clear hfz32_0
          try clear hfz32_1
          try clear hfz32_2
          try clear hfz32_3
          try clear hfz32_4
          try clear hfz9_0
          try clear hfz9_1
          try clear hfz9_2
          try clear hfz9_3
          try clear hfz9_4
          try clear hx283_0
          try clear hx283_1
          try clear hx283_2
          try clear hx283_3
          try clear hx283_4
          try clear hx287_0
          try clear hx287_1
          try clear hx287_2
          try clear hx287_3
          try clear hx287_4
          try clear p2
          try clear p283
          try clear p287
          try clear q1
          try clear q18
          try clear q2
          try clear q283
          try clear q287
          obtain ⟨x7_4, rfl, HA, HK4, BK284, HB⟩ := hrel
          cases gk with
          | zero => exact absurd HA.out (by simp [spec_ItemsOk.l2])
          | succ k4 =>
           have H := HA.out
           clear HA
           simp only [spec_ItemsOk.l2] at H
           by_cases c33 : x7_4 < (((rd_T52 l0 x4_1).f3).length : Int)
           ·rw [if_pos c33] at H
            have c33b0 : decide (x7_4 < (((rd_T52 l0 x4_1).f3).length : Int)) = true := decide_eq_true c33
            clear c33
            by_cases c34 : 0 ≤ x7_4
            case neg => rw [if_neg c34] at H; exact absurd H (by simp)
            rw [if_pos c34] at H
            have c34b0 : decide (0 ≤ x7_4) = true := decide_eq_true c34
            clear c34
            replace H := Option.bind_eq_some_iff.mp H
            obtain ⟨t289, A350, H⟩ := H
            replace H : (if t289 = true then (spec_ItemsOk.l2 k4 l0 (l0.length : Int) x4_1 (wrap64 (x7_4 + 1)) ((rd_T52 l0 x4_1).f0) ((rd_T52 l0 x4_1).f1) ((rd_T52 l0 x4_1).f2) ((rd_T52 l0 x4_1).f3) ((rd_T52 l0 x4_1).f4)) else (some false)) = some r := H
            have A35 := Aside0.mk A350
            clear A350
            by_cases c36 : t289 = true
            ·subst c36
             have H1 : (spec_ItemsOk.l2 k4 l0 (l0.length : Int) x4_1 (wrap64 (x7_4 + 1)) ((rd_T52 l0 x4_1).f0) ((rd_T52 l0 x4_1).f1) ((rd_T52 l0 x4_1).f2) ((rd_T52 l0 x4_1).f3) ((rd_T52 l0 x4_1).f4)) = some r := by rw [if_pos rfl] at H; exact H
             clear H
             have H := H1
             clear H1
             have H' := Aside0.mk H
             clear H
             have hcz37_0 : wr.cell? ⟨gb284, 0, none⟩ = some (.string ((rd_T52 l0 x4_1).f0)) := (qe0 BK284.out 0).trans rfl
             have hcz37_1 : wr.cell? ⟨gb284, 1, none⟩ = some (.int .i64 ((rd_T52 l0 x4_1).f1)) := (qe0 BK284.out 1).trans rfl
             have hcz37_2 : wr.cell? ⟨gb284, 2, none⟩ = some (.bool ((rd_T52 l0 x4_1).f2)) := (qe0 BK284.out 2).trans rfl
             have hcz37_3 : wr.cell? ⟨gb284, 3, none⟩ = some (.slice A283_3 ((rd_T52 l0 x4_1).f3).length c283_3) := (qe0 BK284.out 3).trans rfl
             have hcz37_4 : wr.cell? ⟨gb284, 4, none⟩ = some (.slice A283_4 ((rd_T52 l0 x4_1).f4).length c283_4) := (qe0 BK284.out 4).trans rfl
             have hfz37_0 := qb0 BK284.out 0
             have hfz37_1 := qb0 BK284.out 1
             have hfz37_2 := qb0 BK284.out 2
             have hfz37_3 := qb0 BK284.out 3
             have hfz37_4 := qb0 BK284.out 4
             have p288 : 0 ≤ (x7_4 : Int) := of_decide_eq_true (by first | (with_reducible assumption) | assumption)
             have q288 : x7_4 < (((rd_T52 l0 x4_1).f3).length : Int) := of_decide_eq_true (by first | (with_reducible assumption) | assumption)
             obtain ⟨ad288, e288, hx288_0, hx288_1, hx288_2, hx288_3, hx288_4, hx288_5⟩ := at_T54 HR283_3.out x7_4 p288 q288
             cases e288
             replace hx288_0 := (HB.out.cell (World.block_lt_of_cell? w _ hx288_0)).trans hx288_0
             replace hx288_1 := (HB.out.cell (World.block_lt_of_cell? w _ hx288_1)).trans hx288_1
             replace hx288_2 := (HB.out.cell (World.block_lt_of_cell? w _ hx288_2)).trans hx288_2
             replace hx288_3 := (HB.out.cell (World.block_lt_of_cell? w _ hx288_3)).trans hx288_3
             replace hx288_4 := (HB.out.cell (World.block_lt_of_cell? w _ hx288_4)).trans hx288_4
             replace hx288_5 := (HB.out.cell (World.block_lt_of_cell? w _ hx288_5)).trans hx288_5
             replace p288 := eq_true p288
             replace q288 := eq_true q288
             go_wp2_with (first | (go_at_call 85; (with_reducible refine (spec_l17Part.calls ((rd_T54 ((rd_T52 l0 x4_1).f3) x7_4).f0) ((rd_T54 ((rd_T52 l0 x4_1).f3) x7_4).f1) ((rd_T54 ((rd_T52 l0 x4_1).f3) x7_4).f2) ((rd_T54 ((rd_T52 l0 x4_1).f3) x7_4).f3) ((rd_T54 ((rd_T52 l0 x4_1).f3) x7_4).f4) ((rd_T54 ((rd_T52 l0 x4_1).f3) x7_4).f5) x4_1 (l0.length : Int) true _ A35.out).mono ?_); rintro e w38 ⟨rfl, hb⟩; have n0_ := Aside0.mk (qh1 (g := gb284) (o := .cells #[.string ((rd_T52 l0 x4_1).f0), .int .i64 ((rd_T52 l0 x4_1).f1), .bool ((rd_T52 l0 x4_1).f2), .slice (some ad288) ((rd_T52 l0 x4_1).f3).length c283_3, .slice A283_4 ((rd_T52 l0 x4_1).f4).length c283_4] 52 (0, 0)) (by (with_reducible repeat (first | refine qg0 ?_ _ | refine qh0 ?_ | refine qf0 ?_ _)); exact BK284.out) hb); have n1_ := Aside0.mk (qk0 (by repeat (first | (with_reducible first | exact HB.out | apply qc0 | apply qa0 | apply qd0 | refine qi0 ?_ GE284.out) | exact HB.out)) hb); clear BK284; clear HB; have BK284 := n0_; have HB := n1_; clear n0_ n1_; (try clear hb); (try clear hb2); (try clear hk); (try clear hi)))
             repeat (go_quiet (first | (go_at_call 85; (with_reducible refine (spec_l17Part.calls ((rd_T54 ((rd_T52 l0 x4_1).f3) x7_4).f0) ((rd_T54 ((rd_T52 l0 x4_1).f3) x7_4).f1) ((rd_T54 ((rd_T52 l0 x4_1).f3) x7_4).f2) ((rd_T54 ((rd_T52 l0 x4_1).f3) x7_4).f3) ((rd_T54 ((rd_T52 l0 x4_1).f3) x7_4).f4) ((rd_T54 ((rd_T52 l0 x4_1).f3) x7_4).f5) x4_1 (l0.length : Int) true _ A35.out).mono ?_); rintro e w38 ⟨rfl, hb⟩; have n0_ := Aside0.mk (qh1 (g := gb284) (o := .cells #[.string ((rd_T52 l0 x4_1).f0), .int .i64 ((rd_T52 l0 x4_1).f1), .bool ((rd_T52 l0 x4_1).f2), .slice (some ad288) ((rd_T52 l0 x4_1).f3).length c283_3, .slice A283_4 ((rd_T52 l0 x4_1).f4).length c283_4] 52 (0, 0)) (by (with_reducible repeat (first | refine qg0 ?_ _ | refine qh0 ?_ | refine qf0 ?_ _)); exact BK284.out) hb); have n1_ := Aside0.mk (qk0 (by repeat (first | (with_reducible first | exact HB.out | apply qc0 | apply qa0 | apply qd0 | refine qi0 ?_ GE284.out) | exact HB.out)) hb); clear BK284; clear HB; have BK284 := n0_; have HB := n1_; clear n0_ n1_; (try clear hb); (try clear hb2); (try clear hk); (try clear hi))); try go_wp2_with (first | (go_at_call 85; (with_reducible refine (spec_l17Part.calls ((rd_T54 ((rd_T52 l0 x4_1).f3) x7_4).f0) ((rd_T54 ((rd_T52 l0 x4_1).f3) x7_4).f1) ((rd_T54 ((rd_T52 l0 x4_1).f3) x7_4).f2) ((rd_T54 ((rd_T52 l0 x4_1).f3) x7_4).f3) ((rd_T54 ((rd_T52 l0 x4_1).f3) x7_4).f4) ((rd_T54 ((rd_T52 l0 x4_1).f3) x7_4).f5) x4_1 (l0.length : Int) true _ A35.out).mono ?_); rintro e w38 ⟨rfl, hb⟩; have n0_ := Aside0.mk (qh1 (g := gb284) (o := .cells #[.string ((rd_T52 l0 x4_1).f0), .int .i64 ((rd_T52 l0 x4_1).f1), .bool ((rd_T52 l0 x4_1).f2), .slice (some ad288) ((rd_T52 l0 x4_1).f3).length c283_3, .slice A283_4 ((rd_T52 l0 x4_1).f4).length c283_4] 52 (0, 0)) (by (with_reducible repeat (first | refine qg0 ?_ _ | refine qh0 ?_ | refine qf0 ?_ _)); exact BK284.out) hb); have n1_ := Aside0.mk (qk0 (by repeat (first | (with_reducible first | exact HB.out | apply qc0 | apply qa0 | apply qd0 | refine qi0 ?_ GE284.out) | exact HB.out)) hb); clear BK284; clear HB; have BK284 := n0_; have HB := n1_; clear n0_ n1_; (try clear hb); (try clear hb2); (try clear hk); (try clear hi))))
             go_roundg k4
             case measure => have := HK1.out; have := HJ6.out; have := HK3.out; have := HK4.out; omega
             case rel => exact ⟨(wrap64 (x7_4 + 1)), (by first | rfl | (simp; done) | (simp [*]; done)), H', ⟨by have := HK1.out; have := HJ6.out; have := HK3.out; have := HK4.out; omega⟩, ⟨by (with_reducible repeat (first | refine qg0 ?_ _ | refine qh0 ?_ | refine qf0 ?_ _)); exact BK284.out⟩, ⟨by repeat (first | (with_reducible first | exact HB.out | apply qc0 | apply qa0 | apply qd0 | refine qi0 ?_ GE284.out) | exact HB.out)⟩⟩
            replace c36 := Bool.eq_false_iff.mpr c36
            subst c36
            have H1 : (some false) = some r := by rw [if_neg (show ¬ (false = true) by decide)] at H; exact H
            clear H
            have H := H1
            clear H1
            obtain rfl := Option.some.inj H
            have hcz39_0 : wr.cell? ⟨gb284, 0, none⟩ = some (.string ((rd_T52 l0 x4_1).f0)) := (qe0 BK284.out 0).trans rfl
            have hcz39_1 : wr.cell? ⟨gb284, 1, none⟩ = some (.int .i64 ((rd_T52 l0 x4_1).f1)) := (qe0 BK284.out 1).trans rfl
            have hcz39_2 : wr.cell? ⟨gb284, 2, none⟩ = some (.bool ((rd_T52 l0 x4_1).f2)) := (qe0 BK284.out 2).trans rfl
            have hcz39_3 : wr.cell? ⟨gb284, 3, none⟩ = some (.slice A283_3 ((rd_T52 l0 x4_1).f3).length c283_3) := (qe0 BK284.out 3).trans rfl
            have hcz39_4 : wr.cell? ⟨gb284, 4, none⟩ = some (.slice A283_4 ((rd_T52 l0 x4_1).f4).length c283_4) := (qe0 BK284.out 4).trans rfl
            have hfz39_0 := qb0 BK284.out 0
            have hfz39_1 := qb0 BK284.out 1
            have hfz39_2 := qb0 BK284.out 2
            have hfz39_3 := qb0 BK284.out 3
            have hfz39_4 := qb0 BK284.out 4
            have p288 : 0 ≤ (x7_4 : Int) := of_decide_eq_true (by first | (with_reducible assumption) | assumption)
            have q288 : x7_4 < (((rd_T52 l0 x4_1).f3).length : Int) := of_decide_eq_true (by first | (with_reducible assumption) | assumption)
            obtain ⟨ad288, e288, hx288_0, hx288_1, hx288_2, hx288_3, hx288_4, hx288_5⟩ := at_T54 HR283_3.out x7_4 p288 q288
            cases e288
            replace hx288_0 := (HB.out.cell (World.block_lt_of_cell? w _ hx288_0)).trans hx288_0
            replace hx288_1 := (HB.out.cell (World.block_lt_of_cell? w _ hx288_1)).trans hx288_1
            replace hx288_2 := (HB.out.cell (World.block_lt_of_cell? w _ hx288_2)).trans hx288_2
            replace hx288_3 := (HB.out.cell (World.block_lt_of_cell? w _ hx288_3)).trans hx288_3
            replace hx288_4 := (HB.out.cell (World.block_lt_of_cell? w _ hx288_4)).trans hx288_4
            replace hx288_5 := (HB.out.cell (World.block_lt_of_cell? w _ hx288_5)).trans hx288_5
            replace p288 := eq_true p288
            replace q288 := eq_true q288
            go_wp2_with (first | (go_at_call 85; (with_reducible refine (spec_l17Part.calls ((rd_T54 ((rd_T52 l0 x4_1).f3) x7_4).f0) ((rd_T54 ((rd_T52 l0 x4_1).f3) x7_4).f1) ((rd_T54 ((rd_T52 l0 x4_1).f3) x7_4).f2) ((rd_T54 ((rd_T52 l0 x4_1).f3) x7_4).f3) ((rd_T54 ((rd_T52 l0 x4_1).f3) x7_4).f4) ((rd_T54 ((rd_T52 l0 x4_1).f3) x7_4).f5) x4_1 (l0.length : Int) false _ A35.out).mono ?_); rintro e w40 ⟨rfl, hb⟩; have n0_ := Aside0.mk (qh1 (g := gb284) (o := .cells #[.string ((rd_T52 l0 x4_1).f0), .int .i64 ((rd_T52 l0 x4_1).f1), .bool ((rd_T52 l0 x4_1).f2), .slice (some ad288) ((rd_T52 l0 x4_1).f3).length c283_3, .slice A283_4 ((rd_T52 l0 x4_1).f4).length c283_4] 52 (0, 0)) (by (with_reducible repeat (first | refine qg0 ?_ _ | refine qh0 ?_ | refine qf0 ?_ _)); exact BK284.out) hb); have n1_ := Aside0.mk (qk0 (by repeat (first | (with_reducible first | exact HB.out | apply qc0 | apply qa0 | apply qd0 | refine qi0 ?_ GE284.out) | exact HB.out)) hb); clear BK284; clear HB; have BK284 := n0_; have HB := n1_; clear n0_ n1_; (try clear hb); (try clear hb2); (try clear hk); (try clear hi)))
            repeat (go_quiet (first | (go_at_call 85; (with_reducible refine (spec_l17Part.calls ((rd_T54 ((rd_T52 l0 x4_1).f3) x7_4).f0) ((rd_T54 ((rd_T52 l0 x4_1).f3) x7_4).f1) ((rd_T54 ((rd_T52 l0 x4_1).f3) x7_4).f2) ((rd_T54 ((rd_T52 l0 x4_1).f3) x7_4).f3) ((rd_T54 ((rd_T52 l0 x4_1).f3) x7_4).f4) ((rd_T54 ((rd_T52 l0 x4_1).f3) x7_4).f5) x4_1 (l0.length : Int) false _ A35.out).mono ?_); rintro e w40 ⟨rfl, hb⟩; have n0_ := Aside0.mk (qh1 (g := gb284) (o := .cells #[.string ((rd_T52 l0 x4_1).f0), .int .i64 ((rd_T52 l0 x4_1).f1), .bool ((rd_T52 l0 x4_1).f2), .slice (some ad288) ((rd_T52 l0 x4_1).f3).length c283_3, .slice A283_4 ((rd_T52 l0 x4_1).f4).length c283_4] 52 (0, 0)) (by (with_reducible repeat (first | refine qg0 ?_ _ | refine qh0 ?_ | refine qf0 ?_ _)); exact BK284.out) hb); have n1_ := Aside0.mk (qk0 (by repeat (first | (with_reducible first | exact HB.out | apply qc0 | apply qa0 | apply qd0 | refine qi0 ?_ GE284.out) | exact HB.out)) hb); clear BK284; clear HB; have BK284 := n0_; have HB := n1_; clear n0_ n1_; (try clear hb); (try clear hb2); (try clear hk); (try clear hi))); try go_wp2_with (first | (go_at_call 85; (with_reducible refine (spec_l17Part.calls ((rd_T54 ((rd_T52 l0 x4_1).f3) x7_4).f0) ((rd_T54 ((rd_T52 l0 x4_1).f3) x7_4).f1) ((rd_T54 ((rd_T52 l0 x4_1).f3) x7_4).f2) ((rd_T54 ((rd_T52 l0 x4_1).f3) x7_4).f3) ((rd_T54 ((rd_T52 l0 x4_1).f3) x7_4).f4) ((rd_T54 ((rd_T52 l0 x4_1).f3) x7_4).f5) x4_1 (l0.length : Int) false _ A35.out).mono ?_); rintro e w40 ⟨rfl, hb⟩; have n0_ := Aside0.mk (qh1 (g := gb284) (o := .cells #[.string ((rd_T52 l0 x4_1).f0), .int .i64 ((rd_T52 l0 x4_1).f1), .bool ((rd_T52 l0 x4_1).f2), .slice (some ad288) ((rd_T52 l0 x4_1).f3).length c283_3, .slice A283_4 ((rd_T52 l0 x4_1).f4).length c283_4] 52 (0, 0)) (by (with_reducible repeat (first | refine qg0 ?_ _ | refine qh0 ?_ | refine qf0 ?_ _)); exact BK284.out) hb); have n1_ := Aside0.mk (qk0 (by repeat (first | (with_reducible first | exact HB.out | apply qc0 | apply qa0 | apply qd0 | refine qi0 ?_ GE284.out) | exact HB.out)) hb); clear BK284; clear HB; have BK284 := n0_; have HB := n1_; clear n0_ n1_; (try clear hb); (try clear hb2); (try clear hk); (try clear hi))))
            go_ret
            exact ⟨by first | rfl | (simp [errW_none, errW_some] <;> rfl) | (simp [*, errW_none, errW_some] <;> rfl), by repeat (first | (with_reducible first | exact HB.out | apply qc0 | apply qa0 | apply qd0 | refine qi0 ?_ GE284.out) | exact HB.out)⟩
           rw [if_neg c33] at H
           have c33b0 : decide (x7_4 < (((rd_T52 l0 x4_1).f3).length : Int)) = false := decide_eq_false c33
           clear c33
           have H' := Aside0.mk H
           clear H
           have hcz41_0 : wr.cell? ⟨gb284, 0, none⟩ = some (.string ((rd_T52 l0 x4_1).f0)) := (qe0 BK284.out 0).trans rfl
           have hcz41_1 : wr.cell? ⟨gb284, 1, none⟩ = some (.int .i64 ((rd_T52 l0 x4_1).f1)) := (qe0 BK284.out 1).trans rfl
           have hcz41_2 : wr.cell? ⟨gb284, 2, none⟩ = some (.bool ((rd_T52 l0 x4_1).f2)) := (qe0 BK284.out 2).trans rfl
           have hcz41_3 : wr.cell? ⟨gb284, 3, none⟩ = some (.slice A283_3 ((rd_T52 l0 x4_1).f3).length c283_3) := (qe0 BK284.out 3).trans rfl
           have hcz41_4 : wr.cell? ⟨gb284, 4, none⟩ = some (.slice A283_4 ((rd_T52 l0 x4_1).f4).length c283_4) := (qe0 BK284.out 4).trans rfl
           have hfz41_0 := qb0 BK284.out 0
           have hfz41_1 := qb0 BK284.out 1
           have hfz41_2 := qb0 BK284.out 2
           have hfz41_3 := qb0 BK284.out 3
           have hfz41_4 := qb0 BK284.out 4
           go_wp2
           repeat (go_quiet (fail); try go_wp2)
           go_loopg [8] k4 (fun kq v8 w' => ∃ (x8_5 : Int), v8 = .int .i64 x8_5 ∧ Aside0 (spec_ItemsOk.l3 kq l0 (l0.length : Int) x4_1 x8_5 ((rd_T52 l0 x4_1).f0) ((rd_T52 l0 x4_1).f1) ((rd_T52 l0 x4_1).f2) ((rd_T52 l0 x4_1).f3) ((rd_T52 l0 x4_1).f4) = some r) ∧ Aside0 (kq ≤ k4) ∧ Aside0 (w'.heap[gb284]? = some (.cells #[.string ((rd_T52 l0 x4_1).f0), .int .i64 ((rd_T52 l0 x4_1).f1), .bool ((rd_T52 l0 x4_1).f2), (.slice A283_3 ((rd_T52 l0 x4_1).f3).length c283_3), (.slice A283_4 ((rd_T52 l0 x4_1).f4).length c283_4)] 52 (0, 0))) ∧ Aside0 (Below w.heap.size w w'))
           case atStart => exact ⟨(0), (by first | rfl | (simp; done) | (simp [*]; done)), H', ⟨Nat.le_refl _⟩, ⟨by (with_reducible repeat (first | refine qg0 ?_ _ | refine qh0 ?_ | refine qf0 ?_ _)); exact BK284.out⟩, ⟨by repeat (first | (with_reducible first | exact HB.out | apply qc0 | apply qa0 | apply qd0 | refine qi0 ?_ GE284.out) | exact HB.out)⟩⟩
           case round =>
            clear H'
            try clear c1
            try clear q1
            try clear c2
            try clear p2
            try clear q2
            try clear hx2
            try clear c3
            try clear c4
            try clear c4b0
            try clear c5
            try clear c5b0
            try clear c6
            try clear c6b0
            try clear p6
            try clear c11
            try clear c13
            try clear c14
            try clear c14b0
            try clear c14b1
            try clear c16
            try clear c16b0
            try clear c16b1
            try clear q18
            try clear c19
            try clear c20
            try clear c20b0
            try clear c20b1
            try clear c20b2
            try clear c26
            try clear c27
            try clear c27b0
            try clear c28
            try clear c28b0
            try clear p28
            try clear q28
            try clear hx28
            try clear c29
            try clear c29b0
            try clear c30
            try clear c30b0
            try clear c30b1
            try clear c33
            try clear c33b0
            try clear c34
            try clear c34b0
            try clear c36
            try clear hcz15_0
            try clear hcz15_1
            try clear hcz15_2
            try clear hcz15_3
            try clear hcz15_4
            try clear hcz17_0
            try clear hcz17_1
            try clear hcz17_2
            try clear hcz17_3
            try clear hcz17_4
            try clear hcz21_0
            try clear hcz21_1
            try clear hcz21_2
            try clear hcz21_3
            try clear hcz21_4
            try clear hcz22_0
            try clear hcz22_1
            try clear hcz22_2
            try clear hcz22_3
            try clear hcz22_4
            try clear hcz23_0
            try clear hcz23_1
            try clear hcz23_2
            try clear hcz23_3
            try clear hcz23_4
            try clear hcz24_0
            try clear hcz24_1
            try clear hcz24_2
            try clear hcz24_3
            try clear hcz24_4
            try clear hcz25_0
            try clear hcz25_1
            try clear hcz25_2
            try clear hcz25_3
            try clear hcz25_4
            try clear hcz31_0
            try clear hcz31_1
            try clear hcz31_2
            try clear hcz31_3
            try clear hcz31_4
            try clear hcz32_0
            try clear hcz32_1
            try clear hcz32_2
            try clear hcz32_3
            try clear hcz32_4
            try clear hcz37_0
            try clear hcz37_1
            try clear hcz37_2
            try clear hcz37_3
            try clear hcz37_4
            try clear hcz39_0
            try clear hcz39_1
            try clear hcz39_2
            try clear hcz39_3
            try clear hcz39_4
            try clear hcz41_0
            try clear hcz41_1
            try clear hcz41_2
            try clear hcz41_3
            try clear hcz41_4
            try clear hcz9_0
            try clear hcz9_1
            try clear hcz9_2
            try clear hcz9_3
            try clear hcz9_4
            try clear hfz15_0
            try clear hfz15_1
            try clear hfz15_2
            try clear hfz15_3
            try clear hfz15_4
            try clear hfz17_0
            try clear hfz17_1
            try clear hfz17_2
            try clear hfz17_3
            try clear hfz17_4
            try clear hfz21_0
            try clear hfz21_1
            try clear hfz21_2
            try clear hfz21_3
            try clear hfz21_4
            try clear hfz22_0
            try clear hfz22_1
            try clear hfz22_2
            try clear hfz22_3
            try clear hfz22_4
            try clear hfz23_0
            try clear hfz23_1
            try clear hfz23_2
            try clear hfz23_3
            try clear hfz23_4
            try clear hfz24_0
            try clear hfz24_1
            try clear hfz24_2
            try clear hfz24_3
            try clear hfz24_4
            try clear hfz25_0
            try clear hfz25_1
            try clear hfz25_2
            try clear hfz25_3
            try clear hfz25_4
            try clear hfz31_0
            try clear hfz31_1
            try clear hfz31_2
            try clear hfz31_3
            try clear hfz31_4
            try clear hfz32_0
            try clear hfz32_1
            try clear hfz32_2
            try clear hfz32_3
            try clear hfz32_4
            try clear hfz37_0
            try clear hfz37_1
            try clear hfz37_2
            try clear hfz37_3
            try clear hfz37_4
            try clear hfz39_0
            try clear hfz39_1
            try clear hfz39_2
            try clear hfz39_3
            try clear hfz39_4
            try clear hfz41_0
            try clear hfz41_1
            try clear hfz41_2
            try clear hfz41_3
            try clear hfz41_4
            try clear hfz9_0
            try clear hfz9_1
            try clear hfz9_2
            try clear hfz9_3
            try clear hfz9_4
            try clear hx283_0
            try clear hx283_1
            try clear hx283_2
            try clear hx283_3
            try clear hx283_4
            try clear hx287_0
            try clear hx287_1
            try clear hx287_2
            try clear hx287_3
            try clear hx287_4
            try clear hx288_0
            try clear hx288_1
            try clear hx288_2
            try clear hx288_3
            try clear hx288_4
            try clear hx288_5
            try clear p2
            try clear p28
            try clear p283
            try clear p287
            try clear p288
            try clear p6
            try clear q1
            try clear q18
            try clear q2
            try clear q28
            try clear q283
            try clear q287
            try clear q288
            obtain ⟨x8_5, rfl, HA, HK5, BK284, HB⟩ := hrel
            cases gk with
            | zero => exact absurd HA.out (by simp [spec_ItemsOk.l3])
            | succ k5 =>
             have H := HA.out
             clear HA
             simp only [spec_ItemsOk.l3] at H
             by_cases c42 : x8_5 < (((rd_T52 l0 x4_1).f4).length : Int)
             ·rw [if_pos c42] at H
              have c42b0 : decide (x8_5 < (((rd_T52 l0 x4_1).f4).length : Int)) = true := decide_eq_true c42
              clear c42
              by_cases c43 : 0 ≤ x8_5
              case neg => rw [if_neg c43] at H; exact absurd H (by simp)
              rw [if_pos c43] at H
              have c43b0 : decide (0 ≤ x8_5) = true := decide_eq_true c43
              clear c43
              replace H := Option.bind_eq_some_iff.mp H
              obtain ⟨t291, A440, H⟩ := H
              replace H : (if t291 = true then (if ((rd_T54 ((rd_T52 l0 x4_1).f4) x8_5).f2) = 0 then (if ((rd_T54 ((rd_T52 l0 x4_1).f4) x8_5).f5) = 0 then (spec_ItemsOk.l3 k5 l0 (l0.length : Int) x4_1 (wrap64 (x8_5 + 1)) ((rd_T52 l0 x4_1).f0) ((rd_T52 l0 x4_1).f1) ((rd_T52 l0 x4_1).f2) ((rd_T52 l0 x4_1).f3) ((rd_T52 l0 x4_1).f4)) else (some false)) else (some false)) else (some false)) = some r := H
              have A44 := Aside0.mk A440
              clear A440
              by_cases c45 : t291 = true
              ·subst c45
               have H1 : (if ((rd_T54 ((rd_T52 l0 x4_1).f4) x8_5).f2) = 0 then (if ((rd_T54 ((rd_T52 l0 x4_1).f4) x8_5).f5) = 0 then (spec_ItemsOk.l3 k5 l0 (l0.length : Int) x4_1 (wrap64 (x8_5 + 1)) ((rd_T52 l0 x4_1).f0) ((rd_T52 l0 x4_1).f1) ((rd_T52 l0 x4_1).f2) ((rd_T52 l0 x4_1).f3) ((rd_T52 l0 x4_1).f4)) else (some false)) else (some false)) = some r := by rw [if_pos rfl] at H; exact H
               clear H
               have H := H1
               clear H1
               by_cases c46 : ((rd_T54 ((rd_T52 l0 x4_1).f4) x8_5).f2) = 0
               ·rw [if_pos c46] at H
                have c46b0 : (((rd_T54 ((rd_T52 l0 x4_1).f4) x8_5).f2) == 0) = true := beq_iff_eq.mpr c46
                have c46b1 : (((rd_T54 ((rd_T52 l0 x4_1).f4) x8_5).f2) != 0) = false := bne_eq_false_iff_eq.mpr c46
                clear c46
                by_cases c47 : ((rd_T54 ((rd_T52 l0 x4_1).f4) x8_5).f5) = 0
                ·rw [if_pos c47] at H
                 have c47b0 : (((rd_T54 ((rd_T52 l0 x4_1).f4) x8_5).f5) == 0) = true := beq_iff_eq.mpr c47
                 have c47b1 : (((rd_T54 ((rd_T52 l0 x4_1).f4) x8_5).f5) != 0) = false := bne_eq_false_iff_eq.mpr c47
                 clear c47
                 have H' := Aside0.mk H
                 clear H
                 have hcz48_0 : wr.cell? ⟨gb284, 0, none⟩ = some (.string ((rd_T52 l0 x4_1).f0)) := (qe0 BK284.out 0).trans rfl
                 have hcz48_1 : wr.cell? ⟨gb284, 1, none⟩ = some (.int .i64 ((rd_T52 l0 x4_1).f1)) := (qe0 BK284.out 1).trans rfl
                 have hcz48_2 : wr.cell? ⟨gb284, 2, none⟩ = some (.bool ((rd_T52 l0 x4_1).f2)) := (qe0 BK284.out 2).trans rfl
                 have hcz48_3 : wr.cell? ⟨gb284, 3, none⟩ = some (.slice A283_3 ((rd_T52 l0 x4_1).f3).length c283_3) := (qe0 BK284.out 3).trans rfl
                 have hcz48_4 : wr.cell? ⟨gb284, 4, none⟩ = some (.slice A283_4 ((rd_T52 l0 x4_1).f4).length c283_4) := (qe0 BK284.out 4).trans rfl
                 have hfz48_0 := qb0 BK284.out 0
                 have hfz48_1 := qb0 BK284.out 1
                 have hfz48_2 := qb0 BK284.out 2
                 have hfz48_3 := qb0 BK284.out 3
                 have hfz48_4 := qb0 BK284.out 4
                 have p290 : 0 ≤ (x8_5 : Int) := of_decide_eq_true (by first | (with_reducible assumption) | assumption)
                 have q290 : x8_5 < (((rd_T52 l0 x4_1).f4).length : Int) := of_decide_eq_true (by first | (with_reducible assumption) | assumption)
                 obtain ⟨ad290, e290, hx290_0, hx290_1, hx290_2, hx290_3, hx290_4, hx290_5⟩ := at_T54 HR283_4.out x8_5 p290 q290
                 cases e290
                 replace hx290_0 := (HB.out.cell (World.block_lt_of_cell? w _ hx290_0)).trans hx290_0
                 replace hx290_1 := (HB.out.cell (World.block_lt_of_cell? w _ hx290_1)).trans hx290_1
                 replace hx290_2 := (HB.out.cell (World.block_lt_of_cell? w _ hx290_2)).trans hx290_2
                 replace hx290_3 := (HB.out.cell (World.block_lt_of_cell? w _ hx290_3)).trans hx290_3
                 replace hx290_4 := (HB.out.cell (World.block_lt_of_cell? w _ hx290_4)).trans hx290_4
                 replace hx290_5 := (HB.out.cell (World.block_lt_of_cell? w _ hx290_5)).trans hx290_5
                 replace p290 := eq_true p290
                 replace q290 := eq_true q290
                 go_wp2_with (first | (go_at_call 85; (with_reducible refine (spec_l17Part.calls ((rd_T54 ((rd_T52 l0 x4_1).f4) x8_5).f0) ((rd_T54 ((rd_T52 l0 x4_1).f4) x8_5).f1) ((rd_T54 ((rd_T52 l0 x4_1).f4) x8_5).f2) ((rd_T54 ((rd_T52 l0 x4_1).f4) x8_5).f3) ((rd_T54 ((rd_T52 l0 x4_1).f4) x8_5).f4) ((rd_T54 ((rd_T52 l0 x4_1).f4) x8_5).f5) x4_1 (l0.length : Int) true _ A44.out).mono ?_); rintro e w49 ⟨rfl, hb⟩; have n0_ := Aside0.mk (qh1 (g := gb284) (o := .cells #[.string ((rd_T52 l0 x4_1).f0), .int .i64 ((rd_T52 l0 x4_1).f1), .bool ((rd_T52 l0 x4_1).f2), .slice A283_3 ((rd_T52 l0 x4_1).f3).length c283_3, .slice (some ad290) ((rd_T52 l0 x4_1).f4).length c283_4] 52 (0, 0)) (by (with_reducible repeat (first | refine qg0 ?_ _ | refine qh0 ?_ | refine qf0 ?_ _)); exact BK284.out) hb); have n1_ := Aside0.mk (qk0 (by repeat (first | (with_reducible first | exact HB.out | apply qc0 | apply qa0 | apply qd0 | refine qi0 ?_ GE284.out) | exact HB.out)) hb); clear BK284; clear HB; have BK284 := n0_; have HB := n1_; clear n0_ n1_; (try clear hb); (try clear hb2); (try clear hk); (try clear hi); have hcz50_0 : w49.cell? ⟨gb284, 0, none⟩ = some (.string ((rd_T52 l0 x4_1).f0)) := (qe0 BK284.out 0).trans rfl; have hcz50_1 : w49.cell? ⟨gb284, 1, none⟩ = some (.int .i64 ((rd_T52 l0 x4_1).f1)) := (qe0 BK284.out 1).trans rfl; have hcz50_2 : w49.cell? ⟨gb284, 2, none⟩ = some (.bool ((rd_T52 l0 x4_1).f2)) := (qe0 BK284.out 2).trans rfl; have hcz50_3 : w49.cell? ⟨gb284, 3, none⟩ = some (.slice A283_3 ((rd_T52 l0 x4_1).f3).length c283_3) := (qe0 BK284.out 3).trans rfl; have hcz50_4 : w49.cell? ⟨gb284, 4, none⟩ = some (.slice (some ad290) ((rd_T52 l0 x4_1).f4).length c283_4) := (qe0 BK284.out 4).trans rfl; have hfz50_0 := qb0 BK284.out 0; have hfz50_1 := qb0 BK284.out 1; have hfz50_2 := qb0 BK284.out 2; have hfz50_3 := qb0 BK284.out 3; have hfz50_4 := qb0 BK284.out 4; have p292 : 0 ≤ (x8_5 : Int) := of_decide_eq_true (by first | (with_reducible assumption) | assumption); have q292 : x8_5 < (((rd_T52 l0 x4_1).f4).length : Int) := of_decide_eq_true (by first | (with_reducible assumption) | assumption); obtain ⟨ad292, e292, hx292_0, hx292_1, hx292_2, hx292_3, hx292_4, hx292_5⟩ := at_T54 HR283_4.out x8_5 p292 q292; obtain rfl : ad290 = ad292 := (by injection e292); replace hx292_0 := (HB.out.cell (World.block_lt_of_cell? w _ hx292_0)).trans hx292_0; replace hx292_1 := (HB.out.cell (World.block_lt_of_cell? w _ hx292_1)).trans hx292_1; replace hx292_2 := (HB.out.cell (World.block_lt_of_cell? w _ hx292_2)).trans hx292_2; replace hx292_3 := (HB.out.cell (World.block_lt_of_cell? w _ hx292_3)).trans hx292_3; replace hx292_4 := (HB.out.cell (World.block_lt_of_cell? w _ hx292_4)).trans hx292_4; replace hx292_5 := (HB.out.cell (World.block_lt_of_cell? w _ hx292_5)).trans hx292_5; replace p292 := eq_true p292; replace q292 := eq_true q292; have p293 : 0 ≤ (x8_5 : Int) := of_decide_eq_true (by first | (with_reducible assumption) | assumption); have q293 : x8_5 < (((rd_T52 l0 x4_1).f4).length : Int) := of_decide_eq_true (by first | (with_reducible assumption) | assumption); obtain ⟨ad293, e293, hx293_0, hx293_1, hx293_2, hx293_3, hx293_4, hx293_5⟩ := at_T54 HR283_4.out x8_5 p293 q293; obtain rfl : ad290 = ad293 := (by injection e293); replace hx293_0 := (HB.out.cell (World.block_lt_of_cell? w _ hx293_0)).trans hx293_0; replace hx293_1 := (HB.out.cell (World.block_lt_of_cell? w _ hx293_1)).trans hx293_1; replace hx293_2 := (HB.out.cell (World.block_lt_of_cell? w _ hx293_2)).trans hx293_2; replace hx293_3 := (HB.out.cell (World.block_lt_of_cell? w _ hx293_3)).trans hx293_3; replace hx293_4 := (HB.out.cell (World.block_lt_of_cell? w _ hx293_4)).trans hx293_4; replace hx293_5 := (HB.out.cell (World.block_lt_of_cell? w _ hx293_5)).trans hx293_5; replace p293 := eq_true p293; replace q293 := eq_true q293))
                 repeat (go_quiet (first | (go_at_call 85; (with_reducible refine (spec_l17Part.calls ((rd_T54 ((rd_T52 l0 x4_1).f4) x8_5).f0) ((rd_T54 ((rd_T52 l0 x4_1).f4) x8_5).f1) ((rd_T54 ((rd_T52 l0 x4_1).f4) x8_5).f2) ((rd_T54 ((rd_T52 l0 x4_1).f4) x8_5).f3) ((rd_T54 ((rd_T52 l0 x4_1).f4) x8_5).f4) ((rd_T54 ((rd_T52 l0 x4_1).f4) x8_5).f5) x4_1 (l0.length : Int) true _ A44.out).mono ?_); rintro e w49 ⟨rfl, hb⟩; have n0_ := Aside0.mk (qh1 (g := gb284) (o := .cells #[.string ((rd_T52 l0 x4_1).f0), .int .i64 ((rd_T52 l0 x4_1).f1), .bool ((rd_T52 l0 x4_1).f2), .slice A283_3 ((rd_T52 l0 x4_1).f3).length c283_3, .slice (some ad290) ((rd_T52 l0 x4_1).f4).length c283_4] 52 (0, 0)) (by (with_reducible repeat (first | refine qg0 ?_ _ | refine qh0 ?_ | refine qf0 ?_ _)); exact BK284.out) hb); have n1_ := Aside0.mk (qk0 (by repeat (first | (with_reducible first | exact HB.out | apply qc0 | apply qa0 | apply qd0 | refine qi0 ?_ GE284.out) | exact HB.out)) hb); clear BK284; clear HB; have BK284 := n0_; have HB := n1_; clear n0_ n1_; (try clear hb); (try clear hb2); (try clear hk); (try clear hi); have hcz50_0 : w49.cell? ⟨gb284, 0, none⟩ = some (.string ((rd_T52 l0 x4_1).f0)) := (qe0 BK284.out 0).trans rfl; have hcz50_1 : w49.cell? ⟨gb284, 1, none⟩ = some (.int .i64 ((rd_T52 l0 x4_1).f1)) := (qe0 BK284.out 1).trans rfl; have hcz50_2 : w49.cell? ⟨gb284, 2, none⟩ = some (.bool ((rd_T52 l0 x4_1).f2)) := (qe0 BK284.out 2).trans rfl; have hcz50_3 : w49.cell? ⟨gb284, 3, none⟩ = some (.slice A283_3 ((rd_T52 l0 x4_1).f3).length c283_3) := (qe0 BK284.out 3).trans rfl; have hcz50_4 : w49.cell? ⟨gb284, 4, none⟩ = some (.slice (some ad290) ((rd_T52 l0 x4_1).f4).length c283_4) := (qe0 BK284.out 4).trans rfl; have hfz50_0 := qb0 BK284.out 0; have hfz50_1 := qb0 BK284.out 1; have hfz50_2 := qb0 BK284.out 2; have hfz50_3 := qb0 BK284.out 3; have hfz50_4 := qb0 BK284.out 4; have p292 : 0 ≤ (x8_5 : Int) := of_decide_eq_true (by first | (with_reducible assumption) | assumption); have q292 : x8_5 < (((rd_T52 l0 x4_1).f4).length : Int) := of_decide_eq_true (by first | (with_reducible assumption) | assumption); obtain ⟨ad292, e292, hx292_0, hx292_1, hx292_2, hx292_3, hx292_4, hx292_5⟩ := at_T54 HR283_4.out x8_5 p292 q292; obtain rfl : ad290 = ad292 := (by injection e292); replace hx292_0 := (HB.out.cell (World.block_lt_of_cell? w _ hx292_0)).trans hx292_0; replace hx292_1 := (HB.out.cell (World.block_lt_of_cell? w _ hx292_1)).trans hx292_1; replace hx292_2 := (HB.out.cell (World.block_lt_of_cell? w _ hx292_2)).trans hx292_2; replace hx292_3 := (HB.out.cell (World.block_lt_of_cell? w _ hx292_3)).trans hx292_3; replace hx292_4 := (HB.out.cell (World.block_lt_of_cell? w _ hx292_4)).trans hx292_4; replace hx292_5 := (HB.out.cell (World.block_lt_of_cell? w _ hx292_5)).trans hx292_5; replace p292 := eq_true p292; replace q292 := eq_true q292; have p293 : 0 ≤ (x8_5 : Int) := of_decide_eq_true (by first | (with_reducible assumption) | assumption); have q293 : x8_5 < (((rd_T52 l0 x4_1).f4).length : Int) := of_decide_eq_true (by first | (with_reducible assumption) | assumption); obtain ⟨ad293, e293, hx293_0, hx293_1, hx293_2, hx293_3, hx293_4, hx293_5⟩ := at_T54 HR283_4.out x8_5 p293 q293; obtain rfl : ad290 = ad293 := (by injection e293); replace hx293_0 := (HB.out.cell (World.block_lt_of_cell? w _ hx293_0)).trans hx293_0; replace hx293_1 := (HB.out.cell (World.block_lt_of_cell? w _ hx293_1)).trans hx293_1; replace hx293_2 := (HB.out.cell (World.block_lt_of_cell? w _ hx293_2)).trans hx293_2; replace hx293_3 := (HB.out.cell (World.block_lt_of_cell? w _ hx293_3)).trans hx293_3; replace hx293_4 := (HB.out.cell (World.block_lt_of_cell? w _ hx293_4)).trans hx293_4; replace hx293_5 := (HB.out.cell (World.block_lt_of_cell? w _ hx293_5)).trans hx293_5; replace p293 := eq_true p293; replace q293 := eq_true q293)); try go_wp2_with (first | (go_at_call 85; (with_reducible refine (spec_l17Part.calls ((rd_T54 ((rd_T52 l0 x4_1).f4) x8_5).f0) ((rd_T54 ((rd_T52 l0 x4_1).f4) x8_5).f1) ((rd_T54 ((rd_T52 l0 x4_1).f4) x8_5).f2) ((rd_T54 ((rd_T52 l0 x4_1).f4) x8_5).f3) ((rd_T54 ((rd_T52 l0 x4_1).f4) x8_5).f4) ((rd_T54 ((rd_T52 l0 x4_1).f4) x8_5).f5) x4_1 (l0.length : Int) true _ A44.out).mono ?_); rintro e w49 ⟨rfl, hb⟩; have n0_ := Aside0.mk (qh1 (g := gb284) (o := .cells #[.string ((rd_T52 l0 x4_1).f0), .int .i64 ((rd_T52 l0 x4_1).f1), .bool ((rd_T52 l0 x4_1).f2), .slice A283_3 ((rd_T52 l0 x4_1).f3).length c283_3, .slice (some ad290) ((rd_T52 l0 x4_1).f4).length c283_4] 52 (0, 0)) (by (with_reducible repeat (first | refine qg0 ?_ _ | refine qh0 ?_ | refine qf0 ?_ _)); exact BK284.out) hb); have n1_ := Aside0.mk (qk0 (by repeat (first | (with_reducible first | exact HB.out | apply qc0 | apply qa0 | apply qd0 | refine qi0 ?_ GE284.out) | exact HB.out)) hb); clear BK284; clear HB; have BK284 := n0_; have HB := n1_; clear n0_ n1_; (try clear hb); (try clear hb2); (try clear hk); (try clear hi); have hcz50_0 : w49.cell? ⟨gb284, 0, none⟩ = some (.string ((rd_T52 l0 x4_1).f0)) := (qe0 BK284.out 0).trans rfl; have hcz50_1 : w49.cell? ⟨gb284, 1, none⟩ = some (.int .i64 ((rd_T52 l0 x4_1).f1)) := (qe0 BK284.out 1).trans rfl; have hcz50_2 : w49.cell? ⟨gb284, 2, none⟩ = some (.bool ((rd_T52 l0 x4_1).f2)) := (qe0 BK284.out 2).trans rfl; have hcz50_3 : w49.cell? ⟨gb284, 3, none⟩ = some (.slice A283_3 ((rd_T52 l0 x4_1).f3).length c283_3) := (qe0 BK284.out 3).trans rfl; have hcz50_4 : w49.cell? ⟨gb284, 4, none⟩ = some (.slice (some ad290) ((rd_T52 l0 x4_1).f4).length c283_4) := (qe0 BK284.out 4).trans rfl; have hfz50_0 := qb0 BK284.out 0; have hfz50_1 := qb0 BK284.out 1; have hfz50_2 := qb0 BK284.out 2; have hfz50_3 := qb0 BK284.out 3; have hfz50_4 := qb0 BK284.out 4; have p292 : 0 ≤ (x8_5 : Int) := of_decide_eq_true (by first | (with_reducible assumption) | assumption); have q292 : x8_5 < (((rd_T52 l0 x4_1).f4).length : Int) := of_decide_eq_true (by first | (with_reducible assumption) | assumption); obtain ⟨ad292, e292, hx292_0, hx292_1, hx292_2, hx292_3, hx292_4, hx292_5⟩ := at_T54 HR283_4.out x8_5 p292 q292; obtain rfl : ad290 = ad292 := (by injection e292); replace hx292_0 := (HB.out.cell (World.block_lt_of_cell? w _ hx292_0)).trans hx292_0; replace hx292_1 := (HB.out.cell (World.block_lt_of_cell? w _ hx292_1)).trans hx292_1; replace hx292_2 := (HB.out.cell (World.block_lt_of_cell? w _ hx292_2)).trans hx292_2; replace hx292_3 := (HB.out.cell (World.block_lt_of_cell? w _ hx292_3)).trans hx292_3; replace hx292_4 := (HB.out.cell (World.block_lt_of_cell? w _ hx292_4)).trans hx292_4; replace hx292_5 := (HB.out.cell (World.block_lt_of_cell? w _ hx292_5)).trans hx292_5; replace p292 := eq_true p292; replace q292 := eq_true q292; have p293 : 0 ≤ (x8_5 : Int) := of_decide_eq_true (by first | (with_reducible assumption) | assumption); have q293 : x8_5 < (((rd_T52 l0 x4_1).f4).length : Int) := of_decide_eq_true (by first | (with_reducible assumption) | assumption); obtain ⟨ad293, e293, hx293_0, hx293_1, hx293_2, hx293_3, hx293_4, hx293_5⟩ := at_T54 HR283_4.out x8_5 p293 q293; obtain rfl : ad290 = ad293 := (by injection e293); replace hx293_0 := (HB.out.cell (World.block_lt_of_cell? w _ hx293_0)).trans hx293_0; replace hx293_1 := (HB.out.cell (World.block_lt_of_cell? w _ hx293_1)).trans hx293_1; replace hx293_2 := (HB.out.cell (World.block_lt_of_cell? w _ hx293_2)).trans hx293_2; replace hx293_3 := (HB.out.cell (World.block_lt_of_cell? w _ hx293_3)).trans hx293_3; replace hx293_4 := (HB.out.cell (World.block_lt_of_cell? w _ hx293_4)).trans hx293_4; replace hx293_5 := (HB.out.cell (World.block_lt_of_cell? w _ hx293_5)).trans hx293_5; replace p293 := eq_true p293; replace q293 := eq_true q293)))
                 go_roundg k5
                 case measure => have := HK1.out; have := HJ6.out; have := HK3.out; have := HK4.out; have := HK5.out; omega
                 case rel => exact ⟨(wrap64 (x8_5 + 1)), (by first | rfl | (simp; done) | (simp [*]; done)), H', ⟨by have := HK1.out; have := HJ6.out; have := HK3.out; have := HK4.out; have := HK5.out; omega⟩, ⟨by (with_reducible repeat (first | refine qg0 ?_ _ | refine qh0 ?_ | refine qf0 ?_ _)); exact BK284.out⟩, ⟨by repeat (first | (with_reducible first | exact HB.out | apply qc0 | apply qa0 | apply qd0 | refine qi0 ?_ GE284.out) | exact HB.out)⟩⟩
                rw [if_neg c47] at H
                have c47b0 : (((rd_T54 ((rd_T52 l0 x4_1).f4) x8_5).f5) == 0) = false := beq_eq_false_iff_ne.mpr c47
                have c47b1 : (((rd_T54 ((rd_T52 l0 x4_1).f4) x8_5).f5) != 0) = true := bne_iff_ne.mpr c47
                obtain rfl := Option.some.inj H
                have hcz51_0 : wr.cell? ⟨gb284, 0, none⟩ = some (.string ((rd_T52 l0 x4_1).f0)) := (qe0 BK284.out 0).trans rfl
                have hcz51_1 : wr.cell? ⟨gb284, 1, none⟩ = some (.int .i64 ((rd_T52 l0 x4_1).f1)) := (qe0 BK284.out 1).trans rfl
                have hcz51_2 : wr.cell? ⟨gb284, 2, none⟩ = some (.bool ((rd_T52 l0 x4_1).f2)) := (qe0 BK284.out 2).trans rfl
                have hcz51_3 : wr.cell? ⟨gb284, 3, none⟩ = some (.slice A283_3 ((rd_T52 l0 x4_1).f3).length c283_3) := (qe0 BK284.out 3).trans rfl
                have hcz51_4 : wr.cell? ⟨gb284, 4, none⟩ = some (.slice A283_4 ((rd_T52 l0 x4_1).f4).length c283_4) := (qe0 BK284.out 4).trans rfl
                have hfz51_0 := qb0 BK284.out 0
                have hfz51_1 := qb0 BK284.out 1
                have hfz51_2 := qb0 BK284.out 2
                have hfz51_3 := qb0 BK284.out 3
                have hfz51_4 := qb0 BK284.out 4
                have p290 : 0 ≤ (x8_5 : Int) := of_decide_eq_true (by first | (with_reducible assumption) | assumption)
                have q290 : x8_5 < (((rd_T52 l0 x4_1).f4).length : Int) := of_decide_eq_true (by first | (with_reducible assumption) | assumption)
                obtain ⟨ad290, e290, hx290_0, hx290_1, hx290_2, hx290_3, hx290_4, hx290_5⟩ := at_T54 HR283_4.out x8_5 p290 q290
                cases e290
                replace hx290_0 := (HB.out.cell (World.block_lt_of_cell? w _ hx290_0)).trans hx290_0
                replace hx290_1 := (HB.out.cell (World.block_lt_of_cell? w _ hx290_1)).trans hx290_1
                replace hx290_2 := (HB.out.cell (World.block_lt_of_cell? w _ hx290_2)).trans hx290_2
                replace hx290_3 := (HB.out.cell (World.block_lt_of_cell? w _ hx290_3)).trans hx290_3
                replace hx290_4 := (HB.out.cell (World.block_lt_of_cell? w _ hx290_4)).trans hx290_4
                replace hx290_5 := (HB.out.cell (World.block_lt_of_cell? w _ hx290_5)).trans hx290_5
                replace p290 := eq_true p290
                replace q290 := eq_true q290
                go_wp2_with (first | (go_at_call 85; (with_reducible refine (spec_l17Part.calls ((rd_T54 ((rd_T52 l0 x4_1).f4) x8_5).f0) ((rd_T54 ((rd_T52 l0 x4_1).f4) x8_5).f1) ((rd_T54 ((rd_T52 l0 x4_1).f4) x8_5).f2) ((rd_T54 ((rd_T52 l0 x4_1).f4) x8_5).f3) ((rd_T54 ((rd_T52 l0 x4_1).f4) x8_5).f4) ((rd_T54 ((rd_T52 l0 x4_1).f4) x8_5).f5) x4_1 (l0.length : Int) true _ A44.out).mono ?_); rintro e w52 ⟨rfl, hb⟩; have n0_ := Aside0.mk (qh1 (g := gb284) (o := .cells #[.string ((rd_T52 l0 x4_1).f0), .int .i64 ((rd_T52 l0 x4_1).f1), .bool ((rd_T52 l0 x4_1).f2), .slice A283_3 ((rd_T52 l0 x4_1).f3).length c283_3, .slice (some ad290) ((rd_T52 l0 x4_1).f4).length c283_4] 52 (0, 0)) (by (with_reducible repeat (first | refine qg0 ?_ _ | refine qh0 ?_ | refine qf0 ?_ _)); exact BK284.out) hb); have n1_ := Aside0.mk (qk0 (by repeat (first | (with_reducible first | exact HB.out | apply qc0 | apply qa0 | apply qd0 | refine qi0 ?_ GE284.out) | exact HB.out)) hb); clear BK284; clear HB; have BK284 := n0_; have HB := n1_; clear n0_ n1_; (try clear hb); (try clear hb2); (try clear hk); (try clear hi); have hcz53_0 : w52.cell? ⟨gb284, 0, none⟩ = some (.string ((rd_T52 l0 x4_1).f0)) := (qe0 BK284.out 0).trans rfl; have hcz53_1 : w52.cell? ⟨gb284, 1, none⟩ = some (.int .i64 ((rd_T52 l0 x4_1).f1)) := (qe0 BK284.out 1).trans rfl; have hcz53_2 : w52.cell? ⟨gb284, 2, none⟩ = some (.bool ((rd_T52 l0 x4_1).f2)) := (qe0 BK284.out 2).trans rfl; have hcz53_3 : w52.cell? ⟨gb284, 3, none⟩ = some (.slice A283_3 ((rd_T52 l0 x4_1).f3).length c283_3) := (qe0 BK284.out 3).trans rfl; have hcz53_4 : w52.cell? ⟨gb284, 4, none⟩ = some (.slice (some ad290) ((rd_T52 l0 x4_1).f4).length c283_4) := (qe0 BK284.out 4).trans rfl; have hfz53_0 := qb0 BK284.out 0; have hfz53_1 := qb0 BK284.out 1; have hfz53_2 := qb0 BK284.out 2; have hfz53_3 := qb0 BK284.out 3; have hfz53_4 := qb0 BK284.out 4; have p292 : 0 ≤ (x8_5 : Int) := of_decide_eq_true (by first | (with_reducible assumption) | assumption); have q292 : x8_5 < (((rd_T52 l0 x4_1).f4).length : Int) := of_decide_eq_true (by first | (with_reducible assumption) | assumption); obtain ⟨ad292, e292, hx292_0, hx292_1, hx292_2, hx292_3, hx292_4, hx292_5⟩ := at_T54 HR283_4.out x8_5 p292 q292; obtain rfl : ad290 = ad292 := (by injection e292); replace hx292_0 := (HB.out.cell (World.block_lt_of_cell? w _ hx292_0)).trans hx292_0; replace hx292_1 := (HB.out.cell (World.block_lt_of_cell? w _ hx292_1)).trans hx292_1; replace hx292_2 := (HB.out.cell (World.block_lt_of_cell? w _ hx292_2)).trans hx292_2; replace hx292_3 := (HB.out.cell (World.block_lt_of_cell? w _ hx292_3)).trans hx292_3; replace hx292_4 := (HB.out.cell (World.block_lt_of_cell? w _ hx292_4)).trans hx292_4; replace hx292_5 := (HB.out.cell (World.block_lt_of_cell? w _ hx292_5)).trans hx292_5; replace p292 := eq_true p292; replace q292 := eq_true q292; have p293 : 0 ≤ (x8_5 : Int) := of_decide_eq_true (by first | (with_reducible assumption) | assumption); have q293 : x8_5 < (((rd_T52 l0 x4_1).f4).length : Int) := of_decide_eq_true (by first | (with_reducible assumption) | assumption); obtain ⟨ad293, e293, hx293_0, hx293_1, hx293_2, hx293_3, hx293_4, hx293_5⟩ := at_T54 HR283_4.out x8_5 p293 q293; obtain rfl : ad290 = ad293 := (by injection e293); replace hx293_0 := (HB.out.cell (World.block_lt_of_cell? w _ hx293_0)).trans hx293_0; replace hx293_1 := (HB.out.cell (World.block_lt_of_cell? w _ hx293_1)).trans hx293_1; replace hx293_2 := (HB.out.cell (World.block_lt_of_cell? w _ hx293_2)).trans hx293_2; replace hx293_3 := (HB.out.cell (World.block_lt_of_cell? w _ hx293_3)).trans hx293_3; replace hx293_4 := (HB.out.cell (World.block_lt_of_cell? w _ hx293_4)).trans hx293_4; replace hx293_5 := (HB.out.cell (World.block_lt_of_cell? w _ hx293_5)).trans hx293_5; replace p293 := eq_true p293; replace q293 := eq_true q293))
                repeat (go_quiet (first | (go_at_call 85; (with_reducible refine (spec_l17Part.calls ((rd_T54 ((rd_T52 l0 x4_1).f4) x8_5).f0) ((rd_T54 ((rd_T52 l0 x4_1).f4) x8_5).f1) ((rd_T54 ((rd_T52 l0 x4_1).f4) x8_5).f2) ((rd_T54 ((rd_T52 l0 x4_1).f4) x8_5).f3) ((rd_T54 ((rd_T52 l0 x4_1).f4) x8_5).f4) ((rd_T54 ((rd_T52 l0 x4_1).f4) x8_5).f5) x4_1 (l0.length : Int) true _ A44.out).mono ?_); rintro e w52 ⟨rfl, hb⟩; have n0_ := Aside0.mk (qh1 (g := gb284) (o := .cells #[.string ((rd_T52 l0 x4_1).f0), .int .i64 ((rd_T52 l0 x4_1).f1), .bool ((rd_T52 l0 x4_1).f2), .slice A283_3 ((rd_T52 l0 x4_1).f3).length c283_3, .slice (some ad290) ((rd_T52 l0 x4_1).f4).length c283_4] 52 (0, 0)) (by (with_reducible repeat (first | refine qg0 ?_ _ | refine qh0 ?_ | refine qf0 ?_ _)); exact BK284.out) hb); have n1_ := Aside0.mk (qk0 (by repeat (first | (with_reducible first | exact HB.out | apply qc0 | apply qa0 | apply qd0 | refine qi0 ?_ GE284.out) | exact HB.out)) hb); clear BK284; clear HB; have BK284 := n0_; have HB := n1_; clear n0_ n1_; (try clear hb); (try clear hb2); (try clear hk); (try clear hi); have hcz53_0 : w52.cell? ⟨gb284, 0, none⟩ = some (.string ((rd_T52 l0 x4_1).f0)) := (qe0 BK284.out 0).trans rfl; have hcz53_1 : w52.cell? ⟨gb284, 1, none⟩ = some (.int .i64 ((rd_T52 l0 x4_1).f1)) := (qe0 BK284.out 1).trans rfl; have hcz53_2 : w52.cell? ⟨gb284, 2, none⟩ = some (.bool ((rd_T52 l0 x4_1).f2)) := (qe0 BK284.out 2).trans rfl; have hcz53_3 : w52.cell? ⟨gb284, 3, none⟩ = some (.slice A283_3 ((rd_T52 l0 x4_1).f3).length c283_3) := (qe0 BK284.out 3).trans rfl; have hcz53_4 : w52.cell? ⟨gb284, 4, none⟩ = some (.slice (some ad290) ((rd_T52 l0 x4_1).f4).length c283_4) := (qe0 BK284.out 4).trans rfl; have hfz53_0 := qb0 BK284.out 0; have hfz53_1 := qb0 BK284.out 1; have hfz53_2 := qb0 BK284.out 2; have hfz53_3 := qb0 BK284.out 3; have hfz53_4 := qb0 BK284.out 4; have p292 : 0 ≤ (x8_5 : Int) := of_decide_eq_true (by first | (with_reducible assumption) | assumption); have q292 : x8_5 < (((rd_T52 l0 x4_1).f4).length : Int) := of_decide_eq_true (by first | (with_reducible assumption) | assumption); obtain ⟨ad292, e292, hx292_0, hx292_1, hx292_2, hx292_3, hx292_4, hx292_5⟩ := at_T54 HR283_4.out x8_5 p292 q292; obtain rfl : ad290 = ad292 := (by injection e292); replace hx292_0 := (HB.out.cell (World.block_lt_of_cell? w _ hx292_0)).trans hx292_0; replace hx292_1 := (HB.out.cell (World.block_lt_of_cell? w _ hx292_1)).trans hx292_1; replace hx292_2 := (HB.out.cell (World.block_lt_of_cell? w _ hx292_2)).trans hx292_2; replace hx292_3 := (HB.out.cell (World.block_lt_of_cell? w _ hx292_3)).trans hx292_3; replace hx292_4 := (HB.out.cell (World.block_lt_of_cell? w _ hx292_4)).trans hx292_4; replace hx292_5 := (HB.out.cell (World.block_lt_of_cell? w _ hx292_5)).trans hx292_5; replace p292 := eq_true p292; replace q292 := eq_true q292; have p293 : 0 ≤ (x8_5 : Int) := of_decide_eq_true (by first | (with_reducible assumption) | assumption); have q293 : x8_5 < (((rd_T52 l0 x4_1).f4).length : Int) := of_decide_eq_true (by first | (with_reducible assumption) | assumption); obtain ⟨ad293, e293, hx293_0, hx293_1, hx293_2, hx293_3, hx293_4, hx293_5⟩ := at_T54 HR283_4.out x8_5 p293 q293; obtain rfl : ad290 = ad293 := (by injection e293); replace hx293_0 := (HB.out.cell (World.block_lt_of_cell? w _ hx293_0)).trans hx293_0; replace hx293_1 := (HB.out.cell (World.block_lt_of_cell? w _ hx293_1)).trans hx293_1; replace hx293_2 := (HB.out.cell (World.block_lt_of_cell? w _ hx293_2)).trans hx293_2; replace hx293_3 := (HB.out.cell (World.block_lt_of_cell? w _ hx293_3)).trans hx293_3; replace hx293_4 := (HB.out.cell (World.block_lt_of_cell? w _ hx293_4)).trans hx293_4; replace hx293_5 := (HB.out.cell (World.block_lt_of_cell? w _ hx293_5)).trans hx293_5; replace p293 := eq_true p293; replace q293 := eq_true q293)); try go_wp2_with (first | (go_at_call 85; (with_reducible refine (spec_l17Part.calls ((rd_T54 ((rd_T52 l0 x4_1).f4) x8_5).f0) ((rd_T54 ((rd_T52 l0 x4_1).f4) x8_5).f1) ((rd_T54 ((rd_T52 l0 x4_1).f4) x8_5).f2) ((rd_T54 ((rd_T52 l0 x4_1).f4) x8_5).f3) ((rd_T54 ((rd_T52 l0 x4_1).f4) x8_5).f4) ((rd_T54 ((rd_T52 l0 x4_1).f4) x8_5).f5) x4_1 (l0.length : Int) true _ A44.out).mono ?_); rintro e w52 ⟨rfl, hb⟩; have n0_ := Aside0.mk (qh1 (g := gb284) (o := .cells #[.string ((rd_T52 l0 x4_1).f0), .int .i64 ((rd_T52 l0 x4_1).f1), .bool ((rd_T52 l0 x4_1).f2), .slice A283_3 ((rd_T52 l0 x4_1).f3).length c283_3, .slice (some ad290) ((rd_T52 l0 x4_1).f4).length c283_4] 52 (0, 0)) (by (with_reducible repeat (first | refine qg0 ?_ _ | refine qh0 ?_ | refine qf0 ?_ _)); exact BK284.out) hb); have n1_ := Aside0.mk (qk0 (by repeat (first | (with_reducible first | exact HB.out | apply qc0 | apply qa0 | apply qd0 | refine qi0 ?_ GE284.out) | exact HB.out)) hb); clear BK284; clear HB; have BK284 := n0_; have HB := n1_; clear n0_ n1_; (try clear hb); (try clear hb2); (try clear hk); (try clear hi); have hcz53_0 : w52.cell? ⟨gb284, 0, none⟩ = some (.string ((rd_T52 l0 x4_1).f0)) := (qe0 BK284.out 0).trans rfl; have hcz53_1 : w52.cell? ⟨gb284, 1, none⟩ = some (.int .i64 ((rd_T52 l0 x4_1).f1)) := (qe0 BK284.out 1).trans rfl; have hcz53_2 : w52.cell? ⟨gb284, 2, none⟩ = some (.bool ((rd_T52 l0 x4_1).f2)) := (qe0 BK284.out 2).trans rfl; have hcz53_3 : w52.cell? ⟨gb284, 3, none⟩ = some (.slice A283_3 ((rd_T52 l0 x4_1).f3).length c283_3) := (qe0 BK284.out 3).trans rfl; have hcz53_4 : w52.cell? ⟨gb284, 4, none⟩ = some (.slice (some ad290) ((rd_T52 l0 x4_1).f4).length c283_4) := (qe0 BK284.out 4).trans rfl; have hfz53_0 := qb0 BK284.out 0; have hfz53_1 := qb0 BK284.out 1; have hfz53_2 := qb0 BK284.out 2; have hfz53_3 := qb0 BK284.out 3; have hfz53_4 := qb0 BK284.out 4; have p292 : 0 ≤ (x8_5 : Int) := of_decide_eq_true (by first | (with_reducible assumption) | assumption); have q292 : x8_5 < (((rd_T52 l0 x4_1).f4).length : Int) := of_decide_eq_true (by first | (with_reducible assumption) | assumption); obtain ⟨ad292, e292, hx292_0, hx292_1, hx292_2, hx292_3, hx292_4, hx292_5⟩ := at_T54 HR283_4.out x8_5 p292 q292; obtain rfl : ad290 = ad292 := (by injection e292); replace hx292_0 := (HB.out.cell (World.block_lt_of_cell? w _ hx292_0)).trans hx292_0; replace hx292_1 := (HB.out.cell (World.block_lt_of_cell? w _ hx292_1)).trans hx292_1; replace hx292_2 := (HB.out.cell (World.block_lt_of_cell? w _ hx292_2)).trans hx292_2; replace hx292_3 := (HB.out.cell (World.block_lt_of_cell? w _ hx292_3)).trans hx292_3; replace hx292_4 := (HB.out.cell (World.block_lt_of_cell? w _ hx292_4)).trans hx292_4; replace hx292_5 := (HB.out.cell (World.block_lt_of_cell? w _ hx292_5)).trans hx292_5; replace p292 := eq_true p292; replace q292 := eq_true q292; have p293 : 0 ≤ (x8_5 : Int) := of_decide_eq_true (by first | (with_reducible assumption) | assumption); have q293 : x8_5 < (((rd_T52 l0 x4_1).f4).length : Int) := of_decide_eq_true (by first | (with_reducible assumption) | assumption); obtain ⟨ad293, e293, hx293_0, hx293_1, hx293_2, hx293_3, hx293_4, hx293_5⟩ := at_T54 HR283_4.out x8_5 p293 q293; obtain rfl : ad290 = ad293 := (by injection e293); replace hx293_0 := (HB.out.cell (World.block_lt_of_cell? w _ hx293_0)).trans hx293_0; replace hx293_1 := (HB.out.cell (World.block_lt_of_cell? w _ hx293_1)).trans hx293_1; replace hx293_2 := (HB.out.cell (World.block_lt_of_cell? w _ hx293_2)).trans hx293_2; replace hx293_3 := (HB.out.cell (World.block_lt_of_cell? w _ hx293_3)).trans hx293_3; replace hx293_4 := (HB.out.cell (World.block_lt_of_cell? w _ hx293_4)).trans hx293_4; replace hx293_5 := (HB.out.cell (World.block_lt_of_cell? w _ hx293_5)).trans hx293_5; replace p293 := eq_true p293; replace q293 := eq_true q293)))
                go_ret
                exact ⟨by first | rfl | (simp [errW_none, errW_some] <;> rfl) | (simp [*, errW_none, errW_some] <;> rfl), by repeat (first | (with_reducible first | exact HB.out | apply qc0 | apply qa0 | apply qd0 | refine qi0 ?_ GE284.out) | exact HB.out)⟩
               rw [if_neg c46] at H
               have c46b0 : (((rd_T54 ((rd_T52 l0 x4_1).f4) x8_5).f2) == 0) = false := beq_eq_false_iff_ne.mpr c46
               have c46b1 : (((rd_T54 ((rd_T52 l0 x4_1).f4) x8_5).f2) != 0) = true := bne_iff_ne.mpr c46
               obtain rfl := Option.some.inj H
               have hcz54_0 : wr.cell? ⟨gb284, 0, none⟩ = some (.string ((rd_T52 l0 x4_1).f0)) := (qe0 BK284.out 0).trans rfl
               have hcz54_1 : wr.cell? ⟨gb284, 1, none⟩ = some (.int .i64 ((rd_T52 l0 x4_1).f1)) := (qe0 BK284.out 1).trans rfl
               have hcz54_2 : wr.cell? ⟨gb284, 2, none⟩ = some (.bool ((rd_T52 l0 x4_1).f2)) := (qe0 BK284.out 2).trans rfl
               have hcz54_3 : wr.cell? ⟨gb284, 3, none⟩ = some (.slice A283_3 ((rd_T52 l0 x4_1).f3).length c283_3) := (qe0 BK284.out 3).trans rfl
               have hcz54_4 : wr.cell? ⟨gb284, 4, none⟩ = some (.slice A283_4 ((rd_T52 l0 x4_1).f4).length c283_4) := (qe0 BK284.out 4).trans rfl
               have hfz54_0 := qb0 BK284.out 0
               have hfz54_1 := qb0 BK284.out 1
               have hfz54_2 := qb0 BK284.out 2
               have hfz54_3 := qb0 BK284.out 3
               have hfz54_4 := qb0 BK284.out 4
               have p290 : 0 ≤ (x8_5 : Int) := of_decide_eq_true (by first | (with_reducible assumption) | assumption)
               have q290 : x8_5 < (((rd_T52 l0 x4_1).f4).length : Int) := of_decide_eq_true (by first | (with_reducible assumption) | assumption)
               obtain ⟨ad290, e290, hx290_0, hx290_1, hx290_2, hx290_3, hx290_4, hx290_5⟩ := at_T54 HR283_4.out x8_5 p290 q290
               cases e290
               replace hx290_0 := (HB.out.cell (World.block_lt_of_cell? w _ hx290_0)).trans hx290_0
               replace hx290_1 := (HB.out.cell (World.block_lt_of_cell? w _ hx290_1)).trans hx290_1
               replace hx290_2 := (HB.out.cell (World.block_lt_of_cell? w _ hx290_2)).trans hx290_2
               replace hx290_3 := (HB.out.cell (World.block_lt_of_cell? w _ hx290_3)).trans hx290_3
               replace hx290_4 := (HB.out.cell (World.block_lt_of_cell? w _ hx290_4)).trans hx290_4
               replace hx290_5 := (HB.out.cell (World.block_lt_of_cell? w _ hx290_5)).trans hx290_5
               replace p290 := eq_true p290
               replace q290 := eq_true q290
               go_wp2_with (first | (go_at_call 85; (with_reducible refine (spec_l17Part.calls ((rd_T54 ((rd_T52 l0 x4_1).f4) x8_5).f0) ((rd_T54 ((rd_T52 l0 x4_1).f4) x8_5).f1) ((rd_T54 ((rd_T52 l0 x4_1).f4) x8_5).f2) ((rd_T54 ((rd_T52 l0 x4_1).f4) x8_5).f3) ((rd_T54 ((rd_T52 l0 x4_1).f4) x8_5).f4) ((rd_T54 ((rd_T52 l0 x4_1).f4) x8_5).f5) x4_1 (l0.length : Int) true _ A44.out).mono ?_); rintro e w55 ⟨rfl, hb⟩; have n0_ := Aside0.mk (qh1 (g := gb284) (o := .cells #[.string ((rd_T52 l0 x4_1).f0), .int .i64 ((rd_T52 l0 x4_1).f1), .bool ((rd_T52 l0 x4_1).f2), .slice A283_3 ((rd_T52 l0 x4_1).f3).length c283_3, .slice (some ad290) ((rd_T52 l0 x4_1).f4).length c283_4] 52 (0, 0)) (by (with_reducible repeat (first | refine qg0 ?_ _ | refine qh0 ?_ | refine qf0 ?_ _)); exact BK284.out) hb); have n1_ := Aside0.mk (qk0 (by repeat (first | (with_reducible first | exact HB.out | apply qc0 | apply qa0 | apply qd0 | refine qi0 ?_ GE284.out) | exact HB.out)) hb); clear BK284; clear HB; have BK284 := n0_; have HB := n1_; clear n0_ n1_; (try clear hb); (try clear hb2); (try clear hk); (try clear hi); have hcz56_0 : w55.cell? ⟨gb284, 0, none⟩ = some (.string ((rd_T52 l0 x4_1).f0)) := (qe0 BK284.out 0).trans rfl; have hcz56_1 : w55.cell? ⟨gb284, 1, none⟩ = some (.int .i64 ((rd_T52 l0 x4_1).f1)) := (qe0 BK284.out 1).trans rfl; have hcz56_2 : w55.cell? ⟨gb284, 2, none⟩ = some (.bool ((rd_T52 l0 x4_1).f2)) := (qe0 BK284.out 2).trans rfl; have hcz56_3 : w55.cell? ⟨gb284, 3, none⟩ = some (.slice A283_3 ((rd_T52 l0 x4_1).f3).length c283_3) := (qe0 BK284.out 3).trans rfl; have hcz56_4 : w55.cell? ⟨gb284, 4, none⟩ = some (.slice (some ad290) ((rd_T52 l0 x4_1).f4).length c283_4) := (qe0 BK284.out 4).trans rfl; have hfz56_0 := qb0 BK284.out 0; have hfz56_1 := qb0 BK284.out 1; have hfz56_2 := qb0 BK284.out 2; have hfz56_3 := qb0 BK284.out 3; have hfz56_4 := qb0 BK284.out 4; have p292 : 0 ≤ (x8_5 : Int) := of_decide_eq_true (by first | (with_reducible assumption) | assumption); have q292 : x8_5 < (((rd_T52 l0 x4_1).f4).length : Int) := of_decide_eq_true (by first | (with_reducible assumption) | assumption); obtain ⟨ad292, e292, hx292_0, hx292_1, hx292_2, hx292_3, hx292_4, hx292_5⟩ := at_T54 HR283_4.out x8_5 p292 q292; obtain rfl : ad290 = ad292 := (by injection e292); replace hx292_0 := (HB.out.cell (World.block_lt_of_cell? w _ hx292_0)).trans hx292_0; replace hx292_1 := (HB.out.cell (World.block_lt_of_cell? w _ hx292_1)).trans hx292_1; replace hx292_2 := (HB.out.cell (World.block_lt_of_cell? w _ hx292_2)).trans hx292_2; replace hx292_3 := (HB.out.cell (World.block_lt_of_cell? w _ hx292_3)).trans hx292_3; replace hx292_4 := (HB.out.cell (World.block_lt_of_cell? w _ hx292_4)).trans hx292_4; replace hx292_5 := (HB.out.cell (World.block_lt_of_cell? w _ hx292_5)).trans hx292_5; replace p292 := eq_true p292; replace q292 := eq_true q292))
               repeat (go_quiet (first | (go_at_call 85; (with_reducible refine (spec_l17Part.calls ((rd_T54 ((rd_T52 l0 x4_1).f4) x8_5).f0) ((rd_T54 ((rd_T52 l0 x4_1).f4) x8_5).f1) ((rd_T54 ((rd_T52 l0 x4_1).f4) x8_5).f2) ((rd_T54 ((rd_T52 l0 x4_1).f4) x8_5).f3) ((rd_T54 ((rd_T52 l0 x4_1).f4) x8_5).f4) ((rd_T54 ((rd_T52 l0 x4_1).f4) x8_5).f5) x4_1 (l0.length : Int) true _ A44.out).mono ?_); rintro e w55 ⟨rfl, hb⟩; have n0_ := Aside0.mk (qh1 (g := gb284) (o := .cells #[.string ((rd_T52 l0 x4_1).f0), .int .i64 ((rd_T52 l0 x4_1).f1), .bool ((rd_T52 l0 x4_1).f2), .slice A283_3 ((rd_T52 l0 x4_1).f3).length c283_3, .slice (some ad290) ((rd_T52 l0 x4_1).f4).length c283_4] 52 (0, 0)) (by (with_reducible repeat (first | refine qg0 ?_ _ | refine qh0 ?_ | refine qf0 ?_ _)); exact BK284.out) hb); have n1_ := Aside0.mk (qk0 (by repeat (first | (with_reducible first | exact HB.out | apply qc0 | apply qa0 | apply qd0 | refine qi0 ?_ GE284.out) | exact HB.out)) hb); clear BK284; clear HB; have BK284 := n0_; have HB := n1_; clear n0_ n1_; (try clear hb); (try clear hb2); (try clear hk); (try clear hi); have hcz56_0 : w55.cell? ⟨gb284, 0, none⟩ = some (.string ((rd_T52 l0 x4_1).f0)) := (qe0 BK284.out 0).trans rfl; have hcz56_1 : w55.cell? ⟨gb284, 1, none⟩ = some (.int .i64 ((rd_T52 l0 x4_1).f1)) := (qe0 BK284.out 1).trans rfl; have hcz56_2 : w55.cell? ⟨gb284, 2, none⟩ = some (.bool ((rd_T52 l0 x4_1).f2)) := (qe0 BK284.out 2).trans rfl; have hcz56_3 : w55.cell? ⟨gb284, 3, none⟩ = some (.slice A283_3 ((rd_T52 l0 x4_1).f3).length c283_3) := (qe0 BK284.out 3).trans rfl; have hcz56_4 : w55.cell? ⟨gb284, 4, none⟩ = some (.slice (some ad290) ((rd_T52 l0 x4_1).f4).length c283_4) := (qe0 BK284.out 4).trans rfl; have hfz56_0 := qb0 BK284.out 0; have hfz56_1 := qb0 BK284.out 1; have hfz56_2 := qb0 BK284.out 2; have hfz56_3 := qb0 BK284.out 3; have hfz56_4 := qb0 BK284.out 4; have p292 : 0 ≤ (x8_5 : Int) := of_decide_eq_true (by first | (with_reducible assumption) | assumption); have q292 : x8_5 < (((rd_T52 l0 x4_1).f4).length : Int) := of_decide_eq_true (by first | (with_reducible assumption) | assumption); obtain ⟨ad292, e292, hx292_0, hx292_1, hx292_2, hx292_3, hx292_4, hx292_5⟩ := at_T54 HR283_4.out x8_5 p292 q292; obtain rfl : ad290 = ad292 := (by injection e292); replace hx292_0 := (HB.out.cell (World.block_lt_of_cell? w _ hx292_0)).trans hx292_0; replace hx292_1 := (HB.out.cell (World.block_lt_of_cell? w _ hx292_1)).trans hx292_1; replace hx292_2 := (HB.out.cell (World.block_lt_of_cell? w _ hx292_2)).trans hx292_2; replace hx292_3 := (HB.out.cell (World.block_lt_of_cell? w _ hx292_3)).trans hx292_3; replace hx292_4 := (HB.out.cell (World.block_lt_of_cell? w _ hx292_4)).trans hx292_4; replace hx292_5 := (HB.out.cell (World.block_lt_of_cell? w _ hx292_5)).trans hx292_5; replace p292 := eq_true p292; replace q292 := eq_true q292)); try go_wp2_with (first | (go_at_call 85; (with_reducible refine (spec_l17Part.calls ((rd_T54 ((rd_T52 l0 x4_1).f4) x8_5).f0) ((rd_T54 ((rd_T52 l0 x4_1).f4) x8_5).f1) ((rd_T54 ((rd_T52 l0 x4_1).f4) x8_5).f2) ((rd_T54 ((rd_T52 l0 x4_1).f4) x8_5).f3) ((rd_T54 ((rd_T52 l0 x4_1).f4) x8_5).f4) ((rd_T54 ((rd_T52 l0 x4_1).f4) x8_5).f5) x4_1 (l0.length : Int) true _ A44.out).mono ?_); rintro e w55 ⟨rfl, hb⟩; have n0_ := Aside0.mk (qh1 (g := gb284) (o := .cells #[.string ((rd_T52 l0 x4_1).f0), .int .i64 ((rd_T52 l0 x4_1).f1), .bool ((rd_T52 l0 x4_1).f2), .slice A283_3 ((rd_T52 l0 x4_1).f3).length c283_3, .slice (some ad290) ((rd_T52 l0 x4_1).f4).length c283_4] 52 (0, 0)) (by (with_reducible repeat (first | refine qg0 ?_ _ | refine qh0 ?_ | refine qf0 ?_ _)); exact BK284.out) hb); have n1_ := Aside0.mk (qk0 (by repeat (first | (with_reducible first | exact HB.out | apply qc0 | apply qa0 | apply qd0 | refine qi0 ?_ GE284.out) | exact HB.out)) hb); clear BK284; clear HB; have BK284 := n0_; have HB := n1_; clear n0_ n1_; (try clear hb); (try clear hb2); (try clear hk); (try clear hi); have hcz56_0 : w55.cell? ⟨gb284, 0, none⟩ = some (.string ((rd_T52 l0 x4_1).f0)) := (qe0 BK284.out 0).trans rfl; have hcz56_1 : w55.cell? ⟨gb284, 1, none⟩ = some (.int .i64 ((rd_T52 l0 x4_1).f1)) := (qe0 BK284.out 1).trans rfl; have hcz56_2 : w55.cell? ⟨gb284, 2, none⟩ = some (.bool ((rd_T52 l0 x4_1).f2)) := (qe0 BK284.out 2).trans rfl; have hcz56_3 : w55.cell? ⟨gb284, 3, none⟩ = some (.slice A283_3 ((rd_T52 l0 x4_1).f3).length c283_3) := (qe0 BK284.out 3).trans rfl; have hcz56_4 : w55.cell? ⟨gb284, 4, none⟩ = some (.slice (some ad290) ((rd_T52 l0 x4_1).f4).length c283_4) := (qe0 BK284.out 4).trans rfl; have hfz56_0 := qb0 BK284.out 0; have hfz56_1 := qb0 BK284.out 1; have hfz56_2 := qb0 BK284.out 2; have hfz56_3 := qb0 BK284.out 3; have hfz56_4 := qb0 BK284.out 4; have p292 : 0 ≤ (x8_5 : Int) := of_decide_eq_true (by first | (with_reducible assumption) | assumption); have q292 : x8_5 < (((rd_T52 l0 x4_1).f4).length : Int) := of_decide_eq_true (by first | (with_reducible assumption) | assumption); obtain ⟨ad292, e292, hx292_0, hx292_1, hx292_2, hx292_3, hx292_4, hx292_5⟩ := at_T54 HR283_4.out x8_5 p292 q292; obtain rfl : ad290 = ad292 := (by injection e292); replace hx292_0 := (HB.out.cell (World.block_lt_of_cell? w _ hx292_0)).trans hx292_0; replace hx292_1 := (HB.out.cell (World.block_lt_of_cell? w _ hx292_1)).trans hx292_1; replace hx292_2 := (HB.out.cell (World.block_lt_of_cell? w _ hx292_2)).trans hx292_2; replace hx292_3 := (HB.out.cell (World.block_lt_of_cell? w _ hx292_3)).trans hx292_3; replace hx292_4 := (HB.out.cell (World.block_lt_of_cell? w _ hx292_4)).trans hx292_4; replace hx292_5 := (HB.out.cell (World.block_lt_of_cell? w _ hx292_5)).trans hx292_5; replace p292 := eq_true p292; replace q292 := eq_true q292)))
               go_ret
               exact ⟨by first | rfl | (simp [errW_none, errW_some] <;> rfl) | (simp [*, errW_none, errW_some] <;> rfl), by repeat (first | (with_reducible first | exact HB.out | apply qc0 | apply qa0 | apply qd0 | refine qi0 ?_ GE284.out) | exact HB.out)⟩
              replace c45 := Bool.eq_false_iff.mpr c45
              subst c45
              have H1 : (some false) = some r := by rw [if_neg (show ¬ (false = true) by decide)] at H; exact H
              clear H
              have H := H1
              clear H1
              obtain rfl := Option.some.inj H
              have hcz57_0 : wr.cell? ⟨gb284, 0, none⟩ = some (.string ((rd_T52 l0 x4_1).f0)) := (qe0 BK284.out 0).trans rfl
              have hcz57_1 : wr.cell? ⟨gb284, 1, none⟩ = some (.int .i64 ((rd_T52 l0 x4_1).f1)) := (qe0 BK284.out 1).trans rfl
              have hcz57_2 : wr.cell? ⟨gb284, 2, none⟩ = some (.bool ((rd_T52 l0 x4_1).f2)) := (qe0 BK284.out 2).trans rfl
              have hcz57_3 : wr.cell? ⟨gb284, 3, none⟩ = some (.slice A283_3 ((rd_T52 l0 x4_1).f3).length c283_3) := (qe0 BK284.out 3).trans rfl
              have hcz57_4 : wr.cell? ⟨gb284, 4, none⟩ = some (.slice A283_4 ((rd_T52 l0 x4_1).f4).length c283_4) := (qe0 BK284.out 4).trans rfl
              have hfz57_0 := qb0 BK284.out 0
              have hfz57_1 := qb0 BK284.out 1
              have hfz57_2 := qb0 BK284.out 2
              have hfz57_3 := qb0 BK284.out 3
              have hfz57_4 := qb0 BK284.out 4
              have p290 : 0 ≤ (x8_5 : Int) := of_decide_eq_true (by first | (with_reducible assumption) | assumption)
              have q290 : x8_5 < (((rd_T52 l0 x4_1).f4).length : Int) := of_decide_eq_true (by first | (with_reducible assumption) | assumption)
              obtain ⟨ad290, e290, hx290_0, hx290_1, hx290_2, hx290_3, hx290_4, hx290_5⟩ := at_T54 HR283_4.out x8_5 p290 q290
              cases e290
              replace hx290_0 := (HB.out.cell (World.block_lt_of_cell? w _ hx290_0)).trans hx290_0
              replace hx290_1 := (HB.out.cell (World.block_lt_of_cell? w _ hx290_1)).trans hx290_1
              replace hx290_2 := (HB.out.cell (World.block_lt_of_cell? w _ hx290_2)).trans hx290_2
              replace hx290_3 := (HB.out.cell (World.block_lt_of_cell? w _ hx290_3)).trans hx290_3
              replace hx290_4 := (HB.out.cell (World.block_lt_of_cell? w _ hx290_4)).trans hx290_4
              replace hx290_5 := (HB.out.cell (World.block_lt_of_cell? w _ hx290_5)).trans hx290_5
              replace p290 := eq_true p290
              replace q290 := eq_true q290
              go_wp2_with (first | (go_at_call 85; (with_reducible refine (spec_l17Part.calls ((rd_T54 ((rd_T52 l0 x4_1).f4) x8_5).f0) ((rd_T54 ((rd_T52 l0 x4_1).f4) x8_5).f1) ((rd_T54 ((rd_T52 l0 x4_1).f4) x8_5).f2) ((rd_T54 ((rd_T52 l0 x4_1).f4) x8_5).f3) ((rd_T54 ((rd_T52 l0 x4_1).f4) x8_5).f4) ((rd_T54 ((rd_T52 l0 x4_1).f4) x8_5).f5) x4_1 (l0.length : Int) false _ A44.out).mono ?_); rintro e w58 ⟨rfl, hb⟩; have n0_ := Aside0.mk (qh1 (g := gb284) (o := .cells #[.string ((rd_T52 l0 x4_1).f0), .int .i64 ((rd_T52 l0 x4_1).f1), .bool ((rd_T52 l0 x4_1).f2), .slice A283_3 ((rd_T52 l0 x4_1).f3).length c283_3, .slice (some ad290) ((rd_T52 l0 x4_1).f4).length c283_4] 52 (0, 0)) (by (with_reducible repeat (first | refine qg0 ?_ _ | refine qh0 ?_ | refine qf0 ?_ _)); exact BK284.out) hb); have n1_ := Aside0.mk (qk0 (by repeat (first | (with_reducible first | exact HB.out | apply qc0 | apply qa0 | apply qd0 | refine qi0 ?_ GE284.out) | exact HB.out)) hb); clear BK284; clear HB; have BK284 := n0_; have HB := n1_; clear n0_ n1_; (try clear hb); (try clear hb2); (try clear hk); (try clear hi)))
              repeat (go_quiet (first | (go_at_call 85; (with_reducible refine (spec_l17Part.calls ((rd_T54 ((rd_T52 l0 x4_1).f4) x8_5).f0) ((rd_T54 ((rd_T52 l0 x4_1).f4) x8_5).f1) ((rd_T54 ((rd_T52 l0 x4_1).f4) x8_5).f2) ((rd_T54 ((rd_T52 l0 x4_1).f4) x8_5).f3) ((rd_T54 ((rd_T52 l0 x4_1).f4) x8_5).f4) ((rd_T54 ((rd_T52 l0 x4_1).f4) x8_5).f5) x4_1 (l0.length : Int) false _ A44.out).mono ?_); rintro e w58 ⟨rfl, hb⟩; have n0_ := Aside0.mk (qh1 (g := gb284) (o := .cells #[.string ((rd_T52 l0 x4_1).f0), .int .i64 ((rd_T52 l0 x4_1).f1), .bool ((rd_T52 l0 x4_1).f2), .slice A283_3 ((rd_T52 l0 x4_1).f3).length c283_3, .slice (some ad290) ((rd_T52 l0 x4_1).f4).length c283_4] 52 (0, 0)) (by (with_reducible repeat (first | refine qg0 ?_ _ | refine qh0 ?_ | refine qf0 ?_ _)); exact BK284.out) hb); have n1_ := Aside0.mk (qk0 (by repeat (first | (with_reducible first | exact HB.out | apply qc0 | apply qa0 | apply qd0 | refine qi0 ?_ GE284.out) | exact HB.out)) hb); clear BK284; clear HB; have BK284 := n0_; have HB := n1_; clear n0_ n1_; (try clear hb); (try clear hb2); (try clear hk); (try clear hi))); try go_wp2_with (first | (go_at_call 85; (with_reducible refine (spec_l17Part.calls ((rd_T54 ((rd_T52 l0 x4_1).f4) x8_5).f0) ((rd_T54 ((rd_T52 l0 x4_1).f4) x8_5).f1) ((rd_T54 ((rd_T52 l0 x4_1).f4) x8_5).f2) ((rd_T54 ((rd_T52 l0 x4_1).f4) x8_5).f3) ((rd_T54 ((rd_T52 l0 x4_1).f4) x8_5).f4) ((rd_T54 ((rd_T52 l0 x4_1).f4) x8_5).f5) x4_1 (l0.length : Int) false _ A44.out).mono ?_); rintro e w58 ⟨rfl, hb⟩; have n0_ := Aside0.mk (qh1 (g := gb284) (o := .cells #[.string ((rd_T52 l0 x4_1).f0), .int .i64 ((rd_T52 l0 x4_1).f1), .bool ((rd_T52 l0 x4_1).f2), .slice A283_3 ((rd_T52 l0 x4_1).f3).length c283_3, .slice (some ad290) ((rd_T52 l0 x4_1).f4).length c283_4] 52 (0, 0)) (by (with_reducible repeat (first | refine qg0 ?_ _ | refine qh0 ?_ | refine qf0 ?_ _)); exact BK284.out) hb); have n1_ := Aside0.mk (qk0 (by repeat (first | (with_reducible first | exact HB.out | apply qc0 | apply qa0 | apply qd0 | refine qi0 ?_ GE284.out) | exact HB.out)) hb); clear BK284; clear HB; have BK284 := n0_; have HB := n1_; clear n0_ n1_; (try clear hb); (try clear hb2); (try clear hk); (try clear hi))))
              go_ret
              exact ⟨by first | rfl | (simp [errW_none, errW_some] <;> rfl) | (simp [*, errW_none, errW_some] <;> rfl), by repeat (first | (with_reducible first | exact HB.out | apply qc0 | apply qa0 | apply qd0 | refine qi0 ?_ GE284.out) | exact HB.out)⟩
             rw [if_neg c42] at H
             have c42b0 : decide (x8_5 < (((rd_T52 l0 x4_1).f4).length : Int)) = false := decide_eq_false c42
             clear c42
             have H' := Aside0.mk H
             clear H
             have hcz59_0 : wr.cell? ⟨gb284, 0, none⟩ = some (.string ((rd_T52 l0 x4_1).f0)) := (qe0 BK284.out 0).trans rfl
             have hcz59_1 : wr.cell? ⟨gb284, 1, none⟩ = some (.int .i64 ((rd_T52 l0 x4_1).f1)) := (qe0 BK284.out 1).trans rfl
             have hcz59_2 : wr.cell? ⟨gb284, 2, none⟩ = some (.bool ((rd_T52 l0 x4_1).f2)) := (qe0 BK284.out 2).trans rfl
             have hcz59_3 : wr.cell? ⟨gb284, 3, none⟩ = some (.slice A283_3 ((rd_T52 l0 x4_1).f3).length c283_3) := (qe0 BK284.out 3).trans rfl
             have hcz59_4 : wr.cell? ⟨gb284, 4, none⟩ = some (.slice A283_4 ((rd_T52 l0 x4_1).f4).length c283_4) := (qe0 BK284.out 4).trans rfl
             have hfz59_0 := qb0 BK284.out 0
             have hfz59_1 := qb0 BK284.out 1
             have hfz59_2 := qb0 BK284.out 2
             have hfz59_3 := qb0 BK284.out 3
             have hfz59_4 := qb0 BK284.out 4
             go_wp2
             repeat (go_quiet (fail); try go_wp2)
             go_roundg k5
             case measure => have := HK1.out; have := HJ6.out; have := HK3.out; have := HK4.out; have := HK5.out; omega
             case rel => exact ⟨(wrap64 (x4_1 + 1)), (by first | rfl | (simp; done) | (simp [*]; done)), H', ⟨by have := HK1.out; have := HJ6.out; have := HK3.out; have := HK4.out; have := HK5.out; omega⟩, ⟨by repeat (first | (with_reducible first | exact HB.out | apply qc0 | apply qa0 | apply qd0 | refine qi0 ?_ GE284.out) | exact HB.out)⟩⟩
    rw [if_neg c4] at H
    have c4b0 : decide (x4_1 < (l0.length : Int)) = false := decide_eq_false c4
    clear c4
    replace H := Option.bind_eq_some_iff.mp H
    obtain ⟨t294, A600, H⟩ := H
    replace H : (spec_ItemsOk.l4 k1 (l0.length : Int) t294 0) = some r := H
    have A60 := Aside0.mk A600
    clear A600
    have H' := Aside0.mk H
    clear H
    go_wp2_with (first | (go_at_call 86; (with_reducible refine (spec_l17Levels.calls k1 _ _ l0 t294 _ ?side1 ?side2 A60.out).mono ?_); (case side1 => repeat (first | exact (Kd.C_below HR0.out HB.out) | (with_reducible refine Kd.qj1 ?_ _) | (with_reducible refine Kd.qi1 ?_ _) | (with_reducible refine Kd.qn1 ?_))); (case side2 => exact HC0.out); rintro e w61 ⟨v295, rfl, ho0, hb⟩; have n0_ := Aside0.mk (Kd.qw1 ho0 (qm0 (by repeat (first | (with_reducible first | exact HB.out | apply qc0 | apply qa0 | apply qd0) | exact HB.out)))); have n1_ := Aside0.mk (qk0 (by repeat (first | (with_reducible first | exact HB.out | apply qc0 | apply qa0 | apply qd0) | exact HB.out)) hb); clear HB; have HO296 := n0_; have HB := n1_; clear n0_ n1_; (try clear hb); (try clear hb2); (try clear hk); (try clear hi); (try clear ho0)))
    repeat (go_quiet (first | (go_at_call 86; (with_reducible refine (spec_l17Levels.calls k1 _ _ l0 t294 _ ?side1 ?side2 A60.out).mono ?_); (case side1 => repeat (first | exact (Kd.C_below HR0.out HB.out) | (with_reducible refine Kd.qj1 ?_ _) | (with_reducible refine Kd.qi1 ?_ _) | (with_reducible refine Kd.qn1 ?_))); (case side2 => exact HC0.out); rintro e w61 ⟨v295, rfl, ho0, hb⟩; have n0_ := Aside0.mk (Kd.qw1 ho0 (qm0 (by repeat (first | (with_reducible first | exact HB.out | apply qc0 | apply qa0 | apply qd0) | exact HB.out)))); have n1_ := Aside0.mk (qk0 (by repeat (first | (with_reducible first | exact HB.out | apply qc0 | apply qa0 | apply qd0) | exact HB.out)) hb); clear HB; have HO296 := n0_; have HB := n1_; clear n0_ n1_; (try clear hb); (try clear hb2); (try clear hk); (try clear hi); (try clear ho0))); try go_wp2_with (first | (go_at_call 86; (with_reducible refine (spec_l17Levels.calls k1 _ _ l0 t294 _ ?side1 ?side2 A60.out).mono ?_); (case side1 => repeat (first | exact (Kd.C_below HR0.out HB.out) | (with_reducible refine Kd.qj1 ?_ _) | (with_reducible refine Kd.qi1 ?_ _) | (with_reducible refine Kd.qn1 ?_))); (case side2 => exact HC0.out); rintro e w61 ⟨v295, rfl, ho0, hb⟩; have n0_ := Aside0.mk (Kd.qw1 ho0 (qm0 (by repeat (first | (with_reducible first | exact HB.out | apply qc0 | apply qa0 | apply qd0) | exact HB.out)))); have n1_ := Aside0.mk (qk0 (by repeat (first | (with_reducible first | exact HB.out | apply qc0 | apply qa0 | apply qd0) | exact HB.out)) hb); clear HB; have HO296 := n0_; have HB := n1_; clear n0_ n1_; (try clear hb); (try clear hb2); (try clear hk); (try clear hi); (try clear ho0))))
    go_loopg [10] k1 (fun kq v10 w' => ∃ (x10_2 : Int), v10 = .int .i64 x10_2 ∧ Aside0 (spec_ItemsOk.l4 kq (l0.length : Int) t294 x10_2 = some r) ∧ Aside0 (kq ≤ k1) ∧ Aside0 (Kd.R (Kd.int .i64) 3 w' w.heap.size (fun _ => True) v295 t294) ∧ Aside0 (Below w.heap.size w w'))
    case atStart => exact ⟨(0), (by first | rfl | (simp; done) | (simp [*]; done)), H', ⟨Nat.le_refl _⟩, ⟨by (with_reducible repeat (first | apply Kd.qo0 | apply Kd.qn0 | apply Kd.qt0)); exact HO296.out⟩, ⟨by repeat (first | (with_reducible first | exact HB.out | apply qc0 | apply qa0 | apply qd0) | exact HB.out)⟩⟩
    case round =>
     clear H'
     try clear c1
     try clear q1
     try clear c2
     try clear p2
     try clear q2
     try clear hx2
     try clear c3
     try clear c4
     try clear c4b0
     try clear c5
     try clear c5b0
     try clear c6
     try clear c6b0
     try clear p6
     try clear c11
     try clear c13
     try clear c14
     try clear c14b0
     try clear c14b1
     try clear c16
     try clear c16b0
     try clear c16b1
     try clear q18
     try clear c19
     try clear c20
     try clear c20b0
     try clear c20b1
     try clear c20b2
     try clear c26
     try clear c27
     try clear c27b0
     try clear c28
     try clear c28b0
     try clear p28
     try clear q28
     try clear hx28
     try clear c29
     try clear c29b0
     try clear p29
     try clear q29
     try clear hx29
     try clear c30
     try clear c30b0
     try clear c30b1
     try clear c33
     try clear c33b0
     try clear c34
     try clear c34b0
     try clear c36
     try clear c42
     try clear c42b0
     try clear c43
     try clear c43b0
     try clear c45
     try clear c46
     try clear c46b0
     try clear c46b1
     try clear c47
     try clear c47b0
     try clear c47b1
     try clear hcz15_0
     try clear hcz15_1
     try clear hcz15_2
     try clear hcz15_3
     try clear hcz15_4
     try clear hcz17_0
     try clear hcz17_1
     try clear hcz17_2
     try clear hcz17_3
     try clear hcz17_4
     try clear hcz21_0
     try clear hcz21_1
     try clear hcz21_2
     try clear hcz21_3
     try clear hcz21_4
     try clear hcz22_0
     try clear hcz22_1
     try clear hcz22_2
     try clear hcz22_3
     try clear hcz22_4
     try clear hcz23_0
     try clear hcz23_1
     try clear hcz23_2
     try clear hcz23_3
     try clear hcz23_4
     try clear hcz24_0
     try clear hcz24_1
     try clear hcz24_2
     try clear hcz24_3
     try clear hcz24_4
     try clear hcz25_0
     try clear hcz25_1
     try clear hcz25_2
     try clear hcz25_3
     try clear hcz25_4
     try clear hcz31_0
     try clear hcz31_1
     try clear hcz31_2
     try clear hcz31_3
     try clear hcz31_4
     try clear hcz32_0
     try clear hcz32_1
     try clear hcz32_2
     try clear hcz32_3
     try clear hcz32_4
     try clear hcz37_0
     try clear hcz37_1
     try clear hcz37_2
     try clear hcz37_3
     try clear hcz37_4
     try clear hcz39_0
     try clear hcz39_1
     try clear hcz39_2
     try clear hcz39_3
     try clear hcz39_4
     try clear hcz41_0
     try clear hcz41_1
     try clear hcz41_2
     try clear hcz41_3
     try clear hcz41_4
     try clear hcz48_0
     try clear hcz48_1
     try clear hcz48_2
     try clear hcz48_3
     try clear hcz48_4
     try clear hcz50_0
     try clear hcz50_1
     try clear hcz50_2
     try clear hcz50_3
     try clear hcz50_4
     try clear hcz51_0
     try clear hcz51_1
     try clear hcz51_2
     try clear hcz51_3
     try clear hcz51_4
     try clear hcz53_0
     try clear hcz53_1
     try clear hcz53_2
     try clear hcz53_3
     try clear hcz53_4
     try clear hcz54_0
     try clear hcz54_1
     try clear hcz54_2
     try clear hcz54_3
     try clear hcz54_4
     try clear hcz56_0
     try clear hcz56_1
     try clear hcz56_2
     try clear hcz56_3
     try clear hcz56_4
     try clear hcz57_0
     try clear hcz57_1
     try clear hcz57_2
     try clear hcz57_3
     try clear hcz57_4
     try clear hcz59_0
     try clear hcz59_1
     try clear hcz59_2
     try clear hcz59_3
     try clear hcz59_4
     try clear hcz9_0
     try clear hcz9_1
     try clear hcz9_2
     try clear hcz9_3
     try clear hcz9_4
     try clear hfz15_0
     try clear hfz15_1
     try clear hfz15_2
     try clear hfz15_3
     try clear hfz15_4
     try clear hfz17_0
     try clear hfz17_1
     try clear hfz17_2
     try clear hfz17_3
     try clear hfz17_4
     try clear hfz21_0
     try clear hfz21_1
     try clear hfz21_2
     try clear hfz21_3
     try clear hfz21_4
     try clear hfz22_0
     try clear hfz22_1
     try clear hfz22_2
     try clear hfz22_3
     try clear hfz22_4
     try clear hfz23_0
     try clear hfz23_1
     try clear hfz23_2
     try clear hfz23_3
     try clear hfz23_4
     try clear hfz24_0
     try clear hfz24_1
     try clear hfz24_2
     try clear hfz24_3
     try clear hfz24_4
     try clear hfz25_0
     try clear hfz25_1
     try clear hfz25_2
     try clear hfz25_3
     try clear hfz25_4
     try clear hfz31_0
     try clear hfz31_1
     try clear hfz31_2
     try clear hfz31_3
     try clear hfz31_4
     try clear hfz32_0
     try clear hfz32_1
     try clear hfz32_2
     try clear hfz32_3
     try clear hfz32_4
     try clear hfz37_0
     try clear hfz37_1
     try clear hfz37_2
     try clear hfz37_3
     try clear hfz37_4
     try clear hfz39_0
     try clear hfz39_1
     try clear hfz39_2
     try clear hfz39_3
     try clear hfz39_4
     try clear hfz41_0
     try clear hfz41_1
     try clear hfz41_2
     try clear hfz41_3
     try clear hfz41_4
     try clear hfz48_0
     try clear hfz48_1
     try clear hfz48_2
     try clear hfz48_3
     try clear hfz48_4
     try clear hfz50_0
     try clear hfz50_1
     try clear hfz50_2
     try clear hfz50_3
     try clear hfz50_4
     try clear hfz51_0
     try clear hfz51_1
     try clear hfz51_2
     try clear hfz51_3
     try clear hfz51_4
     try clear hfz53_0
     try clear hfz53_1
     try clear hfz53_2
     try clear hfz53_3
     try clear hfz53_4
     try clear hfz54_0
     try clear hfz54_1
     try clear hfz54_2
     try clear hfz54_3
     try clear hfz54_4
     try clear hfz56_0
     try clear hfz56_1
     try clear hfz56_2
     try clear hfz56_3
     try clear hfz56_4
     try clear hfz57_0
     try clear hfz57_1
     try clear hfz57_2
     try clear hfz57_3
     try clear hfz57_4
     try clear hfz59_0
     try clear hfz59_1
     try clear hfz59_2
     try clear hfz59_3
     try clear hfz59_4
     try clear hfz9_0
     try clear hfz9_1
     try clear hfz9_2
     try clear hfz9_3
     try clear hfz9_4
     try clear hx283_0
     try clear hx283_1
     try clear hx283_2
     try clear hx283_3
     try clear hx283_4
     try clear hx287_0
     try clear hx287_1
     try clear hx287_2
     try clear hx287_3
     try clear hx287_4
     try clear hx288_0
     try clear hx288_1
     try clear hx288_2
     try clear hx288_3
     try clear hx288_4
     try clear hx288_5
     try clear hx290_0
     try clear hx290_1
     try clear hx290_2
     try clear hx290_3
     try clear hx290_4
     try clear hx290_5
     try clear hx292_0
     try clear hx292_1
     try clear hx292_2
     try clear hx292_3
     try clear hx292_4
     try clear hx292_5
     try clear hx293_0
     try clear hx293_1
     try clear hx293_2
     try clear hx293_3
     try clear hx293_4
     try clear hx293_5
     try clear p2
     try clear p28
     try clear p283
     try clear p287
     try clear p288
     try clear p290
     try clear p292
     try clear p293
     try clear p6
     try clear q1
     try clear q18
     try clear q2
     try clear q28
     try clear q283
     try clear q287
     try clear q288
     try clear q290
     try clear q292
     try clear q293
     obtain ⟨x10_2, rfl, HA, HK2, HO_9, HB⟩ := hrel
     cases gk with
     | zero => exact absurd HA.out (by simp [spec_ItemsOk.l4])
     | succ k2 =>
      have H := HA.out
      clear HA
      simp only [spec_ItemsOk.l4] at H
      by_cases c62 : x10_2 < (l0.length : Int)
      ·rw [if_pos c62] at H
       have c62b0 : decide (x10_2 < (l0.length : Int)) = true := decide_eq_true c62
       clear c62
       by_cases c63 : 0 ≤ x10_2
       case neg => rw [if_neg c63] at H; exact absurd H (by simp)
       rw [if_pos c63] at H
       have c63b0 : decide (0 ≤ x10_2) = true := decide_eq_true c63
       clear c63
       by_cases c64 : x10_2 < (t294.length : Int)
       case neg => rw [if_neg c64] at H; exact absurd H (by simp)
       rw [if_pos c64] at H
       have c64b0 : decide (x10_2 < (t294.length : Int)) = true := decide_eq_true c64
       clear c64
       by_cases c65 : (rd t294 x10_2) > 20
       ·rw [if_pos c65] at H
        have c65b0 : decide (20 < (rd t294 x10_2)) = true := decide_eq_true c65
        clear c65
        obtain rfl := Option.some.inj H
        obtain ⟨Ao66, co66, eo66⟩ := Kd.qm1 HO_9.out
        subst eo66
        have p297 : 0 ≤ (x10_2 : Int) := of_decide_eq_true (by first | (with_reducible assumption) | assumption)
        have q297 : x10_2 < (t294.length : Int) := of_decide_eq_true (by first | (with_reducible assumption) | assumption)
        obtain ⟨ad297, e297, hx297_0⟩ := Kd.qq1 (Kd.qv0 HO_9.out).2.2 x10_2 p297 q297
        cases e297
        replace p297 := eq_true p297
        replace q297 := eq_true q297
        go_wp2
        repeat (go_quiet (fail); try go_wp2)
        go_ret
        exact ⟨by first | rfl | (simp [errW_none, errW_some] <;> rfl) | (simp [*, errW_none, errW_some] <;> rfl), by repeat (first | (with_reducible first | exact HB.out | apply qc0 | apply qa0 | apply qd0) | exact HB.out)⟩
       rw [if_neg c65] at H
       have c65b0 : decide (20 < (rd t294 x10_2)) = false := decide_eq_false c65
       clear c65
       have H' := Aside0.mk H
       clear H
       obtain ⟨Ao67, co67, eo67⟩ := Kd.qm1 HO_9.out
       subst eo67
       have p297 : 0 ≤ (x10_2 : Int) := of_decide_eq_true (by first | (with_reducible assumption) | assumption)
       have q297 : x10_2 < (t294.length : Int) := of_decide_eq_true (by first | (with_reducible assumption) | assumption)
       obtain ⟨ad297, e297, hx297_0⟩ := Kd.qq1 (Kd.qv0 HO_9.out).2.2 x10_2 p297 q297
       cases e297
       replace p297 := eq_true p297
       replace q297 := eq_true q297
       go_wp2
       repeat (go_quiet (fail); try go_wp2)
       go_roundg k2
       case measure => have := HK1.out; have := HK2.out; omega
       case rel => exact ⟨(wrap64 (x10_2 + 1)), (by first | rfl | (simp; done) | (simp [*]; done)), H', ⟨by have := HK1.out; have := HK2.out; omega⟩, ⟨by (with_reducible repeat (first | apply Kd.qo0 | apply Kd.qn0 | apply Kd.qt0)); exact HO_9.out⟩, ⟨by repeat (first | (with_reducible first | exact HB.out | apply qc0 | apply qa0 | apply qd0) | exact HB.out)⟩⟩
      rw [if_neg c62] at H
      have c62b0 : decide (x10_2 < (l0.length : Int)) = false := decide_eq_false c62
      clear c62
      obtain rfl := Option.some.inj H
      go_wp2
      repeat (go_quiet (fail); try go_wp2)
      go_ret
      exact ⟨by first | rfl | (simp [errW_none, errW_some] <;> rfl) | (simp [*, errW_none, errW_some] <;> rfl), by repeat (first | (with_reducible first | exact HB.out | apply qc0 | apply qa0 | apply qd0) | exact HB.out)⟩
 replace c3 := Bool.eq_false_iff.mpr c3
 subst c3
 have H1 : (some false) = some r := by rw [if_neg (show ¬ (false = true) by decide)] at H; exact H
 clear H
 have H := H1
 clear H1
 obtain rfl := Option.some.inj H
 go_enter Try.func27, Try.ntmps27
 go_wp2_with (first | (go_at_call 79; (with_reducible refine (spec_l1In.calls (l0.length : Int) 1 60 false _ A2.out).mono ?_); rintro e w' ⟨rfl, ⟨nd, rfl⟩⟩; (try first | exact ⟨rfl, _, World.drewN_drewN _ _ _⟩ | exact ⟨rfl, _, Eq.trans (World.drewN_drewN _ _ _) (congrArg (World.drewN _) (Nat.add_assoc _ _ _))⟩)))
 repeat (go_quiet (first | (go_at_call 79; (with_reducible refine (spec_l1In.calls (l0.length : Int) 1 60 false _ A2.out).mono ?_); rintro e w' ⟨rfl, ⟨nd, rfl⟩⟩; (try first | exact ⟨rfl, _, World.drewN_drewN _ _ _⟩ | exact ⟨rfl, _, Eq.trans (World.drewN_drewN _ _ _) (congrArg (World.drewN _) (Nat.add_assoc _ _ _))⟩))); try go_wp2_with (first | (go_at_call 79; (with_reducible refine (spec_l1In.calls (l0.length : Int) 1 60 false _ A2.out).mono ?_); rintro e w' ⟨rfl, ⟨nd, rfl⟩⟩; (try first | exact ⟨rfl, _, World.drewN_drewN _ _ _⟩ | exact ⟨rfl, _, Eq.trans (World.drewN_drewN _ _ _) (congrArg (World.drewN _) (Nat.add_assoc _ _ _))⟩))))
 go_ret
 exact ⟨by first | rfl | (simp [errW_none, errW_some] <;> rfl) | (simp [*, errW_none, errW_some] <;> rfl), by repeat (first | (with_reducible first | exact HB.out | apply qc0 | apply qa0 | apply qd0) | exact HB.out)⟩

end Go.Proofs.Ytkkdmmefnicmaaa.PFnLevelled
