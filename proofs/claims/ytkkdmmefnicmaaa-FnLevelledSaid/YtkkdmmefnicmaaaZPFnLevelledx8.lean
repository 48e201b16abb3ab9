/- Lines by a program (a changed copy of the kit's print: this repo's wip/tools): Go functions as Lean functions, and proofs that the calls answer so. -/
import Derived.Test.YtkkdmmefnicmaaaZPFnLevelledx0
import Derived.Test.YtkkdmmefnicmaaaZPFnLevelledx5
import Derived.Test.YtkkdmmefnicmaaaZPFnLevelledx6
import Derived.Test.YtkkdmmefnicmaaaZPFnLevelledx7
namespace Go.Proofs.Ytkkdmmefnicmaaa.PFnLevelled
open Go.RowKit Go.Proofs.YtkkdmmefnicmaaaW.PrintWords Go.Proofs.YtkkdmmefnicmaaaW.PrintLast Go.Proofs.YtkkdmmefnicmaaaW.PrintMore
attribute [local go_sem] max2_int min2_int max_two min_two max_three min_three max_four min_four   -- for this text's walks alone
set_option linter.unusedVariables false
set_option linter.unusedSimpArgs false

/-! ### impl_ItemsOk: function 83 -/
mutual
def impl_ItemsOk.j0 : Nat → List (S52) → Bool → Option (Bool)
 | 0, _, _ => none
 | k + 1, x0, x19 => if x19 = true then (some false) else (impl_ItemsOk.l0 k x0 (([] : List (ByteArray × Bool))) x0 (x0.length : Int) 0)
def impl_ItemsOk.l0 : Nat → List (S52) → List (ByteArray × Bool) → List (S52) → Int → Int → Option (Bool)
 | 0, _, _, _, _, _ => none
 | k + 1, x0, x3, x21, x22, x23 => if x23 < x22 then (if 0 ≤ x23 then (if x23 < (x21.length : Int) then ((impl_NameOk.f k ((rd_T52 x21 x23).f0)).bind fun t246 => (if t246 = true then (if ((rd_T52 x21 x23).f0).size ≤ 9223372036854775807 then (if (mget x3 ((rd_T52 x21 x23).f0)).getD false = true then (impl_ItemsOk.j2 k x0 x3 x23 x21 x22 x23 true ((rd_T52 x21 x23).f0) ((rd_T52 x21 x23).f1) ((rd_T52 x21 x23).f2) ((rd_T52 x21 x23).f3) ((rd_T52 x21 x23).f4)) else ((impl_between.f ((rd_T52 x21 x23).f1) 1 1000000).bind fun t247 => (if t247 = true then (if (((rd_T52 x21 x23).f3).length : Int) > 30 then (impl_ItemsOk.j2 k x0 x3 x23 x21 x22 x23 true ((rd_T52 x21 x23).f0) ((rd_T52 x21 x23).f1) ((rd_T52 x21 x23).f2) ((rd_T52 x21 x23).f3) ((rd_T52 x21 x23).f4)) else (if (((rd_T52 x21 x23).f4).length : Int) > 30 then (impl_ItemsOk.j2 k x0 x3 x23 x21 x22 x23 true ((rd_T52 x21 x23).f0) ((rd_T52 x21 x23).f1) ((rd_T52 x21 x23).f2) ((rd_T52 x21 x23).f3) ((rd_T52 x21 x23).f4)) else (if (rd_T52 x21 x23).f2 = true then (if (((rd_T52 x21 x23).f3).length : Int) = 0 then (impl_ItemsOk.j2 k x0 x3 x23 x21 x22 x23 true ((rd_T52 x21 x23).f0) ((rd_T52 x21 x23).f1) ((rd_T52 x21 x23).f2) ((rd_T52 x21 x23).f3) ((rd_T52 x21 x23).f4)) else (impl_ItemsOk.j2 k x0 x3 x23 x21 x22 x23 (decide ((((rd_T52 x21 x23).f4).length : Int) > 0)) ((rd_T52 x21 x23).f0) ((rd_T52 x21 x23).f1) ((rd_T52 x21 x23).f2) ((rd_T52 x21 x23).f3) ((rd_T52 x21 x23).f4))) else (impl_ItemsOk.j2 k x0 x3 x23 x21 x22 x23 false ((rd_T52 x21 x23).f0) ((rd_T52 x21 x23).f1) ((rd_T52 x21 x23).f2) ((rd_T52 x21 x23).f3) ((rd_T52 x21 x23).f4))))) else (impl_ItemsOk.j2 k x0 x3 x23 x21 x22 x23 true ((rd_T52 x21 x23).f0) ((rd_T52 x21 x23).f1) ((rd_T52 x21 x23).f2) ((rd_T52 x21 x23).f3) ((rd_T52 x21 x23).f4))))) else (none)) else (impl_ItemsOk.j2 k x0 x3 x23 x21 x22 x23 true ((rd_T52 x21 x23).f0) ((rd_T52 x21 x23).f1) ((rd_T52 x21 x23).f2) ((rd_T52 x21 x23).f3) ((rd_T52 x21 x23).f4)))) else (none)) else (none)) else ((impl_levels.f k x0).bind fun t255 => (impl_ItemsOk.l3 k t255 (t255.length : Int) 0))
def impl_ItemsOk.j2 : Nat → List (S52) → List (ByteArray × Bool) → Int → List (S52) → Int → Int → Bool → ByteArray → Int → Bool → List (S54) → List (S54) → Option (Bool)
 | 0, _, _, _, _, _, _, _, _, _, _, _, _ => none
 | k + 1, x0, x3, x4, x21, x22, x23, x71, x246000, x246001, x246002, x246003, x246004 => if x71 = true then (some false) else (if x246000.size ≤ 9223372036854775807 then (impl_ItemsOk.l1 k x0 (mset x3 x246000 true) x4 x21 x22 x23 x246003 (x246003.length : Int) 0 x246000 x246001 x246002 x246003 x246004) else (none))
def impl_ItemsOk.l1 : Nat → List (S52) → List (ByteArray × Bool) → Int → List (S52) → Int → Int → List (S54) → Int → Int → ByteArray → Int → Bool → List (S54) → List (S54) → Option (Bool)
 | 0, _, _, _, _, _, _, _, _, _, _, _, _, _, _ => none
 | k + 1, x0, x3, x4, x21, x22, x23, x76, x77, x78, x246000, x246001, x246002, x246003, x246004 => if x78 < x77 then (if 0 ≤ x78 then (if x78 < (x76.length : Int) then ((impl_partOk.f ((rd_T54 x76 x78).f0) ((rd_T54 x76 x78).f1) ((rd_T54 x76 x78).f2) ((rd_T54 x76 x78).f3) ((rd_T54 x76 x78).f4) ((rd_T54 x76 x78).f5) x4 (x0.length : Int) false).bind fun t251 => (if t251 = true then (impl_ItemsOk.l1 k x0 x3 x4 x21 x22 x23 x76 x77 (wrap64 (x78 + 1)) x246000 x246001 x246002 x246003 x246004) else (some false))) else (none)) else (none)) else (impl_ItemsOk.l2 k x0 x3 x4 x21 x22 x23 x246004 (x246004.length : Int) 0)
def impl_ItemsOk.l2 : Nat → List (S52) → List (ByteArray × Bool) → Int → List (S52) → Int → Int → List (S54) → Int → Int → Option (Bool)
 | 0, _, _, _, _, _, _, _, _, _ => none
 | k + 1, x0, x3, x4, x21, x22, x23, x90, x91, x92 => if x92 < x91 then (if 0 ≤ x92 then (if x92 < (x90.length : Int) then ((impl_partOk.f ((rd_T54 x90 x92).f0) ((rd_T54 x90 x92).f1) ((rd_T54 x90 x92).f2) ((rd_T54 x90 x92).f3) ((rd_T54 x90 x92).f4) ((rd_T54 x90 x92).f5) x4 (x0.length : Int) true).bind fun t254 => (if t254 = true then (impl_ItemsOk.l2 k x0 x3 x4 x21 x22 x23 x90 x91 (wrap64 (x92 + 1))) else (some false))) else (none)) else (none)) else (impl_ItemsOk.l0 k x0 x3 x21 x22 (wrap64 (x23 + 1)))
def impl_ItemsOk.l3 : Nat → List Int → Int → Int → Option (Bool)
 | 0, _, _, _ => none
 | k + 1, x105, x106, x107 => if x107 < x106 then (if 0 ≤ x107 then (if x107 < (x105.length : Int) then (if (rd x105 x107) > 20 then (some false) else (impl_ItemsOk.l3 k x105 x106 (wrap64 (x107 + 1)))) else (none)) else (none)) else (some true)
end
def impl_ItemsOk.f (k : Nat) (l0 : List (S52)) : Option (Bool) := if (l0.length : Int) < 1 then (impl_ItemsOk.j0 k l0 true) else (impl_ItemsOk.j0 k l0 (decide ((l0.length : Int) > 60)))
theorem impl_ItemsOk.mono_l : ∀ k, (∀ y0 y1, LeO (impl_ItemsOk.j0 k y0 y1) (impl_ItemsOk.j0 (k + 1) y0 y1)) ∧ (∀ y0 y1 y2 y3 y4, LeO (impl_ItemsOk.l0 k y0 y1 y2 y3 y4) (impl_ItemsOk.l0 (k + 1) y0 y1 y2 y3 y4)) ∧ (∀ y0 y1 y2 y3 y4 y5 y6 y7 y8 y9 y10 y11, LeO (impl_ItemsOk.j2 k y0 y1 y2 y3 y4 y5 y6 y7 y8 y9 y10 y11) (impl_ItemsOk.j2 (k + 1) y0 y1 y2 y3 y4 y5 y6 y7 y8 y9 y10 y11)) ∧ (∀ y0 y1 y2 y3 y4 y5 y6 y7 y8 y9 y10 y11 y12 y13, LeO (impl_ItemsOk.l1 k y0 y1 y2 y3 y4 y5 y6 y7 y8 y9 y10 y11 y12 y13) (impl_ItemsOk.l1 (k + 1) y0 y1 y2 y3 y4 y5 y6 y7 y8 y9 y10 y11 y12 y13)) ∧ (∀ y0 y1 y2 y3 y4 y5 y6 y7 y8, LeO (impl_ItemsOk.l2 k y0 y1 y2 y3 y4 y5 y6 y7 y8) (impl_ItemsOk.l2 (k + 1) y0 y1 y2 y3 y4 y5 y6 y7 y8)) ∧ (∀ y0 y1 y2, LeO (impl_ItemsOk.l3 k y0 y1 y2) (impl_ItemsOk.l3 (k + 1) y0 y1 y2))
 | 0 => ⟨fun _ _ r h => by simp [impl_ItemsOk.j0] at h, fun _ _ _ _ _ r h => by simp [impl_ItemsOk.l0] at h, fun _ _ _ _ _ _ _ _ _ _ _ _ r h => by simp [impl_ItemsOk.j2] at h, fun _ _ _ _ _ _ _ _ _ _ _ _ _ _ r h => by simp [impl_ItemsOk.l1] at h, fun _ _ _ _ _ _ _ _ _ r h => by simp [impl_ItemsOk.l2] at h, fun _ _ _ r h => by simp [impl_ItemsOk.l3] at h⟩
 | k + 1 => by
  obtain ⟨ih0, ih1, ih2, ih3, ih4, ih5⟩ := impl_ItemsOk.mono_l k
  refine ⟨?_, ?_, ?_, ?_, ?_, ?_⟩
  ·intro y0 y1
   unfold impl_ItemsOk.j0
   repeat' first
   | (with_reducible exact ih0 _ _)
   | (with_reducible exact ih1 _ _ _ _ _)
   | (with_reducible exact ih2 _ _ _ _ _ _ _ _ _ _ _ _)
   | (with_reducible exact ih3 _ _ _ _ _ _ _ _ _ _ _ _ _ _)
   | (with_reducible exact ih4 _ _ _ _ _ _ _ _ _)
   | (with_reducible exact ih5 _ _ _)
   | (with_reducible exact impl_NameOk.mono _ _)
   | (with_reducible exact impl_levels.mono _ _)
   | (with_reducible exact LeO.refl _)
   | (with_reducible exact LeO.none _)
   | (with_reducible refine LeO.ite ?_ ?_)
   | (with_reducible refine LeO.bind ?_ (fun _ => ?_))
   | exact ih0 _ _
   | exact ih1 _ _ _ _ _
   | exact ih2 _ _ _ _ _ _ _ _ _ _ _ _
   | exact ih3 _ _ _ _ _ _ _ _ _ _ _ _ _ _
   | exact ih4 _ _ _ _ _ _ _ _ _
   | exact ih5 _ _ _
   | exact impl_NameOk.mono _ _
   | exact impl_levels.mono _ _
   | exact LeO.none _
   | refine LeO.ite ?_ ?_
   | refine LeO.bind ?_ (fun _ => ?_)
  ·intro y0 y1 y2 y3 y4
   unfold impl_ItemsOk.l0
   repeat' first
   | (with_reducible exact ih0 _ _)
   | (with_reducible exact ih1 _ _ _ _ _)
   | (with_reducible exact ih2 _ _ _ _ _ _ _ _ _ _ _ _)
   | (with_reducible exact ih3 _ _ _ _ _ _ _ _ _ _ _ _ _ _)
   | (with_reducible exact ih4 _ _ _ _ _ _ _ _ _)
   | (with_reducible exact ih5 _ _ _)
   | (with_reducible exact impl_NameOk.mono _ _)
   | (with_reducible exact impl_levels.mono _ _)
   | (with_reducible exact LeO.refl _)
   | (with_reducible exact LeO.none _)
   | (with_reducible refine LeO.ite ?_ ?_)
   | (with_reducible refine LeO.bind ?_ (fun _ => ?_))
   | exact ih0 _ _
   | exact ih1 _ _ _ _ _
   | exact ih2 _ _ _ _ _ _ _ _ _ _ _ _
   | exact ih3 _ _ _ _ _ _ _ _ _ _ _ _ _ _
   | exact ih4 _ _ _ _ _ _ _ _ _
   | exact ih5 _ _ _
   | exact impl_NameOk.mono _ _
   | exact impl_levels.mono _ _
   | exact LeO.none _
   | refine LeO.ite ?_ ?_
   | refine LeO.bind ?_ (fun _ => ?_)
  ·intro y0 y1 y2 y3 y4 y5 y6 y7 y8 y9 y10 y11
   unfold impl_ItemsOk.j2
   repeat' first
   | (with_reducible exact ih0 _ _)
   | (with_reducible exact ih1 _ _ _ _ _)
   | (with_reducible exact ih2 _ _ _ _ _ _ _ _ _ _ _ _)
   | (with_reducible exact ih3 _ _ _ _ _ _ _ _ _ _ _ _ _ _)
   | (with_reducible exact ih4 _ _ _ _ _ _ _ _ _)
   | (with_reducible exact ih5 _ _ _)
   | (with_reducible exact impl_NameOk.mono _ _)
   | (with_reducible exact impl_levels.mono _ _)
   | (with_reducible exact LeO.refl _)
   | (with_reducible exact LeO.none _)
   | (with_reducible refine LeO.ite ?_ ?_)
   | (with_reducible refine LeO.bind ?_ (fun _ => ?_))
   | exact ih0 _ _
   | exact ih1 _ _ _ _ _
   | exact ih2 _ _ _ _ _ _ _ _ _ _ _ _
   | exact ih3 _ _ _ _ _ _ _ _ _ _ _ _ _ _
   | exact ih4 _ _ _ _ _ _ _ _ _
   | exact ih5 _ _ _
   | exact impl_NameOk.mono _ _
   | exact impl_levels.mono _ _
   | exact LeO.none _
   | refine LeO.ite ?_ ?_
   | refine LeO.bind ?_ (fun _ => ?_)
  ·intro y0 y1 y2 y3 y4 y5 y6 y7 y8 y9 y10 y11 y12 y13
   unfold impl_ItemsOk.l1
   repeat' first
   | (with_reducible exact ih0 _ _)
   | (with_reducible exact ih1 _ _ _ _ _)
   | (with_reducible exact ih2 _ _ _ _ _ _ _ _ _ _ _ _)
   | (with_reducible exact ih3 _ _ _ _ _ _ _ _ _ _ _ _ _ _)
   | (with_reducible exact ih4 _ _ _ _ _ _ _ _ _)
   | (with_reducible exact ih5 _ _ _)
   | (with_reducible exact impl_NameOk.mono _ _)
   | (with_reducible exact impl_levels.mono _ _)
   | (with_reducible exact LeO.refl _)
   | (with_reducible exact LeO.none _)
   | (with_reducible refine LeO.ite ?_ ?_)
   | (with_reducible refine LeO.bind ?_ (fun _ => ?_))
   | exact ih0 _ _
   | exact ih1 _ _ _ _ _
   | exact ih2 _ _ _ _ _ _ _ _ _ _ _ _
   | exact ih3 _ _ _ _ _ _ _ _ _ _ _ _ _ _
   | exact ih4 _ _ _ _ _ _ _ _ _
   | exact ih5 _ _ _
   | exact impl_NameOk.mono _ _
   | exact impl_levels.mono _ _
   | exact LeO.none _
   | refine LeO.ite ?_ ?_
   | refine LeO.bind ?_ (fun _ => ?_)
  ·intro y0 y1 y2 y3 y4 y5 y6 y7 y8
   unfold impl_ItemsOk.l2
   repeat' first
   | (with_reducible exact ih0 _ _)
   | (with_reducible exact ih1 _ _ _ _ _)
   | (with_reducible exact ih2 _ _ _ _ _ _ _ _ _ _ _ _)
   | (with_reducible exact ih3 _ _ _ _ _ _ _ _ _ _ _ _ _ _)
   | (with_reducible exact ih4 _ _ _ _ _ _ _ _ _)
   | (with_reducible exact ih5 _ _ _)
   | (with_reducible exact impl_NameOk.mono _ _)
   | (with_reducible exact impl_levels.mono _ _)
   | (with_reducible exact LeO.refl _)
   | (with_reducible exact LeO.none _)
   | (with_reducible refine LeO.ite ?_ ?_)
   | (with_reducible refine LeO.bind ?_ (fun _ => ?_))
   | exact ih0 _ _
   | exact ih1 _ _ _ _ _
   | exact ih2 _ _ _ _ _ _ _ _ _ _ _ _
   | exact ih3 _ _ _ _ _ _ _ _ _ _ _ _ _ _
   | exact ih4 _ _ _ _ _ _ _ _ _
   | exact ih5 _ _ _
   | exact impl_NameOk.mono _ _
   | exact impl_levels.mono _ _
   | exact LeO.none _
   | refine LeO.ite ?_ ?_
   | refine LeO.bind ?_ (fun _ => ?_)
  ·intro y0 y1 y2
   unfold impl_ItemsOk.l3
   repeat' first
   | (with_reducible exact ih0 _ _)
   | (with_reducible exact ih1 _ _ _ _ _)
   | (with_reducible exact ih2 _ _ _ _ _ _ _ _ _ _ _ _)
   | (with_reducible exact ih3 _ _ _ _ _ _ _ _ _ _ _ _ _ _)
   | (with_reducible exact ih4 _ _ _ _ _ _ _ _ _)
   | (with_reducible exact ih5 _ _ _)
   | (with_reducible exact impl_NameOk.mono _ _)
   | (with_reducible exact impl_levels.mono _ _)
   | (with_reducible exact LeO.refl _)
   | (with_reducible exact LeO.none _)
   | (with_reducible refine LeO.ite ?_ ?_)
   | (with_reducible refine LeO.bind ?_ (fun _ => ?_))
   | exact ih0 _ _
   | exact ih1 _ _ _ _ _
   | exact ih2 _ _ _ _ _ _ _ _ _ _ _ _
   | exact ih3 _ _ _ _ _ _ _ _ _ _ _ _ _ _
   | exact ih4 _ _ _ _ _ _ _ _ _
   | exact ih5 _ _ _
   | exact impl_NameOk.mono _ _
   | exact impl_levels.mono _ _
   | exact LeO.none _
   | refine LeO.ite ?_ ?_
   | refine LeO.bind ?_ (fun _ => ?_)
theorem impl_ItemsOk.mono : ∀ a0 k, LeO (impl_ItemsOk.f k a0) (impl_ItemsOk.f (k + 1) a0) := by
 intro a0 k
 obtain ⟨ih0, ih1, ih2, ih3, ih4, ih5⟩ := impl_ItemsOk.mono_l k
 unfold impl_ItemsOk.f
 repeat' first
   | (with_reducible exact ih0 _ _)
   | (with_reducible exact ih1 _ _ _ _ _)
   | (with_reducible exact ih2 _ _ _ _ _ _ _ _ _ _ _ _)
   | (with_reducible exact ih3 _ _ _ _ _ _ _ _ _ _ _ _ _ _)
   | (with_reducible exact ih4 _ _ _ _ _ _ _ _ _)
   | (with_reducible exact ih5 _ _ _)
   | (with_reducible exact impl_NameOk.mono _ _)
   | (with_reducible exact impl_levels.mono _ _)
   | (with_reducible exact LeO.refl _)
   | (with_reducible exact LeO.none _)
   | (with_reducible refine LeO.ite ?_ ?_)
   | (with_reducible refine LeO.bind ?_ (fun _ => ?_))
   | exact ih0 _ _
   | exact ih1 _ _ _ _ _
   | exact ih2 _ _ _ _ _ _ _ _ _ _ _ _
   | exact ih3 _ _ _ _ _ _ _ _ _ _ _ _ _ _
   | exact ih4 _ _ _ _ _ _ _ _ _
   | exact ih5 _ _ _
   | exact impl_NameOk.mono _ _
   | exact impl_levels.mono _ _
   | exact LeO.none _
   | refine LeO.ite ?_ ?_
   | refine LeO.bind ?_ (fun _ => ?_)
set_option maxHeartbeats 8000000 in
set_option maxRecDepth 100000 in
theorem impl_ItemsOk.calls (k : Nat) (A0 : Option Addr) (c0 : Nat) (l0 : List (S52)) (r : Bool) (w : World) (hr0 : Kd.C k52 w A0 l0.length l0) (hc0 : l0.length ≤ c0) (h : impl_ItemsOk.f k l0 = some r) :
  Calls Try.prog 83 #[.slice A0 l0.length c0] w fun e w' => e = .returned (.bool r) ∧ Below w.heap.size w w' := by
 have hu52 := Try.underlying52
 have hu54 := Try.underlying54
 have HR0 := Aside0.mk hr0
 have HC0 := Aside0.mk hc0
 clear hr0 hc0
 have HB := Aside0.mk (Below.refl w.heap.size w)
 have H : (if (l0.length : Int) < 1 then (impl_ItemsOk.j0 k l0 true) else (impl_ItemsOk.j0 k l0 (decide ((l0.length : Int) > 60)))) = some r := h
 clear h
 have HC2 := Aside0.mk H
 clear H
 go_enter Try.func83, Try.ntmps83
 go_upto_region 1 with (fail)
 go_cut [19] (fun v19 wc => ∃ (kq : Nat) (x19_1 : Bool), v19 = .bool x19_1 ∧ Aside0 (impl_ItemsOk.j0 kq l0 x19_1 = some r) ∧ Aside0 (kq ≤ k) ∧ Aside0 (Below w.heap.size w wc))
 case first =>
  have H := HC2.out
  clear HC2
  by_cases c3 : (l0.length : Int) < 1
  ·rw [if_pos c3] at H
   have c3b0 : decide ((l0.length : Int) < 1) = true := decide_eq_true c3
   have c3b1 : decide (l0.length < 1) = true := decide_eq_true (by omega)
   clear c3
   (first | rw [c3b0] | (simp only [i64_w, i32_w]; rw [c3b0]) | skip)
   have H' := Aside0.mk H
   clear H
   go_wp2
   go_meet
   case rel => exact ⟨_, (true), (by first | rfl | (simp; done) | (simp [*]; done)), H', ⟨by first | omega | exact Nat.le_refl _⟩, ⟨by repeat (first | (with_reducible first | exact HB.out | apply qc0 | apply qa0 | apply qd0) | exact HB.out)⟩⟩
  rw [if_neg c3] at H
  have c3b0 : decide ((l0.length : Int) < 1) = false := decide_eq_false c3
  have c3b1 : decide (l0.length < 1) = false := decide_eq_false (by omega)
  clear c3
  (first | rw [c3b0] | (simp only [i64_w, i32_w]; rw [c3b0]) | skip)
  have H' := Aside0.mk H
  clear H
  go_wp2
  go_meet
  case rel => exact ⟨_, (decide ((l0.length : Int) > 60)), (by first | rfl | (simp; done) | (simp [*]; done)), H', ⟨by first | omega | exact Nat.le_refl _⟩, ⟨by repeat (first | (with_reducible first | exact HB.out | apply qc0 | apply qa0 | apply qd0) | exact HB.out)⟩⟩
 case rest =>
  clear HC2
  try clear p2
  try clear c3
  try clear c3b0
  try clear c3b1
  obtain ⟨kq, x19_1, rfl, HA, HJ1, HB⟩ := hcut
  cases kq with
  | zero => exact absurd HA.out (by simp [impl_ItemsOk.j0])
  | succ kj1 =>
   have H := HA.out
   clear HA
   simp only [impl_ItemsOk.j0] at H
   by_cases c4 : x19_1 = true
   ·subst c4
    have H1 : (some false) = some r := by rw [if_pos rfl] at H; exact H
    clear H
    have H := H1
    clear H1
    obtain rfl := Option.some.inj H
    go_wp2
    go_ret
    exact ⟨by first | rfl | (simp [errW_none, errW_some] <;> rfl) | (simp [*, errW_none, errW_some] <;> rfl), by repeat (first | (with_reducible first | exact HB.out | apply qc0 | apply qa0 | apply qd0) | exact HB.out)⟩
   replace c4 := Bool.eq_false_iff.mpr c4
   subst c4
   have H1 : (impl_ItemsOk.l0 kj1 l0 (([] : List (ByteArray × Bool))) l0 (l0.length : Int) 0) = some r := by rw [if_neg (show ¬ (false = true) by decide)] at H; exact H
   clear H
   have H := H1
   clear H1
   obtain ⟨y240, hy240⟩ : ∃ y_ : List (ByteArray × Bool), y_ = (([] : List (ByteArray × Bool))) := ⟨_, rfl⟩
   replace H : (impl_ItemsOk.l0 kj1 l0 y240 l0 (l0.length : Int) 0) = some r := by first | (rw [hy240]; with_reducible exact H) | (have H2_ := (Option.bind_some _ _).symm.trans H; rw [hy240]; with_reducible exact H2_) | (have H2_ := (Option.bind_some _ _).symm.trans H; with_reducible exact H2_) | with_reducible exact H | (rw [hy240]; exact H) | exact H
   have Ny240 := Aside0.mk hy240
   clear hy240
   have H' := Aside0.mk H
   clear H
   go_wp2_with (first | ((with_reducible refine qz0 (N := 20) rfl ?_); (try (refine gate_guard (by rfl) ?_; dsimp only)); refine Kd.Z_make_op kz115 115 (ok := fun _ => True) rfl (N := 20) rfl rfl trivial ?_; intro mb243 hq_ w5 ho6 hb; rw [← Ny240.out] at ho6; have n0_ := Aside0.mk (qk0 (by repeat (first | (with_reducible first | exact HB.out | apply qc0 | apply qa0 | apply qd0) | exact HB.out)) hb); have n1_ := Aside0.mk (Kd.Z_lower ho6 (qm0 (by repeat (first | (with_reducible first | exact HB.out | apply qc0 | apply qa0 | apply qd0) | exact HB.out)))); clear HB; have HB := n0_; have HO242 := n1_; clear n0_ n1_; clear hb ho6 hq_))
   go_loopg [23] kj1 (fun kq v23 w' => ∃ (x3_2 : List (ByteArray × Bool)) (x23_2 : Int), v23 = .int .i64 x23_2 ∧ Aside0 (impl_ItemsOk.l0 kq l0 x3_2 l0 (l0.length : Int) x23_2 = some r) ∧ Aside0 (kq ≤ kj1) ∧ Aside0 (Kd.Z kz115 115 w' w.heap.size (fun _ => True) (.map (some mb243)) x3_2) ∧ Aside0 (Below w.heap.size w w'))
   case atStart => exact ⟨(y240), (0), (by first | rfl | (simp; done) | (simp [*]; done)), H', ⟨Nat.le_refl _⟩, ⟨by (with_reducible repeat (first | apply Kd.Z_alloc | apply Kd.Z_drewN | apply Kd.Z_drew)); exact HO242.out⟩, ⟨by repeat (first | (with_reducible first | exact HB.out | apply qc0 | apply qa0 | apply qd0) | exact HB.out)⟩⟩
   case round =>
    clear H'
    try clear p2
    try clear c3
    try clear c3b0
    try clear c3b1
    try clear c4
    try clear p2
    obtain ⟨x3_2, x23_2, rfl, HA, HK2, HO_3, HB⟩ := hrel
    cases gk with
    | zero => exact absurd HA.out (by simp [impl_ItemsOk.l0])
    | succ k2 =>
     have H := HA.out
     clear HA
     simp only [impl_ItemsOk.l0] at H
     by_cases c7 : x23_2 < (l0.length : Int)
     ·rw [if_pos c7] at H
      have c7b0 : decide (x23_2 < (l0.length : Int)) = true := decide_eq_true c7
      clear c7
      by_cases c8 : 0 ≤ x23_2
      case neg => rw [if_neg c8] at H; exact absurd H (by simp)
      rw [if_pos c8] at H
      have c8b0 : decide (0 ≤ x23_2) = true := decide_eq_true c8
      clear c8
      by_cases c9 : x23_2 < (l0.length : Int)
      case neg => rw [if_neg c9] at H; exact absurd H (by simp)
      rw [if_pos c9] at H
      have c9b0 : decide (x23_2 < (l0.length : Int)) = true := decide_eq_true c9
      clear c9
      have HC10 := Aside0.mk H
      clear H
      have p244 : 0 ≤ (x23_2 : Int) := of_decide_eq_true (by first | (with_reducible assumption) | assumption)
      have q244 : x23_2 < (l0.length : Int) := of_decide_eq_true (by first | (with_reducible assumption) | assumption)
      obtain ⟨ad244, A244_3, c244_3, A244_4, c244_4, e244, hx244_0, hx244_1, hx244_2, hx244_3, hx244_4, hl244_3, hi244_3, hl244_4, hi244_4⟩ := at_T52 HR0.out x23_2 p244 q244
      cases e244
      replace hx244_0 := (HB.out.cell (World.block_lt_of_cell? w _ hx244_0)).trans hx244_0
      replace hx244_1 := (HB.out.cell (World.block_lt_of_cell? w _ hx244_1)).trans hx244_1
      replace hx244_2 := (HB.out.cell (World.block_lt_of_cell? w _ hx244_2)).trans hx244_2
      replace hx244_3 := (HB.out.cell (World.block_lt_of_cell? w _ hx244_3)).trans hx244_3
      replace hx244_4 := (HB.out.cell (World.block_lt_of_cell? w _ hx244_4)).trans hx244_4
      have HR244_3 := Aside0.mk hi244_3
      have HC244_3 := Aside0.mk hl244_3
      clear hi244_3 hl244_3
      have HR244_4 := Aside0.mk hi244_4
      have HC244_4 := Aside0.mk hl244_4
      clear hi244_4 hl244_4
      replace p244 := eq_true p244
      replace q244 := eq_true q244
      go_upto_region 7 with (first | ((with_reducible refine qz0 (N := 5) rfl ?_); (try (refine gate_guard (by rfl) ?_; dsimp only)); refine qg1 ?hg (N := 5) ?hd (cs := #[.string (⟨#[]⟩ : ByteArray), .int .i64 0, .bool false, .slice none 0 0, .slice none 0 0]) (t := 52) ?hr ?_; (case hd => rfl); (case hg => rfl); (case hr => first | (go_simp; done) | (go_simp; rfl)); intro gb245 hg w11 hbox hb; have n0_ := Aside0.mk (Kd.Z_below (by (with_reducible repeat (first | apply Kd.Z_alloc | apply Kd.Z_drewN | apply Kd.Z_drew)); exact HO_3.out) hb); have n1_ := Aside0.mk (qk0 (by repeat (first | (with_reducible first | exact HB.out | apply qc0 | apply qa0 | apply qd0) | exact HB.out)) hb); have n2_ := Aside0.mk (hbox); have n3_ := Aside0.mk ((by rw [hg]; exact (qm0 (by repeat (first | (with_reducible first | exact HB.out | apply qc0 | apply qa0 | apply qd0) | exact HB.out))) : w.heap.size ≤ gb245)); have n4_ := Aside0.mk ((by rw [hg]; exact (qm0 (by repeat (first | (with_reducible first | exact HB.out | apply qc0 | apply qa0 | apply qd0) | exact HB.out))) : w.heap.size ≤ gb245)); clear HO_3; clear HB; have HO_3 := n0_; have HB := n1_; have BK245 := n2_; have GW245 := n3_; have GE245 := n4_; clear n0_ n1_ n2_ n3_ n4_; clear hb hbox hg; have hcz12_0 : w11.cell? ⟨gb245, 0, none⟩ = some (.string (⟨#[]⟩ : ByteArray)) := (qe0 BK245.out 0).trans rfl; have hcz12_1 : w11.cell? ⟨gb245, 1, none⟩ = some (.int .i64 0) := (qe0 BK245.out 1).trans rfl; have hcz12_2 : w11.cell? ⟨gb245, 2, none⟩ = some (.bool false) := (qe0 BK245.out 2).trans rfl; have hcz12_3 : w11.cell? ⟨gb245, 3, none⟩ = some (.slice none 0 0) := (qe0 BK245.out 3).trans rfl; have hcz12_4 : w11.cell? ⟨gb245, 4, none⟩ = some (.slice none 0 0) := (qe0 BK245.out 4).trans rfl; have hfz12_0 := qb0 BK245.out 0; have hfz12_1 := qb0 BK245.out 1; have hfz12_2 := qb0 BK245.out 2; have hfz12_3 := qb0 BK245.out 3; have hfz12_4 := qb0 BK245.out 4))
      (try simp only [Act.put, List.setIfInBounds_toArray, List.set_cons_zero, List.set_cons_succ])
      go_cut [71] (fun v71 wc => ∃ (kq : Nat) (x71_9 : Bool), v71 = .bool x71_9 ∧ Aside0 (impl_ItemsOk.j2 kq l0 x3_2 x23_2 l0 (l0.length : Int) x23_2 x71_9 ((rd_T52 l0 x23_2).f0) ((rd_T52 l0 x23_2).f1) ((rd_T52 l0 x23_2).f2) ((rd_T52 l0 x23_2).f3) ((rd_T52 l0 x23_2).f4) = some r) ∧ Aside0 (kq ≤ k2) ∧ Aside0 (Kd.Z kz115 115 wc w.heap.size (fun _ => True) (.map (some mb243)) x3_2) ∧ Aside0 (wc.heap[gb245]? = some (.cells #[.string ((rd_T52 l0 x23_2).f0), .int .i64 ((rd_T52 l0 x23_2).f1), .bool ((rd_T52 l0 x23_2).f2), (.slice A244_3 ((rd_T52 l0 x23_2).f3).length c244_3), (.slice A244_4 ((rd_T52 l0 x23_2).f4).length c244_4)] 52 (0, 0))) ∧ Aside0 (Below w.heap.size w wc))
      case first =>
       have H := HC10.out
       clear HC10
       replace H := Option.bind_eq_some_iff.mp H
       obtain ⟨t246, A130, H⟩ := H
       replace H : (if t246 = true then (if ((rd_T52 l0 x23_2).f0).size ≤ 9223372036854775807 then (if (mget x3_2 ((rd_T52 l0 x23_2).f0)).getD false = true then (impl_ItemsOk.j2 k2 l0 x3_2 x23_2 l0 (l0.length : Int) x23_2 true ((rd_T52 l0 x23_2).f0) ((rd_T52 l0 x23_2).f1) ((rd_T52 l0 x23_2).f2) ((rd_T52 l0 x23_2).f3) ((rd_T52 l0 x23_2).f4)) else ((impl_between.f ((rd_T52 l0 x23_2).f1) 1 1000000).bind fun t247 => (if t247 = true then (if (((rd_T52 l0 x23_2).f3).length : Int) > 30 then (impl_ItemsOk.j2 k2 l0 x3_2 x23_2 l0 (l0.length : Int) x23_2 true ((rd_T52 l0 x23_2).f0) ((rd_T52 l0 x23_2).f1) ((rd_T52 l0 x23_2).f2) ((rd_T52 l0 x23_2).f3) ((rd_T52 l0 x23_2).f4)) else (if (((rd_T52 l0 x23_2).f4).length : Int) > 30 then (impl_ItemsOk.j2 k2 l0 x3_2 x23_2 l0 (l0.length : Int) x23_2 true ((rd_T52 l0 x23_2).f0) ((rd_T52 l0 x23_2).f1) ((rd_T52 l0 x23_2).f2) ((rd_T52 l0 x23_2).f3) ((rd_T52 l0 x23_2).f4)) else (if (rd_T52 l0 x23_2).f2 = true then (if (((rd_T52 l0 x23_2).f3).length : Int) = 0 then (impl_ItemsOk.j2 k2 l0 x3_2 x23_2 l0 (l0.length : Int) x23_2 true ((rd_T52 l0 x23_2).f0) ((rd_T52 l0 x23_2).f1) ((rd_T52 l0 x23_2).f2) ((rd_T52 l0 x23_2).f3) ((rd_T52 l0 x23_2).f4)) else (impl_ItemsOk.j2 k2 l0 x3_2 x23_2 l0 (l0.length : Int) x23_2 (decide ((((rd_T52 l0 x23_2).f4).length : Int) > 0)) ((rd_T52 l0 x23_2).f0) ((rd_T52 l0 x23_2).f1) ((rd_T52 l0 x23_2).f2) ((rd_T52 l0 x23_2).f3) ((rd_T52 l0 x23_2).f4))) else (impl_ItemsOk.j2 k2 l0 x3_2 x23_2 l0 (l0.length : Int) x23_2 false ((rd_T52 l0 x23_2).f0) ((rd_T52 l0 x23_2).f1) ((rd_T52 l0 x23_2).f2) ((rd_T52 l0 x23_2).f3) ((rd_T52 l0 x23_2).f4))))) else (impl_ItemsOk.j2 k2 l0 x3_2 x23_2 l0 (l0.length : Int) x23_2 true ((rd_T52 l0 x23_2).f0) ((rd_T52 l0 x23_2).f1) ((rd_T52 l0 x23_2).f2) ((rd_T52 l0 x23_2).f3) ((rd_T52 l0 x23_2).f4))))) else (none)) else (impl_ItemsOk.j2 k2 l0 x3_2 x23_2 l0 (l0.length : Int) x23_2 true ((rd_T52 l0 x23_2).f0) ((rd_T52 l0 x23_2).f1) ((rd_T52 l0 x23_2).f2) ((rd_T52 l0 x23_2).f3) ((rd_T52 l0 x23_2).f4))) = some r := H
       have A13 := Aside0.mk A130
       clear A130
       by_cases c14 : t246 = true
       ·subst c14
        have H1 : (if ((rd_T52 l0 x23_2).f0).size ≤ 9223372036854775807 then (if (mget x3_2 ((rd_T52 l0 x23_2).f0)).getD false = true then (impl_ItemsOk.j2 k2 l0 x3_2 x23_2 l0 (l0.length : Int) x23_2 true ((rd_T52 l0 x23_2).f0) ((rd_T52 l0 x23_2).f1) ((rd_T52 l0 x23_2).f2) ((rd_T52 l0 x23_2).f3) ((rd_T52 l0 x23_2).f4)) else ((impl_between.f ((rd_T52 l0 x23_2).f1) 1 1000000).bind fun t247 => (if t247 = true then (if (((rd_T52 l0 x23_2).f3).length : Int) > 30 then (impl_ItemsOk.j2 k2 l0 x3_2 x23_2 l0 (l0.length : Int) x23_2 true ((rd_T52 l0 x23_2).f0) ((rd_T52 l0 x23_2).f1) ((rd_T52 l0 x23_2).f2) ((rd_T52 l0 x23_2).f3) ((rd_T52 l0 x23_2).f4)) else (if (((rd_T52 l0 x23_2).f4).length : Int) > 30 then (impl_ItemsOk.j2 k2 l0 x3_2 x23_2 l0 (l0.length : Int) x23_2 true ((rd_T52 l0 x23_2).f0) ((rd_T52 l0 x23_2).f1) ((rd_T52 l0 x23_2).f2) ((rd_T52 l0 x23_2).f3) ((rd_T52 l0 x23_2).f4)) else (if (rd_T52 l0 x23_2).f2 = true then (if (((rd_T52 l0 x23_2).f3).length : Int) = 0 then (impl_ItemsOk.j2 k2 l0 x3_2 x23_2 l0 (l0.length : Int) x23_2 true ((rd_T52 l0 x23_2).f0) ((rd_T52 l0 x23_2).f1) ((rd_T52 l0 x23_2).f2) ((rd_T52 l0 x23_2).f3) ((rd_T52 l0 x23_2).f4)) else (impl_ItemsOk.j2 k2 l0 x3_2 x23_2 l0 (l0.length : Int) x23_2 (decide ((((rd_T52 l0 x23_2).f4).length : Int) > 0)) ((rd_T52 l0 x23_2).f0) ((rd_T52 l0 x23_2).f1) ((rd_T52 l0 x23_2).f2) ((rd_T52 l0 x23_2).f3) ((rd_T52 l0 x23_2).f4))) else (impl_ItemsOk.j2 k2 l0 x3_2 x23_2 l0 (l0.length : Int) x23_2 false ((rd_T52 l0 x23_2).f0) ((rd_T52 l0 x23_2).f1) ((rd_T52 l0 x23_2).f2) ((rd_T52 l0 x23_2).f3) ((rd_T52 l0 x23_2).f4))))) else (impl_ItemsOk.j2 k2 l0 x3_2 x23_2 l0 (l0.length : Int) x23_2 true ((rd_T52 l0 x23_2).f0) ((rd_T52 l0 x23_2).f1) ((rd_T52 l0 x23_2).f2) ((rd_T52 l0 x23_2).f3) ((rd_T52 l0 x23_2).f4))))) else (none)) = some r := by rw [if_pos rfl] at H; exact H
        clear H
        have H := H1
        clear H1
        by_cases c15 : ((rd_T52 l0 x23_2).f0).size ≤ 9223372036854775807
        case neg => rw [if_neg c15] at H; exact absurd H (by simp)
        rw [if_pos c15] at H
        have LMc15 := Aside0.mk c15
        clear c15
        by_cases c16 : (mget x3_2 ((rd_T52 l0 x23_2).f0)).getD false = true
        ·rw [if_pos c16] at H
         have c16b0 : (mget x3_2 ((rd_T52 l0 x23_2).f0)).getD false = true := c16
         clear c16
         (first | rw [c16b0] | (simp only [i64_w, i32_w]; rw [c16b0]) | skip)
         have H' := Aside0.mk H
         clear H
         have hcz17_0 : w11.cell? ⟨gb245, 0, none⟩ = some (.string (⟨#[]⟩ : ByteArray)) := (qe0 BK245.out 0).trans rfl
         have hcz17_1 : w11.cell? ⟨gb245, 1, none⟩ = some (.int .i64 0) := (qe0 BK245.out 1).trans rfl
         have hcz17_2 : w11.cell? ⟨gb245, 2, none⟩ = some (.bool false) := (qe0 BK245.out 2).trans rfl
         have hcz17_3 : w11.cell? ⟨gb245, 3, none⟩ = some (.slice none 0 0) := (qe0 BK245.out 3).trans rfl
         have hcz17_4 : w11.cell? ⟨gb245, 4, none⟩ = some (.slice none 0 0) := (qe0 BK245.out 4).trans rfl
         have hfz17_0 := qb0 BK245.out 0
         have hfz17_1 := qb0 BK245.out 1
         have hfz17_2 := qb0 BK245.out 2
         have hfz17_3 := qb0 BK245.out 3
         have hfz17_4 := qb0 BK245.out 4
         go_wp2_with (first | ((with_reducible refine qs0 (f := 71) rfl ?_); refine qk1 (some 30) rfl rfl Try.func71 (by kernel_rfl) rfl #[.string ((rd_T52 l0 x23_2).f0)] rfl (by (try simp only [List.map_toArray, List.map_cons, List.map_nil]); first | done | rfl | (simp only [List.length_drop, List.length_take]; rfl)) ?_; (with_reducible refine (impl_NameOk.calls k2 ((rd_T52 l0 x23_2).f0) true _ A13.out).mono ?_); rintro e w' ⟨rfl, ⟨nd, rfl⟩⟩; refine ⟨_, rfl, ?_⟩) | ((with_reducible refine qz0 (N := 36) rfl ?_); (try (refine gate_guard (by rfl) ?_; dsimp only)); refine Kd.Z_look_op (base := w.heap.size) (ok := fun _ => True) kz115 115 rfl rfl _ _ 115 rfl kz115_K kz115_inj kz115_t false kz115_z mb243 x3_2 ((rd_T52 l0 x23_2).f0) rfl rfl (kz115_key ((rd_T52 l0 x23_2).f0) LMc15.out) ?aO (.bool ((mget x3_2 ((rd_T52 l0 x23_2).f0)).getD false)) rfl ?_; (case aO => exact (by (with_reducible repeat (first | apply Kd.Z_alloc | apply Kd.Z_drewN | apply Kd.Z_drew)); exact (Kd.Z_mono (Kd.Z_far (p := ⟨gb245, 4, none⟩) (Kd.Z_far (p := ⟨gb245, 3, none⟩) (Kd.Z_far (p := ⟨gb245, 2, none⟩) (Kd.Z_far (p := ⟨gb245, 1, none⟩) (Kd.Z_far (p := ⟨gb245, 0, none⟩) (Kd.Z_types HO_3.out BK245.out (by decide)) (fun _ hk => hk.2) (.string ((rd_T52 l0 x23_2).f0))) (fun _ hk => hk.2) (.int .i64 ((rd_T52 l0 x23_2).f1))) (fun _ hk => hk.2) (.bool ((rd_T52 l0 x23_2).f2))) (fun _ hk => hk.2) (.slice A244_3 ((rd_T52 l0 x23_2).f3).length c244_3)) (fun _ hk => hk.2) (.slice A244_4 ((rd_T52 l0 x23_2).f4).length c244_4)) (fun _ h_ => h_.1))))))
         go_meet
         case rel => exact ⟨_, (true), (by first | rfl | (simp; done) | (simp [*]; done)), H', ⟨by have := HJ1.out; have := HK2.out; first | omega | exact Nat.le_refl _⟩, ⟨by (with_reducible repeat (first | apply Kd.Z_alloc | apply Kd.Z_drewN | apply Kd.Z_drew)); exact Kd.Z_mono (Kd.Z_far (p := ⟨gb245, 4, none⟩) (Kd.Z_far (p := ⟨gb245, 3, none⟩) (Kd.Z_far (p := ⟨gb245, 2, none⟩) (Kd.Z_far (p := ⟨gb245, 1, none⟩) (Kd.Z_far (p := ⟨gb245, 0, none⟩) (Kd.Z_types HO_3.out BK245.out (by decide)) (fun _ hk => hk.2) (.string ((rd_T52 l0 x23_2).f0))) (fun _ hk => hk.2) (.int .i64 ((rd_T52 l0 x23_2).f1))) (fun _ hk => hk.2) (.bool ((rd_T52 l0 x23_2).f2))) (fun _ hk => hk.2) (.slice A244_3 ((rd_T52 l0 x23_2).f3).length c244_3)) (fun _ hk => hk.2) (.slice A244_4 ((rd_T52 l0 x23_2).f4).length c244_4)) (fun _ hk => trivial)⟩, ⟨by (with_reducible repeat (first | refine qg0 ?_ _ | refine qh0 ?_ | refine qf0 ?_ _)); refine ql0 (cs := #[.string ((rd_T52 l0 x23_2).f0), .int .i64 ((rd_T52 l0 x23_2).f1), .bool ((rd_T52 l0 x23_2).f2), .slice A244_3 ((rd_T52 l0 x23_2).f3).length c244_3, .slice none 0 0]) ?_ 4 _ rfl; (with_reducible repeat (first | refine qg0 ?_ _ | refine qh0 ?_ | refine qf0 ?_ _)); refine ql0 (cs := #[.string ((rd_T52 l0 x23_2).f0), .int .i64 ((rd_T52 l0 x23_2).f1), .bool ((rd_T52 l0 x23_2).f2), .slice none 0 0, .slice none 0 0]) ?_ 3 _ rfl; (with_reducible repeat (first | refine qg0 ?_ _ | refine qh0 ?_ | refine qf0 ?_ _)); refine ql0 (cs := #[.string ((rd_T52 l0 x23_2).f0), .int .i64 ((rd_T52 l0 x23_2).f1), .bool false, .slice none 0 0, .slice none 0 0]) ?_ 2 _ rfl; (with_reducible repeat (first | refine qg0 ?_ _ | refine qh0 ?_ | refine qf0 ?_ _)); refine ql0 (cs := #[.string ((rd_T52 l0 x23_2).f0), .int .i64 0, .bool false, .slice none 0 0, .slice none 0 0]) ?_ 1 _ rfl; (with_reducible repeat (first | refine qg0 ?_ _ | refine qh0 ?_ | refine qf0 ?_ _)); refine ql0 (cs := #[.string (⟨#[]⟩ : ByteArray), .int .i64 0, .bool false, .slice none 0 0, .slice none 0 0]) ?_ 0 _ rfl; (with_reducible repeat (first | refine qg0 ?_ _ | refine qh0 ?_ | refine qf0 ?_ _)); exact BK245.out⟩, ⟨by repeat (first | (with_reducible first | exact HB.out | apply qc0 | apply qa0 | apply qd0 | refine qi0 ?_ GE245.out) | exact HB.out)⟩⟩
        rw [if_neg c16] at H
        have c16b0 : (mget x3_2 ((rd_T52 l0 x23_2).f0)).getD false = false := by simpa using c16
        clear c16
        (first | rw [c16b0] | (simp only [i64_w, i32_w]; rw [c16b0]) | skip)
        replace H := Option.bind_eq_some_iff.mp H
        obtain ⟨t247, A180, H⟩ := H
        replace H : (if t247 = true then (if (((rd_T52 l0 x23_2).f3).length : Int) > 30 then (impl_ItemsOk.j2 k2 l0 x3_2 x23_2 l0 (l0.length : Int) x23_2 true ((rd_T52 l0 x23_2).f0) ((rd_T52 l0 x23_2).f1) ((rd_T52 l0 x23_2).f2) ((rd_T52 l0 x23_2).f3) ((rd_T52 l0 x23_2).f4)) else (if (((rd_T52 l0 x23_2).f4).length : Int) > 30 then (impl_ItemsOk.j2 k2 l0 x3_2 x23_2 l0 (l0.length : Int) x23_2 true ((rd_T52 l0 x23_2).f0) ((rd_T52 l0 x23_2).f1) ((rd_T52 l0 x23_2).f2) ((rd_T52 l0 x23_2).f3) ((rd_T52 l0 x23_2).f4)) else (if (rd_T52 l0 x23_2).f2 = true then (if (((rd_T52 l0 x23_2).f3).length : Int) = 0 then (impl_ItemsOk.j2 k2 l0 x3_2 x23_2 l0 (l0.length : Int) x23_2 true ((rd_T52 l0 x23_2).f0) ((rd_T52 l0 x23_2).f1) ((rd_T52 l0 x23_2).f2) ((rd_T52 l0 x23_2).f3) ((rd_T52 l0 x23_2).f4)) else (impl_ItemsOk.j2 k2 l0 x3_2 x23_2 l0 (l0.length : Int) x23_2 (decide ((((rd_T52 l0 x23_2).f4).length : Int) > 0)) ((rd_T52 l0 x23_2).f0) ((rd_T52 l0 x23_2).f1) ((rd_T52 l0 x23_2).f2) ((rd_T52 l0 x23_2).f3) ((rd_T52 l0 x23_2).f4))) else (impl_ItemsOk.j2 k2 l0 x3_2 x23_2 l0 (l0.length : Int) x23_2 false ((rd_T52 l0 x23_2).f0) ((rd_T52 l0 x23_2).f1) ((rd_T52 l0 x23_2).f2) ((rd_T52 l0 x23_2).f3) ((rd_T52 l0 x23_2).f4))))) else (impl_ItemsOk.j2 k2 l0 x3_2 x23_2 l0 (l0.length : Int) x23_2 true ((rd_T52 l0 x23_2).f0) ((rd_T52 l0 x23_2).f1) ((rd_T52 l0 x23_2).f2) ((rd_T52 l0 x23_2).f3) ((rd_T52 l0 x23_2).f4))) = some r := H
        have A18 := Aside0.mk A180
        clear A180
        by_cases c19 : t247 = true
        ·subst c19
         have H1 : (if (((rd_T52 l0 x23_2).f3).length : Int) > 30 then (impl_ItemsOk.j2 k2 l0 x3_2 x23_2 l0 (l0.length : Int) x23_2 true ((rd_T52 l0 x23_2).f0) ((rd_T52 l0 x23_2).f1) ((rd_T52 l0 x23_2).f2) ((rd_T52 l0 x23_2).f3) ((rd_T52 l0 x23_2).f4)) else (if (((rd_T52 l0 x23_2).f4).length : Int) > 30 then (impl_ItemsOk.j2 k2 l0 x3_2 x23_2 l0 (l0.length : Int) x23_2 true ((rd_T52 l0 x23_2).f0) ((rd_T52 l0 x23_2).f1) ((rd_T52 l0 x23_2).f2) ((rd_T52 l0 x23_2).f3) ((rd_T52 l0 x23_2).f4)) else (if (rd_T52 l0 x23_2).f2 = true then (if (((rd_T52 l0 x23_2).f3).length : Int) = 0 then (impl_ItemsOk.j2 k2 l0 x3_2 x23_2 l0 (l0.length : Int) x23_2 true ((rd_T52 l0 x23_2).f0) ((rd_T52 l0 x23_2).f1) ((rd_T52 l0 x23_2).f2) ((rd_T52 l0 x23_2).f3) ((rd_T52 l0 x23_2).f4)) else (impl_ItemsOk.j2 k2 l0 x3_2 x23_2 l0 (l0.length : Int) x23_2 (decide ((((rd_T52 l0 x23_2).f4).length : Int) > 0)) ((rd_T52 l0 x23_2).f0) ((rd_T52 l0 x23_2).f1) ((rd_T52 l0 x23_2).f2) ((rd_T52 l0 x23_2).f3) ((rd_T52 l0 x23_2).f4))) else (impl_ItemsOk.j2 k2 l0 x3_2 x23_2 l0 (l0.length : Int) x23_2 false ((rd_T52 l0 x23_2).f0) ((rd_T52 l0 x23_2).f1) ((rd_T52 l0 x23_2).f2) ((rd_T52 l0 x23_2).f3) ((rd_T52 l0 x23_2).f4))))) = some r := by rw [if_pos rfl] at H; exact H
         clear H
         have H := H1
         clear H1
         by_cases c20 : (((rd_T52 l0 x23_2).f3).length : Int) > 30
         ·rw [if_pos c20] at H
          have c20b0 : decide (30 < (((rd_T52 l0 x23_2).f3).length : Int)) = true := decide_eq_true c20
          have c20b1 : decide (30 < ((rd_T52 l0 x23_2).f3).length) = true := decide_eq_true (by omega)
          clear c20
          have H' := Aside0.mk H
          clear H
          have hcz21_0 : w11.cell? ⟨gb245, 0, none⟩ = some (.string (⟨#[]⟩ : ByteArray)) := (qe0 BK245.out 0).trans rfl
          have hcz21_1 : w11.cell? ⟨gb245, 1, none⟩ = some (.int .i64 0) := (qe0 BK245.out 1).trans rfl
          have hcz21_2 : w11.cell? ⟨gb245, 2, none⟩ = some (.bool false) := (qe0 BK245.out 2).trans rfl
          have hcz21_3 : w11.cell? ⟨gb245, 3, none⟩ = some (.slice none 0 0) := (qe0 BK245.out 3).trans rfl
          have hcz21_4 : w11.cell? ⟨gb245, 4, none⟩ = some (.slice none 0 0) := (qe0 BK245.out 4).trans rfl
          have hfz21_0 := qb0 BK245.out 0
          have hfz21_1 := qb0 BK245.out 1
          have hfz21_2 := qb0 BK245.out 2
          have hfz21_3 := qb0 BK245.out 3
          have hfz21_4 := qb0 BK245.out 4
          go_wp2_with (first | ((with_reducible refine qs0 (f := 71) rfl ?_); refine qk1 (some 30) rfl rfl Try.func71 (by kernel_rfl) rfl #[.string ((rd_T52 l0 x23_2).f0)] rfl (by (try simp only [List.map_toArray, List.map_cons, List.map_nil]); first | done | rfl | (simp only [List.length_drop, List.length_take]; rfl)) ?_; (with_reducible refine (impl_NameOk.calls k2 ((rd_T52 l0 x23_2).f0) true _ A13.out).mono ?_); rintro e w' ⟨rfl, ⟨nd, rfl⟩⟩; refine ⟨_, rfl, ?_⟩) | ((with_reducible refine qz0 (N := 36) rfl ?_); (try (refine gate_guard (by rfl) ?_; dsimp only)); refine Kd.Z_look_op (base := w.heap.size) (ok := fun _ => True) kz115 115 rfl rfl _ _ 115 rfl kz115_K kz115_inj kz115_t false kz115_z mb243 x3_2 ((rd_T52 l0 x23_2).f0) rfl rfl (kz115_key ((rd_T52 l0 x23_2).f0) LMc15.out) ?aO (.bool ((mget x3_2 ((rd_T52 l0 x23_2).f0)).getD false)) rfl ?_; (case aO => exact (by (with_reducible repeat (first | apply Kd.Z_alloc | apply Kd.Z_drewN | apply Kd.Z_drew)); exact (Kd.Z_mono (Kd.Z_far (p := ⟨gb245, 4, none⟩) (Kd.Z_far (p := ⟨gb245, 3, none⟩) (Kd.Z_far (p := ⟨gb245, 2, none⟩) (Kd.Z_far (p := ⟨gb245, 1, none⟩) (Kd.Z_far (p := ⟨gb245, 0, none⟩) (Kd.Z_types HO_3.out BK245.out (by decide)) (fun _ hk => hk.2) (.string ((rd_T52 l0 x23_2).f0))) (fun _ hk => hk.2) (.int .i64 ((rd_T52 l0 x23_2).f1))) (fun _ hk => hk.2) (.bool ((rd_T52 l0 x23_2).f2))) (fun _ hk => hk.2) (.slice A244_3 ((rd_T52 l0 x23_2).f3).length c244_3)) (fun _ hk => hk.2) (.slice A244_4 ((rd_T52 l0 x23_2).f4).length c244_4)) (fun _ h_ => h_.1))))) | (go_at_call 100; (with_reducible refine (impl_between.calls ((rd_T52 l0 x23_2).f1) 1 1000000 true _ A18.out).mono ?_); rintro e w' ⟨rfl, ⟨nd, rfl⟩⟩))
          go_meet
          case rel => exact ⟨_, (true), (by first | rfl | (simp; done) | (simp [*]; done)), H', ⟨by have := HJ1.out; have := HK2.out; first | omega | exact Nat.le_refl _⟩, ⟨by (with_reducible repeat (first | apply Kd.Z_alloc | apply Kd.Z_drewN | apply Kd.Z_drew)); exact Kd.Z_mono (Kd.Z_far (p := ⟨gb245, 4, none⟩) (Kd.Z_far (p := ⟨gb245, 3, none⟩) (Kd.Z_far (p := ⟨gb245, 2, none⟩) (Kd.Z_far (p := ⟨gb245, 1, none⟩) (Kd.Z_far (p := ⟨gb245, 0, none⟩) (Kd.Z_types HO_3.out BK245.out (by decide)) (fun _ hk => hk.2) (.string ((rd_T52 l0 x23_2).f0))) (fun _ hk => hk.2) (.int .i64 ((rd_T52 l0 x23_2).f1))) (fun _ hk => hk.2) (.bool ((rd_T52 l0 x23_2).f2))) (fun _ hk => hk.2) (.slice A244_3 ((rd_T52 l0 x23_2).f3).length c244_3)) (fun _ hk => hk.2) (.slice A244_4 ((rd_T52 l0 x23_2).f4).length c244_4)) (fun _ hk => trivial)⟩, ⟨by (with_reducible repeat (first | refine qg0 ?_ _ | refine qh0 ?_ | refine qf0 ?_ _)); refine ql0 (cs := #[.string ((rd_T52 l0 x23_2).f0), .int .i64 ((rd_T52 l0 x23_2).f1), .bool ((rd_T52 l0 x23_2).f2), .slice A244_3 ((rd_T52 l0 x23_2).f3).length c244_3, .slice none 0 0]) ?_ 4 _ rfl; (with_reducible repeat (first | refine qg0 ?_ _ | refine qh0 ?_ | refine qf0 ?_ _)); refine ql0 (cs := #[.string ((rd_T52 l0 x23_2).f0), .int .i64 ((rd_T52 l0 x23_2).f1), .bool ((rd_T52 l0 x23_2).f2), .slice none 0 0, .slice none 0 0]) ?_ 3 _ rfl; (with_reducible repeat (first | refine qg0 ?_ _ | refine qh0 ?_ | refine qf0 ?_ _)); refine ql0 (cs := #[.string ((rd_T52 l0 x23_2).f0), .int .i64 ((rd_T52 l0 x23_2).f1), .bool false, .slice none 0 0, .slice none 0 0]) ?_ 2 _ rfl; (with_reducible repeat (first | refine qg0 ?_ _ | refine qh0 ?_ | refine qf0 ?_ _)); refine ql0 (cs := #[.string ((rd_T52 l0 x23_2).f0), .int .i64 0, .bool false, .slice none 0 0, .slice none 0 0]) ?_ 1 _ rfl; (with_reducible repeat (first | refine qg0 ?_ _ | refine qh0 ?_ | refine qf0 ?_ _)); refine ql0 (cs := #[.string (⟨#[]⟩ : ByteArray), .int .i64 0, .bool false, .slice none 0 0, .slice none 0 0]) ?_ 0 _ rfl; (with_reducible repeat (first | refine qg0 ?_ _ | refine qh0 ?_ | refine qf0 ?_ _)); exact BK245.out⟩, ⟨by repeat (first | (with_reducible first | exact HB.out | apply qc0 | apply qa0 | apply qd0 | refine qi0 ?_ GE245.out) | exact HB.out)⟩⟩
         rw [if_neg c20] at H
         have c20b0 : decide (30 < (((rd_T52 l0 x23_2).f3).length : Int)) = false := decide_eq_false c20
         have c20b1 : decide (30 < ((rd_T52 l0 x23_2).f3).length) = false := decide_eq_false (by omega)
         clear c20
         by_cases c22 : (((rd_T52 l0 x23_2).f4).length : Int) > 30
         ·rw [if_pos c22] at H
          have c22b0 : decide (30 < (((rd_T52 l0 x23_2).f4).length : Int)) = true := decide_eq_true c22
          have c22b1 : decide (30 < ((rd_T52 l0 x23_2).f4).length) = true := decide_eq_true (by omega)
          clear c22
          have H' := Aside0.mk H
          clear H
          have hcz23_0 : w11.cell? ⟨gb245, 0, none⟩ = some (.string (⟨#[]⟩ : ByteArray)) := (qe0 BK245.out 0).trans rfl
          have hcz23_1 : w11.cell? ⟨gb245, 1, none⟩ = some (.int .i64 0) := (qe0 BK245.out 1).trans rfl
          have hcz23_2 : w11.cell? ⟨gb245, 2, none⟩ = some (.bool false) := (qe0 BK245.out 2).trans rfl
          have hcz23_3 : w11.cell? ⟨gb245, 3, none⟩ = some (.slice none 0 0) := (qe0 BK245.out 3).trans rfl
          have hcz23_4 : w11.cell? ⟨gb245, 4, none⟩ = some (.slice none 0 0) := (qe0 BK245.out 4).trans rfl
          have hfz23_0 := qb0 BK245.out 0
          have hfz23_1 := qb0 BK245.out 1
          have hfz23_2 := qb0 BK245.out 2
          have hfz23_3 := qb0 BK245.out 3
          have hfz23_4 := qb0 BK245.out 4
          go_wp2_with (first | ((with_reducible refine qs0 (f := 71) rfl ?_); refine qk1 (some 30) rfl rfl Try.func71 (by kernel_rfl) rfl #[.string ((rd_T52 l0 x23_2).f0)] rfl (by (try simp only [List.map_toArray, List.map_cons, List.map_nil]); first | done | rfl | (simp only [List.length_drop, List.length_take]; rfl)) ?_; (with_reducible refine (impl_NameOk.calls k2 ((rd_T52 l0 x23_2).f0) true _ A13.out).mono ?_); rintro e w' ⟨rfl, ⟨nd, rfl⟩⟩; refine ⟨_, rfl, ?_⟩) | ((with_reducible refine qz0 (N := 36) rfl ?_); (try (refine gate_guard (by rfl) ?_; dsimp only)); refine Kd.Z_look_op (base := w.heap.size) (ok := fun _ => True) kz115 115 rfl rfl _ _ 115 rfl kz115_K kz115_inj kz115_t false kz115_z mb243 x3_2 ((rd_T52 l0 x23_2).f0) rfl rfl (kz115_key ((rd_T52 l0 x23_2).f0) LMc15.out) ?aO (.bool ((mget x3_2 ((rd_T52 l0 x23_2).f0)).getD false)) rfl ?_; (case aO => exact (by (with_reducible repeat (first | apply Kd.Z_alloc | apply Kd.Z_drewN | apply Kd.Z_drew)); exact (Kd.Z_mono (Kd.Z_far (p := ⟨gb245, 4, none⟩) (Kd.Z_far (p := ⟨gb245, 3, none⟩) (Kd.Z_far (p := ⟨gb245, 2, none⟩) (Kd.Z_far (p := ⟨gb245, 1, none⟩) (Kd.Z_far (p := ⟨gb245, 0, none⟩) (Kd.Z_types HO_3.out BK245.out (by decide)) (fun _ hk => hk.2) (.string ((rd_T52 l0 x23_2).f0))) (fun _ hk => hk.2) (.int .i64 ((rd_T52 l0 x23_2).f1))) (fun _ hk => hk.2) (.bool ((rd_T52 l0 x23_2).f2))) (fun _ hk => hk.2) (.slice A244_3 ((rd_T52 l0 x23_2).f3).length c244_3)) (fun _ hk => hk.2) (.slice A244_4 ((rd_T52 l0 x23_2).f4).length c244_4)) (fun _ h_ => h_.1))))) | (go_at_call 100; (with_reducible refine (impl_between.calls ((rd_T52 l0 x23_2).f1) 1 1000000 true _ A18.out).mono ?_); rintro e w' ⟨rfl, ⟨nd, rfl⟩⟩))
          go_meet
          case rel => exact ⟨_, (true), (by first | rfl | (simp; done) | (simp [*]; done)), H', ⟨by have := HJ1.out; have := HK2.out; first | omega | exact Nat.le_refl _⟩, ⟨by (with_reducible repeat (first | apply Kd.Z_alloc | apply Kd.Z_drewN | apply Kd.Z_drew)); exact Kd.Z_mono (Kd.Z_far (p := ⟨gb245, 4, none⟩) (Kd.Z_far (p := ⟨gb245, 3, none⟩) (Kd.Z_far (p := ⟨gb245, 2, none⟩) (Kd.Z_far (p := ⟨gb245, 1, none⟩) (Kd.Z_far (p := ⟨gb245, 0, none⟩) (Kd.Z_types HO_3.out BK245.out (by decide)) (fun _ hk => hk.2) (.string ((rd_T52 l0 x23_2).f0))) (fun _ hk => hk.2) (.int .i64 ((rd_T52 l0 x23_2).f1))) (fun _ hk => hk.2) (.bool ((rd_T52 l0 x23_2).f2))) (fun _ hk => hk.2) (.slice A244_3 ((rd_T52 l0 x23_2).f3).length c244_3)) (fun _ hk => hk.2) (.slice A244_4 ((rd_T52 l0 x23_2).f4).length c244_4)) (fun _ hk => trivial)⟩, ⟨by (with_reducible repeat (first | refine qg0 ?_ _ | refine qh0 ?_ | refine qf0 ?_ _)); refine ql0 (cs := #[.string ((rd_T52 l0 x23_2).f0), .int .i64 ((rd_T52 l0 x23_2).f1), .bool ((rd_T52 l0 x23_2).f2), .slice A244_3 ((rd_T52 l0 x23_2).f3).length c244_3, .slice none 0 0]) ?_ 4 _ rfl; (with_reducible repeat (first | refine qg0 ?_ _ | refine qh0 ?_ | refine qf0 ?_ _)); refine ql0 (cs := #[.string ((rd_T52 l0 x23_2).f0), .int .i64 ((rd_T52 l0 x23_2).f1), .bool ((rd_T52 l0 x23_2).f2), .slice none 0 0, .slice none 0 0]) ?_ 3 _ rfl; (with_reducible repeat (first | refine qg0 ?_ _ | refine qh0 ?_ | refine qf0 ?_ _)); refine ql0 (cs := #[.string ((rd_T52 l0 x23_2).f0), .int .i64 ((rd_T52 l0 x23_2).f1), .bool false, .slice none 0 0, .slice none 0 0]) ?_ 2 _ rfl; (with_reducible repeat (first | refine qg0 ?_ _ | refine qh0 ?_ | refine qf0 ?_ _)); refine ql0 (cs := #[.string ((rd_T52 l0 x23_2).f0), .int .i64 0, .bool false, .slice none 0 0, .slice none 0 0]) ?_ 1 _ rfl; (with_reducible repeat (first | refine qg0 ?_ _ | refine qh0 ?_ | refine qf0 ?_ _)); refine ql0 (cs := #[.string (⟨#[]⟩ : ByteArray), .int .i64 0, .bool false, .slice none 0 0, .slice none 0 0]) ?_ 0 _ rfl; (with_reducible repeat (first | refine qg0 ?_ _ | refine qh0 ?_ | refine qf0 ?_ _)); exact BK245.out⟩, ⟨by repeat (first | (with_reducible first | exact HB.out | apply qc0 | apply qa0 | apply qd0 | refine qi0 ?_ GE245.out) | exact HB.out)⟩⟩
         rw [if_neg c22] at H
         have c22b0 : decide (30 < (((rd_T52 l0 x23_2).f4).length : Int)) = false := decide_eq_false c22
         have c22b1 : decide (30 < ((rd_T52 l0 x23_2).f4).length) = false := decide_eq_false (by omega)
         clear c22




         by_cases c25 : (rd_T52 l0 x23_2).f2 = true
         ·skip
          have H1 := H; rw [if_pos c25] at H1
          clear H
          have H := H1
          clear H1
          by_cases c26 : (((rd_T52 l0 x23_2).f3).length : Int) = 0
          ·rw [if_pos c26] at H
           have c26b0 : ((((rd_T52 l0 x23_2).f3).length : Int) == 0) = true := beq_iff_eq.mpr c26
           have c26b1 : ((((rd_T52 l0 x23_2).f3).length : Int) != 0) = false := bne_eq_false_iff_eq.mpr c26
           clear c26
           have H' := Aside0.mk H
           clear H
           have hcz27_0 : w11.cell? ⟨gb245, 0, none⟩ = some (.string (⟨#[]⟩ : ByteArray)) := (qe0 BK245.out 0).trans rfl
           have hcz27_1 : w11.cell? ⟨gb245, 1, none⟩ = some (.int .i64 0) := (qe0 BK245.out 1).trans rfl
           have hcz27_2 : w11.cell? ⟨gb245, 2, none⟩ = some (.bool false) := (qe0 BK245.out 2).trans rfl
           have hcz27_3 : w11.cell? ⟨gb245, 3, none⟩ = some (.slice none 0 0) := (qe0 BK245.out 3).trans rfl
           have hcz27_4 : w11.cell? ⟨gb245, 4, none⟩ = some (.slice none 0 0) := (qe0 BK245.out 4).trans rfl
           have hfz27_0 := qb0 BK245.out 0
           have hfz27_1 := qb0 BK245.out 1
           have hfz27_2 := qb0 BK245.out 2
           have hfz27_3 := qb0 BK245.out 3
           have hfz27_4 := qb0 BK245.out 4
           go_wp2_with (first | ((with_reducible refine qs0 (f := 71) rfl ?_); refine qk1 (some 30) rfl rfl Try.func71 (by kernel_rfl) rfl #[.string ((rd_T52 l0 x23_2).f0)] rfl (by (try simp only [List.map_toArray, List.map_cons, List.map_nil]); first | done | rfl | (simp only [List.length_drop, List.length_take]; rfl)) ?_; (with_reducible refine (impl_NameOk.calls k2 ((rd_T52 l0 x23_2).f0) true _ A13.out).mono ?_); rintro e w' ⟨rfl, ⟨nd, rfl⟩⟩; refine ⟨_, rfl, ?_⟩) | ((with_reducible refine qz0 (N := 36) rfl ?_); (try (refine gate_guard (by rfl) ?_; dsimp only)); refine Kd.Z_look_op (base := w.heap.size) (ok := fun _ => True) kz115 115 rfl rfl _ _ 115 rfl kz115_K kz115_inj kz115_t false kz115_z mb243 x3_2 ((rd_T52 l0 x23_2).f0) rfl rfl (kz115_key ((rd_T52 l0 x23_2).f0) LMc15.out) ?aO (.bool ((mget x3_2 ((rd_T52 l0 x23_2).f0)).getD false)) rfl ?_; (case aO => exact (by (with_reducible repeat (first | apply Kd.Z_alloc | apply Kd.Z_drewN | apply Kd.Z_drew)); exact (Kd.Z_mono (Kd.Z_far (p := ⟨gb245, 4, none⟩) (Kd.Z_far (p := ⟨gb245, 3, none⟩) (Kd.Z_far (p := ⟨gb245, 2, none⟩) (Kd.Z_far (p := ⟨gb245, 1, none⟩) (Kd.Z_far (p := ⟨gb245, 0, none⟩) (Kd.Z_types HO_3.out BK245.out (by decide)) (fun _ hk => hk.2) (.string ((rd_T52 l0 x23_2).f0))) (fun _ hk => hk.2) (.int .i64 ((rd_T52 l0 x23_2).f1))) (fun _ hk => hk.2) (.bool (true))) (fun _ hk => hk.2) (.slice A244_3 ((rd_T52 l0 x23_2).f3).length c244_3)) (fun _ hk => hk.2) (.slice A244_4 ((rd_T52 l0 x23_2).f4).length c244_4)) (fun _ h_ => h_.1))))) | (go_at_call 100; (with_reducible refine (impl_between.calls ((rd_T52 l0 x23_2).f1) 1 1000000 true _ A18.out).mono ?_); rintro e w' ⟨rfl, ⟨nd, rfl⟩⟩))
           go_meet
           case rel => exact ⟨_, (true), (by first | rfl | (simp; done) | (simp [*]; done)), H', ⟨by have := HJ1.out; have := HK2.out; first | omega | exact Nat.le_refl _⟩, ⟨by (with_reducible repeat (first | apply Kd.Z_alloc | apply Kd.Z_drewN | apply Kd.Z_drew)); exact Kd.Z_mono (Kd.Z_far (p := ⟨gb245, 4, none⟩) (Kd.Z_far (p := ⟨gb245, 3, none⟩) (Kd.Z_far (p := ⟨gb245, 2, none⟩) (Kd.Z_far (p := ⟨gb245, 1, none⟩) (Kd.Z_far (p := ⟨gb245, 0, none⟩) (Kd.Z_types HO_3.out BK245.out (by decide)) (fun _ hk => hk.2) (.string ((rd_T52 l0 x23_2).f0))) (fun _ hk => hk.2) (.int .i64 ((rd_T52 l0 x23_2).f1))) (fun _ hk => hk.2) _) (fun _ hk => hk.2) (.slice A244_3 ((rd_T52 l0 x23_2).f3).length c244_3)) (fun _ hk => hk.2) (.slice A244_4 ((rd_T52 l0 x23_2).f4).length c244_4)) (fun _ hk => trivial)⟩, ⟨by (with_reducible repeat (first | refine qg0 ?_ _ | refine qh0 ?_ | refine qf0 ?_ _)); refine ql0 (cs := #[.string ((rd_T52 l0 x23_2).f0), .int .i64 ((rd_T52 l0 x23_2).f1), .bool ((rd_T52 l0 x23_2).f2), .slice A244_3 ((rd_T52 l0 x23_2).f3).length c244_3, .slice none 0 0]) ?_ 4 _ rfl; (with_reducible repeat (first | refine qg0 ?_ _ | refine qh0 ?_ | refine qf0 ?_ _)); refine ql0 (cs := #[.string ((rd_T52 l0 x23_2).f0), .int .i64 ((rd_T52 l0 x23_2).f1), .bool ((rd_T52 l0 x23_2).f2), .slice none 0 0, .slice none 0 0]) ?_ 3 _ rfl; (with_reducible repeat (first | refine qg0 ?_ _ | refine qh0 ?_ | refine qf0 ?_ _)); refine ql0 (cs := #[.string ((rd_T52 l0 x23_2).f0), .int .i64 ((rd_T52 l0 x23_2).f1), .bool false, .slice none 0 0, .slice none 0 0]) ?_ 2 _ (by first | rfl | (rw [c25]; rfl) | (simp only [c25]; rfl)); (with_reducible repeat (first | refine qg0 ?_ _ | refine qh0 ?_ | refine qf0 ?_ _)); refine ql0 (cs := #[.string ((rd_T52 l0 x23_2).f0), .int .i64 0, .bool false, .slice none 0 0, .slice none 0 0]) ?_ 1 _ rfl; (with_reducible repeat (first | refine qg0 ?_ _ | refine qh0 ?_ | refine qf0 ?_ _)); refine ql0 (cs := #[.string (⟨#[]⟩ : ByteArray), .int .i64 0, .bool false, .slice none 0 0, .slice none 0 0]) ?_ 0 _ rfl; (with_reducible repeat (first | refine qg0 ?_ _ | refine qh0 ?_ | refine qf0 ?_ _)); exact BK245.out⟩, ⟨by repeat (first | (with_reducible first | exact HB.out | apply qc0 | apply qa0 | apply qd0 | refine qi0 ?_ GE245.out) | exact HB.out)⟩⟩
          rw [if_neg c26] at H
          have c26b0 : ((((rd_T52 l0 x23_2).f3).length : Int) == 0) = false := beq_eq_false_iff_ne.mpr c26
          have c26b1 : ((((rd_T52 l0 x23_2).f3).length : Int) != 0) = true := bne_iff_ne.mpr c26
          have c26b2 : ¬ (((rd_T52 l0 x23_2).f3) = []) := fun h_ => c26 (by rw [h_]; rfl)
          have H' := Aside0.mk H
          clear H
          have hcz28_0 : w11.cell? ⟨gb245, 0, none⟩ = some (.string (⟨#[]⟩ : ByteArray)) := (qe0 BK245.out 0).trans rfl
          have hcz28_1 : w11.cell? ⟨gb245, 1, none⟩ = some (.int .i64 0) := (qe0 BK245.out 1).trans rfl
          have hcz28_2 : w11.cell? ⟨gb245, 2, none⟩ = some (.bool false) := (qe0 BK245.out 2).trans rfl
          have hcz28_3 : w11.cell? ⟨gb245, 3, none⟩ = some (.slice none 0 0) := (qe0 BK245.out 3).trans rfl
          have hcz28_4 : w11.cell? ⟨gb245, 4, none⟩ = some (.slice none 0 0) := (qe0 BK245.out 4).trans rfl
          have hfz28_0 := qb0 BK245.out 0
          have hfz28_1 := qb0 BK245.out 1
          have hfz28_2 := qb0 BK245.out 2
          have hfz28_3 := qb0 BK245.out 3
          have hfz28_4 := qb0 BK245.out 4
          go_wp2_with (first | ((with_reducible refine qs0 (f := 71) rfl ?_); refine qk1 (some 30) rfl rfl Try.func71 (by kernel_rfl) rfl #[.string ((rd_T52 l0 x23_2).f0)] rfl (by (try simp only [List.map_toArray, List.map_cons, List.map_nil]); first | done | rfl | (simp only [List.length_drop, List.length_take]; rfl)) ?_; (with_reducible refine (impl_NameOk.calls k2 ((rd_T52 l0 x23_2).f0) true _ A13.out).mono ?_); rintro e w' ⟨rfl, ⟨nd, rfl⟩⟩; refine ⟨_, rfl, ?_⟩) | ((with_reducible refine qz0 (N := 36) rfl ?_); (try (refine gate_guard (by rfl) ?_; dsimp only)); refine Kd.Z_look_op (base := w.heap.size) (ok := fun _ => True) kz115 115 rfl rfl _ _ 115 rfl kz115_K kz115_inj kz115_t false kz115_z mb243 x3_2 ((rd_T52 l0 x23_2).f0) rfl rfl (kz115_key ((rd_T52 l0 x23_2).f0) LMc15.out) ?aO (.bool ((mget x3_2 ((rd_T52 l0 x23_2).f0)).getD false)) rfl ?_; (case aO => exact (by (with_reducible repeat (first | apply Kd.Z_alloc | apply Kd.Z_drewN | apply Kd.Z_drew)); exact (Kd.Z_mono (Kd.Z_far (p := ⟨gb245, 4, none⟩) (Kd.Z_far (p := ⟨gb245, 3, none⟩) (Kd.Z_far (p := ⟨gb245, 2, none⟩) (Kd.Z_far (p := ⟨gb245, 1, none⟩) (Kd.Z_far (p := ⟨gb245, 0, none⟩) (Kd.Z_types HO_3.out BK245.out (by decide)) (fun _ hk => hk.2) (.string ((rd_T52 l0 x23_2).f0))) (fun _ hk => hk.2) (.int .i64 ((rd_T52 l0 x23_2).f1))) (fun _ hk => hk.2) (.bool (true))) (fun _ hk => hk.2) (.slice A244_3 ((rd_T52 l0 x23_2).f3).length c244_3)) (fun _ hk => hk.2) (.slice A244_4 ((rd_T52 l0 x23_2).f4).length c244_4)) (fun _ h_ => h_.1))))) | (go_at_call 100; (with_reducible refine (impl_between.calls ((rd_T52 l0 x23_2).f1) 1 1000000 true _ A18.out).mono ?_); rintro e w' ⟨rfl, ⟨nd, rfl⟩⟩))
          go_meet
          case rel => exact ⟨_, (decide ((((rd_T52 l0 x23_2).f4).length : Int) > 0)), (by first | rfl | (simp; done) | (simp [*]; done)), H', ⟨by have := HJ1.out; have := HK2.out; first | omega | exact Nat.le_refl _⟩, ⟨by (with_reducible repeat (first | apply Kd.Z_alloc | apply Kd.Z_drewN | apply Kd.Z_drew)); exact Kd.Z_mono (Kd.Z_far (p := ⟨gb245, 4, none⟩) (Kd.Z_far (p := ⟨gb245, 3, none⟩) (Kd.Z_far (p := ⟨gb245, 2, none⟩) (Kd.Z_far (p := ⟨gb245, 1, none⟩) (Kd.Z_far (p := ⟨gb245, 0, none⟩) (Kd.Z_types HO_3.out BK245.out (by decide)) (fun _ hk => hk.2) (.string ((rd_T52 l0 x23_2).f0))) (fun _ hk => hk.2) (.int .i64 ((rd_T52 l0 x23_2).f1))) (fun _ hk => hk.2) _) (fun _ hk => hk.2) (.slice A244_3 ((rd_T52 l0 x23_2).f3).length c244_3)) (fun _ hk => hk.2) (.slice A244_4 ((rd_T52 l0 x23_2).f4).length c244_4)) (fun _ hk => trivial)⟩, ⟨by (with_reducible repeat (first | refine qg0 ?_ _ | refine qh0 ?_ | refine qf0 ?_ _)); refine ql0 (cs := #[.string ((rd_T52 l0 x23_2).f0), .int .i64 ((rd_T52 l0 x23_2).f1), .bool ((rd_T52 l0 x23_2).f2), .slice A244_3 ((rd_T52 l0 x23_2).f3).length c244_3, .slice none 0 0]) ?_ 4 _ rfl; (with_reducible repeat (first | refine qg0 ?_ _ | refine qh0 ?_ | refine qf0 ?_ _)); refine ql0 (cs := #[.string ((rd_T52 l0 x23_2).f0), .int .i64 ((rd_T52 l0 x23_2).f1), .bool ((rd_T52 l0 x23_2).f2), .slice none 0 0, .slice none 0 0]) ?_ 3 _ rfl; (with_reducible repeat (first | refine qg0 ?_ _ | refine qh0 ?_ | refine qf0 ?_ _)); refine ql0 (cs := #[.string ((rd_T52 l0 x23_2).f0), .int .i64 ((rd_T52 l0 x23_2).f1), .bool false, .slice none 0 0, .slice none 0 0]) ?_ 2 _ (by first | rfl | (rw [c25]; rfl) | (simp only [c25]; rfl)); (with_reducible repeat (first | refine qg0 ?_ _ | refine qh0 ?_ | refine qf0 ?_ _)); refine ql0 (cs := #[.string ((rd_T52 l0 x23_2).f0), .int .i64 0, .bool false, .slice none 0 0, .slice none 0 0]) ?_ 1 _ rfl; (with_reducible repeat (first | refine qg0 ?_ _ | refine qh0 ?_ | refine qf0 ?_ _)); refine ql0 (cs := #[.string (⟨#[]⟩ : ByteArray), .int .i64 0, .bool false, .slice none 0 0, .slice none 0 0]) ?_ 0 _ rfl; (with_reducible repeat (first | refine qg0 ?_ _ | refine qh0 ?_ | refine qf0 ?_ _)); exact BK245.out⟩, ⟨by repeat (first | (with_reducible first | exact HB.out | apply qc0 | apply qa0 | apply qd0 | refine qi0 ?_ GE245.out) | exact HB.out)⟩⟩
         replace c25 := Bool.eq_false_iff.mpr c25

         have H1 := H; rw [if_neg (by rw [c25]; decide)] at H1
         clear H
         have H := H1
         clear H1
         have H' := Aside0.mk H
         clear H
         have hcz29_0 : w11.cell? ⟨gb245, 0, none⟩ = some (.string (⟨#[]⟩ : ByteArray)) := (qe0 BK245.out 0).trans rfl
         have hcz29_1 : w11.cell? ⟨gb245, 1, none⟩ = some (.int .i64 0) := (qe0 BK245.out 1).trans rfl
         have hcz29_2 : w11.cell? ⟨gb245, 2, none⟩ = some (.bool false) := (qe0 BK245.out 2).trans rfl
         have hcz29_3 : w11.cell? ⟨gb245, 3, none⟩ = some (.slice none 0 0) := (qe0 BK245.out 3).trans rfl
         have hcz29_4 : w11.cell? ⟨gb245, 4, none⟩ = some (.slice none 0 0) := (qe0 BK245.out 4).trans rfl
         have hfz29_0 := qb0 BK245.out 0
         have hfz29_1 := qb0 BK245.out 1
         have hfz29_2 := qb0 BK245.out 2
         have hfz29_3 := qb0 BK245.out 3
         have hfz29_4 := qb0 BK245.out 4
         go_wp2_with (first | ((with_reducible refine qs0 (f := 71) rfl ?_); refine qk1 (some 30) rfl rfl Try.func71 (by kernel_rfl) rfl #[.string ((rd_T52 l0 x23_2).f0)] rfl (by (try simp only [List.map_toArray, List.map_cons, List.map_nil]); first | done | rfl | (simp only [List.length_drop, List.length_take]; rfl)) ?_; (with_reducible refine (impl_NameOk.calls k2 ((rd_T52 l0 x23_2).f0) true _ A13.out).mono ?_); rintro e w' ⟨rfl, ⟨nd, rfl⟩⟩; refine ⟨_, rfl, ?_⟩) | ((with_reducible refine qz0 (N := 36) rfl ?_); (try (refine gate_guard (by rfl) ?_; dsimp only)); refine Kd.Z_look_op (base := w.heap.size) (ok := fun _ => True) kz115 115 rfl rfl _ _ 115 rfl kz115_K kz115_inj kz115_t false kz115_z mb243 x3_2 ((rd_T52 l0 x23_2).f0) rfl rfl (kz115_key ((rd_T52 l0 x23_2).f0) LMc15.out) ?aO (.bool ((mget x3_2 ((rd_T52 l0 x23_2).f0)).getD false)) rfl ?_; (case aO => exact (by (with_reducible repeat (first | apply Kd.Z_alloc | apply Kd.Z_drewN | apply Kd.Z_drew)); exact (Kd.Z_mono (Kd.Z_far (p := ⟨gb245, 4, none⟩) (Kd.Z_far (p := ⟨gb245, 3, none⟩) (Kd.Z_far (p := ⟨gb245, 2, none⟩) (Kd.Z_far (p := ⟨gb245, 1, none⟩) (Kd.Z_far (p := ⟨gb245, 0, none⟩) (Kd.Z_types HO_3.out BK245.out (by decide)) (fun _ hk => hk.2) (.string ((rd_T52 l0 x23_2).f0))) (fun _ hk => hk.2) (.int .i64 ((rd_T52 l0 x23_2).f1))) (fun _ hk => hk.2) (.bool (false))) (fun _ hk => hk.2) (.slice A244_3 ((rd_T52 l0 x23_2).f3).length c244_3)) (fun _ hk => hk.2) (.slice A244_4 ((rd_T52 l0 x23_2).f4).length c244_4)) (fun _ h_ => h_.1))))) | (go_at_call 100; (with_reducible refine (impl_between.calls ((rd_T52 l0 x23_2).f1) 1 1000000 true _ A18.out).mono ?_); rintro e w' ⟨rfl, ⟨nd, rfl⟩⟩))
         go_meet
         case rel => exact ⟨_, (false), (by first | rfl | (simp; done) | (simp [*]; done)), H', ⟨by have := HJ1.out; have := HK2.out; first | omega | exact Nat.le_refl _⟩, ⟨by (with_reducible repeat (first | apply Kd.Z_alloc | apply Kd.Z_drewN | apply Kd.Z_drew)); exact Kd.Z_mono (Kd.Z_far (p := ⟨gb245, 4, none⟩) (Kd.Z_far (p := ⟨gb245, 3, none⟩) (Kd.Z_far (p := ⟨gb245, 2, none⟩) (Kd.Z_far (p := ⟨gb245, 1, none⟩) (Kd.Z_far (p := ⟨gb245, 0, none⟩) (Kd.Z_types HO_3.out BK245.out (by decide)) (fun _ hk => hk.2) (.string ((rd_T52 l0 x23_2).f0))) (fun _ hk => hk.2) (.int .i64 ((rd_T52 l0 x23_2).f1))) (fun _ hk => hk.2) _) (fun _ hk => hk.2) (.slice A244_3 ((rd_T52 l0 x23_2).f3).length c244_3)) (fun _ hk => hk.2) (.slice A244_4 ((rd_T52 l0 x23_2).f4).length c244_4)) (fun _ hk => trivial)⟩, ⟨by (with_reducible repeat (first | refine qg0 ?_ _ | refine qh0 ?_ | refine qf0 ?_ _)); refine ql0 (cs := #[.string ((rd_T52 l0 x23_2).f0), .int .i64 ((rd_T52 l0 x23_2).f1), .bool ((rd_T52 l0 x23_2).f2), .slice A244_3 ((rd_T52 l0 x23_2).f3).length c244_3, .slice none 0 0]) ?_ 4 _ rfl; (with_reducible repeat (first | refine qg0 ?_ _ | refine qh0 ?_ | refine qf0 ?_ _)); refine ql0 (cs := #[.string ((rd_T52 l0 x23_2).f0), .int .i64 ((rd_T52 l0 x23_2).f1), .bool ((rd_T52 l0 x23_2).f2), .slice none 0 0, .slice none 0 0]) ?_ 3 _ rfl; (with_reducible repeat (first | refine qg0 ?_ _ | refine qh0 ?_ | refine qf0 ?_ _)); refine ql0 (cs := #[.string ((rd_T52 l0 x23_2).f0), .int .i64 ((rd_T52 l0 x23_2).f1), .bool false, .slice none 0 0, .slice none 0 0]) ?_ 2 _ (by first | rfl | (rw [c25]; rfl) | (simp only [c25]; rfl)); (with_reducible repeat (first | refine qg0 ?_ _ | refine qh0 ?_ | refine qf0 ?_ _)); refine ql0 (cs := #[.string ((rd_T52 l0 x23_2).f0), .int .i64 0, .bool false, .slice none 0 0, .slice none 0 0]) ?_ 1 _ rfl; (with_reducible repeat (first | refine qg0 ?_ _ | refine qh0 ?_ | refine qf0 ?_ _)); refine ql0 (cs := #[.string (⟨#[]⟩ : ByteArray), .int .i64 0, .bool false, .slice none 0 0, .slice none 0 0]) ?_ 0 _ rfl; (with_reducible repeat (first | refine qg0 ?_ _ | refine qh0 ?_ | refine qf0 ?_ _)); exact BK245.out⟩, ⟨by repeat (first | (with_reducible first | exact HB.out | apply qc0 | apply qa0 | apply qd0 | refine qi0 ?_ GE245.out) | exact HB.out)⟩⟩
        replace c19 := Bool.eq_false_iff.mpr c19
        subst c19
        have H1 : (impl_ItemsOk.j2 k2 l0 x3_2 x23_2 l0 (l0.length : Int) x23_2 true ((rd_T52 l0 x23_2).f0) ((rd_T52 l0 x23_2).f1) ((rd_T52 l0 x23_2).f2) ((rd_T52 l0 x23_2).f3) ((rd_T52 l0 x23_2).f4)) = some r := by rw [if_neg (show ¬ (false = true) by decide)] at H; exact H
        clear H
        have H := H1
        clear H1
        have H' := Aside0.mk H
        clear H
        have hcz30_0 : w11.cell? ⟨gb245, 0, none⟩ = some (.string (⟨#[]⟩ : ByteArray)) := (qe0 BK245.out 0).trans rfl
        have hcz30_1 : w11.cell? ⟨gb245, 1, none⟩ = some (.int .i64 0) := (qe0 BK245.out 1).trans rfl
        have hcz30_2 : w11.cell? ⟨gb245, 2, none⟩ = some (.bool false) := (qe0 BK245.out 2).trans rfl
        have hcz30_3 : w11.cell? ⟨gb245, 3, none⟩ = some (.slice none 0 0) := (qe0 BK245.out 3).trans rfl
        have hcz30_4 : w11.cell? ⟨gb245, 4, none⟩ = some (.slice none 0 0) := (qe0 BK245.out 4).trans rfl
        have hfz30_0 := qb0 BK245.out 0
        have hfz30_1 := qb0 BK245.out 1
        have hfz30_2 := qb0 BK245.out 2
        have hfz30_3 := qb0 BK245.out 3
        have hfz30_4 := qb0 BK245.out 4
        go_wp2_with (first | ((with_reducible refine qs0 (f := 71) rfl ?_); refine qk1 (some 30) rfl rfl Try.func71 (by kernel_rfl) rfl #[.string ((rd_T52 l0 x23_2).f0)] rfl (by (try simp only [List.map_toArray, List.map_cons, List.map_nil]); first | done | rfl | (simp only [List.length_drop, List.length_take]; rfl)) ?_; (with_reducible refine (impl_NameOk.calls k2 ((rd_T52 l0 x23_2).f0) true _ A13.out).mono ?_); rintro e w' ⟨rfl, ⟨nd, rfl⟩⟩; refine ⟨_, rfl, ?_⟩) | ((with_reducible refine qz0 (N := 36) rfl ?_); (try (refine gate_guard (by rfl) ?_; dsimp only)); refine Kd.Z_look_op (base := w.heap.size) (ok := fun _ => True) kz115 115 rfl rfl _ _ 115 rfl kz115_K kz115_inj kz115_t false kz115_z mb243 x3_2 ((rd_T52 l0 x23_2).f0) rfl rfl (kz115_key ((rd_T52 l0 x23_2).f0) LMc15.out) ?aO (.bool ((mget x3_2 ((rd_T52 l0 x23_2).f0)).getD false)) rfl ?_; (case aO => exact (by (with_reducible repeat (first | apply Kd.Z_alloc | apply Kd.Z_drewN | apply Kd.Z_drew)); exact (Kd.Z_mono (Kd.Z_far (p := ⟨gb245, 4, none⟩) (Kd.Z_far (p := ⟨gb245, 3, none⟩) (Kd.Z_far (p := ⟨gb245, 2, none⟩) (Kd.Z_far (p := ⟨gb245, 1, none⟩) (Kd.Z_far (p := ⟨gb245, 0, none⟩) (Kd.Z_types HO_3.out BK245.out (by decide)) (fun _ hk => hk.2) (.string ((rd_T52 l0 x23_2).f0))) (fun _ hk => hk.2) (.int .i64 ((rd_T52 l0 x23_2).f1))) (fun _ hk => hk.2) (.bool ((rd_T52 l0 x23_2).f2))) (fun _ hk => hk.2) (.slice A244_3 ((rd_T52 l0 x23_2).f3).length c244_3)) (fun _ hk => hk.2) (.slice A244_4 ((rd_T52 l0 x23_2).f4).length c244_4)) (fun _ h_ => h_.1))))) | (go_at_call 100; (with_reducible refine (impl_between.calls ((rd_T52 l0 x23_2).f1) 1 1000000 false _ A18.out).mono ?_); rintro e w' ⟨rfl, ⟨nd, rfl⟩⟩))
        go_meet
        case rel => exact ⟨_, (true), (by first | rfl | (simp; done) | (simp [*]; done)), H', ⟨by have := HJ1.out; have := HK2.out; first | omega | exact Nat.le_refl _⟩, ⟨by (with_reducible repeat (first | apply Kd.Z_alloc | apply Kd.Z_drewN | apply Kd.Z_drew)); exact Kd.Z_mono (Kd.Z_far (p := ⟨gb245, 4, none⟩) (Kd.Z_far (p := ⟨gb245, 3, none⟩) (Kd.Z_far (p := ⟨gb245, 2, none⟩) (Kd.Z_far (p := ⟨gb245, 1, none⟩) (Kd.Z_far (p := ⟨gb245, 0, none⟩) (Kd.Z_types HO_3.out BK245.out (by decide)) (fun _ hk => hk.2) (.string ((rd_T52 l0 x23_2).f0))) (fun _ hk => hk.2) (.int .i64 ((rd_T52 l0 x23_2).f1))) (fun _ hk => hk.2) (.bool ((rd_T52 l0 x23_2).f2))) (fun _ hk => hk.2) (.slice A244_3 ((rd_T52 l0 x23_2).f3).length c244_3)) (fun _ hk => hk.2) (.slice A244_4 ((rd_T52 l0 x23_2).f4).length c244_4)) (fun _ hk => trivial)⟩, ⟨by (with_reducible repeat (first | refine qg0 ?_ _ | refine qh0 ?_ | refine qf0 ?_ _)); refine ql0 (cs := #[.string ((rd_T52 l0 x23_2).f0), .int .i64 ((rd_T52 l0 x23_2).f1), .bool ((rd_T52 l0 x23_2).f2), .slice A244_3 ((rd_T52 l0 x23_2).f3).length c244_3, .slice none 0 0]) ?_ 4 _ rfl; (with_reducible repeat (first | refine qg0 ?_ _ | refine qh0 ?_ | refine qf0 ?_ _)); refine ql0 (cs := #[.string ((rd_T52 l0 x23_2).f0), .int .i64 ((rd_T52 l0 x23_2).f1), .bool ((rd_T52 l0 x23_2).f2), .slice none 0 0, .slice none 0 0]) ?_ 3 _ rfl; (with_reducible repeat (first | refine qg0 ?_ _ | refine qh0 ?_ | refine qf0 ?_ _)); refine ql0 (cs := #[.string ((rd_T52 l0 x23_2).f0), .int .i64 ((rd_T52 l0 x23_2).f1), .bool false, .slice none 0 0, .slice none 0 0]) ?_ 2 _ rfl; (with_reducible repeat (first | refine qg0 ?_ _ | refine qh0 ?_ | refine qf0 ?_ _)); refine ql0 (cs := #[.string ((rd_T52 l0 x23_2).f0), .int .i64 0, .bool false, .slice none 0 0, .slice none 0 0]) ?_ 1 _ rfl; (with_reducible repeat (first | refine qg0 ?_ _ | refine qh0 ?_ | refine qf0 ?_ _)); refine ql0 (cs := #[.string (⟨#[]⟩ : ByteArray), .int .i64 0, .bool false, .slice none 0 0, .slice none 0 0]) ?_ 0 _ rfl; (with_reducible repeat (first | refine qg0 ?_ _ | refine qh0 ?_ | refine qf0 ?_ _)); exact BK245.out⟩, ⟨by repeat (first | (with_reducible first | exact HB.out | apply qc0 | apply qa0 | apply qd0 | refine qi0 ?_ GE245.out) | exact HB.out)⟩⟩
       replace c14 := Bool.eq_false_iff.mpr c14
       subst c14
       have H1 : (impl_ItemsOk.j2 k2 l0 x3_2 x23_2 l0 (l0.length : Int) x23_2 true ((rd_T52 l0 x23_2).f0) ((rd_T52 l0 x23_2).f1) ((rd_T52 l0 x23_2).f2) ((rd_T52 l0 x23_2).f3) ((rd_T52 l0 x23_2).f4)) = some r := by rw [if_neg (show ¬ (false = true) by decide)] at H; exact H
       clear H
       have H := H1
       clear H1
       have H' := Aside0.mk H
       clear H
       have hcz31_0 : w11.cell? ⟨gb245, 0, none⟩ = some (.string (⟨#[]⟩ : ByteArray)) := (qe0 BK245.out 0).trans rfl
       have hcz31_1 : w11.cell? ⟨gb245, 1, none⟩ = some (.int .i64 0) := (qe0 BK245.out 1).trans rfl
       have hcz31_2 : w11.cell? ⟨gb245, 2, none⟩ = some (.bool false) := (qe0 BK245.out 2).trans rfl
       have hcz31_3 : w11.cell? ⟨gb245, 3, none⟩ = some (.slice none 0 0) := (qe0 BK245.out 3).trans rfl
       have hcz31_4 : w11.cell? ⟨gb245, 4, none⟩ = some (.slice none 0 0) := (qe0 BK245.out 4).trans rfl
       have hfz31_0 := qb0 BK245.out 0
       have hfz31_1 := qb0 BK245.out 1
       have hfz31_2 := qb0 BK245.out 2
       have hfz31_3 := qb0 BK245.out 3
       have hfz31_4 := qb0 BK245.out 4
       go_wp2_with (first | ((with_reducible refine qs0 (f := 71) rfl ?_); refine qk1 (some 30) rfl rfl Try.func71 (by kernel_rfl) rfl #[.string ((rd_T52 l0 x23_2).f0)] rfl (by (try simp only [List.map_toArray, List.map_cons, List.map_nil]); first | done | rfl | (simp only [List.length_drop, List.length_take]; rfl)) ?_; (with_reducible refine (impl_NameOk.calls k2 ((rd_T52 l0 x23_2).f0) false _ A13.out).mono ?_); rintro e w' ⟨rfl, ⟨nd, rfl⟩⟩; refine ⟨_, rfl, ?_⟩))
       go_meet
       case rel => exact ⟨_, (true), (by first | rfl | (simp; done) | (simp [*]; done)), H', ⟨by have := HJ1.out; have := HK2.out; first | omega | exact Nat.le_refl _⟩, ⟨by (with_reducible repeat (first | apply Kd.Z_alloc | apply Kd.Z_drewN | apply Kd.Z_drew)); exact Kd.Z_mono (Kd.Z_far (p := ⟨gb245, 4, none⟩) (Kd.Z_far (p := ⟨gb245, 3, none⟩) (Kd.Z_far (p := ⟨gb245, 2, none⟩) (Kd.Z_far (p := ⟨gb245, 1, none⟩) (Kd.Z_far (p := ⟨gb245, 0, none⟩) (Kd.Z_types HO_3.out BK245.out (by decide)) (fun _ hk => hk.2) (.string ((rd_T52 l0 x23_2).f0))) (fun _ hk => hk.2) (.int .i64 ((rd_T52 l0 x23_2).f1))) (fun _ hk => hk.2) (.bool ((rd_T52 l0 x23_2).f2))) (fun _ hk => hk.2) (.slice A244_3 ((rd_T52 l0 x23_2).f3).length c244_3)) (fun _ hk => hk.2) (.slice A244_4 ((rd_T52 l0 x23_2).f4).length c244_4)) (fun _ hk => trivial)⟩, ⟨by (with_reducible repeat (first | refine qg0 ?_ _ | refine qh0 ?_ | refine qf0 ?_ _)); refine ql0 (cs := #[.string ((rd_T52 l0 x23_2).f0), .int .i64 ((rd_T52 l0 x23_2).f1), .bool ((rd_T52 l0 x23_2).f2), .slice A244_3 ((rd_T52 l0 x23_2).f3).length c244_3, .slice none 0 0]) ?_ 4 _ rfl; (with_reducible repeat (first | refine qg0 ?_ _ | refine qh0 ?_ | refine qf0 ?_ _)); refine ql0 (cs := #[.string ((rd_T52 l0 x23_2).f0), .int .i64 ((rd_T52 l0 x23_2).f1), .bool ((rd_T52 l0 x23_2).f2), .slice none 0 0, .slice none 0 0]) ?_ 3 _ rfl; (with_reducible repeat (first | refine qg0 ?_ _ | refine qh0 ?_ | refine qf0 ?_ _)); refine ql0 (cs := #[.string ((rd_T52 l0 x23_2).f0), .int .i64 ((rd_T52 l0 x23_2).f1), .bool false, .slice none 0 0, .slice none 0 0]) ?_ 2 _ rfl; (with_reducible repeat (first | refine qg0 ?_ _ | refine qh0 ?_ | refine qf0 ?_ _)); refine ql0 (cs := #[.string ((rd_T52 l0 x23_2).f0), .int .i64 0, .bool false, .slice none 0 0, .slice none 0 0]) ?_ 1 _ rfl; (with_reducible repeat (first | refine qg0 ?_ _ | refine qh0 ?_ | refine qf0 ?_ _)); refine ql0 (cs := #[.string (⟨#[]⟩ : ByteArray), .int .i64 0, .bool false, .slice none 0 0, .slice none 0 0]) ?_ 0 _ rfl; (with_reducible repeat (first | refine qg0 ?_ _ | refine qh0 ?_ | refine qf0 ?_ _)); exact BK245.out⟩, ⟨by repeat (first | (with_reducible first | exact HB.out | apply qc0 | apply qa0 | apply qd0 | refine qi0 ?_ GE245.out) | exact HB.out)⟩⟩
      case rest =>
       clear HC10
       try clear c1
       try clear c2
       try clear p2
       try clear q2
       try clear hx2
       try clear c3
       try clear c3b0
       try clear c3b1
       try clear c4
       try clear c7
       try clear c7b0
       try clear c8
       try clear c8b0
       try clear c9
       try clear c9b0
       try clear c14
       try clear c15
       try clear c16
       try clear c16b0
       try clear c19
       try clear c20
       try clear c20b0
       try clear c20b1
       try clear c22
       try clear c22b0
       try clear c22b1
       try clear c24
       try clear p24
       try clear q24
       try clear hx24
       try clear c25
       try clear c26
       try clear c26b0
       try clear c26b1
       try clear c26b2
       try clear hcz12_0
       try clear hcz12_1
       try clear hcz12_2
       try clear hcz12_3
       try clear hcz12_4
       try clear hcz17_0
       try clear hcz17_1
       try clear hcz17_2
       try clear hcz17_3
       try clear hcz17_4
       try clear hcz21_0
       try clear hcz21_1
       try clear hcz21_2
       try clear hcz21_3
       try clear hcz21_4
       try clear hcz23_0
       try clear hcz23_1
       try clear hcz23_2
       try clear hcz23_3
       try clear hcz23_4
       try clear hcz27_0
       try clear hcz27_1
       try clear hcz27_2
       try clear hcz27_3
       try clear hcz27_4
       try clear hcz28_0
       try clear hcz28_1
       try clear hcz28_2
       try clear hcz28_3
       try clear hcz28_4
       try clear hcz29_0
       try clear hcz29_1
       try clear hcz29_2
       try clear hcz29_3
       try clear hcz29_4
       try clear hcz30_0
       try clear hcz30_1
       try clear hcz30_2
       try clear hcz30_3
       try clear hcz30_4
       try clear hcz31_0
       try clear hcz31_1
       try clear hcz31_2
       try clear hcz31_3
       try clear hcz31_4
       try clear hfz12_0
       try clear hfz12_1
       try clear hfz12_2
       try clear hfz12_3
       try clear hfz12_4
       try clear hfz17_0
       try clear hfz17_1
       try clear hfz17_2
       try clear hfz17_3
       try clear hfz17_4
       try clear hfz21_0
       try clear hfz21_1
       try clear hfz21_2
       try clear hfz21_3
       try clear hfz21_4
       try clear hfz23_0
       try clear hfz23_1
       try clear hfz23_2
       try clear hfz23_3
       try clear hfz23_4
       try clear hfz27_0
       try clear hfz27_1
       try clear hfz27_2
       try clear hfz27_3
       try clear hfz27_4
       try clear hfz28_0
       try clear hfz28_1
       try clear hfz28_2
       try clear hfz28_3
       try clear hfz28_4
       try clear hfz29_0
       try clear hfz29_1
       try clear hfz29_2
       try clear hfz29_3
       try clear hfz29_4
       try clear hfz30_0
       try clear hfz30_1
       try clear hfz30_2
       try clear hfz30_3
       try clear hfz30_4
       try clear hfz31_0
       try clear hfz31_1
       try clear hfz31_2
       try clear hfz31_3
       try clear hfz31_4
       try clear hx244_0
       try clear hx244_1
       try clear hx244_2
       try clear hx244_3
       try clear hx244_4
       try clear p2
       try clear p244
       try clear q244
       obtain ⟨kq, x71_9, rfl, HA, HJ9, HO_3, BK245, HB⟩ := hcut
       cases kq with
       | zero => exact absurd HA.out (by simp [impl_ItemsOk.j2])
       | succ kj9 =>
        have H := HA.out
        clear HA
        simp only [impl_ItemsOk.j2] at H
        by_cases c32 : x71_9 = true
        ·subst c32
         have H1 : (some false) = some r := by rw [if_pos rfl] at H; exact H
         clear H
         have H := H1
         clear H1
         obtain rfl := Option.some.inj H
         go_wp2
         go_ret
         exact ⟨by first | rfl | (simp [errW_none, errW_some] <;> rfl) | (simp [*, errW_none, errW_some] <;> rfl), by repeat (first | (with_reducible first | exact HB.out | apply qc0 | apply qa0 | apply qd0 | refine qi0 ?_ GE245.out) | exact HB.out)⟩
        replace c32 := Bool.eq_false_iff.mpr c32
        subst c32
        have H1 : (if ((rd_T52 l0 x23_2).f0).size ≤ 9223372036854775807 then (impl_ItemsOk.l1 kj9 l0 (mset x3_2 ((rd_T52 l0 x23_2).f0) true) x23_2 l0 (l0.length : Int) x23_2 ((rd_T52 l0 x23_2).f3) (((rd_T52 l0 x23_2).f3).length : Int) 0 ((rd_T52 l0 x23_2).f0) ((rd_T52 l0 x23_2).f1) ((rd_T52 l0 x23_2).f2) ((rd_T52 l0 x23_2).f3) ((rd_T52 l0 x23_2).f4)) else (none)) = some r := by rw [if_neg (show ¬ (false = true) by decide)] at H; exact H
        clear H
        have H := H1
        clear H1
        by_cases c33 : ((rd_T52 l0 x23_2).f0).size ≤ 9223372036854775807
        case neg => rw [if_neg c33] at H; exact absurd H (by simp)
        rw [if_pos c33] at H
        have LMc33 := Aside0.mk c33
        clear c33
        obtain ⟨y248, hy248⟩ : ∃ y_ : List (ByteArray × Bool), y_ = (mset x3_2 ((rd_T52 l0 x23_2).f0) true) := ⟨_, rfl⟩
        replace H : (impl_ItemsOk.l1 kj9 l0 y248 x23_2 l0 (l0.length : Int) x23_2 ((rd_T52 l0 x23_2).f3) (((rd_T52 l0 x23_2).f3).length : Int) 0 ((rd_T52 l0 x23_2).f0) ((rd_T52 l0 x23_2).f1) ((rd_T52 l0 x23_2).f2) ((rd_T52 l0 x23_2).f3) ((rd_T52 l0 x23_2).f4)) = some r := by first | (rw [hy248]; with_reducible exact H) | (have H2_ := (Option.bind_some _ _).symm.trans H; rw [hy248]; with_reducible exact H2_) | (have H2_ := (Option.bind_some _ _).symm.trans H; with_reducible exact H2_) | with_reducible exact H | (rw [hy248]; exact H) | exact H
        have Ny248 := Aside0.mk hy248
        clear hy248
        have H' := Aside0.mk H
        clear H
        have hcz34_0 : wc.cell? ⟨gb245, 0, none⟩ = some (.string ((rd_T52 l0 x23_2).f0)) := (qe0 BK245.out 0).trans rfl
        have hcz34_1 : wc.cell? ⟨gb245, 1, none⟩ = some (.int .i64 ((rd_T52 l0 x23_2).f1)) := (qe0 BK245.out 1).trans rfl
        have hcz34_2 : wc.cell? ⟨gb245, 2, none⟩ = some (.bool ((rd_T52 l0 x23_2).f2)) := (qe0 BK245.out 2).trans rfl
        have hcz34_3 : wc.cell? ⟨gb245, 3, none⟩ = some (.slice A244_3 ((rd_T52 l0 x23_2).f3).length c244_3) := (qe0 BK245.out 3).trans rfl
        have hcz34_4 : wc.cell? ⟨gb245, 4, none⟩ = some (.slice A244_4 ((rd_T52 l0 x23_2).f4).length c244_4) := (qe0 BK245.out 4).trans rfl
        have hfz34_0 := qb0 BK245.out 0
        have hfz34_1 := qb0 BK245.out 1
        have hfz34_2 := qb0 BK245.out 2
        have hfz34_3 := qb0 BK245.out 3
        have hfz34_4 := qb0 BK245.out 4
        go_wp2_with (first | ((with_reducible refine gate_mapset (t := 115) rfl ?_); refine Kd.Z_set_op (base := w.heap.size) (ok := fun _ => True) kz115 115 rfl rfl _ _ _ 115 rfl rfl kz115_K kz115_inj kz115_t mb243 x3_2 ((rd_T52 l0 x23_2).f0) true rfl rfl rfl (kz115_key ((rd_T52 l0 x23_2).f0) LMc33.out) ?aO ?_; (case aO => exact (by (with_reducible repeat (first | apply Kd.Z_alloc | apply Kd.Z_drewN | apply Kd.Z_drew)); exact HO_3.out)); intro w35 ho_ hg hbb_ hz_; rw [← Ny248.out] at ho_; have n0_ := Aside0.mk (ho_); have n1_ := Aside0.mk (blk_grown (g := gb245) (o := .cells #[.string ((rd_T52 l0 x23_2).f0), .int .i64 ((rd_T52 l0 x23_2).f1), .bool ((rd_T52 l0 x23_2).f2), .slice A244_3 ((rd_T52 l0 x23_2).f3).length c244_3, .slice A244_4 ((rd_T52 l0 x23_2).f4).length c244_4] 52 (0, 0)) (by (with_reducible repeat (first | refine qg0 ?_ _ | refine qh0 ?_ | refine qf0 ?_ _)); exact BK245.out) hg (blk_neZ (by (with_reducible repeat (first | refine qg0 ?_ _ | refine qh0 ?_ | refine qf0 ?_ _)); exact BK245.out) hz_)); have n2_ := Aside0.mk (pw_below_grown (by repeat (first | (with_reducible first | exact HB.out | apply qc0 | apply qa0 | apply qd0 | refine qi0 ?_ GE245.out) | exact HB.out)) (some mb243) (qm0 (by repeat (first | (with_reducible first | exact HB.out | apply qc0 | apply qa0 | apply qd0 | refine qi0 ?_ GE245.out) | exact HB.out))) hg (fun k_ e_ => by cases e_; exact hbb_)); clear HO_3; clear BK245; clear HB; have HO_3 := n0_; have BK245 := n1_; have HB := n2_; clear n0_ n1_ n2_; clear ho_ hg hbb_ hz_; have hcz36_0 : w35.cell? ⟨gb245, 0, none⟩ = some (.string ((rd_T52 l0 x23_2).f0)) := (qe0 BK245.out 0).trans rfl; have hcz36_1 : w35.cell? ⟨gb245, 1, none⟩ = some (.int .i64 ((rd_T52 l0 x23_2).f1)) := (qe0 BK245.out 1).trans rfl; have hcz36_2 : w35.cell? ⟨gb245, 2, none⟩ = some (.bool ((rd_T52 l0 x23_2).f2)) := (qe0 BK245.out 2).trans rfl; have hcz36_3 : w35.cell? ⟨gb245, 3, none⟩ = some (.slice A244_3 ((rd_T52 l0 x23_2).f3).length c244_3) := (qe0 BK245.out 3).trans rfl; have hcz36_4 : w35.cell? ⟨gb245, 4, none⟩ = some (.slice A244_4 ((rd_T52 l0 x23_2).f4).length c244_4) := (qe0 BK245.out 4).trans rfl; have hfz36_0 := qb0 BK245.out 0; have hfz36_1 := qb0 BK245.out 1; have hfz36_2 := qb0 BK245.out 2; have hfz36_3 := qb0 BK245.out 3; have hfz36_4 := qb0 BK245.out 4))
        go_loopg [78] kj9 (fun kq v78 w' => ∃ (x78_4 : Int), v78 = .int .i64 x78_4 ∧ Aside0 (impl_ItemsOk.l1 kq l0 y248 x23_2 l0 (l0.length : Int) x23_2 ((rd_T52 l0 x23_2).f3) (((rd_T52 l0 x23_2).f3).length : Int) x78_4 ((rd_T52 l0 x23_2).f0) ((rd_T52 l0 x23_2).f1) ((rd_T52 l0 x23_2).f2) ((rd_T52 l0 x23_2).f3) ((rd_T52 l0 x23_2).f4) = some r) ∧ Aside0 (kq ≤ kj9) ∧ Aside0 (Kd.Z kz115 115 w' w.heap.size (fun _ => True) (.map (some mb243)) y248) ∧ Aside0 (w'.heap[gb245]? = some (.cells #[.string ((rd_T52 l0 x23_2).f0), .int .i64 ((rd_T52 l0 x23_2).f1), .bool ((rd_T52 l0 x23_2).f2), (.slice A244_3 ((rd_T52 l0 x23_2).f3).length c244_3), (.slice A244_4 ((rd_T52 l0 x23_2).f4).length c244_4)] 52 (0, 0))) ∧ Aside0 (Below w.heap.size w w'))
        case atStart => exact ⟨(0), (by first | rfl | (simp; done) | (simp [*]; done)), H', ⟨Nat.le_refl _⟩, ⟨by (with_reducible repeat (first | apply Kd.Z_alloc | apply Kd.Z_drewN | apply Kd.Z_drew)); exact HO_3.out⟩, ⟨by (with_reducible repeat (first | refine qg0 ?_ _ | refine qh0 ?_ | refine qf0 ?_ _)); exact BK245.out⟩, ⟨by repeat (first | (with_reducible first | exact HB.out | apply qc0 | apply qa0 | apply qd0 | refine qi0 ?_ GE245.out) | exact HB.out)⟩⟩
        case round =>
         clear H'
         try clear c1
         try clear c2
         try clear p2
         try clear q2
         try clear hx2
         try clear c3
         try clear c3b0
         try clear c3b1
         try clear c4
         try clear c7
         try clear c7b0
         try clear c8
         try clear c8b0
         try clear c9
         try clear c9b0
         try clear c14
         try clear c15
         try clear c16
         try clear c16b0
         try clear c19
         try clear c20
         try clear c20b0
         try clear c20b1
         try clear c22
         try clear c22b0
         try clear c22b1
         try clear c24
         try clear p24
         try clear q24
         try clear hx24
         try clear c25
         try clear c26
         try clear c26b0
         try clear c26b1
         try clear c26b2
         try clear c32
         try clear c33
         try clear hcz12_0
         try clear hcz12_1
         try clear hcz12_2
         try clear hcz12_3
         try clear hcz12_4
         try clear hcz17_0
         try clear hcz17_1
         try clear hcz17_2
         try clear hcz17_3
         try clear hcz17_4
         try clear hcz21_0
         try clear hcz21_1
         try clear hcz21_2
         try clear hcz21_3
         try clear hcz21_4
         try clear hcz23_0
         try clear hcz23_1
         try clear hcz23_2
         try clear hcz23_3
         try clear hcz23_4
         try clear hcz27_0
         try clear hcz27_1
         try clear hcz27_2
         try clear hcz27_3
         try clear hcz27_4
         try clear hcz28_0
         try clear hcz28_1
         try clear hcz28_2
         try clear hcz28_3
         try clear hcz28_4
         try clear hcz29_0
         try clear hcz29_1
         try clear hcz29_2
         try clear hcz29_3
         try clear hcz29_4
         try clear hcz30_0
         try clear hcz30_1
         try clear hcz30_2
         try clear hcz30_3
         try clear hcz30_4
         try clear hcz31_0
         try clear hcz31_1
         try clear hcz31_2
         try clear hcz31_3
         try clear hcz31_4
         try clear hcz34_0
         try clear hcz34_1
         try clear hcz34_2
         try clear hcz34_3
         try clear hcz34_4
         try clear hcz36_0
         try clear hcz36_1
         try clear hcz36_2
         try clear hcz36_3
         try clear hcz36_4
         try clear hfz12_0
         try clear hfz12_1
         try clear hfz12_2
         try clear hfz12_3
         try clear hfz12_4
         try clear hfz17_0
         try clear hfz17_1
         try clear hfz17_2
         try clear hfz17_3
         try clear hfz17_4
         try clear hfz21_0
         try clear hfz21_1
         try clear hfz21_2
         try clear hfz21_3
         try clear hfz21_4
         try clear hfz23_0
         try clear hfz23_1
         try clear hfz23_2
         try clear hfz23_3
         try clear hfz23_4
         try clear hfz27_0
         try clear hfz27_1
         try clear hfz27_2
         try clear hfz27_3
         try clear hfz27_4
         try clear hfz28_0
         try clear hfz28_1
         try clear hfz28_2
         try clear hfz28_3
         try clear hfz28_4
         try clear hfz29_0
         try clear hfz29_1
         try clear hfz29_2
         try clear hfz29_3
         try clear hfz29_4
         try clear hfz30_0
         try clear hfz30_1
         try clear hfz30_2
         try clear hfz30_3
         try clear hfz30_4
         try clear hfz31_0
         try clear hfz31_1
         try clear hfz31_2
         try clear hfz31_3
         try clear hfz31_4
         try clear hfz34_0
         try clear hfz34_1
         try clear hfz34_2
         try clear hfz34_3
         try clear hfz34_4
         try clear hfz36_0
         try clear hfz36_1
         try clear hfz36_2
         try clear hfz36_3
         try clear hfz36_4
         try clear hx244_0
         try clear hx244_1
         try clear hx244_2
         try clear hx244_3
         try clear hx244_4
         try clear p2
         try clear p24
         try clear p244
         try clear q2
         try clear q24
         try clear q244
         obtain ⟨x78_4, rfl, HA, HK4, HO_3, BK245, HB⟩ := hrel
         cases gk with
         | zero => exact absurd HA.out (by simp [impl_ItemsOk.l1])
         | succ k4 =>
          have H := HA.out
          clear HA
          simp only [impl_ItemsOk.l1] at H
          by_cases c37 : x78_4 < (((rd_T52 l0 x23_2).f3).length : Int)
          ·rw [if_pos c37] at H
           have c37b0 : decide (x78_4 < (((rd_T52 l0 x23_2).f3).length : Int)) = true := decide_eq_true c37
           clear c37
           by_cases c38 : 0 ≤ x78_4
           case neg => rw [if_neg c38] at H; exact absurd H (by simp)
           rw [if_pos c38] at H
           have c38b0 : decide (0 ≤ x78_4) = true := decide_eq_true c38
           clear c38
           by_cases c39 : x78_4 < (((rd_T52 l0 x23_2).f3).length : Int)
           case neg => rw [if_neg c39] at H; exact absurd H (by simp)
           rw [if_pos c39] at H
           have c39b0 : decide (x78_4 < (((rd_T52 l0 x23_2).f3).length : Int)) = true := decide_eq_true c39
           clear c39
           replace H := Option.bind_eq_some_iff.mp H
           obtain ⟨t251, A400, H⟩ := H
           replace H : (if t251 = true then (impl_ItemsOk.l1 k4 l0 y248 x23_2 l0 (l0.length : Int) x23_2 ((rd_T52 l0 x23_2).f3) (((rd_T52 l0 x23_2).f3).length : Int) (wrap64 (x78_4 + 1)) ((rd_T52 l0 x23_2).f0) ((rd_T52 l0 x23_2).f1) ((rd_T52 l0 x23_2).f2) ((rd_T52 l0 x23_2).f3) ((rd_T52 l0 x23_2).f4)) else (some false)) = some r := H
           have A40 := Aside0.mk A400
           clear A400
           by_cases c41 : t251 = true
           ·subst c41
            have H1 : (impl_ItemsOk.l1 k4 l0 y248 x23_2 l0 (l0.length : Int) x23_2 ((rd_T52 l0 x23_2).f3) (((rd_T52 l0 x23_2).f3).length : Int) (wrap64 (x78_4 + 1)) ((rd_T52 l0 x23_2).f0) ((rd_T52 l0 x23_2).f1) ((rd_T52 l0 x23_2).f2) ((rd_T52 l0 x23_2).f3) ((rd_T52 l0 x23_2).f4)) = some r := by rw [if_pos rfl] at H; exact H
            clear H
            have H := H1
            clear H1
            have H' := Aside0.mk H
            clear H
            have p249 : 0 ≤ (x78_4 : Int) := of_decide_eq_true (by first | (with_reducible assumption) | assumption)
            have q249 : x78_4 < (((rd_T52 l0 x23_2).f3).length : Int) := of_decide_eq_true (by first | (with_reducible assumption) | assumption)
            obtain ⟨ad249, e249, hx249_0, hx249_1, hx249_2, hx249_3, hx249_4, hx249_5⟩ := at_T54 HR244_3.out x78_4 p249 q249
            cases e249
            replace hx249_0 := (HB.out.cell (World.block_lt_of_cell? w _ hx249_0)).trans hx249_0
            replace hx249_1 := (HB.out.cell (World.block_lt_of_cell? w _ hx249_1)).trans hx249_1
            replace hx249_2 := (HB.out.cell (World.block_lt_of_cell? w _ hx249_2)).trans hx249_2
            replace hx249_3 := (HB.out.cell (World.block_lt_of_cell? w _ hx249_3)).trans hx249_3
            replace hx249_4 := (HB.out.cell (World.block_lt_of_cell? w _ hx249_4)).trans hx249_4
            replace hx249_5 := (HB.out.cell (World.block_lt_of_cell? w _ hx249_5)).trans hx249_5
            replace p249 := eq_true p249
            replace q249 := eq_true q249
            go_wp2_with (first | ((with_reducible refine qz0 (N := 7) rfl ?_); (try (refine gate_guard (by rfl) ?_; dsimp only)); refine qg1 ?hg (N := 7) ?hd (cs := #[.int .i64 0, .int .i64 0, .int .i64 0, .int .i64 0, .int .i64 0, .int .i64 0]) (t := 54) ?hr ?_; (case hd => rfl); (case hg => rfl); (case hr => first | (go_simp; done) | (go_simp; rfl)); intro gb250 hg w42 hbox hb; have n0_ := Aside0.mk (Kd.Z_below (by (with_reducible repeat (first | apply Kd.Z_alloc | apply Kd.Z_drewN | apply Kd.Z_drew)); exact HO_3.out) hb); have n1_ := Aside0.mk (qh1 (g := gb245) (o := .cells #[.string ((rd_T52 l0 x23_2).f0), .int .i64 ((rd_T52 l0 x23_2).f1), .bool ((rd_T52 l0 x23_2).f2), .slice (some ad249) ((rd_T52 l0 x23_2).f3).length c244_3, .slice A244_4 ((rd_T52 l0 x23_2).f4).length c244_4] 52 (0, 0)) (by (with_reducible repeat (first | refine qg0 ?_ _ | refine qh0 ?_ | refine qf0 ?_ _)); exact BK245.out) hb); have n2_ := Aside0.mk (qk0 (by repeat (first | (with_reducible first | exact HB.out | apply qc0 | apply qa0 | apply qd0 | refine qi0 ?_ GE245.out) | exact HB.out)) hb); have n3_ := Aside0.mk (hbox); have n4_ := Aside0.mk ((by rw [hg]; exact (qm0 (by repeat (first | (with_reducible first | exact HB.out | apply qc0 | apply qa0 | apply qd0 | refine qi0 ?_ GE245.out) | exact HB.out))) : w.heap.size ≤ gb250)); have n5_ := Aside0.mk ((by rw [hg]; exact (qm0 (by repeat (first | (with_reducible first | exact HB.out | apply qc0 | apply qa0 | apply qd0 | refine qi0 ?_ GE245.out) | exact HB.out))) : w.heap.size ≤ gb250)); have n6_ := Aside0.mk ((by rw [hg]; exact Nat.ne_of_lt (qz1 (g := gb245) (o := .cells #[.string ((rd_T52 l0 x23_2).f0), .int .i64 ((rd_T52 l0 x23_2).f1), .bool ((rd_T52 l0 x23_2).f2), .slice (some ad249) ((rd_T52 l0 x23_2).f3).length c244_3, .slice A244_4 ((rd_T52 l0 x23_2).f4).length c244_4] 52 (0, 0)) (by (with_reducible repeat (first | refine qg0 ?_ _ | refine qh0 ?_ | refine qf0 ?_ _)); exact BK245.out)) : gb245 ≠ gb250)); have n7_ := Aside0.mk ((by rw [hg]; exact Nat.ne_of_gt (qz1 (g := gb245) (o := .cells #[.string ((rd_T52 l0 x23_2).f0), .int .i64 ((rd_T52 l0 x23_2).f1), .bool ((rd_T52 l0 x23_2).f2), .slice (some ad249) ((rd_T52 l0 x23_2).f3).length c244_3, .slice A244_4 ((rd_T52 l0 x23_2).f4).length c244_4] 52 (0, 0)) (by (with_reducible repeat (first | refine qg0 ?_ _ | refine qh0 ?_ | refine qf0 ?_ _)); exact BK245.out)) : gb250 ≠ gb245)); clear HO_3; clear BK245; clear HB; have HO_3 := n0_; have BK245 := n1_; have HB := n2_; have BK250 := n3_; have GW250 := n4_; have GE250 := n5_; have NB245_250 := n6_; have NB250_245 := n7_; clear n0_ n1_ n2_ n3_ n4_ n5_ n6_ n7_; clear hb hbox hg; have hnb43 := NB250_245.out; have hnc43 := NB245_250.out; have hcz44_0 : w42.cell? ⟨gb250, 0, none⟩ = some (.int .i64 0) := (qe0 BK250.out 0).trans rfl; have hcz44_1 : w42.cell? ⟨gb250, 1, none⟩ = some (.int .i64 0) := (qe0 BK250.out 1).trans rfl; have hcz44_2 : w42.cell? ⟨gb250, 2, none⟩ = some (.int .i64 0) := (qe0 BK250.out 2).trans rfl; have hcz44_3 : w42.cell? ⟨gb250, 3, none⟩ = some (.int .i64 0) := (qe0 BK250.out 3).trans rfl; have hcz44_4 : w42.cell? ⟨gb250, 4, none⟩ = some (.int .i64 0) := (qe0 BK250.out 4).trans rfl; have hcz44_5 : w42.cell? ⟨gb250, 5, none⟩ = some (.int .i64 0) := (qe0 BK250.out 5).trans rfl; have hfz44_0 := qb0 BK250.out 0; have hfz44_1 := qb0 BK250.out 1; have hfz44_2 := qb0 BK250.out 2; have hfz44_3 := qb0 BK250.out 3; have hfz44_4 := qb0 BK250.out 4; have hfz44_5 := qb0 BK250.out 5) | ((with_reducible refine qs0 (f := 138) rfl ?_); refine qk1 (some 86) rfl rfl Try.func138 (by kernel_rfl) rfl #[.agg #[.int .i64 ((rd_T54 ((rd_T52 l0 x23_2).f3) x78_4).f0), .int .i64 ((rd_T54 ((rd_T52 l0 x23_2).f3) x78_4).f1), .int .i64 ((rd_T54 ((rd_T52 l0 x23_2).f3) x78_4).f2), .int .i64 ((rd_T54 ((rd_T52 l0 x23_2).f3) x78_4).f3), .int .i64 ((rd_T54 ((rd_T52 l0 x23_2).f3) x78_4).f4), .int .i64 ((rd_T54 ((rd_T52 l0 x23_2).f3) x78_4).f5)], .int .i64 x23_2, .int .i64 (l0.length : Int), .bool false] rfl (by (try simp only [List.map_toArray, List.map_cons, List.map_nil]); first | done | rfl | (simp only [List.length_drop, List.length_take]; rfl)) ?_; (with_reducible refine (impl_partOk.calls ((rd_T54 ((rd_T52 l0 x23_2).f3) x78_4).f0) ((rd_T54 ((rd_T52 l0 x23_2).f3) x78_4).f1) ((rd_T54 ((rd_T52 l0 x23_2).f3) x78_4).f2) ((rd_T54 ((rd_T52 l0 x23_2).f3) x78_4).f3) ((rd_T54 ((rd_T52 l0 x23_2).f3) x78_4).f4) ((rd_T54 ((rd_T52 l0 x23_2).f3) x78_4).f5) x23_2 (l0.length : Int) false true _ A40.out).mono ?_); rintro e w45 ⟨rfl, hb⟩; refine ⟨_, rfl, ?_⟩; have n0_ := Aside0.mk (Kd.Z_below (by (with_reducible repeat (first | apply Kd.Z_alloc | apply Kd.Z_drewN | apply Kd.Z_drew)); exact (Kd.Z_mono (Kd.Z_far (p := ⟨gb250, 5, none⟩) (Kd.Z_far (p := ⟨gb250, 4, none⟩) (Kd.Z_far (p := ⟨gb250, 3, none⟩) (Kd.Z_far (p := ⟨gb250, 2, none⟩) (Kd.Z_far (p := ⟨gb250, 1, none⟩) (Kd.Z_far (p := ⟨gb250, 0, none⟩) (Kd.Z_types HO_3.out BK250.out (by decide)) (fun _ hk => hk.2) (.int .i64 ((rd_T54 ((rd_T52 l0 x23_2).f3) x78_4).f0))) (fun _ hk => hk.2) (.int .i64 ((rd_T54 ((rd_T52 l0 x23_2).f3) x78_4).f1))) (fun _ hk => hk.2) (.int .i64 ((rd_T54 ((rd_T52 l0 x23_2).f3) x78_4).f2))) (fun _ hk => hk.2) (.int .i64 ((rd_T54 ((rd_T52 l0 x23_2).f3) x78_4).f3))) (fun _ hk => hk.2) (.int .i64 ((rd_T54 ((rd_T52 l0 x23_2).f3) x78_4).f4))) (fun _ hk => hk.2) (.int .i64 ((rd_T54 ((rd_T52 l0 x23_2).f3) x78_4).f5))) (fun _ h_ => h_.1))) hb); have n1_ := Aside0.mk (qh1 (g := gb245) (o := .cells #[.string ((rd_T52 l0 x23_2).f0), .int .i64 ((rd_T52 l0 x23_2).f1), .bool ((rd_T52 l0 x23_2).f2), .slice (some ad249) ((rd_T52 l0 x23_2).f3).length c244_3, .slice A244_4 ((rd_T52 l0 x23_2).f4).length c244_4] 52 (0, 0)) (by (with_reducible repeat (first | refine qg0 ?_ _ | refine qh0 ?_ | refine qf0 ?_ _)); refine qe1 ?_ NB245_250.out _; (with_reducible repeat (first | refine qg0 ?_ _ | refine qh0 ?_ | refine qf0 ?_ _)); refine qe1 ?_ NB245_250.out _; (with_reducible repeat (first | refine qg0 ?_ _ | refine qh0 ?_ | refine qf0 ?_ _)); refine qe1 ?_ NB245_250.out _; (with_reducible repeat (first | refine qg0 ?_ _ | refine qh0 ?_ | refine qf0 ?_ _)); refine qe1 ?_ NB245_250.out _; (with_reducible repeat (first | refine qg0 ?_ _ | refine qh0 ?_ | refine qf0 ?_ _)); refine qe1 ?_ NB245_250.out _; (with_reducible repeat (first | refine qg0 ?_ _ | refine qh0 ?_ | refine qf0 ?_ _)); refine qe1 ?_ NB245_250.out _; (with_reducible repeat (first | refine qg0 ?_ _ | refine qh0 ?_ | refine qf0 ?_ _)); exact BK245.out) hb); have n2_ := Aside0.mk (qh1 (g := gb250) (o := .cells #[.int .i64 ((rd_T54 ((rd_T52 l0 x23_2).f3) x78_4).f0), .int .i64 ((rd_T54 ((rd_T52 l0 x23_2).f3) x78_4).f1), .int .i64 ((rd_T54 ((rd_T52 l0 x23_2).f3) x78_4).f2), .int .i64 ((rd_T54 ((rd_T52 l0 x23_2).f3) x78_4).f3), .int .i64 ((rd_T54 ((rd_T52 l0 x23_2).f3) x78_4).f4), .int .i64 ((rd_T54 ((rd_T52 l0 x23_2).f3) x78_4).f5)] 54 (0, 0)) (by (with_reducible repeat (first | refine qg0 ?_ _ | refine qh0 ?_ | refine qf0 ?_ _)); refine ql0 (cs := #[.int .i64 ((rd_T54 ((rd_T52 l0 x23_2).f3) x78_4).f0), .int .i64 ((rd_T54 ((rd_T52 l0 x23_2).f3) x78_4).f1), .int .i64 ((rd_T54 ((rd_T52 l0 x23_2).f3) x78_4).f2), .int .i64 ((rd_T54 ((rd_T52 l0 x23_2).f3) x78_4).f3), .int .i64 ((rd_T54 ((rd_T52 l0 x23_2).f3) x78_4).f4), .int .i64 0]) ?_ 5 _ rfl; (with_reducible repeat (first | refine qg0 ?_ _ | refine qh0 ?_ | refine qf0 ?_ _)); refine ql0 (cs := #[.int .i64 ((rd_T54 ((rd_T52 l0 x23_2).f3) x78_4).f0), .int .i64 ((rd_T54 ((rd_T52 l0 x23_2).f3) x78_4).f1), .int .i64 ((rd_T54 ((rd_T52 l0 x23_2).f3) x78_4).f2), .int .i64 ((rd_T54 ((rd_T52 l0 x23_2).f3) x78_4).f3), .int .i64 0, .int .i64 0]) ?_ 4 _ rfl; (with_reducible repeat (first | refine qg0 ?_ _ | refine qh0 ?_ | refine qf0 ?_ _)); refine ql0 (cs := #[.int .i64 ((rd_T54 ((rd_T52 l0 x23_2).f3) x78_4).f0), .int .i64 ((rd_T54 ((rd_T52 l0 x23_2).f3) x78_4).f1), .int .i64 ((rd_T54 ((rd_T52 l0 x23_2).f3) x78_4).f2), .int .i64 0, .int .i64 0, .int .i64 0]) ?_ 3 _ rfl; (with_reducible repeat (first | refine qg0 ?_ _ | refine qh0 ?_ | refine qf0 ?_ _)); refine ql0 (cs := #[.int .i64 ((rd_T54 ((rd_T52 l0 x23_2).f3) x78_4).f0), .int .i64 ((rd_T54 ((rd_T52 l0 x23_2).f3) x78_4).f1), .int .i64 0, .int .i64 0, .int .i64 0, .int .i64 0]) ?_ 2 _ rfl; (with_reducible repeat (first | refine qg0 ?_ _ | refine qh0 ?_ | refine qf0 ?_ _)); refine ql0 (cs := #[.int .i64 ((rd_T54 ((rd_T52 l0 x23_2).f3) x78_4).f0), .int .i64 0, .int .i64 0, .int .i64 0, .int .i64 0, .int .i64 0]) ?_ 1 _ rfl; (with_reducible repeat (first | refine qg0 ?_ _ | refine qh0 ?_ | refine qf0 ?_ _)); refine ql0 (cs := #[.int .i64 0, .int .i64 0, .int .i64 0, .int .i64 0, .int .i64 0, .int .i64 0]) ?_ 0 _ rfl; (with_reducible repeat (first | refine qg0 ?_ _ | refine qh0 ?_ | refine qf0 ?_ _)); exact BK250.out) hb); have n3_ := Aside0.mk (qk0 (by repeat (first | (with_reducible first | exact HB.out | apply qc0 | apply qa0 | apply qd0 | refine qi0 ?_ GE245.out | refine qi0 ?_ GE250.out) | exact HB.out)) hb); clear HO_3; clear BK245; clear BK250; clear HB; have HO_3 := n0_; have BK245 := n1_; have BK250 := n2_; have HB := n3_; clear n0_ n1_ n2_ n3_; (try clear hb); (try clear hb2); (try clear hk); (try clear hi)))
            go_roundg k4
            case measure => have := HJ1.out; have := HK2.out; have := HJ9.out; have := HK4.out; omega
            case rel => exact ⟨(wrap64 (x78_4 + 1)), (by first | rfl | (simp; done) | (simp [*]; done)), H', ⟨by have := HJ1.out; have := HK2.out; have := HJ9.out; have := HK4.out; omega⟩, ⟨by (with_reducible repeat (first | apply Kd.Z_alloc | apply Kd.Z_drewN | apply Kd.Z_drew)); exact HO_3.out⟩, ⟨by (with_reducible repeat (first | refine qg0 ?_ _ | refine qh0 ?_ | refine qf0 ?_ _)); exact BK245.out⟩, ⟨by repeat (first | (with_reducible first | exact HB.out | apply qc0 | apply qa0 | apply qd0 | refine qi0 ?_ GE245.out | refine qi0 ?_ GE250.out) | exact HB.out)⟩⟩
           replace c41 := Bool.eq_false_iff.mpr c41
           subst c41
           have H1 : (some false) = some r := by rw [if_neg (show ¬ (false = true) by decide)] at H; exact H
           clear H
           have H := H1
           clear H1
           obtain rfl := Option.some.inj H
           have p249 : 0 ≤ (x78_4 : Int) := of_decide_eq_true (by first | (with_reducible assumption) | assumption)
           have q249 : x78_4 < (((rd_T52 l0 x23_2).f3).length : Int) := of_decide_eq_true (by first | (with_reducible assumption) | assumption)
           obtain ⟨ad249, e249, hx249_0, hx249_1, hx249_2, hx249_3, hx249_4, hx249_5⟩ := at_T54 HR244_3.out x78_4 p249 q249
           cases e249
           replace hx249_0 := (HB.out.cell (World.block_lt_of_cell? w _ hx249_0)).trans hx249_0
           replace hx249_1 := (HB.out.cell (World.block_lt_of_cell? w _ hx249_1)).trans hx249_1
           replace hx249_2 := (HB.out.cell (World.block_lt_of_cell? w _ hx249_2)).trans hx249_2
           replace hx249_3 := (HB.out.cell (World.block_lt_of_cell? w _ hx249_3)).trans hx249_3
           replace hx249_4 := (HB.out.cell (World.block_lt_of_cell? w _ hx249_4)).trans hx249_4
           replace hx249_5 := (HB.out.cell (World.block_lt_of_cell? w _ hx249_5)).trans hx249_5
           replace p249 := eq_true p249
           replace q249 := eq_true q249
           go_wp2_with (first | ((with_reducible refine qz0 (N := 7) rfl ?_); (try (refine gate_guard (by rfl) ?_; dsimp only)); refine qg1 ?hg (N := 7) ?hd (cs := #[.int .i64 0, .int .i64 0, .int .i64 0, .int .i64 0, .int .i64 0, .int .i64 0]) (t := 54) ?hr ?_; (case hd => rfl); (case hg => rfl); (case hr => first | (go_simp; done) | (go_simp; rfl)); intro gb250 hg w46 hbox hb; have n0_ := Aside0.mk (Kd.Z_below (by (with_reducible repeat (first | apply Kd.Z_alloc | apply Kd.Z_drewN | apply Kd.Z_drew)); exact HO_3.out) hb); have n1_ := Aside0.mk (qh1 (g := gb245) (o := .cells #[.string ((rd_T52 l0 x23_2).f0), .int .i64 ((rd_T52 l0 x23_2).f1), .bool ((rd_T52 l0 x23_2).f2), .slice (some ad249) ((rd_T52 l0 x23_2).f3).length c244_3, .slice A244_4 ((rd_T52 l0 x23_2).f4).length c244_4] 52 (0, 0)) (by (with_reducible repeat (first | refine qg0 ?_ _ | refine qh0 ?_ | refine qf0 ?_ _)); exact BK245.out) hb); have n2_ := Aside0.mk (qk0 (by repeat (first | (with_reducible first | exact HB.out | apply qc0 | apply qa0 | apply qd0 | refine qi0 ?_ GE245.out) | exact HB.out)) hb); have n3_ := Aside0.mk (hbox); have n4_ := Aside0.mk ((by rw [hg]; exact (qm0 (by repeat (first | (with_reducible first | exact HB.out | apply qc0 | apply qa0 | apply qd0 | refine qi0 ?_ GE245.out) | exact HB.out))) : w.heap.size ≤ gb250)); have n5_ := Aside0.mk ((by rw [hg]; exact (qm0 (by repeat (first | (with_reducible first | exact HB.out | apply qc0 | apply qa0 | apply qd0 | refine qi0 ?_ GE245.out) | exact HB.out))) : w.heap.size ≤ gb250)); have n6_ := Aside0.mk ((by rw [hg]; exact Nat.ne_of_lt (qz1 (g := gb245) (o := .cells #[.string ((rd_T52 l0 x23_2).f0), .int .i64 ((rd_T52 l0 x23_2).f1), .bool ((rd_T52 l0 x23_2).f2), .slice (some ad249) ((rd_T52 l0 x23_2).f3).length c244_3, .slice A244_4 ((rd_T52 l0 x23_2).f4).length c244_4] 52 (0, 0)) (by (with_reducible repeat (first | refine qg0 ?_ _ | refine qh0 ?_ | refine qf0 ?_ _)); exact BK245.out)) : gb245 ≠ gb250)); have n7_ := Aside0.mk ((by rw [hg]; exact Nat.ne_of_gt (qz1 (g := gb245) (o := .cells #[.string ((rd_T52 l0 x23_2).f0), .int .i64 ((rd_T52 l0 x23_2).f1), .bool ((rd_T52 l0 x23_2).f2), .slice (some ad249) ((rd_T52 l0 x23_2).f3).length c244_3, .slice A244_4 ((rd_T52 l0 x23_2).f4).length c244_4] 52 (0, 0)) (by (with_reducible repeat (first | refine qg0 ?_ _ | refine qh0 ?_ | refine qf0 ?_ _)); exact BK245.out)) : gb250 ≠ gb245)); clear HO_3; clear BK245; clear HB; have HO_3 := n0_; have BK245 := n1_; have HB := n2_; have BK250 := n3_; have GW250 := n4_; have GE250 := n5_; have NB245_250 := n6_; have NB250_245 := n7_; clear n0_ n1_ n2_ n3_ n4_ n5_ n6_ n7_; clear hb hbox hg; have hnb47 := NB250_245.out; have hnc47 := NB245_250.out; have hcz48_0 : w46.cell? ⟨gb250, 0, none⟩ = some (.int .i64 0) := (qe0 BK250.out 0).trans rfl; have hcz48_1 : w46.cell? ⟨gb250, 1, none⟩ = some (.int .i64 0) := (qe0 BK250.out 1).trans rfl; have hcz48_2 : w46.cell? ⟨gb250, 2, none⟩ = some (.int .i64 0) := (qe0 BK250.out 2).trans rfl; have hcz48_3 : w46.cell? ⟨gb250, 3, none⟩ = some (.int .i64 0) := (qe0 BK250.out 3).trans rfl; have hcz48_4 : w46.cell? ⟨gb250, 4, none⟩ = some (.int .i64 0) := (qe0 BK250.out 4).trans rfl; have hcz48_5 : w46.cell? ⟨gb250, 5, none⟩ = some (.int .i64 0) := (qe0 BK250.out 5).trans rfl; have hfz48_0 := qb0 BK250.out 0; have hfz48_1 := qb0 BK250.out 1; have hfz48_2 := qb0 BK250.out 2; have hfz48_3 := qb0 BK250.out 3; have hfz48_4 := qb0 BK250.out 4; have hfz48_5 := qb0 BK250.out 5) | ((with_reducible refine qs0 (f := 138) rfl ?_); refine qk1 (some 86) rfl rfl Try.func138 (by kernel_rfl) rfl #[.agg #[.int .i64 ((rd_T54 ((rd_T52 l0 x23_2).f3) x78_4).f0), .int .i64 ((rd_T54 ((rd_T52 l0 x23_2).f3) x78_4).f1), .int .i64 ((rd_T54 ((rd_T52 l0 x23_2).f3) x78_4).f2), .int .i64 ((rd_T54 ((rd_T52 l0 x23_2).f3) x78_4).f3), .int .i64 ((rd_T54 ((rd_T52 l0 x23_2).f3) x78_4).f4), .int .i64 ((rd_T54 ((rd_T52 l0 x23_2).f3) x78_4).f5)], .int .i64 x23_2, .int .i64 (l0.length : Int), .bool false] rfl (by (try simp only [List.map_toArray, List.map_cons, List.map_nil]); first | done | rfl | (simp only [List.length_drop, List.length_take]; rfl)) ?_; (with_reducible refine (impl_partOk.calls ((rd_T54 ((rd_T52 l0 x23_2).f3) x78_4).f0) ((rd_T54 ((rd_T52 l0 x23_2).f3) x78_4).f1) ((rd_T54 ((rd_T52 l0 x23_2).f3) x78_4).f2) ((rd_T54 ((rd_T52 l0 x23_2).f3) x78_4).f3) ((rd_T54 ((rd_T52 l0 x23_2).f3) x78_4).f4) ((rd_T54 ((rd_T52 l0 x23_2).f3) x78_4).f5) x23_2 (l0.length : Int) false false _ A40.out).mono ?_); rintro e w49 ⟨rfl, hb⟩; refine ⟨_, rfl, ?_⟩; have n0_ := Aside0.mk (Kd.Z_below (by (with_reducible repeat (first | apply Kd.Z_alloc | apply Kd.Z_drewN | apply Kd.Z_drew)); exact (Kd.Z_mono (Kd.Z_far (p := ⟨gb250, 5, none⟩) (Kd.Z_far (p := ⟨gb250, 4, none⟩) (Kd.Z_far (p := ⟨gb250, 3, none⟩) (Kd.Z_far (p := ⟨gb250, 2, none⟩) (Kd.Z_far (p := ⟨gb250, 1, none⟩) (Kd.Z_far (p := ⟨gb250, 0, none⟩) (Kd.Z_types HO_3.out BK250.out (by decide)) (fun _ hk => hk.2) (.int .i64 ((rd_T54 ((rd_T52 l0 x23_2).f3) x78_4).f0))) (fun _ hk => hk.2) (.int .i64 ((rd_T54 ((rd_T52 l0 x23_2).f3) x78_4).f1))) (fun _ hk => hk.2) (.int .i64 ((rd_T54 ((rd_T52 l0 x23_2).f3) x78_4).f2))) (fun _ hk => hk.2) (.int .i64 ((rd_T54 ((rd_T52 l0 x23_2).f3) x78_4).f3))) (fun _ hk => hk.2) (.int .i64 ((rd_T54 ((rd_T52 l0 x23_2).f3) x78_4).f4))) (fun _ hk => hk.2) (.int .i64 ((rd_T54 ((rd_T52 l0 x23_2).f3) x78_4).f5))) (fun _ h_ => h_.1))) hb); have n1_ := Aside0.mk (qh1 (g := gb245) (o := .cells #[.string ((rd_T52 l0 x23_2).f0), .int .i64 ((rd_T52 l0 x23_2).f1), .bool ((rd_T52 l0 x23_2).f2), .slice (some ad249) ((rd_T52 l0 x23_2).f3).length c244_3, .slice A244_4 ((rd_T52 l0 x23_2).f4).length c244_4] 52 (0, 0)) (by (with_reducible repeat (first | refine qg0 ?_ _ | refine qh0 ?_ | refine qf0 ?_ _)); refine qe1 ?_ NB245_250.out _; (with_reducible repeat (first | refine qg0 ?_ _ | refine qh0 ?_ | refine qf0 ?_ _)); refine qe1 ?_ NB245_250.out _; (with_reducible repeat (first | refine qg0 ?_ _ | refine qh0 ?_ | refine qf0 ?_ _)); refine qe1 ?_ NB245_250.out _; (with_reducible repeat (first | refine qg0 ?_ _ | refine qh0 ?_ | refine qf0 ?_ _)); refine qe1 ?_ NB245_250.out _; (with_reducible repeat (first | refine qg0 ?_ _ | refine qh0 ?_ | refine qf0 ?_ _)); refine qe1 ?_ NB245_250.out _; (with_reducible repeat (first | refine qg0 ?_ _ | refine qh0 ?_ | refine qf0 ?_ _)); refine qe1 ?_ NB245_250.out _; (with_reducible repeat (first | refine qg0 ?_ _ | refine qh0 ?_ | refine qf0 ?_ _)); exact BK245.out) hb); have n2_ := Aside0.mk (qh1 (g := gb250) (o := .cells #[.int .i64 ((rd_T54 ((rd_T52 l0 x23_2).f3) x78_4).f0), .int .i64 ((rd_T54 ((rd_T52 l0 x23_2).f3) x78_4).f1), .int .i64 ((rd_T54 ((rd_T52 l0 x23_2).f3) x78_4).f2), .int .i64 ((rd_T54 ((rd_T52 l0 x23_2).f3) x78_4).f3), .int .i64 ((rd_T54 ((rd_T52 l0 x23_2).f3) x78_4).f4), .int .i64 ((rd_T54 ((rd_T52 l0 x23_2).f3) x78_4).f5)] 54 (0, 0)) (by (with_reducible repeat (first | refine qg0 ?_ _ | refine qh0 ?_ | refine qf0 ?_ _)); refine ql0 (cs := #[.int .i64 ((rd_T54 ((rd_T52 l0 x23_2).f3) x78_4).f0), .int .i64 ((rd_T54 ((rd_T52 l0 x23_2).f3) x78_4).f1), .int .i64 ((rd_T54 ((rd_T52 l0 x23_2).f3) x78_4).f2), .int .i64 ((rd_T54 ((rd_T52 l0 x23_2).f3) x78_4).f3), .int .i64 ((rd_T54 ((rd_T52 l0 x23_2).f3) x78_4).f4), .int .i64 0]) ?_ 5 _ rfl; (with_reducible repeat (first | refine qg0 ?_ _ | refine qh0 ?_ | refine qf0 ?_ _)); refine ql0 (cs := #[.int .i64 ((rd_T54 ((rd_T52 l0 x23_2).f3) x78_4).f0), .int .i64 ((rd_T54 ((rd_T52 l0 x23_2).f3) x78_4).f1), .int .i64 ((rd_T54 ((rd_T52 l0 x23_2).f3) x78_4).f2), .int .i64 ((rd_T54 ((rd_T52 l0 x23_2).f3) x78_4).f3), .int .i64 0, .int .i64 0]) ?_ 4 _ rfl; (with_reducible repeat (first | refine qg0 ?_ _ | refine qh0 ?_ | refine qf0 ?_ _)); refine ql0 (cs := #[.int .i64 ((rd_T54 ((rd_T52 l0 x23_2).f3) x78_4).f0), .int .i64 ((rd_T54 ((rd_T52 l0 x23_2).f3) x78_4).f1), .int .i64 ((rd_T54 ((rd_T52 l0 x23_2).f3) x78_4).f2), .int .i64 0, .int .i64 0, .int .i64 0]) ?_ 3 _ rfl; (with_reducible repeat (first | refine qg0 ?_ _ | refine qh0 ?_ | refine qf0 ?_ _)); refine ql0 (cs := #[.int .i64 ((rd_T54 ((rd_T52 l0 x23_2).f3) x78_4).f0), .int .i64 ((rd_T54 ((rd_T52 l0 x23_2).f3) x78_4).f1), .int .i64 0, .int .i64 0, .int .i64 0, .int .i64 0]) ?_ 2 _ rfl; (with_reducible repeat (first | refine qg0 ?_ _ | refine qh0 ?_ | refine qf0 ?_ _)); refine ql0 (cs := #[.int .i64 ((rd_T54 ((rd_T52 l0 x23_2).f3) x78_4).f0), .int .i64 0, .int .i64 0, .int .i64 0, .int .i64 0, .int .i64 0]) ?_ 1 _ rfl; (with_reducible repeat (first | refine qg0 ?_ _ | refine qh0 ?_ | refine qf0 ?_ _)); refine ql0 (cs := #[.int .i64 0, .int .i64 0, .int .i64 0, .int .i64 0, .int .i64 0, .int .i64 0]) ?_ 0 _ rfl; (with_reducible repeat (first | refine qg0 ?_ _ | refine qh0 ?_ | refine qf0 ?_ _)); exact BK250.out) hb); have n3_ := Aside0.mk (qk0 (by repeat (first | (with_reducible first | exact HB.out | apply qc0 | apply qa0 | apply qd0 | refine qi0 ?_ GE245.out | refine qi0 ?_ GE250.out) | exact HB.out)) hb); clear HO_3; clear BK245; clear BK250; clear HB; have HO_3 := n0_; have BK245 := n1_; have BK250 := n2_; have HB := n3_; clear n0_ n1_ n2_ n3_; (try clear hb); (try clear hb2); (try clear hk); (try clear hi)))
           go_ret
           exact ⟨by first | rfl | (simp [errW_none, errW_some] <;> rfl) | (simp [*, errW_none, errW_some] <;> rfl), by repeat (first | (with_reducible first | exact HB.out | apply qc0 | apply qa0 | apply qd0 | refine qi0 ?_ GE245.out | refine qi0 ?_ GE250.out) | exact HB.out)⟩
          rw [if_neg c37] at H
          have c37b0 : decide (x78_4 < (((rd_T52 l0 x23_2).f3).length : Int)) = false := decide_eq_false c37
          clear c37
          have H' := Aside0.mk H
          clear H
          have hcz50_0 : wr.cell? ⟨gb245, 0, none⟩ = some (.string ((rd_T52 l0 x23_2).f0)) := (qe0 BK245.out 0).trans rfl
          have hcz50_1 : wr.cell? ⟨gb245, 1, none⟩ = some (.int .i64 ((rd_T52 l0 x23_2).f1)) := (qe0 BK245.out 1).trans rfl
          have hcz50_2 : wr.cell? ⟨gb245, 2, none⟩ = some (.bool ((rd_T52 l0 x23_2).f2)) := (qe0 BK245.out 2).trans rfl
          have hcz50_3 : wr.cell? ⟨gb245, 3, none⟩ = some (.slice A244_3 ((rd_T52 l0 x23_2).f3).length c244_3) := (qe0 BK245.out 3).trans rfl
          have hcz50_4 : wr.cell? ⟨gb245, 4, none⟩ = some (.slice A244_4 ((rd_T52 l0 x23_2).f4).length c244_4) := (qe0 BK245.out 4).trans rfl
          have hfz50_0 := qb0 BK245.out 0
          have hfz50_1 := qb0 BK245.out 1
          have hfz50_2 := qb0 BK245.out 2
          have hfz50_3 := qb0 BK245.out 3
          have hfz50_4 := qb0 BK245.out 4
          go_wp2
          go_loopg [92] k4 (fun kq v92 w' => ∃ (x92_5 : Int), v92 = .int .i64 x92_5 ∧ Aside0 (impl_ItemsOk.l2 kq l0 y248 x23_2 l0 (l0.length : Int) x23_2 ((rd_T52 l0 x23_2).f4) (((rd_T52 l0 x23_2).f4).length : Int) x92_5 = some r) ∧ Aside0 (kq ≤ k4) ∧ Aside0 (Kd.Z kz115 115 w' w.heap.size (fun _ => True) (.map (some mb243)) y248) ∧ Aside0 (w'.heap[gb245]? = some (.cells #[.string ((rd_T52 l0 x23_2).f0), .int .i64 ((rd_T52 l0 x23_2).f1), .bool ((rd_T52 l0 x23_2).f2), (.slice A244_3 ((rd_T52 l0 x23_2).f3).length c244_3), (.slice A244_4 ((rd_T52 l0 x23_2).f4).length c244_4)] 52 (0, 0))) ∧ Aside0 (Below w.heap.size w w'))
          case atStart => exact ⟨(0), (by first | rfl | (simp; done) | (simp [*]; done)), H', ⟨Nat.le_refl _⟩, ⟨by (with_reducible repeat (first | apply Kd.Z_alloc | apply Kd.Z_drewN | apply Kd.Z_drew)); exact HO_3.out⟩, ⟨by (with_reducible repeat (first | refine qg0 ?_ _ | refine qh0 ?_ | refine qf0 ?_ _)); exact BK245.out⟩, ⟨by repeat (first | (with_reducible first | exact HB.out | apply qc0 | apply qa0 | apply qd0 | refine qi0 ?_ GE245.out) | exact HB.out)⟩⟩
          case round =>
           clear H'
           try clear c1
           try clear c2
           try clear p2
           try clear q2
           try clear hx2
           try clear c3
           try clear c3b0
           try clear c3b1
           try clear c4
           try clear p6
           try clear c7
           try clear c7b0
           try clear c8
           try clear c8b0
           try clear c9
           try clear c9b0
           try clear c13
           try clear c14
           try clear c15
           try clear c16
           try clear c16b0
           try clear c19
           try clear c20
           try clear c20b0
           try clear c20b1
           try clear c22
           try clear c22b0
           try clear c22b1
           try clear c24
           try clear p24
           try clear q24
           try clear hx24
           try clear c25
           try clear c26
           try clear c26b0
           try clear c26b1
           try clear c26b2
           try clear c32
           try clear c33
           try clear c37
           try clear c37b0
           try clear c38
           try clear c38b0
           try clear c39
           try clear c39b0
           try clear c41
           try clear c43
           try clear c47
           try clear hcz12_0
           try clear hcz12_1
           try clear hcz12_2
           try clear hcz12_3
           try clear hcz12_4
           try clear hcz17_0
           try clear hcz17_1
           try clear hcz17_2
           try clear hcz17_3
           try clear hcz17_4
           try clear hcz21_0
           try clear hcz21_1
           try clear hcz21_2
           try clear hcz21_3
           try clear hcz21_4
           try clear hcz23_0
           try clear hcz23_1
           try clear hcz23_2
           try clear hcz23_3
           try clear hcz23_4
           try clear hcz27_0
           try clear hcz27_1
           try clear hcz27_2
           try clear hcz27_3
           try clear hcz27_4
           try clear hcz28_0
           try clear hcz28_1
           try clear hcz28_2
           try clear hcz28_3
           try clear hcz28_4
           try clear hcz29_0
           try clear hcz29_1
           try clear hcz29_2
           try clear hcz29_3
           try clear hcz29_4
           try clear hcz30_0
           try clear hcz30_1
           try clear hcz30_2
           try clear hcz30_3
           try clear hcz30_4
           try clear hcz31_0
           try clear hcz31_1
           try clear hcz31_2
           try clear hcz31_3
           try clear hcz31_4
           try clear hcz34_0
           try clear hcz34_1
           try clear hcz34_2
           try clear hcz34_3
           try clear hcz34_4
           try clear hcz36_0
           try clear hcz36_1
           try clear hcz36_2
           try clear hcz36_3
           try clear hcz36_4
           try clear hcz44_0
           try clear hcz44_1
           try clear hcz44_2
           try clear hcz44_3
           try clear hcz44_4
           try clear hcz44_5
           try clear hcz48_0
           try clear hcz48_1
           try clear hcz48_2
           try clear hcz48_3
           try clear hcz48_4
           try clear hcz48_5
           try clear hcz50_0
           try clear hcz50_1
           try clear hcz50_2
           try clear hcz50_3
           try clear hcz50_4
           try clear hfz12_0
           try clear hfz12_1
           try clear hfz12_2
           try clear hfz12_3
           try clear hfz12_4
           try clear hfz17_0
           try clear hfz17_1
           try clear hfz17_2
           try clear hfz17_3
           try clear hfz17_4
           try clear hfz21_0
           try clear hfz21_1
           try clear hfz21_2
           try clear hfz21_3
           try clear hfz21_4
           try clear hfz23_0
           try clear hfz23_1
           try clear hfz23_2
           try clear hfz23_3
           try clear hfz23_4
           try clear hfz27_0
           try clear hfz27_1
           try clear hfz27_2
           try clear hfz27_3
           try clear hfz27_4
           try clear hfz28_0
           try clear hfz28_1
           try clear hfz28_2
           try clear hfz28_3
           try clear hfz28_4
           try clear hfz29_0
           try clear hfz29_1
           try clear hfz29_2
           try clear hfz29_3
           try clear hfz29_4
           try clear hfz30_0
           try clear hfz30_1
           try clear hfz30_2
           try clear hfz30_3
           try clear hfz30_4
           try clear hfz31_0
           try clear hfz31_1
           try clear hfz31_2
           try clear hfz31_3
           try clear hfz31_4
           try clear hfz34_0
           try clear hfz34_1
           try clear hfz34_2
           try clear hfz34_3
           try clear hfz34_4
           try clear hfz36_0
           try clear hfz36_1
           try clear hfz36_2
           try clear hfz36_3
           try clear hfz36_4
           try clear hfz44_0
           try clear hfz44_1
           try clear hfz44_2
           try clear hfz44_3
           try clear hfz44_4
           try clear hfz44_5
           try clear hfz48_0
           try clear hfz48_1
           try clear hfz48_2
           try clear hfz48_3
           try clear hfz48_4
           try clear hfz48_5
           try clear hfz50_0
           try clear hfz50_1
           try clear hfz50_2
           try clear hfz50_3
           try clear hfz50_4
           try clear hx244_0
           try clear hx244_1
           try clear hx244_2
           try clear hx244_3
           try clear hx244_4
           try clear hx249_0
           try clear hx249_1
           try clear hx249_2
           try clear hx249_3
           try clear hx249_4
           try clear hx249_5
           try clear p2
           try clear p24
           try clear p244
           try clear p249
           try clear q2
           try clear q24
           try clear q244
           try clear q249
           obtain ⟨x92_5, rfl, HA, HK5, HO_3, BK245, HB⟩ := hrel
           cases gk with
           | zero => exact absurd HA.out (by simp [impl_ItemsOk.l2])
           | succ k5 =>
            have H := HA.out
            clear HA
            simp only [impl_ItemsOk.l2] at H
            by_cases c51 : x92_5 < (((rd_T52 l0 x23_2).f4).length : Int)
            ·rw [if_pos c51] at H
             have c51b0 : decide (x92_5 < (((rd_T52 l0 x23_2).f4).length : Int)) = true := decide_eq_true c51
             clear c51
             by_cases c52 : 0 ≤ x92_5
             case neg => rw [if_neg c52] at H; exact absurd H (by simp)
             rw [if_pos c52] at H
             have c52b0 : decide (0 ≤ x92_5) = true := decide_eq_true c52
             clear c52
             by_cases c53 : x92_5 < (((rd_T52 l0 x23_2).f4).length : Int)
             case neg => rw [if_neg c53] at H; exact absurd H (by simp)
             rw [if_pos c53] at H
             have c53b0 : decide (x92_5 < (((rd_T52 l0 x23_2).f4).length : Int)) = true := decide_eq_true c53
             clear c53
             replace H := Option.bind_eq_some_iff.mp H
             obtain ⟨t254, A540, H⟩ := H
             replace H : (if t254 = true then (impl_ItemsOk.l2 k5 l0 y248 x23_2 l0 (l0.length : Int) x23_2 ((rd_T52 l0 x23_2).f4) (((rd_T52 l0 x23_2).f4).length : Int) (wrap64 (x92_5 + 1))) else (some false)) = some r := H
             have A54 := Aside0.mk A540
             clear A540
             by_cases c55 : t254 = true
             ·subst c55
              have H1 : (impl_ItemsOk.l2 k5 l0 y248 x23_2 l0 (l0.length : Int) x23_2 ((rd_T52 l0 x23_2).f4) (((rd_T52 l0 x23_2).f4).length : Int) (wrap64 (x92_5 + 1))) = some r := by rw [if_pos rfl] at H; exact H
              clear H
              have H := H1
              clear H1
              have H' := Aside0.mk H
              clear H
              have p252 : 0 ≤ (x92_5 : Int) := of_decide_eq_true (by first | (with_reducible assumption) | assumption)
              have q252 : x92_5 < (((rd_T52 l0 x23_2).f4).length : Int) := of_decide_eq_true (by first | (with_reducible assumption) | assumption)
              obtain ⟨ad252, e252, hx252_0, hx252_1, hx252_2, hx252_3, hx252_4, hx252_5⟩ := at_T54 HR244_4.out x92_5 p252 q252
              cases e252
              replace hx252_0 := (HB.out.cell (World.block_lt_of_cell? w _ hx252_0)).trans hx252_0
              replace hx252_1 := (HB.out.cell (World.block_lt_of_cell? w _ hx252_1)).trans hx252_1
              replace hx252_2 := (HB.out.cell (World.block_lt_of_cell? w _ hx252_2)).trans hx252_2
              replace hx252_3 := (HB.out.cell (World.block_lt_of_cell? w _ hx252_3)).trans hx252_3
              replace hx252_4 := (HB.out.cell (World.block_lt_of_cell? w _ hx252_4)).trans hx252_4
              replace hx252_5 := (HB.out.cell (World.block_lt_of_cell? w _ hx252_5)).trans hx252_5
              replace p252 := eq_true p252
              replace q252 := eq_true q252
              go_wp2_with (first | ((with_reducible refine qz0 (N := 9) rfl ?_); (try (refine gate_guard (by rfl) ?_; dsimp only)); refine qg1 ?hg (N := 9) ?hd (cs := #[.int .i64 0, .int .i64 0, .int .i64 0, .int .i64 0, .int .i64 0, .int .i64 0]) (t := 54) ?hr ?_; (case hd => rfl); (case hg => rfl); (case hr => first | (go_simp; done) | (go_simp; rfl)); intro gb253 hg w56 hbox hb; have n0_ := Aside0.mk (Kd.Z_below (by (with_reducible repeat (first | apply Kd.Z_alloc | apply Kd.Z_drewN | apply Kd.Z_drew)); exact HO_3.out) hb); have n1_ := Aside0.mk (qh1 (g := gb245) (o := .cells #[.string ((rd_T52 l0 x23_2).f0), .int .i64 ((rd_T52 l0 x23_2).f1), .bool ((rd_T52 l0 x23_2).f2), .slice A244_3 ((rd_T52 l0 x23_2).f3).length c244_3, .slice (some ad252) ((rd_T52 l0 x23_2).f4).length c244_4] 52 (0, 0)) (by (with_reducible repeat (first | refine qg0 ?_ _ | refine qh0 ?_ | refine qf0 ?_ _)); exact BK245.out) hb); have n2_ := Aside0.mk (qk0 (by repeat (first | (with_reducible first | exact HB.out | apply qc0 | apply qa0 | apply qd0 | refine qi0 ?_ GE245.out) | exact HB.out)) hb); have n3_ := Aside0.mk (hbox); have n4_ := Aside0.mk ((by rw [hg]; exact (qm0 (by repeat (first | (with_reducible first | exact HB.out | apply qc0 | apply qa0 | apply qd0 | refine qi0 ?_ GE245.out) | exact HB.out))) : w.heap.size ≤ gb253)); have n5_ := Aside0.mk ((by rw [hg]; exact (qm0 (by repeat (first | (with_reducible first | exact HB.out | apply qc0 | apply qa0 | apply qd0 | refine qi0 ?_ GE245.out) | exact HB.out))) : w.heap.size ≤ gb253)); have n6_ := Aside0.mk ((by rw [hg]; exact Nat.ne_of_lt (qz1 (g := gb245) (o := .cells #[.string ((rd_T52 l0 x23_2).f0), .int .i64 ((rd_T52 l0 x23_2).f1), .bool ((rd_T52 l0 x23_2).f2), .slice A244_3 ((rd_T52 l0 x23_2).f3).length c244_3, .slice (some ad252) ((rd_T52 l0 x23_2).f4).length c244_4] 52 (0, 0)) (by (with_reducible repeat (first | refine qg0 ?_ _ | refine qh0 ?_ | refine qf0 ?_ _)); exact BK245.out)) : gb245 ≠ gb253)); have n7_ := Aside0.mk ((by rw [hg]; exact Nat.ne_of_gt (qz1 (g := gb245) (o := .cells #[.string ((rd_T52 l0 x23_2).f0), .int .i64 ((rd_T52 l0 x23_2).f1), .bool ((rd_T52 l0 x23_2).f2), .slice A244_3 ((rd_T52 l0 x23_2).f3).length c244_3, .slice (some ad252) ((rd_T52 l0 x23_2).f4).length c244_4] 52 (0, 0)) (by (with_reducible repeat (first | refine qg0 ?_ _ | refine qh0 ?_ | refine qf0 ?_ _)); exact BK245.out)) : gb253 ≠ gb245)); clear HO_3; clear BK245; clear HB; have HO_3 := n0_; have BK245 := n1_; have HB := n2_; have BK253 := n3_; have GW253 := n4_; have GE253 := n5_; have NB245_253 := n6_; have NB253_245 := n7_; clear n0_ n1_ n2_ n3_ n4_ n5_ n6_ n7_; clear hb hbox hg; have hnb57 := NB253_245.out; have hnc57 := NB245_253.out; have hcz58_0 : w56.cell? ⟨gb253, 0, none⟩ = some (.int .i64 0) := (qe0 BK253.out 0).trans rfl; have hcz58_1 : w56.cell? ⟨gb253, 1, none⟩ = some (.int .i64 0) := (qe0 BK253.out 1).trans rfl; have hcz58_2 : w56.cell? ⟨gb253, 2, none⟩ = some (.int .i64 0) := (qe0 BK253.out 2).trans rfl; have hcz58_3 : w56.cell? ⟨gb253, 3, none⟩ = some (.int .i64 0) := (qe0 BK253.out 3).trans rfl; have hcz58_4 : w56.cell? ⟨gb253, 4, none⟩ = some (.int .i64 0) := (qe0 BK253.out 4).trans rfl; have hcz58_5 : w56.cell? ⟨gb253, 5, none⟩ = some (.int .i64 0) := (qe0 BK253.out 5).trans rfl; have hfz58_0 := qb0 BK253.out 0; have hfz58_1 := qb0 BK253.out 1; have hfz58_2 := qb0 BK253.out 2; have hfz58_3 := qb0 BK253.out 3; have hfz58_4 := qb0 BK253.out 4; have hfz58_5 := qb0 BK253.out 5) | ((with_reducible refine qs0 (f := 138) rfl ?_); refine qk1 (some 100) rfl rfl Try.func138 (by kernel_rfl) rfl #[.agg #[.int .i64 ((rd_T54 ((rd_T52 l0 x23_2).f4) x92_5).f0), .int .i64 ((rd_T54 ((rd_T52 l0 x23_2).f4) x92_5).f1), .int .i64 ((rd_T54 ((rd_T52 l0 x23_2).f4) x92_5).f2), .int .i64 ((rd_T54 ((rd_T52 l0 x23_2).f4) x92_5).f3), .int .i64 ((rd_T54 ((rd_T52 l0 x23_2).f4) x92_5).f4), .int .i64 ((rd_T54 ((rd_T52 l0 x23_2).f4) x92_5).f5)], .int .i64 x23_2, .int .i64 (l0.length : Int), .bool true] rfl (by (try simp only [List.map_toArray, List.map_cons, List.map_nil]); first | done | rfl | (simp only [List.length_drop, List.length_take]; rfl)) ?_; (with_reducible refine (impl_partOk.calls ((rd_T54 ((rd_T52 l0 x23_2).f4) x92_5).f0) ((rd_T54 ((rd_T52 l0 x23_2).f4) x92_5).f1) ((rd_T54 ((rd_T52 l0 x23_2).f4) x92_5).f2) ((rd_T54 ((rd_T52 l0 x23_2).f4) x92_5).f3) ((rd_T54 ((rd_T52 l0 x23_2).f4) x92_5).f4) ((rd_T54 ((rd_T52 l0 x23_2).f4) x92_5).f5) x23_2 (l0.length : Int) true true _ A54.out).mono ?_); rintro e w59 ⟨rfl, hb⟩; refine ⟨_, rfl, ?_⟩; have n0_ := Aside0.mk (Kd.Z_below (by (with_reducible repeat (first | apply Kd.Z_alloc | apply Kd.Z_drewN | apply Kd.Z_drew)); exact (Kd.Z_mono (Kd.Z_far (p := ⟨gb253, 5, none⟩) (Kd.Z_far (p := ⟨gb253, 4, none⟩) (Kd.Z_far (p := ⟨gb253, 3, none⟩) (Kd.Z_far (p := ⟨gb253, 2, none⟩) (Kd.Z_far (p := ⟨gb253, 1, none⟩) (Kd.Z_far (p := ⟨gb253, 0, none⟩) (Kd.Z_types HO_3.out BK253.out (by decide)) (fun _ hk => hk.2) (.int .i64 ((rd_T54 ((rd_T52 l0 x23_2).f4) x92_5).f0))) (fun _ hk => hk.2) (.int .i64 ((rd_T54 ((rd_T52 l0 x23_2).f4) x92_5).f1))) (fun _ hk => hk.2) (.int .i64 ((rd_T54 ((rd_T52 l0 x23_2).f4) x92_5).f2))) (fun _ hk => hk.2) (.int .i64 ((rd_T54 ((rd_T52 l0 x23_2).f4) x92_5).f3))) (fun _ hk => hk.2) (.int .i64 ((rd_T54 ((rd_T52 l0 x23_2).f4) x92_5).f4))) (fun _ hk => hk.2) (.int .i64 ((rd_T54 ((rd_T52 l0 x23_2).f4) x92_5).f5))) (fun _ h_ => h_.1))) hb); have n1_ := Aside0.mk (qh1 (g := gb245) (o := .cells #[.string ((rd_T52 l0 x23_2).f0), .int .i64 ((rd_T52 l0 x23_2).f1), .bool ((rd_T52 l0 x23_2).f2), .slice A244_3 ((rd_T52 l0 x23_2).f3).length c244_3, .slice (some ad252) ((rd_T52 l0 x23_2).f4).length c244_4] 52 (0, 0)) (by (with_reducible repeat (first | refine qg0 ?_ _ | refine qh0 ?_ | refine qf0 ?_ _)); refine qe1 ?_ NB245_253.out _; (with_reducible repeat (first | refine qg0 ?_ _ | refine qh0 ?_ | refine qf0 ?_ _)); refine qe1 ?_ NB245_253.out _; (with_reducible repeat (first | refine qg0 ?_ _ | refine qh0 ?_ | refine qf0 ?_ _)); refine qe1 ?_ NB245_253.out _; (with_reducible repeat (first | refine qg0 ?_ _ | refine qh0 ?_ | refine qf0 ?_ _)); refine qe1 ?_ NB245_253.out _; (with_reducible repeat (first | refine qg0 ?_ _ | refine qh0 ?_ | refine qf0 ?_ _)); refine qe1 ?_ NB245_253.out _; (with_reducible repeat (first | refine qg0 ?_ _ | refine qh0 ?_ | refine qf0 ?_ _)); refine qe1 ?_ NB245_253.out _; (with_reducible repeat (first | refine qg0 ?_ _ | refine qh0 ?_ | refine qf0 ?_ _)); exact BK245.out) hb); have n2_ := Aside0.mk (qh1 (g := gb253) (o := .cells #[.int .i64 ((rd_T54 ((rd_T52 l0 x23_2).f4) x92_5).f0), .int .i64 ((rd_T54 ((rd_T52 l0 x23_2).f4) x92_5).f1), .int .i64 ((rd_T54 ((rd_T52 l0 x23_2).f4) x92_5).f2), .int .i64 ((rd_T54 ((rd_T52 l0 x23_2).f4) x92_5).f3), .int .i64 ((rd_T54 ((rd_T52 l0 x23_2).f4) x92_5).f4), .int .i64 ((rd_T54 ((rd_T52 l0 x23_2).f4) x92_5).f5)] 54 (0, 0)) (by (with_reducible repeat (first | refine qg0 ?_ _ | refine qh0 ?_ | refine qf0 ?_ _)); refine ql0 (cs := #[.int .i64 ((rd_T54 ((rd_T52 l0 x23_2).f4) x92_5).f0), .int .i64 ((rd_T54 ((rd_T52 l0 x23_2).f4) x92_5).f1), .int .i64 ((rd_T54 ((rd_T52 l0 x23_2).f4) x92_5).f2), .int .i64 ((rd_T54 ((rd_T52 l0 x23_2).f4) x92_5).f3), .int .i64 ((rd_T54 ((rd_T52 l0 x23_2).f4) x92_5).f4), .int .i64 0]) ?_ 5 _ rfl; (with_reducible repeat (first | refine qg0 ?_ _ | refine qh0 ?_ | refine qf0 ?_ _)); refine ql0 (cs := #[.int .i64 ((rd_T54 ((rd_T52 l0 x23_2).f4) x92_5).f0), .int .i64 ((rd_T54 ((rd_T52 l0 x23_2).f4) x92_5).f1), .int .i64 ((rd_T54 ((rd_T52 l0 x23_2).f4) x92_5).f2), .int .i64 ((rd_T54 ((rd_T52 l0 x23_2).f4) x92_5).f3), .int .i64 0, .int .i64 0]) ?_ 4 _ rfl; (with_reducible repeat (first | refine qg0 ?_ _ | refine qh0 ?_ | refine qf0 ?_ _)); refine ql0 (cs := #[.int .i64 ((rd_T54 ((rd_T52 l0 x23_2).f4) x92_5).f0), .int .i64 ((rd_T54 ((rd_T52 l0 x23_2).f4) x92_5).f1), .int .i64 ((rd_T54 ((rd_T52 l0 x23_2).f4) x92_5).f2), .int .i64 0, .int .i64 0, .int .i64 0]) ?_ 3 _ rfl; (with_reducible repeat (first | refine qg0 ?_ _ | refine qh0 ?_ | refine qf0 ?_ _)); refine ql0 (cs := #[.int .i64 ((rd_T54 ((rd_T52 l0 x23_2).f4) x92_5).f0), .int .i64 ((rd_T54 ((rd_T52 l0 x23_2).f4) x92_5).f1), .int .i64 0, .int .i64 0, .int .i64 0, .int .i64 0]) ?_ 2 _ rfl; (with_reducible repeat (first | refine qg0 ?_ _ | refine qh0 ?_ | refine qf0 ?_ _)); refine ql0 (cs := #[.int .i64 ((rd_T54 ((rd_T52 l0 x23_2).f4) x92_5).f0), .int .i64 0, .int .i64 0, .int .i64 0, .int .i64 0, .int .i64 0]) ?_ 1 _ rfl; (with_reducible repeat (first | refine qg0 ?_ _ | refine qh0 ?_ | refine qf0 ?_ _)); refine ql0 (cs := #[.int .i64 0, .int .i64 0, .int .i64 0, .int .i64 0, .int .i64 0, .int .i64 0]) ?_ 0 _ rfl; (with_reducible repeat (first | refine qg0 ?_ _ | refine qh0 ?_ | refine qf0 ?_ _)); exact BK253.out) hb); have n3_ := Aside0.mk (qk0 (by repeat (first | (with_reducible first | exact HB.out | apply qc0 | apply qa0 | apply qd0 | refine qi0 ?_ GE245.out | refine qi0 ?_ GE253.out) | exact HB.out)) hb); clear HO_3; clear BK245; clear BK253; clear HB; have HO_3 := n0_; have BK245 := n1_; have BK253 := n2_; have HB := n3_; clear n0_ n1_ n2_ n3_; (try clear hb); (try clear hb2); (try clear hk); (try clear hi)))
              go_roundg k5
              case measure => have := HJ1.out; have := HK2.out; have := HJ9.out; have := HK4.out; have := HK5.out; omega
              case rel => exact ⟨(wrap64 (x92_5 + 1)), (by first | rfl | (simp; done) | (simp [*]; done)), H', ⟨by have := HJ1.out; have := HK2.out; have := HJ9.out; have := HK4.out; have := HK5.out; omega⟩, ⟨by (with_reducible repeat (first | apply Kd.Z_alloc | apply Kd.Z_drewN | apply Kd.Z_drew)); exact HO_3.out⟩, ⟨by (with_reducible repeat (first | refine qg0 ?_ _ | refine qh0 ?_ | refine qf0 ?_ _)); exact BK245.out⟩, ⟨by repeat (first | (with_reducible first | exact HB.out | apply qc0 | apply qa0 | apply qd0 | refine qi0 ?_ GE245.out | refine qi0 ?_ GE253.out) | exact HB.out)⟩⟩
             replace c55 := Bool.eq_false_iff.mpr c55
             subst c55
             have H1 : (some false) = some r := by rw [if_neg (show ¬ (false = true) by decide)] at H; exact H
             clear H
             have H := H1
             clear H1
             obtain rfl := Option.some.inj H
             have p252 : 0 ≤ (x92_5 : Int) := of_decide_eq_true (by first | (with_reducible assumption) | assumption)
             have q252 : x92_5 < (((rd_T52 l0 x23_2).f4).length : Int) := of_decide_eq_true (by first | (with_reducible assumption) | assumption)
             obtain ⟨ad252, e252, hx252_0, hx252_1, hx252_2, hx252_3, hx252_4, hx252_5⟩ := at_T54 HR244_4.out x92_5 p252 q252
             cases e252
             replace hx252_0 := (HB.out.cell (World.block_lt_of_cell? w _ hx252_0)).trans hx252_0
             replace hx252_1 := (HB.out.cell (World.block_lt_of_cell? w _ hx252_1)).trans hx252_1
             replace hx252_2 := (HB.out.cell (World.block_lt_of_cell? w _ hx252_2)).trans hx252_2
             replace hx252_3 := (HB.out.cell (World.block_lt_of_cell? w _ hx252_3)).trans hx252_3
             replace hx252_4 := (HB.out.cell (World.block_lt_of_cell? w _ hx252_4)).trans hx252_4
             replace hx252_5 := (HB.out.cell (World.block_lt_of_cell? w _ hx252_5)).trans hx252_5
             replace p252 := eq_true p252
             replace q252 := eq_true q252
             go_wp2_with (first | ((with_reducible refine qz0 (N := 9) rfl ?_); (try (refine gate_guard (by rfl) ?_; dsimp only)); refine qg1 ?hg (N := 9) ?hd (cs := #[.int .i64 0, .int .i64 0, .int .i64 0, .int .i64 0, .int .i64 0, .int .i64 0]) (t := 54) ?hr ?_; (case hd => rfl); (case hg => rfl); (case hr => first | (go_simp; done) | (go_simp; rfl)); intro gb253 hg w60 hbox hb; have n0_ := Aside0.mk (Kd.Z_below (by (with_reducible repeat (first | apply Kd.Z_alloc | apply Kd.Z_drewN | apply Kd.Z_drew)); exact HO_3.out) hb); have n1_ := Aside0.mk (qh1 (g := gb245) (o := .cells #[.string ((rd_T52 l0 x23_2).f0), .int .i64 ((rd_T52 l0 x23_2).f1), .bool ((rd_T52 l0 x23_2).f2), .slice A244_3 ((rd_T52 l0 x23_2).f3).length c244_3, .slice (some ad252) ((rd_T52 l0 x23_2).f4).length c244_4] 52 (0, 0)) (by (with_reducible repeat (first | refine qg0 ?_ _ | refine qh0 ?_ | refine qf0 ?_ _)); exact BK245.out) hb); have n2_ := Aside0.mk (qk0 (by repeat (first | (with_reducible first | exact HB.out | apply qc0 | apply qa0 | apply qd0 | refine qi0 ?_ GE245.out) | exact HB.out)) hb); have n3_ := Aside0.mk (hbox); have n4_ := Aside0.mk ((by rw [hg]; exact (qm0 (by repeat (first | (with_reducible first | exact HB.out | apply qc0 | apply qa0 | apply qd0 | refine qi0 ?_ GE245.out) | exact HB.out))) : w.heap.size ≤ gb253)); have n5_ := Aside0.mk ((by rw [hg]; exact (qm0 (by repeat (first | (with_reducible first | exact HB.out | apply qc0 | apply qa0 | apply qd0 | refine qi0 ?_ GE245.out) | exact HB.out))) : w.heap.size ≤ gb253)); have n6_ := Aside0.mk ((by rw [hg]; exact Nat.ne_of_lt (qz1 (g := gb245) (o := .cells #[.string ((rd_T52 l0 x23_2).f0), .int .i64 ((rd_T52 l0 x23_2).f1), .bool ((rd_T52 l0 x23_2).f2), .slice A244_3 ((rd_T52 l0 x23_2).f3).length c244_3, .slice (some ad252) ((rd_T52 l0 x23_2).f4).length c244_4] 52 (0, 0)) (by (with_reducible repeat (first | refine qg0 ?_ _ | refine qh0 ?_ | refine qf0 ?_ _)); exact BK245.out)) : gb245 ≠ gb253)); have n7_ := Aside0.mk ((by rw [hg]; exact Nat.ne_of_gt (qz1 (g := gb245) (o := .cells #[.string ((rd_T52 l0 x23_2).f0), .int .i64 ((rd_T52 l0 x23_2).f1), .bool ((rd_T52 l0 x23_2).f2), .slice A244_3 ((rd_T52 l0 x23_2).f3).length c244_3, .slice (some ad252) ((rd_T52 l0 x23_2).f4).length c244_4] 52 (0, 0)) (by (with_reducible repeat (first | refine qg0 ?_ _ | refine qh0 ?_ | refine qf0 ?_ _)); exact BK245.out)) : gb253 ≠ gb245)); clear HO_3; clear BK245; clear HB; have HO_3 := n0_; have BK245 := n1_; have HB := n2_; have BK253 := n3_; have GW253 := n4_; have GE253 := n5_; have NB245_253 := n6_; have NB253_245 := n7_; clear n0_ n1_ n2_ n3_ n4_ n5_ n6_ n7_; clear hb hbox hg; have hnb61 := NB253_245.out; have hnc61 := NB245_253.out; have hcz62_0 : w60.cell? ⟨gb253, 0, none⟩ = some (.int .i64 0) := (qe0 BK253.out 0).trans rfl; have hcz62_1 : w60.cell? ⟨gb253, 1, none⟩ = some (.int .i64 0) := (qe0 BK253.out 1).trans rfl; have hcz62_2 : w60.cell? ⟨gb253, 2, none⟩ = some (.int .i64 0) := (qe0 BK253.out 2).trans rfl; have hcz62_3 : w60.cell? ⟨gb253, 3, none⟩ = some (.int .i64 0) := (qe0 BK253.out 3).trans rfl; have hcz62_4 : w60.cell? ⟨gb253, 4, none⟩ = some (.int .i64 0) := (qe0 BK253.out 4).trans rfl; have hcz62_5 : w60.cell? ⟨gb253, 5, none⟩ = some (.int .i64 0) := (qe0 BK253.out 5).trans rfl; have hfz62_0 := qb0 BK253.out 0; have hfz62_1 := qb0 BK253.out 1; have hfz62_2 := qb0 BK253.out 2; have hfz62_3 := qb0 BK253.out 3; have hfz62_4 := qb0 BK253.out 4; have hfz62_5 := qb0 BK253.out 5) | ((with_reducible refine qs0 (f := 138) rfl ?_); refine qk1 (some 100) rfl rfl Try.func138 (by kernel_rfl) rfl #[.agg #[.int .i64 ((rd_T54 ((rd_T52 l0 x23_2).f4) x92_5).f0), .int .i64 ((rd_T54 ((rd_T52 l0 x23_2).f4) x92_5).f1), .int .i64 ((rd_T54 ((rd_T52 l0 x23_2).f4) x92_5).f2), .int .i64 ((rd_T54 ((rd_T52 l0 x23_2).f4) x92_5).f3), .int .i64 ((rd_T54 ((rd_T52 l0 x23_2).f4) x92_5).f4), .int .i64 ((rd_T54 ((rd_T52 l0 x23_2).f4) x92_5).f5)], .int .i64 x23_2, .int .i64 (l0.length : Int), .bool true] rfl (by (try simp only [List.map_toArray, List.map_cons, List.map_nil]); first | done | rfl | (simp only [List.length_drop, List.length_take]; rfl)) ?_; (with_reducible refine (impl_partOk.calls ((rd_T54 ((rd_T52 l0 x23_2).f4) x92_5).f0) ((rd_T54 ((rd_T52 l0 x23_2).f4) x92_5).f1) ((rd_T54 ((rd_T52 l0 x23_2).f4) x92_5).f2) ((rd_T54 ((rd_T52 l0 x23_2).f4) x92_5).f3) ((rd_T54 ((rd_T52 l0 x23_2).f4) x92_5).f4) ((rd_T54 ((rd_T52 l0 x23_2).f4) x92_5).f5) x23_2 (l0.length : Int) true false _ A54.out).mono ?_); rintro e w63 ⟨rfl, hb⟩; refine ⟨_, rfl, ?_⟩; have n0_ := Aside0.mk (Kd.Z_below (by (with_reducible repeat (first | apply Kd.Z_alloc | apply Kd.Z_drewN | apply Kd.Z_drew)); exact (Kd.Z_mono (Kd.Z_far (p := ⟨gb253, 5, none⟩) (Kd.Z_far (p := ⟨gb253, 4, none⟩) (Kd.Z_far (p := ⟨gb253, 3, none⟩) (Kd.Z_far (p := ⟨gb253, 2, none⟩) (Kd.Z_far (p := ⟨gb253, 1, none⟩) (Kd.Z_far (p := ⟨gb253, 0, none⟩) (Kd.Z_types HO_3.out BK253.out (by decide)) (fun _ hk => hk.2) (.int .i64 ((rd_T54 ((rd_T52 l0 x23_2).f4) x92_5).f0))) (fun _ hk => hk.2) (.int .i64 ((rd_T54 ((rd_T52 l0 x23_2).f4) x92_5).f1))) (fun _ hk => hk.2) (.int .i64 ((rd_T54 ((rd_T52 l0 x23_2).f4) x92_5).f2))) (fun _ hk => hk.2) (.int .i64 ((rd_T54 ((rd_T52 l0 x23_2).f4) x92_5).f3))) (fun _ hk => hk.2) (.int .i64 ((rd_T54 ((rd_T52 l0 x23_2).f4) x92_5).f4))) (fun _ hk => hk.2) (.int .i64 ((rd_T54 ((rd_T52 l0 x23_2).f4) x92_5).f5))) (fun _ h_ => h_.1))) hb); have n1_ := Aside0.mk (qh1 (g := gb245) (o := .cells #[.string ((rd_T52 l0 x23_2).f0), .int .i64 ((rd_T52 l0 x23_2).f1), .bool ((rd_T52 l0 x23_2).f2), .slice A244_3 ((rd_T52 l0 x23_2).f3).length c244_3, .slice (some ad252) ((rd_T52 l0 x23_2).f4).length c244_4] 52 (0, 0)) (by (with_reducible repeat (first | refine qg0 ?_ _ | refine qh0 ?_ | refine qf0 ?_ _)); refine qe1 ?_ NB245_253.out _; (with_reducible repeat (first | refine qg0 ?_ _ | refine qh0 ?_ | refine qf0 ?_ _)); refine qe1 ?_ NB245_253.out _; (with_reducible repeat (first | refine qg0 ?_ _ | refine qh0 ?_ | refine qf0 ?_ _)); refine qe1 ?_ NB245_253.out _; (with_reducible repeat (first | refine qg0 ?_ _ | refine qh0 ?_ | refine qf0 ?_ _)); refine qe1 ?_ NB245_253.out _; (with_reducible repeat (first | refine qg0 ?_ _ | refine qh0 ?_ | refine qf0 ?_ _)); refine qe1 ?_ NB245_253.out _; (with_reducible repeat (first | refine qg0 ?_ _ | refine qh0 ?_ | refine qf0 ?_ _)); refine qe1 ?_ NB245_253.out _; (with_reducible repeat (first | refine qg0 ?_ _ | refine qh0 ?_ | refine qf0 ?_ _)); exact BK245.out) hb); have n2_ := Aside0.mk (qh1 (g := gb253) (o := .cells #[.int .i64 ((rd_T54 ((rd_T52 l0 x23_2).f4) x92_5).f0), .int .i64 ((rd_T54 ((rd_T52 l0 x23_2).f4) x92_5).f1), .int .i64 ((rd_T54 ((rd_T52 l0 x23_2).f4) x92_5).f2), .int .i64 ((rd_T54 ((rd_T52 l0 x23_2).f4) x92_5).f3), .int .i64 ((rd_T54 ((rd_T52 l0 x23_2).f4) x92_5).f4), .int .i64 ((rd_T54 ((rd_T52 l0 x23_2).f4) x92_5).f5)] 54 (0, 0)) (by (with_reducible repeat (first | refine qg0 ?_ _ | refine qh0 ?_ | refine qf0 ?_ _)); refine ql0 (cs := #[.int .i64 ((rd_T54 ((rd_T52 l0 x23_2).f4) x92_5).f0), .int .i64 ((rd_T54 ((rd_T52 l0 x23_2).f4) x92_5).f1), .int .i64 ((rd_T54 ((rd_T52 l0 x23_2).f4) x92_5).f2), .int .i64 ((rd_T54 ((rd_T52 l0 x23_2).f4) x92_5).f3), .int .i64 ((rd_T54 ((rd_T52 l0 x23_2).f4) x92_5).f4), .int .i64 0]) ?_ 5 _ rfl; (with_reducible repeat (first | refine qg0 ?_ _ | refine qh0 ?_ | refine qf0 ?_ _)); refine ql0 (cs := #[.int .i64 ((rd_T54 ((rd_T52 l0 x23_2).f4) x92_5).f0), .int .i64 ((rd_T54 ((rd_T52 l0 x23_2).f4) x92_5).f1), .int .i64 ((rd_T54 ((rd_T52 l0 x23_2).f4) x92_5).f2), .int .i64 ((rd_T54 ((rd_T52 l0 x23_2).f4) x92_5).f3), .int .i64 0, .int .i64 0]) ?_ 4 _ rfl; (with_reducible repeat (first | refine qg0 ?_ _ | refine qh0 ?_ | refine qf0 ?_ _)); refine ql0 (cs := #[.int .i64 ((rd_T54 ((rd_T52 l0 x23_2).f4) x92_5).f0), .int .i64 ((rd_T54 ((rd_T52 l0 x23_2).f4) x92_5).f1), .int .i64 ((rd_T54 ((rd_T52 l0 x23_2).f4) x92_5).f2), .int .i64 0, .int .i64 0, .int .i64 0]) ?_ 3 _ rfl; (with_reducible repeat (first | refine qg0 ?_ _ | refine qh0 ?_ | refine qf0 ?_ _)); refine ql0 (cs := #[.int .i64 ((rd_T54 ((rd_T52 l0 x23_2).f4) x92_5).f0), .int .i64 ((rd_T54 ((rd_T52 l0 x23_2).f4) x92_5).f1), .int .i64 0, .int .i64 0, .int .i64 0, .int .i64 0]) ?_ 2 _ rfl; (with_reducible repeat (first | refine qg0 ?_ _ | refine qh0 ?_ | refine qf0 ?_ _)); refine ql0 (cs := #[.int .i64 ((rd_T54 ((rd_T52 l0 x23_2).f4) x92_5).f0), .int .i64 0, .int .i64 0, .int .i64 0, .int .i64 0, .int .i64 0]) ?_ 1 _ rfl; (with_reducible repeat (first | refine qg0 ?_ _ | refine qh0 ?_ | refine qf0 ?_ _)); refine ql0 (cs := #[.int .i64 0, .int .i64 0, .int .i64 0, .int .i64 0, .int .i64 0, .int .i64 0]) ?_ 0 _ rfl; (with_reducible repeat (first | refine qg0 ?_ _ | refine qh0 ?_ | refine qf0 ?_ _)); exact BK253.out) hb); have n3_ := Aside0.mk (qk0 (by repeat (first | (with_reducible first | exact HB.out | apply qc0 | apply qa0 | apply qd0 | refine qi0 ?_ GE245.out | refine qi0 ?_ GE253.out) | exact HB.out)) hb); clear HO_3; clear BK245; clear BK253; clear HB; have HO_3 := n0_; have BK245 := n1_; have BK253 := n2_; have HB := n3_; clear n0_ n1_ n2_ n3_; (try clear hb); (try clear hb2); (try clear hk); (try clear hi)))
             go_ret
             exact ⟨by first | rfl | (simp [errW_none, errW_some] <;> rfl) | (simp [*, errW_none, errW_some] <;> rfl), by repeat (first | (with_reducible first | exact HB.out | apply qc0 | apply qa0 | apply qd0 | refine qi0 ?_ GE245.out | refine qi0 ?_ GE253.out) | exact HB.out)⟩
            rw [if_neg c51] at H
            have c51b0 : decide (x92_5 < (((rd_T52 l0 x23_2).f4).length : Int)) = false := decide_eq_false c51
            clear c51
            have H' := Aside0.mk H
            clear H
            go_wp2
            go_roundg k5
            case measure => have := HJ1.out; have := HK2.out; have := HJ9.out; have := HK4.out; have := HK5.out; omega
            case rel => exact ⟨(y248), (wrap64 (x23_2 + 1)), (by first | rfl | (simp; done) | (simp [*]; done)), H', ⟨by have := HJ1.out; have := HK2.out; have := HJ9.out; have := HK4.out; have := HK5.out; omega⟩, ⟨by (with_reducible repeat (first | apply Kd.Z_alloc | apply Kd.Z_drewN | apply Kd.Z_drew)); exact HO_3.out⟩, ⟨by repeat (first | (with_reducible first | exact HB.out | apply qc0 | apply qa0 | apply qd0 | refine qi0 ?_ GE245.out) | exact HB.out)⟩⟩
     rw [if_neg c7] at H
     have c7b0 : decide (x23_2 < (l0.length : Int)) = false := decide_eq_false c7
     clear c7
     replace H := Option.bind_eq_some_iff.mp H
     obtain ⟨t255, A640, H⟩ := H
     replace H : (impl_ItemsOk.l3 k2 t255 (t255.length : Int) 0) = some r := H
     have A64 := Aside0.mk A640
     clear A640
     have H' := Aside0.mk H
     clear H
     go_wp2_with (first | ((with_reducible refine qs0 (f := 84) rfl ?_); refine qk1 (some 105) rfl rfl Try.func84 (by kernel_rfl) rfl #[.slice A0 l0.length c0] rfl (by (try simp only [List.map_toArray, List.map_cons, List.map_nil]); first | done | rfl | (simp only [List.length_drop, List.length_take]; rfl)) ?_; (with_reducible refine (impl_levels.calls k2 _ _ l0 t255 _ ?side1 ?side2 A64.out).mono ?_); (case side1 => repeat (first | exact (Kd.C_below HR0.out HB.out) | (with_reducible refine Kd.qj1 ?_ _) | (with_reducible refine Kd.qi1 ?_ _) | (with_reducible refine Kd.qn1 ?_))); (case side2 => exact HC0.out); rintro e w65 ⟨v256, rfl, ho0, hb⟩; refine ⟨_, rfl, ?_⟩; have n0_ := Aside0.mk (Kd.Z_below (by (with_reducible repeat (first | apply Kd.Z_alloc | apply Kd.Z_drewN | apply Kd.Z_drew)); exact HO_3.out) hb); have n1_ := Aside0.mk (Kd.qw1 ho0 (qm0 (by repeat (first | (with_reducible first | exact HB.out | apply qc0 | apply qa0 | apply qd0) | exact HB.out)))); have n2_ := Aside0.mk (qk0 (by repeat (first | (with_reducible first | exact HB.out | apply qc0 | apply qa0 | apply qd0) | exact HB.out)) hb); clear HO_3; clear HB; have HO_3 := n0_; have HO257 := n1_; have HB := n2_; clear n0_ n1_ n2_; (try clear hb); (try clear hb2); (try clear hk); (try clear hi); (try clear ho0); obtain ⟨Ao66, co66, eo66⟩ := Kd.qm1 HO257.out; subst eo66))
     go_loopg [107] k2 (fun kq v107 w' => ∃ (x107_3 : Int), v107 = .int .i64 x107_3 ∧ Aside0 (impl_ItemsOk.l3 kq t255 (t255.length : Int) x107_3 = some r) ∧ Aside0 (kq ≤ k2) ∧ Aside0 (Kd.R (Kd.int .i64) 3 w' w.heap.size (fun _ => True) (.slice Ao66 t255.length co66) t255) ∧ Aside0 (Below w.heap.size w w'))
     case atStart => exact ⟨(0), (by first | rfl | (simp; done) | (simp [*]; done)), H', ⟨Nat.le_refl _⟩, ⟨by (with_reducible repeat (first | apply Kd.qo0 | apply Kd.qn0 | apply Kd.qt0)); exact HO257.out⟩, ⟨by repeat (first | (with_reducible first | exact HB.out | apply qc0 | apply qa0 | apply qd0) | exact HB.out)⟩⟩
     case round =>
      clear H'
      try clear c1
      try clear c2
      try clear p2
      try clear q2
      try clear hx2
      try clear c3
      try clear c3b0
      try clear c3b1
      try clear c4
      try clear c5
      try clear c6
      try clear p6
      try clear c7
      try clear c7b0
      try clear c8
      try clear c8b0
      try clear c9
      try clear c9b0
      try clear c13
      try clear c14
      try clear c15
      try clear c16
      try clear c16b0
      try clear c19
      try clear c20
      try clear c20b0
      try clear c20b1
      try clear c22
      try clear c22b0
      try clear c22b1
      try clear c24
      try clear p24
      try clear q24
      try clear hx24
      try clear c25
      try clear p25
      try clear q25
      try clear hx25
      try clear c26
      try clear c26b0
      try clear c26b1
      try clear c26b2
      try clear c32
      try clear c33
      try clear c37
      try clear c37b0
      try clear c38
      try clear c38b0
      try clear c39
      try clear c39b0
      try clear c41
      try clear c43
      try clear c47
      try clear c51
      try clear c51b0
      try clear c52
      try clear c52b0
      try clear c53
      try clear c53b0
      try clear c55
      try clear c57
      try clear c61
      try clear p64
      try clear hcz12_0
      try clear hcz12_1
      try clear hcz12_2
      try clear hcz12_3
      try clear hcz12_4
      try clear hcz17_0
      try clear hcz17_1
      try clear hcz17_2
      try clear hcz17_3
      try clear hcz17_4
      try clear hcz21_0
      try clear hcz21_1
      try clear hcz21_2
      try clear hcz21_3
      try clear hcz21_4
      try clear hcz23_0
      try clear hcz23_1
      try clear hcz23_2
      try clear hcz23_3
      try clear hcz23_4
      try clear hcz27_0
      try clear hcz27_1
      try clear hcz27_2
      try clear hcz27_3
      try clear hcz27_4
      try clear hcz28_0
      try clear hcz28_1
      try clear hcz28_2
      try clear hcz28_3
      try clear hcz28_4
      try clear hcz29_0
      try clear hcz29_1
      try clear hcz29_2
      try clear hcz29_3
      try clear hcz29_4
      try clear hcz30_0
      try clear hcz30_1
      try clear hcz30_2
      try clear hcz30_3
      try clear hcz30_4
      try clear hcz31_0
      try clear hcz31_1
      try clear hcz31_2
      try clear hcz31_3
      try clear hcz31_4
      try clear hcz34_0
      try clear hcz34_1
      try clear hcz34_2
      try clear hcz34_3
      try clear hcz34_4
      try clear hcz36_0
      try clear hcz36_1
      try clear hcz36_2
      try clear hcz36_3
      try clear hcz36_4
      try clear hcz44_0
      try clear hcz44_1
      try clear hcz44_2
      try clear hcz44_3
      try clear hcz44_4
      try clear hcz44_5
      try clear hcz48_0
      try clear hcz48_1
      try clear hcz48_2
      try clear hcz48_3
      try clear hcz48_4
      try clear hcz48_5
      try clear hcz50_0
      try clear hcz50_1
      try clear hcz50_2
      try clear hcz50_3
      try clear hcz50_4
      try clear hcz58_0
      try clear hcz58_1
      try clear hcz58_2
      try clear hcz58_3
      try clear hcz58_4
      try clear hcz58_5
      try clear hcz62_0
      try clear hcz62_1
      try clear hcz62_2
      try clear hcz62_3
      try clear hcz62_4
      try clear hcz62_5
      try clear hfz12_0
      try clear hfz12_1
      try clear hfz12_2
      try clear hfz12_3
      try clear hfz12_4
      try clear hfz17_0
      try clear hfz17_1
      try clear hfz17_2
      try clear hfz17_3
      try clear hfz17_4
      try clear hfz21_0
      try clear hfz21_1
      try clear hfz21_2
      try clear hfz21_3
      try clear hfz21_4
      try clear hfz23_0
      try clear hfz23_1
      try clear hfz23_2
      try clear hfz23_3
      try clear hfz23_4
      try clear hfz27_0
      try clear hfz27_1
      try clear hfz27_2
      try clear hfz27_3
      try clear hfz27_4
      try clear hfz28_0
      try clear hfz28_1
      try clear hfz28_2
      try clear hfz28_3
      try clear hfz28_4
      try clear hfz29_0
      try clear hfz29_1
      try clear hfz29_2
      try clear hfz29_3
      try clear hfz29_4
      try clear hfz30_0
      try clear hfz30_1
      try clear hfz30_2
      try clear hfz30_3
      try clear hfz30_4
      try clear hfz31_0
      try clear hfz31_1
      try clear hfz31_2
      try clear hfz31_3
      try clear hfz31_4
      try clear hfz34_0
      try clear hfz34_1
      try clear hfz34_2
      try clear hfz34_3
      try clear hfz34_4
      try clear hfz36_0
      try clear hfz36_1
      try clear hfz36_2
      try clear hfz36_3
      try clear hfz36_4
      try clear hfz44_0
      try clear hfz44_1
      try clear hfz44_2
      try clear hfz44_3
      try clear hfz44_4
      try clear hfz44_5
      try clear hfz48_0
      try clear hfz48_1
      try clear hfz48_2
      try clear hfz48_3
      try clear hfz48_4
      try clear hfz48_5
      try clear hfz50_0
      try clear hfz50_1
      try clear hfz50_2
      try clear hfz50_3
      try clear hfz50_4
      try clear hfz58_0
      try clear hfz58_1
      try clear hfz58_2
      try clear hfz58_3
      try clear hfz58_4
      try clear hfz58_5
      try clear hfz62_0
      try clear hfz62_1
      try clear hfz62_2
      try clear hfz62_3
      try clear hfz62_4
      try clear hfz62_5
      try clear hx244_0
      try clear hx244_1
      try clear hx244_2
      try clear hx244_3
      try clear hx244_4
      try clear hx249_0
      try clear hx249_1
      try clear hx249_2
      try clear hx249_3
      try clear hx249_4
      try clear hx249_5
      try clear hx252_0
      try clear hx252_1
      try clear hx252_2
      try clear hx252_3
      try clear hx252_4
      try clear hx252_5
      try clear p2
      try clear p24
      try clear p244
      try clear p249
      try clear p252
      try clear p6
      try clear q2
      try clear q24
      try clear q244
      try clear q249
      try clear q252
      obtain ⟨x107_3, rfl, HA, HK3, HO_105, HB⟩ := hrel
      cases gk with
      | zero => exact absurd HA.out (by simp [impl_ItemsOk.l3])
      | succ k3 =>
       have H := HA.out
       clear HA
       simp only [impl_ItemsOk.l3] at H
       by_cases c67 : x107_3 < (t255.length : Int)
       ·rw [if_pos c67] at H
        have c67b0 : decide (x107_3 < (t255.length : Int)) = true := decide_eq_true c67
        clear c67
        by_cases c68 : 0 ≤ x107_3
        case neg => rw [if_neg c68] at H; exact absurd H (by simp)
        rw [if_pos c68] at H
        have c68b0 : decide (0 ≤ x107_3) = true := decide_eq_true c68
        clear c68
        by_cases c69 : x107_3 < (t255.length : Int)
        case neg => rw [if_neg c69] at H; exact absurd H (by simp)
        rw [if_pos c69] at H
        have c69b0 : decide (x107_3 < (t255.length : Int)) = true := decide_eq_true c69
        clear c69
        by_cases c70 : (rd t255 x107_3) > 20
        ·rw [if_pos c70] at H
         have c70b0 : decide (20 < (rd t255 x107_3)) = true := decide_eq_true c70
         clear c70
         obtain rfl := Option.some.inj H
         have p258 : 0 ≤ (x107_3 : Int) := of_decide_eq_true (by first | (with_reducible assumption) | assumption)
         have q258 : x107_3 < (t255.length : Int) := of_decide_eq_true (by first | (with_reducible assumption) | assumption)
         obtain ⟨ad258, e258, hx258_0⟩ := Kd.qq1 (Kd.qv0 HO_105.out).2.2 x107_3 p258 q258
         cases e258
         replace p258 := eq_true p258
         replace q258 := eq_true q258
         go_wp2
         go_ret
         exact ⟨by first | rfl | (simp [errW_none, errW_some] <;> rfl) | (simp [*, errW_none, errW_some] <;> rfl), by repeat (first | (with_reducible first | exact HB.out | apply qc0 | apply qa0 | apply qd0) | exact HB.out)⟩
        rw [if_neg c70] at H
        have c70b0 : decide (20 < (rd t255 x107_3)) = false := decide_eq_false c70
        clear c70
        have H' := Aside0.mk H
        clear H
        have p258 : 0 ≤ (x107_3 : Int) := of_decide_eq_true (by first | (with_reducible assumption) | assumption)
        have q258 : x107_3 < (t255.length : Int) := of_decide_eq_true (by first | (with_reducible assumption) | assumption)
        obtain ⟨ad258, e258, hx258_0⟩ := Kd.qq1 (Kd.qv0 HO_105.out).2.2 x107_3 p258 q258
        cases e258
        replace p258 := eq_true p258
        replace q258 := eq_true q258
        go_wp2
        go_roundg k3
        case measure => have := HJ1.out; have := HK2.out; have := HK3.out; omega
        case rel => exact ⟨(wrap64 (x107_3 + 1)), (by first | rfl | (simp; done) | (simp [*]; done)), H', ⟨by have := HJ1.out; have := HK2.out; have := HK3.out; omega⟩, ⟨by (with_reducible repeat (first | apply Kd.qo0 | apply Kd.qn0 | apply Kd.qt0)); exact HO_105.out⟩, ⟨by repeat (first | (with_reducible first | exact HB.out | apply qc0 | apply qa0 | apply qd0) | exact HB.out)⟩⟩
       rw [if_neg c67] at H
       have c67b0 : decide (x107_3 < (t255.length : Int)) = false := decide_eq_false c67
       clear c67
       obtain rfl := Option.some.inj H
       go_wp2
       go_ret
       exact ⟨by first | rfl | (simp [errW_none, errW_some] <;> rfl) | (simp [*, errW_none, errW_some] <;> rfl), by repeat (first | (with_reducible first | exact HB.out | apply qc0 | apply qa0 | apply qd0) | exact HB.out)⟩

end Go.Proofs.Ytkkdmmefnicmaaa.PFnLevelled
