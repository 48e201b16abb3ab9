/- Lines by a program (a changed copy of the kit's print: this repo's wip/tools): Go functions as Lean functions, and proofs that the calls answer so. -/
import Derived.Test.YtflagondodkonaaZPFnExactLatenessx0
import Derived.Test.YtflagondodkonaaZPFnExactLatenessx3
import Derived.Test.YtflagondodkonaaZPFnExactLatenessx4
namespace Go.Proofs.Ytflagondodkonaa.PFnExactLateness
open Go.RowKit Go.Proofs.YtflagondodkonaaW.PrintWords Go.Proofs.YtflagondodkonaaW.PrintLast Go.Proofs.YtflagondodkonaaW.PrintMore
attribute [local go_sem] max2_int min2_int max_two min_two max_three min_three max_four min_four   -- for this text's walks alone
set_option linter.unusedVariables false
set_option linter.unusedSimpArgs false

/-! ### impl_Lateness: function 30 -/
mutual
def impl_Lateness.j0 : Nat → List (S164) → List (S159) → Bool → Option (Int × Int)
 | 0, _, _, _ => none
 | k + 1, x0, x1, x20 => if x20 = true then (some (0, 0)) else (if 0 ≤ (x0.length : Int) then (if ((x0.length : Int) : Int).toNat ≤ 35184372088832 then (impl_Lateness.l0 k x0 (List.replicate ((x0.length : Int) : Int).toNat 0) 0 x1 (x1.length : Int) 0) else (none)) else (none))
def impl_Lateness.l0 : Nat → List (S164) → List Int → Int → List (S159) → Int → Int → Option (Int × Int)
 | 0, _, _, _, _, _, _ => none
 | k + 1, x0, x6, x7, x24, x25, x26 => if x26 < x25 then (if 0 ≤ x26 then (if x26 < (x24.length : Int) then (if ((rd_T159 x24 x26).f0) < 0 then (impl_Lateness.j2 k x0 x6 x7 x24 x25 x26 true ((rd_T159 x24 x26).f0) ((rd_T159 x24 x26).f1) ((rd_T159 x24 x26).f2) ((rd_T159 x24 x26).f3) ((rd_T159 x24 x26).f4)) else (if ((rd_T159 x24 x26).f0) ≥ (x0.length : Int) then (impl_Lateness.j2 k x0 x6 x7 x24 x25 x26 true ((rd_T159 x24 x26).f0) ((rd_T159 x24 x26).f1) ((rd_T159 x24 x26).f2) ((rd_T159 x24 x26).f3) ((rd_T159 x24 x26).f4)) else ((impl_hour.f ((rd_T159 x24 x26).f4)).bind fun t196 => (impl_Lateness.j2 k x0 x6 x7 x24 x25 x26 (!t196) ((rd_T159 x24 x26).f0) ((rd_T159 x24 x26).f1) ((rd_T159 x24 x26).f2) ((rd_T159 x24 x26).f3) ((rd_T159 x24 x26).f4))))) else (none)) else (none)) else (impl_Lateness.l1 k x6 x7 0 x0 (x0.length : Int) 0)
def impl_Lateness.j2 : Nat → List (S164) → List Int → Int → List (S159) → Int → Int → Bool → Int → Int → Int → Int → Int → Option (Int × Int)
 | 0, _, _, _, _, _, _, _, _, _, _, _, _ => none
 | k + 1, x0, x6, x7, x24, x25, x26, x45, x196000, x196001, x196002, x196003, x196004 => if x45 = true then (some (0, 0)) else (if 0 ≤ x196000 then (if x196000 < (x6.length : Int) then (if x196004 > (rd x6 x196000) then ((some (x6.set (x196000 : Int).toNat x196004 : List Int)).bind fun y198 => (if x196004 > x7 then (impl_Lateness.l0 k x0 y198 x196004 x24 x25 (wrap64 (x26 + 1))) else (impl_Lateness.l0 k x0 y198 x7 x24 x25 (wrap64 (x26 + 1))))) else (if x196004 > x7 then (impl_Lateness.l0 k x0 x6 x196004 x24 x25 (wrap64 (x26 + 1))) else (impl_Lateness.l0 k x0 x6 x7 x24 x25 (wrap64 (x26 + 1))))) else (none)) else (none))
def impl_Lateness.l1 : Nat → List Int → Int → Int → List (S164) → Int → Int → Option (Int × Int)
 | 0, _, _, _, _, _, _ => none
 | k + 1, x6, x7, x10, x67, x68, x69 => if x69 < x68 then (if 0 ≤ x69 then (if x69 < (x67.length : Int) then (if x69 < (x6.length : Int) then (if (rd x6 x69) > ((rd_T164 x67 x69).f1) then (impl_Lateness.l1 k x6 x7 (wrap64 (x10 + (wrap64 (((rd_T164 x67 x69).f2) * (wrap64 ((rd x6 x69) - ((rd_T164 x67 x69).f1))))))) x67 x68 (wrap64 (x69 + 1))) else (impl_Lateness.l1 k x6 x7 x10 x67 x68 (wrap64 (x69 + 1)))) else (none)) else (none)) else (none)) else (some (x10, x7))
end
def impl_Lateness.f (k : Nat) (l0 : List (S164)) (l1 : List (S159)) : Option (Int × Int) := (impl_jobsOk.f k l0).bind fun t190 => (if t190 = true then (impl_Lateness.j0 k l0 l1 (decide ((l1.length : Int) > 400))) else (impl_Lateness.j0 k l0 l1 true))
theorem impl_Lateness.mono_l : ∀ k, (∀ y0 y1 y2, LeO (impl_Lateness.j0 k y0 y1 y2) (impl_Lateness.j0 (k + 1) y0 y1 y2)) ∧ (∀ y0 y1 y2 y3 y4 y5, LeO (impl_Lateness.l0 k y0 y1 y2 y3 y4 y5) (impl_Lateness.l0 (k + 1) y0 y1 y2 y3 y4 y5)) ∧ (∀ y0 y1 y2 y3 y4 y5 y6 y7 y8 y9 y10 y11, LeO (impl_Lateness.j2 k y0 y1 y2 y3 y4 y5 y6 y7 y8 y9 y10 y11) (impl_Lateness.j2 (k + 1) y0 y1 y2 y3 y4 y5 y6 y7 y8 y9 y10 y11)) ∧ (∀ y0 y1 y2 y3 y4 y5, LeO (impl_Lateness.l1 k y0 y1 y2 y3 y4 y5) (impl_Lateness.l1 (k + 1) y0 y1 y2 y3 y4 y5))
 | 0 => ⟨fun _ _ _ r h => by simp [impl_Lateness.j0] at h, fun _ _ _ _ _ _ r h => by simp [impl_Lateness.l0] at h, fun _ _ _ _ _ _ _ _ _ _ _ _ r h => by simp [impl_Lateness.j2] at h, fun _ _ _ _ _ _ r h => by simp [impl_Lateness.l1] at h⟩
 | k + 1 => by
  obtain ⟨ih0, ih1, ih2, ih3⟩ := impl_Lateness.mono_l k
  refine ⟨?_, ?_, ?_, ?_⟩
  ·intro y0 y1 y2
   unfold impl_Lateness.j0
   repeat' first
   | (with_reducible exact ih0 _ _ _)
   | (with_reducible exact ih1 _ _ _ _ _ _)
   | (with_reducible exact ih2 _ _ _ _ _ _ _ _ _ _ _ _)
   | (with_reducible exact ih3 _ _ _ _ _ _)
   | (with_reducible exact impl_jobsOk.mono _ _)
   | (with_reducible exact LeO.refl _)
   | (with_reducible exact LeO.none _)
   | (with_reducible refine LeO.ite ?_ ?_)
   | (with_reducible refine LeO.bind ?_ (fun _ => ?_))
   | exact ih0 _ _ _
   | exact ih1 _ _ _ _ _ _
   | exact ih2 _ _ _ _ _ _ _ _ _ _ _ _
   | exact ih3 _ _ _ _ _ _
   | exact impl_jobsOk.mono _ _
   | exact LeO.none _
   | refine LeO.ite ?_ ?_
   | refine LeO.bind ?_ (fun _ => ?_)
  ·intro y0 y1 y2 y3 y4 y5
   unfold impl_Lateness.l0
   repeat' first
   | (with_reducible exact ih0 _ _ _)
   | (with_reducible exact ih1 _ _ _ _ _ _)
   | (with_reducible exact ih2 _ _ _ _ _ _ _ _ _ _ _ _)
   | (with_reducible exact ih3 _ _ _ _ _ _)
   | (with_reducible exact impl_jobsOk.mono _ _)
   | (with_reducible exact LeO.refl _)
   | (with_reducible exact LeO.none _)
   | (with_reducible refine LeO.ite ?_ ?_)
   | (with_reducible refine LeO.bind ?_ (fun _ => ?_))
   | exact ih0 _ _ _
   | exact ih1 _ _ _ _ _ _
   | exact ih2 _ _ _ _ _ _ _ _ _ _ _ _
   | exact ih3 _ _ _ _ _ _
   | exact impl_jobsOk.mono _ _
   | exact LeO.none _
   | refine LeO.ite ?_ ?_
   | refine LeO.bind ?_ (fun _ => ?_)
  ·intro y0 y1 y2 y3 y4 y5 y6 y7 y8 y9 y10 y11
   unfold impl_Lateness.j2
   repeat' first
   | (with_reducible exact ih0 _ _ _)
   | (with_reducible exact ih1 _ _ _ _ _ _)
   | (with_reducible exact ih2 _ _ _ _ _ _ _ _ _ _ _ _)
   | (with_reducible exact ih3 _ _ _ _ _ _)
   | (with_reducible exact impl_jobsOk.mono _ _)
   | (with_reducible exact LeO.refl _)
   | (with_reducible exact LeO.none _)
   | (with_reducible refine LeO.ite ?_ ?_)
   | (with_reducible refine LeO.bind ?_ (fun _ => ?_))
   | exact ih0 _ _ _
   | exact ih1 _ _ _ _ _ _
   | exact ih2 _ _ _ _ _ _ _ _ _ _ _ _
   | exact ih3 _ _ _ _ _ _
   | exact impl_jobsOk.mono _ _
   | exact LeO.none _
   | refine LeO.ite ?_ ?_
   | refine LeO.bind ?_ (fun _ => ?_)
  ·intro y0 y1 y2 y3 y4 y5
   unfold impl_Lateness.l1
   repeat' first
   | (with_reducible exact ih0 _ _ _)
   | (with_reducible exact ih1 _ _ _ _ _ _)
   | (with_reducible exact ih2 _ _ _ _ _ _ _ _ _ _ _ _)
   | (with_reducible exact ih3 _ _ _ _ _ _)
   | (with_reducible exact impl_jobsOk.mono _ _)
   | (with_reducible exact LeO.refl _)
   | (with_reducible exact LeO.none _)
   | (with_reducible refine LeO.ite ?_ ?_)
   | (with_reducible refine LeO.bind ?_ (fun _ => ?_))
   | exact ih0 _ _ _
   | exact ih1 _ _ _ _ _ _
   | exact ih2 _ _ _ _ _ _ _ _ _ _ _ _
   | exact ih3 _ _ _ _ _ _
   | exact impl_jobsOk.mono _ _
   | exact LeO.none _
   | refine LeO.ite ?_ ?_
   | refine LeO.bind ?_ (fun _ => ?_)
theorem impl_Lateness.mono : ∀ a0 a1 k, LeO (impl_Lateness.f k a0 a1) (impl_Lateness.f (k + 1) a0 a1) := by
 intro a0 a1 k
 obtain ⟨ih0, ih1, ih2, ih3⟩ := impl_Lateness.mono_l k
 unfold impl_Lateness.f
 repeat' first
   | (with_reducible exact ih0 _ _ _)
   | (with_reducible exact ih1 _ _ _ _ _ _)
   | (with_reducible exact ih2 _ _ _ _ _ _ _ _ _ _ _ _)
   | (with_reducible exact ih3 _ _ _ _ _ _)
   | (with_reducible exact impl_jobsOk.mono _ _)
   | (with_reducible exact LeO.refl _)
   | (with_reducible exact LeO.none _)
   | (with_reducible refine LeO.ite ?_ ?_)
   | (with_reducible refine LeO.bind ?_ (fun _ => ?_))
   | exact ih0 _ _ _
   | exact ih1 _ _ _ _ _ _
   | exact ih2 _ _ _ _ _ _ _ _ _ _ _ _
   | exact ih3 _ _ _ _ _ _
   | exact impl_jobsOk.mono _ _
   | exact LeO.none _
   | refine LeO.ite ?_ ?_
   | refine LeO.bind ?_ (fun _ => ?_)
set_option maxHeartbeats 8000000 in
set_option maxRecDepth 100000 in
theorem impl_Lateness.calls (k : Nat) (A0 : Option Addr) (c0 : Nat) (l0 : List (S164)) (A1 : Option Addr) (c1 : Nat) (l1 : List (S159)) (r1 : Int) (r2 : Int) (w : World) (hr0 : Kd.C k164 w A0 l0.length l0) (hc0 : l0.length ≤ c0) (hr1 : Kd.C k159 w A1 l1.length l1) (hc1 : l1.length ≤ c1) (h : impl_Lateness.f k l0 l1 = some (r1, r2)) :
  Calls Try.prog 30 #[.slice A0 l0.length c0, .slice A1 l1.length c1] w fun e w' => e = .returned (.tuple #[.int .i64 r1, .int .i64 r2]) ∧ Below w.heap.size w w' := by
 have hu159 := Try.underlying159
 have hu164 := Try.underlying164
 have HR0 := Aside0.mk hr0
 have HC0 := Aside0.mk hc0
 clear hr0 hc0
 have HR1 := Aside0.mk hr1
 have HC1 := Aside0.mk hc1
 clear hr1 hc1
 have HB := Aside0.mk (Below.refl w.heap.size w)
 have H : ((impl_jobsOk.f k l0).bind fun t190 => (if t190 = true then (impl_Lateness.j0 k l0 l1 (decide ((l1.length : Int) > 400))) else (impl_Lateness.j0 k l0 l1 true))) = some (r1, r2) := h
 clear h
 have HC3 := Aside0.mk H
 clear H
 go_enter Try.func30, Try.ntmps30
 go_upto_region 1 with (fail)
 repeat (go_quiet (fail); go_upto_region 1 with (fail))
 go_cut [20] (fun v20 wc => ∃ (kq : Nat) (x20_2 : Bool), v20 = .bool x20_2 ∧ Aside0 (impl_Lateness.j0 kq l0 l1 x20_2 = some (r1, r2)) ∧ Aside0 (kq ≤ k) ∧ Aside0 (Below w.heap.size w wc))
 case first =>
  have H := HC3.out
  clear HC3
  replace H := Option.bind_eq_some_iff.mp H
  obtain ⟨t190, A40, H⟩ := H
  replace H : (if t190 = true then (impl_Lateness.j0 k l0 l1 (decide ((l1.length : Int) > 400))) else (impl_Lateness.j0 k l0 l1 true)) = some (r1, r2) := H
  have A4 := Aside0.mk A40
  clear A40
  by_cases c5 : t190 = true
  ·subst c5
   have H1 : (impl_Lateness.j0 k l0 l1 (decide ((l1.length : Int) > 400))) = some (r1, r2) := by rw [if_pos rfl] at H; exact H
   clear H
   have H := H1
   clear H1
   have H' := Aside0.mk H
   clear H
   go_wp2_with (first | (go_at_call 105; (with_reducible refine (impl_jobsOk.calls k _ _ l0 true _ ?side1 ?side2 A4.out).mono ?_); (case side1 => repeat (first | exact (Kd.C_below HR0.out HB.out) | (with_reducible refine Kd.C_alloc ?_ _) | (with_reducible refine Kd.C_drewN ?_ _) | (with_reducible refine Kd.C_drew ?_))); (case side2 => exact HC0.out); rintro e w6 ⟨rfl, hb⟩; have n0_ := Aside0.mk (below_step (by repeat (first | (with_reducible first | exact HB.out | apply below_alloc | apply pw_below_drewN | apply below_drew1) | exact HB.out)) hb); clear HB; have HB := n0_; clear n0_; (try clear hb); (try clear hb2); (try clear hk); (try clear hi)))
   repeat (go_quiet (first | (go_at_call 105; (with_reducible refine (impl_jobsOk.calls k _ _ l0 true _ ?side1 ?side2 A4.out).mono ?_); (case side1 => repeat (first | exact (Kd.C_below HR0.out HB.out) | (with_reducible refine Kd.C_alloc ?_ _) | (with_reducible refine Kd.C_drewN ?_ _) | (with_reducible refine Kd.C_drew ?_))); (case side2 => exact HC0.out); rintro e w6 ⟨rfl, hb⟩; have n0_ := Aside0.mk (below_step (by repeat (first | (with_reducible first | exact HB.out | apply below_alloc | apply pw_below_drewN | apply below_drew1) | exact HB.out)) hb); clear HB; have HB := n0_; clear n0_; (try clear hb); (try clear hb2); (try clear hk); (try clear hi))); try go_wp2_with (first | (go_at_call 105; (with_reducible refine (impl_jobsOk.calls k _ _ l0 true _ ?side1 ?side2 A4.out).mono ?_); (case side1 => repeat (first | exact (Kd.C_below HR0.out HB.out) | (with_reducible refine Kd.C_alloc ?_ _) | (with_reducible refine Kd.C_drewN ?_ _) | (with_reducible refine Kd.C_drew ?_))); (case side2 => exact HC0.out); rintro e w6 ⟨rfl, hb⟩; have n0_ := Aside0.mk (below_step (by repeat (first | (with_reducible first | exact HB.out | apply below_alloc | apply pw_below_drewN | apply below_drew1) | exact HB.out)) hb); clear HB; have HB := n0_; clear n0_; (try clear hb); (try clear hb2); (try clear hk); (try clear hi))))
   go_meet
   case rel => exact ⟨_, (decide ((l1.length : Int) > 400)), (by first | rfl | (simp; done) | (simp [*]; done)), H', ⟨by first | omega | exact Nat.le_refl _⟩, ⟨by repeat (first | (with_reducible first | exact HB.out | apply below_alloc | apply pw_below_drewN | apply below_drew1) | exact HB.out)⟩⟩
  replace c5 := Bool.eq_false_iff.mpr c5
  subst c5
  have H1 : (impl_Lateness.j0 k l0 l1 true) = some (r1, r2) := by rw [if_neg (show ¬ (false = true) by decide)] at H; exact H
  clear H
  have H := H1
  clear H1
  have H' := Aside0.mk H
  clear H
  go_wp2_with (first | (go_at_call 105; (with_reducible refine (impl_jobsOk.calls k _ _ l0 false _ ?side1 ?side2 A4.out).mono ?_); (case side1 => repeat (first | exact (Kd.C_below HR0.out HB.out) | (with_reducible refine Kd.C_alloc ?_ _) | (with_reducible refine Kd.C_drewN ?_ _) | (with_reducible refine Kd.C_drew ?_))); (case side2 => exact HC0.out); rintro e w7 ⟨rfl, hb⟩; have n0_ := Aside0.mk (below_step (by repeat (first | (with_reducible first | exact HB.out | apply below_alloc | apply pw_below_drewN | apply below_drew1) | exact HB.out)) hb); clear HB; have HB := n0_; clear n0_; (try clear hb); (try clear hb2); (try clear hk); (try clear hi)))
  repeat (go_quiet (first | (go_at_call 105; (with_reducible refine (impl_jobsOk.calls k _ _ l0 false _ ?side1 ?side2 A4.out).mono ?_); (case side1 => repeat (first | exact (Kd.C_below HR0.out HB.out) | (with_reducible refine Kd.C_alloc ?_ _) | (with_reducible refine Kd.C_drewN ?_ _) | (with_reducible refine Kd.C_drew ?_))); (case side2 => exact HC0.out); rintro e w7 ⟨rfl, hb⟩; have n0_ := Aside0.mk (below_step (by repeat (first | (with_reducible first | exact HB.out | apply below_alloc | apply pw_below_drewN | apply below_drew1) | exact HB.out)) hb); clear HB; have HB := n0_; clear n0_; (try clear hb); (try clear hb2); (try clear hk); (try clear hi))); try go_wp2_with (first | (go_at_call 105; (with_reducible refine (impl_jobsOk.calls k _ _ l0 false _ ?side1 ?side2 A4.out).mono ?_); (case side1 => repeat (first | exact (Kd.C_below HR0.out HB.out) | (with_reducible refine Kd.C_alloc ?_ _) | (with_reducible refine Kd.C_drewN ?_ _) | (with_reducible refine Kd.C_drew ?_))); (case side2 => exact HC0.out); rintro e w7 ⟨rfl, hb⟩; have n0_ := Aside0.mk (below_step (by repeat (first | (with_reducible first | exact HB.out | apply below_alloc | apply pw_below_drewN | apply below_drew1) | exact HB.out)) hb); clear HB; have HB := n0_; clear n0_; (try clear hb); (try clear hb2); (try clear hk); (try clear hi))))
  go_meet
  case rel => exact ⟨_, (true), (by first | rfl | (simp; done) | (simp [*]; done)), H', ⟨by first | omega | exact Nat.le_refl _⟩, ⟨by repeat (first | (with_reducible first | exact HB.out | apply below_alloc | apply pw_below_drewN | apply below_drew1) | exact HB.out)⟩⟩
 case rest =>
  clear HC3
  try clear c1
  try clear p2
  try clear c3
  try clear c5
  obtain ⟨kq, x20_2, rfl, HA, HJ2, HB⟩ := hcut
  cases kq with
  | zero => exact absurd HA.out (by simp [impl_Lateness.j0])
  | succ kj2 =>
   have H := HA.out
   clear HA
   simp only [impl_Lateness.j0] at H
   by_cases c8 : x20_2 = true
   ·subst c8
    have H1 : (some (0, 0)) = some (r1, r2) := by rw [if_pos rfl] at H; exact H
    clear H
    have H := H1
    clear H1
    simp only [Option.some.injEq, Prod.mk.injEq] at H
    obtain ⟨rfl, rfl⟩ := H
    go_wp2
    repeat (go_quiet (fail); try go_wp2)
    go_ret2
    exact ⟨by first | rfl | (simp [errW_none, errW_some] <;> rfl) | (simp [*, errW_none, errW_some] <;> rfl), by repeat (first | (with_reducible first | exact HB.out | apply below_alloc | apply pw_below_drewN | apply below_drew1) | exact HB.out)⟩
   replace c8 := Bool.eq_false_iff.mpr c8
   subst c8
   have H1 : (if 0 ≤ (l0.length : Int) then (if ((l0.length : Int) : Int).toNat ≤ 35184372088832 then (impl_Lateness.l0 kj2 l0 (List.replicate ((l0.length : Int) : Int).toNat 0) 0 l1 (l1.length : Int) 0) else (none)) else (none)) = some (r1, r2) := by rw [if_neg (show ¬ (false = true) by decide)] at H; exact H
   clear H
   have H := H1
   clear H1
   by_cases c9 : 0 ≤ (l0.length : Int)
   case neg => rw [if_neg c9] at H; exact absurd H (by simp)
   rw [if_pos c9] at H
   have c9b0 := eq_true c9
   have c9b1 : decide (0 ≤ (l0.length : Int)) = true := decide_eq_true c9
   clear c9
   by_cases c10 : ((l0.length : Int) : Int).toNat ≤ 35184372088832
   case neg => rw [if_neg c10] at H; exact absurd H (by simp)
   rw [if_pos c10] at H
   have c10b0 := eq_true c10
   have c10b1 : decide (((l0.length : Int) : Int).toNat ≤ 35184372088832) = true := decide_eq_true c10
   clear c10
   obtain ⟨y191, hy191⟩ : ∃ y_ : List Int, y_ = (List.replicate ((l0.length : Int) : Int).toNat 0) := ⟨_, rfl⟩
   replace H : (impl_Lateness.l0 kj2 l0 y191 0 l1 (l1.length : Int) 0) = some (r1, r2) := by first | (rw [hy191]; with_reducible exact H) | (have H2_ := (Option.bind_some _ _).symm.trans H; rw [hy191]; with_reducible exact H2_) | (have H2_ := (Option.bind_some _ _).symm.trans H; with_reducible exact H2_) | with_reducible exact H | (rw [hy191]; exact H) | exact H
   have Ny191 := Aside0.mk hy191
   clear hy191
   have H' := Aside0.mk H
   clear H
   go_wp2_with (first | ((with_reducible refine gate_dst (N := 23) rfl ?_); (try (refine gate_guard (by rfl) ?_; dsimp only)); refine Kd.R_make (Kd.int .i64) _ 3 rfl (N := 23) rfl 56 _ _ rfl (l0.length : Int) rfl rfl Try.underlying56 (.int .i64 0) 8 info3 rfl (by decide) (by omega) 0 (ok := fun _ => True) (okp := fun _ => True) rfl (fun _ hk => hk) trivial (of_decide_eq_true (by first | (with_reducible assumption) | assumption)) (Nat.le_trans (Nat.mul_le_mul_right _ (of_decide_eq_true (by first | (with_reducible assumption) | assumption) : (l0.length : Int).toNat ≤ 35184372088832)) (by omega)) (Below.refl _ _) (Nat.le_refl _) ?_; intro v192 w11 ho12 hb hg_ hnew_; clear hg_ hnew_; (first | rw [← Ny191.out] at ho12 | (simp only [Int.reduceToNat] at ho12; rw [← Ny191.out] at ho12)); have n0_ := Aside0.mk (Kd.R_lower ho12 (below_size (by repeat (first | (with_reducible first | exact HB.out | apply below_alloc | apply pw_below_drewN | apply below_drew1) | exact HB.out)))); have n1_ := Aside0.mk (below_step (by repeat (first | (with_reducible first | exact HB.out | apply below_alloc | apply pw_below_drewN | apply below_drew1) | exact HB.out)) hb); clear HB; have HO193 := n0_; have HB := n1_; clear n0_ n1_; clear hb ho12))
   repeat (go_quiet (first | ((with_reducible refine gate_dst (N := 23) rfl ?_); (try (refine gate_guard (by rfl) ?_; dsimp only)); refine Kd.R_make (Kd.int .i64) _ 3 rfl (N := 23) rfl 56 _ _ rfl (l0.length : Int) rfl rfl Try.underlying56 (.int .i64 0) 8 info3 rfl (by decide) (by omega) 0 (ok := fun _ => True) (okp := fun _ => True) rfl (fun _ hk => hk) trivial (of_decide_eq_true (by first | (with_reducible assumption) | assumption)) (Nat.le_trans (Nat.mul_le_mul_right _ (of_decide_eq_true (by first | (with_reducible assumption) | assumption) : (l0.length : Int).toNat ≤ 35184372088832)) (by omega)) (Below.refl _ _) (Nat.le_refl _) ?_; intro v192 w11 ho12 hb hg_ hnew_; clear hg_ hnew_; (first | rw [← Ny191.out] at ho12 | (simp only [Int.reduceToNat] at ho12; rw [← Ny191.out] at ho12)); have n0_ := Aside0.mk (Kd.R_lower ho12 (below_size (by repeat (first | (with_reducible first | exact HB.out | apply below_alloc | apply pw_below_drewN | apply below_drew1) | exact HB.out)))); have n1_ := Aside0.mk (below_step (by repeat (first | (with_reducible first | exact HB.out | apply below_alloc | apply pw_below_drewN | apply below_drew1) | exact HB.out)) hb); clear HB; have HO193 := n0_; have HB := n1_; clear n0_ n1_; clear hb ho12)); try go_wp2_with (first | ((with_reducible refine gate_dst (N := 23) rfl ?_); (try (refine gate_guard (by rfl) ?_; dsimp only)); refine Kd.R_make (Kd.int .i64) _ 3 rfl (N := 23) rfl 56 _ _ rfl (l0.length : Int) rfl rfl Try.underlying56 (.int .i64 0) 8 info3 rfl (by decide) (by omega) 0 (ok := fun _ => True) (okp := fun _ => True) rfl (fun _ hk => hk) trivial (of_decide_eq_true (by first | (with_reducible assumption) | assumption)) (Nat.le_trans (Nat.mul_le_mul_right _ (of_decide_eq_true (by first | (with_reducible assumption) | assumption) : (l0.length : Int).toNat ≤ 35184372088832)) (by omega)) (Below.refl _ _) (Nat.le_refl _) ?_; intro v192 w11 ho12 hb hg_ hnew_; clear hg_ hnew_; (first | rw [← Ny191.out] at ho12 | (simp only [Int.reduceToNat] at ho12; rw [← Ny191.out] at ho12)); have n0_ := Aside0.mk (Kd.R_lower ho12 (below_size (by repeat (first | (with_reducible first | exact HB.out | apply below_alloc | apply pw_below_drewN | apply below_drew1) | exact HB.out)))); have n1_ := Aside0.mk (below_step (by repeat (first | (with_reducible first | exact HB.out | apply below_alloc | apply pw_below_drewN | apply below_drew1) | exact HB.out)) hb); clear HB; have HO193 := n0_; have HB := n1_; clear n0_ n1_; clear hb ho12)))
   go_loopg [7, 26] kj2 (fun kq v7 v26 w' => ∃ (x6_2 : List Int) (x7_2 : Int) (x26_2 : Int), v7 = .int .i64 x7_2 ∧ v26 = .int .i64 x26_2 ∧ Aside0 (impl_Lateness.l0 kq l0 x6_2 x7_2 l1 (l1.length : Int) x26_2 = some (r1, r2)) ∧ Aside0 (kq ≤ kj2) ∧ Aside0 (Kd.R (Kd.int .i64) 3 w' w.heap.size (fun _ => True) v192 x6_2) ∧ Aside0 (Below w.heap.size w w'))
   case atStart => exact ⟨(y191), (0), (0), (by first | rfl | (simp; done) | (simp [*]; done)), (by first | rfl | (simp; done) | (simp [*]; done)), H', ⟨Nat.le_refl _⟩, ⟨by (with_reducible repeat (first | apply Kd.R_alloc | apply Kd.R_drewN | apply Kd.R_drew)); exact HO193.out⟩, ⟨by repeat (first | (with_reducible first | exact HB.out | apply below_alloc | apply pw_below_drewN | apply below_drew1) | exact HB.out)⟩⟩
   case round =>
    clear H'
    try clear c1
    try clear p2
    try clear c3
    try clear c5
    try clear c8
    try clear c9
    try clear c9b0
    try clear c9b1
    try clear c10
    try clear c10b0
    try clear c10b1
    try clear p2
    obtain ⟨x6_2, x7_2, x26_2, rfl, rfl, HA, HK2, HO_6, HB⟩ := hrel
    cases gk with
    | zero => exact absurd HA.out (by simp [impl_Lateness.l0])
    | succ k2 =>
     have H := HA.out
     clear HA
     simp only [impl_Lateness.l0] at H
     by_cases c13 : x26_2 < (l1.length : Int)
     ·rw [if_pos c13] at H
      have c13b0 : decide (x26_2 < (l1.length : Int)) = true := decide_eq_true c13
      clear c13
      by_cases c14 : 0 ≤ x26_2
      case neg => rw [if_neg c14] at H; exact absurd H (by simp)
      rw [if_pos c14] at H
      have c14b0 : decide (0 ≤ x26_2) = true := decide_eq_true c14
      clear c14
      by_cases c15 : x26_2 < (l1.length : Int)
      case neg => rw [if_neg c15] at H; exact absurd H (by simp)
      rw [if_pos c15] at H
      have c15b0 : decide (x26_2 < (l1.length : Int)) = true := decide_eq_true c15
      clear c15
      have HC16 := Aside0.mk H
      clear H
      have p194 : 0 ≤ (x26_2 : Int) := of_decide_eq_true (by first | (with_reducible assumption) | assumption)
      have q194 : x26_2 < (l1.length : Int) := of_decide_eq_true (by first | (with_reducible assumption) | assumption)
      obtain ⟨ad194, e194, hx194_0, hx194_1, hx194_2, hx194_3, hx194_4⟩ := at_T159 HR1.out x26_2 p194 q194
      cases e194
      replace hx194_0 := (HB.out.cell (World.block_lt_of_cell? w _ hx194_0)).trans hx194_0
      replace hx194_1 := (HB.out.cell (World.block_lt_of_cell? w _ hx194_1)).trans hx194_1
      replace hx194_2 := (HB.out.cell (World.block_lt_of_cell? w _ hx194_2)).trans hx194_2
      replace hx194_3 := (HB.out.cell (World.block_lt_of_cell? w _ hx194_3)).trans hx194_3
      replace hx194_4 := (HB.out.cell (World.block_lt_of_cell? w _ hx194_4)).trans hx194_4
      replace p194 := eq_true p194
      replace q194 := eq_true q194
      go_upto_region 8 with (first | ((with_reducible refine gate_dst (N := 9) rfl ?_); (try (refine gate_guard (by rfl) ?_; dsimp only)); refine box_event ?hg (N := 9) ?hd (cs := #[.int .i64 0, .int .i64 0, .int .i64 0, .int .i64 0, .int .i64 0]) (t := 159) ?hr ?_; (case hd => rfl); (case hg => rfl); (case hr => first | (go_simp; done) | (go_simp; rfl)); intro gb195 hg w17 hbox hb; have n0_ := Aside0.mk (Kd.R_below (by (with_reducible repeat (first | apply Kd.R_alloc | apply Kd.R_drewN | apply Kd.R_drew)); exact HO_6.out) hb); have n1_ := Aside0.mk (below_step (by repeat (first | (with_reducible first | exact HB.out | apply below_alloc | apply pw_below_drewN | apply below_drew1) | exact HB.out)) hb); have n2_ := Aside0.mk (hbox); have n3_ := Aside0.mk ((by rw [hg]; exact (below_size (by repeat (first | (with_reducible first | exact HB.out | apply below_alloc | apply pw_below_drewN | apply below_drew1) | exact HB.out))) : w.heap.size ≤ gb195)); have n4_ := Aside0.mk ((by rw [hg]; exact (below_size (by repeat (first | (with_reducible first | exact HB.out | apply below_alloc | apply pw_below_drewN | apply below_drew1) | exact HB.out))) : w.heap.size ≤ gb195)); clear HO_6; clear HB; have HO_6 := n0_; have HB := n1_; have BK195 := n2_; have GW195 := n3_; have GE195 := n4_; clear n0_ n1_ n2_ n3_ n4_; clear hb hbox hg; have hcz18_0 : w17.cell? ⟨gb195, 0, none⟩ = some (.int .i64 0) := (blk_cell BK195.out 0).trans rfl; have hcz18_1 : w17.cell? ⟨gb195, 1, none⟩ = some (.int .i64 0) := (blk_cell BK195.out 1).trans rfl; have hcz18_2 : w17.cell? ⟨gb195, 2, none⟩ = some (.int .i64 0) := (blk_cell BK195.out 2).trans rfl; have hcz18_3 : w17.cell? ⟨gb195, 3, none⟩ = some (.int .i64 0) := (blk_cell BK195.out 3).trans rfl; have hcz18_4 : w17.cell? ⟨gb195, 4, none⟩ = some (.int .i64 0) := (blk_cell BK195.out 4).trans rfl; have hfz18_0 := blk_frozen BK195.out 0; have hfz18_1 := blk_frozen BK195.out 1; have hfz18_2 := blk_frozen BK195.out 2; have hfz18_3 := blk_frozen BK195.out 3; have hfz18_4 := blk_frozen BK195.out 4))
      repeat (go_quiet (first | ((with_reducible refine gate_dst (N := 9) rfl ?_); (try (refine gate_guard (by rfl) ?_; dsimp only)); refine box_event ?hg (N := 9) ?hd (cs := #[.int .i64 0, .int .i64 0, .int .i64 0, .int .i64 0, .int .i64 0]) (t := 159) ?hr ?_; (case hd => rfl); (case hg => rfl); (case hr => first | (go_simp; done) | (go_simp; rfl)); intro gb195 hg w17 hbox hb; have n0_ := Aside0.mk (Kd.R_below (by (with_reducible repeat (first | apply Kd.R_alloc | apply Kd.R_drewN | apply Kd.R_drew)); exact HO_6.out) hb); have n1_ := Aside0.mk (below_step (by repeat (first | (with_reducible first | exact HB.out | apply below_alloc | apply pw_below_drewN | apply below_drew1) | exact HB.out)) hb); have n2_ := Aside0.mk (hbox); have n3_ := Aside0.mk ((by rw [hg]; exact (below_size (by repeat (first | (with_reducible first | exact HB.out | apply below_alloc | apply pw_below_drewN | apply below_drew1) | exact HB.out))) : w.heap.size ≤ gb195)); have n4_ := Aside0.mk ((by rw [hg]; exact (below_size (by repeat (first | (with_reducible first | exact HB.out | apply below_alloc | apply pw_below_drewN | apply below_drew1) | exact HB.out))) : w.heap.size ≤ gb195)); clear HO_6; clear HB; have HO_6 := n0_; have HB := n1_; have BK195 := n2_; have GW195 := n3_; have GE195 := n4_; clear n0_ n1_ n2_ n3_ n4_; clear hb hbox hg; have hcz18_0 : w17.cell? ⟨gb195, 0, none⟩ = some (.int .i64 0) := (blk_cell BK195.out 0).trans rfl; have hcz18_1 : w17.cell? ⟨gb195, 1, none⟩ = some (.int .i64 0) := (blk_cell BK195.out 1).trans rfl; have hcz18_2 : w17.cell? ⟨gb195, 2, none⟩ = some (.int .i64 0) := (blk_cell BK195.out 2).trans rfl; have hcz18_3 : w17.cell? ⟨gb195, 3, none⟩ = some (.int .i64 0) := (blk_cell BK195.out 3).trans rfl; have hcz18_4 : w17.cell? ⟨gb195, 4, none⟩ = some (.int .i64 0) := (blk_cell BK195.out 4).trans rfl; have hfz18_0 := blk_frozen BK195.out 0; have hfz18_1 := blk_frozen BK195.out 1; have hfz18_2 := blk_frozen BK195.out 2; have hfz18_3 := blk_frozen BK195.out 3; have hfz18_4 := blk_frozen BK195.out 4)); go_upto_region 8 with (first | ((with_reducible refine gate_dst (N := 9) rfl ?_); (try (refine gate_guard (by rfl) ?_; dsimp only)); refine box_event ?hg (N := 9) ?hd (cs := #[.int .i64 0, .int .i64 0, .int .i64 0, .int .i64 0, .int .i64 0]) (t := 159) ?hr ?_; (case hd => rfl); (case hg => rfl); (case hr => first | (go_simp; done) | (go_simp; rfl)); intro gb195 hg w17 hbox hb; have n0_ := Aside0.mk (Kd.R_below (by (with_reducible repeat (first | apply Kd.R_alloc | apply Kd.R_drewN | apply Kd.R_drew)); exact HO_6.out) hb); have n1_ := Aside0.mk (below_step (by repeat (first | (with_reducible first | exact HB.out | apply below_alloc | apply pw_below_drewN | apply below_drew1) | exact HB.out)) hb); have n2_ := Aside0.mk (hbox); have n3_ := Aside0.mk ((by rw [hg]; exact (below_size (by repeat (first | (with_reducible first | exact HB.out | apply below_alloc | apply pw_below_drewN | apply below_drew1) | exact HB.out))) : w.heap.size ≤ gb195)); have n4_ := Aside0.mk ((by rw [hg]; exact (below_size (by repeat (first | (with_reducible first | exact HB.out | apply below_alloc | apply pw_below_drewN | apply below_drew1) | exact HB.out))) : w.heap.size ≤ gb195)); clear HO_6; clear HB; have HO_6 := n0_; have HB := n1_; have BK195 := n2_; have GW195 := n3_; have GE195 := n4_; clear n0_ n1_ n2_ n3_ n4_; clear hb hbox hg; have hcz18_0 : w17.cell? ⟨gb195, 0, none⟩ = some (.int .i64 0) := (blk_cell BK195.out 0).trans rfl; have hcz18_1 : w17.cell? ⟨gb195, 1, none⟩ = some (.int .i64 0) := (blk_cell BK195.out 1).trans rfl; have hcz18_2 : w17.cell? ⟨gb195, 2, none⟩ = some (.int .i64 0) := (blk_cell BK195.out 2).trans rfl; have hcz18_3 : w17.cell? ⟨gb195, 3, none⟩ = some (.int .i64 0) := (blk_cell BK195.out 3).trans rfl; have hcz18_4 : w17.cell? ⟨gb195, 4, none⟩ = some (.int .i64 0) := (blk_cell BK195.out 4).trans rfl; have hfz18_0 := blk_frozen BK195.out 0; have hfz18_1 := blk_frozen BK195.out 1; have hfz18_2 := blk_frozen BK195.out 2; have hfz18_3 := blk_frozen BK195.out 3; have hfz18_4 := blk_frozen BK195.out 4)))
      (try simp only [Act.put, List.setIfInBounds_toArray, List.set_cons_zero, List.set_cons_succ])
      go_cut [45] (fun v45 wc => ∃ (kq : Nat) (x45_15 : Bool), v45 = .bool x45_15 ∧ Aside0 (impl_Lateness.j2 kq l0 x6_2 x7_2 l1 (l1.length : Int) x26_2 x45_15 ((rd_T159 l1 x26_2).f0) ((rd_T159 l1 x26_2).f1) ((rd_T159 l1 x26_2).f2) ((rd_T159 l1 x26_2).f3) ((rd_T159 l1 x26_2).f4) = some (r1, r2)) ∧ Aside0 (kq ≤ k2) ∧ Aside0 (Kd.R (Kd.int .i64) 3 wc w.heap.size (fun _ => True) v192 x6_2) ∧ Aside0 (wc.heap[gb195]? = some (.cells #[.int .i64 ((rd_T159 l1 x26_2).f0), .int .i64 ((rd_T159 l1 x26_2).f1), .int .i64 ((rd_T159 l1 x26_2).f2), .int .i64 ((rd_T159 l1 x26_2).f3), .int .i64 ((rd_T159 l1 x26_2).f4)] 159 (0, 0))) ∧ Aside0 (Below w.heap.size w wc))
      case first =>
       have H := HC16.out
       clear HC16
       by_cases c19 : ((rd_T159 l1 x26_2).f0) < 0
       ·rw [if_pos c19] at H
        have c19b0 : decide (((rd_T159 l1 x26_2).f0) < 0) = true := decide_eq_true c19
        clear c19
        (first | rw [c19b0] | (simp only [i64_w, i32_w]; rw [c19b0]) | skip)
        have H' := Aside0.mk H
        clear H
        have hcz20_0 : w17.cell? ⟨gb195, 0, none⟩ = some (.int .i64 0) := (blk_cell BK195.out 0).trans rfl
        have hcz20_1 : w17.cell? ⟨gb195, 1, none⟩ = some (.int .i64 0) := (blk_cell BK195.out 1).trans rfl
        have hcz20_2 : w17.cell? ⟨gb195, 2, none⟩ = some (.int .i64 0) := (blk_cell BK195.out 2).trans rfl
        have hcz20_3 : w17.cell? ⟨gb195, 3, none⟩ = some (.int .i64 0) := (blk_cell BK195.out 3).trans rfl
        have hcz20_4 : w17.cell? ⟨gb195, 4, none⟩ = some (.int .i64 0) := (blk_cell BK195.out 4).trans rfl
        have hfz20_0 := blk_frozen BK195.out 0
        have hfz20_1 := blk_frozen BK195.out 1
        have hfz20_2 := blk_frozen BK195.out 2
        have hfz20_3 := blk_frozen BK195.out 3
        have hfz20_4 := blk_frozen BK195.out 4
        go_wp2
        repeat (go_quiet (fail); try go_wp2)
        go_meet
        case rel => exact ⟨_, (true), (by first | rfl | (simp; done) | (simp [*]; done)), H', ⟨by have := HJ2.out; have := HK2.out; first | omega | exact Nat.le_refl _⟩, ⟨by (with_reducible repeat (first | apply Kd.R_alloc | apply Kd.R_drewN | apply Kd.R_drew)); exact Kd.R_mono (Kd.R_far (p := ⟨gb195, 4, none⟩) (Kd.R_far (p := ⟨gb195, 3, none⟩) (Kd.R_far (p := ⟨gb195, 2, none⟩) (Kd.R_far (p := ⟨gb195, 1, none⟩) (Kd.R_far (p := ⟨gb195, 0, none⟩) (Kd.R_types HO_6.out BK195.out (by decide)) (fun _ hk => hk.2) (.int .i64 ((rd_T159 l1 x26_2).f0))) (fun _ hk => hk.2) (.int .i64 ((rd_T159 l1 x26_2).f1))) (fun _ hk => hk.2) (.int .i64 ((rd_T159 l1 x26_2).f2))) (fun _ hk => hk.2) (.int .i64 ((rd_T159 l1 x26_2).f3))) (fun _ hk => hk.2) (.int .i64 ((rd_T159 l1 x26_2).f4))) (fun _ hk => trivial)⟩, ⟨by (with_reducible repeat (first | refine blk_drewN ?_ _ | refine blk_drew ?_ | refine blk_alloc ?_ _)); refine blk_put (cs := #[.int .i64 ((rd_T159 l1 x26_2).f0), .int .i64 ((rd_T159 l1 x26_2).f1), .int .i64 ((rd_T159 l1 x26_2).f2), .int .i64 ((rd_T159 l1 x26_2).f3), .int .i64 0]) ?_ 4 _ rfl; (with_reducible repeat (first | refine blk_drewN ?_ _ | refine blk_drew ?_ | refine blk_alloc ?_ _)); refine blk_put (cs := #[.int .i64 ((rd_T159 l1 x26_2).f0), .int .i64 ((rd_T159 l1 x26_2).f1), .int .i64 ((rd_T159 l1 x26_2).f2), .int .i64 0, .int .i64 0]) ?_ 3 _ rfl; (with_reducible repeat (first | refine blk_drewN ?_ _ | refine blk_drew ?_ | refine blk_alloc ?_ _)); refine blk_put (cs := #[.int .i64 ((rd_T159 l1 x26_2).f0), .int .i64 ((rd_T159 l1 x26_2).f1), .int .i64 0, .int .i64 0, .int .i64 0]) ?_ 2 _ rfl; (with_reducible repeat (first | refine blk_drewN ?_ _ | refine blk_drew ?_ | refine blk_alloc ?_ _)); refine blk_put (cs := #[.int .i64 ((rd_T159 l1 x26_2).f0), .int .i64 0, .int .i64 0, .int .i64 0, .int .i64 0]) ?_ 1 _ rfl; (with_reducible repeat (first | refine blk_drewN ?_ _ | refine blk_drew ?_ | refine blk_alloc ?_ _)); refine blk_put (cs := #[.int .i64 0, .int .i64 0, .int .i64 0, .int .i64 0, .int .i64 0]) ?_ 0 _ rfl; (with_reducible repeat (first | refine blk_drewN ?_ _ | refine blk_drew ?_ | refine blk_alloc ?_ _)); exact BK195.out⟩, ⟨by repeat (first | (with_reducible first | exact HB.out | apply below_alloc | apply pw_below_drewN | apply below_drew1 | refine below_set ?_ GE195.out) | exact HB.out)⟩⟩
       rw [if_neg c19] at H
       have c19b0 : decide (((rd_T159 l1 x26_2).f0) < 0) = false := decide_eq_false c19
       clear c19
       (first | rw [c19b0] | (simp only [i64_w, i32_w]; rw [c19b0]) | skip)
       by_cases c21 : ((rd_T159 l1 x26_2).f0) ≥ (l0.length : Int)
       ·rw [if_pos c21] at H
        have c21b0 : decide ((l0.length : Int) ≤ ((rd_T159 l1 x26_2).f0)) = true := decide_eq_true c21
        clear c21
        have H' := Aside0.mk H
        clear H
        have hcz22_0 : w17.cell? ⟨gb195, 0, none⟩ = some (.int .i64 0) := (blk_cell BK195.out 0).trans rfl
        have hcz22_1 : w17.cell? ⟨gb195, 1, none⟩ = some (.int .i64 0) := (blk_cell BK195.out 1).trans rfl
        have hcz22_2 : w17.cell? ⟨gb195, 2, none⟩ = some (.int .i64 0) := (blk_cell BK195.out 2).trans rfl
        have hcz22_3 : w17.cell? ⟨gb195, 3, none⟩ = some (.int .i64 0) := (blk_cell BK195.out 3).trans rfl
        have hcz22_4 : w17.cell? ⟨gb195, 4, none⟩ = some (.int .i64 0) := (blk_cell BK195.out 4).trans rfl
        have hfz22_0 := blk_frozen BK195.out 0
        have hfz22_1 := blk_frozen BK195.out 1
        have hfz22_2 := blk_frozen BK195.out 2
        have hfz22_3 := blk_frozen BK195.out 3
        have hfz22_4 := blk_frozen BK195.out 4
        go_wp2
        repeat (go_quiet (fail); try go_wp2)
        go_meet
        case rel => exact ⟨_, (true), (by first | rfl | (simp; done) | (simp [*]; done)), H', ⟨by have := HJ2.out; have := HK2.out; first | omega | exact Nat.le_refl _⟩, ⟨by (with_reducible repeat (first | apply Kd.R_alloc | apply Kd.R_drewN | apply Kd.R_drew)); exact Kd.R_mono (Kd.R_far (p := ⟨gb195, 4, none⟩) (Kd.R_far (p := ⟨gb195, 3, none⟩) (Kd.R_far (p := ⟨gb195, 2, none⟩) (Kd.R_far (p := ⟨gb195, 1, none⟩) (Kd.R_far (p := ⟨gb195, 0, none⟩) (Kd.R_types HO_6.out BK195.out (by decide)) (fun _ hk => hk.2) (.int .i64 ((rd_T159 l1 x26_2).f0))) (fun _ hk => hk.2) (.int .i64 ((rd_T159 l1 x26_2).f1))) (fun _ hk => hk.2) (.int .i64 ((rd_T159 l1 x26_2).f2))) (fun _ hk => hk.2) (.int .i64 ((rd_T159 l1 x26_2).f3))) (fun _ hk => hk.2) (.int .i64 ((rd_T159 l1 x26_2).f4))) (fun _ hk => trivial)⟩, ⟨by (with_reducible repeat (first | refine blk_drewN ?_ _ | refine blk_drew ?_ | refine blk_alloc ?_ _)); refine blk_put (cs := #[.int .i64 ((rd_T159 l1 x26_2).f0), .int .i64 ((rd_T159 l1 x26_2).f1), .int .i64 ((rd_T159 l1 x26_2).f2), .int .i64 ((rd_T159 l1 x26_2).f3), .int .i64 0]) ?_ 4 _ rfl; (with_reducible repeat (first | refine blk_drewN ?_ _ | refine blk_drew ?_ | refine blk_alloc ?_ _)); refine blk_put (cs := #[.int .i64 ((rd_T159 l1 x26_2).f0), .int .i64 ((rd_T159 l1 x26_2).f1), .int .i64 ((rd_T159 l1 x26_2).f2), .int .i64 0, .int .i64 0]) ?_ 3 _ rfl; (with_reducible repeat (first | refine blk_drewN ?_ _ | refine blk_drew ?_ | refine blk_alloc ?_ _)); refine blk_put (cs := #[.int .i64 ((rd_T159 l1 x26_2).f0), .int .i64 ((rd_T159 l1 x26_2).f1), .int .i64 0, .int .i64 0, .int .i64 0]) ?_ 2 _ rfl; (with_reducible repeat (first | refine blk_drewN ?_ _ | refine blk_drew ?_ | refine blk_alloc ?_ _)); refine blk_put (cs := #[.int .i64 ((rd_T159 l1 x26_2).f0), .int .i64 0, .int .i64 0, .int .i64 0, .int .i64 0]) ?_ 1 _ rfl; (with_reducible repeat (first | refine blk_drewN ?_ _ | refine blk_drew ?_ | refine blk_alloc ?_ _)); refine blk_put (cs := #[.int .i64 0, .int .i64 0, .int .i64 0, .int .i64 0, .int .i64 0]) ?_ 0 _ rfl; (with_reducible repeat (first | refine blk_drewN ?_ _ | refine blk_drew ?_ | refine blk_alloc ?_ _)); exact BK195.out⟩, ⟨by repeat (first | (with_reducible first | exact HB.out | apply below_alloc | apply pw_below_drewN | apply below_drew1 | refine below_set ?_ GE195.out) | exact HB.out)⟩⟩
       rw [if_neg c21] at H
       have c21b0 : decide ((l0.length : Int) ≤ ((rd_T159 l1 x26_2).f0)) = false := decide_eq_false c21
       clear c21
       replace H := Option.bind_eq_some_iff.mp H
       obtain ⟨t196, A230, H⟩ := H
       replace H : (impl_Lateness.j2 k2 l0 x6_2 x7_2 l1 (l1.length : Int) x26_2 (!t196) ((rd_T159 l1 x26_2).f0) ((rd_T159 l1 x26_2).f1) ((rd_T159 l1 x26_2).f2) ((rd_T159 l1 x26_2).f3) ((rd_T159 l1 x26_2).f4)) = some (r1, r2) := H
       have A23 := Aside0.mk A230
       clear A230
       have H' := Aside0.mk H
       clear H
       have hcz24_0 : w17.cell? ⟨gb195, 0, none⟩ = some (.int .i64 0) := (blk_cell BK195.out 0).trans rfl
       have hcz24_1 : w17.cell? ⟨gb195, 1, none⟩ = some (.int .i64 0) := (blk_cell BK195.out 1).trans rfl
       have hcz24_2 : w17.cell? ⟨gb195, 2, none⟩ = some (.int .i64 0) := (blk_cell BK195.out 2).trans rfl
       have hcz24_3 : w17.cell? ⟨gb195, 3, none⟩ = some (.int .i64 0) := (blk_cell BK195.out 3).trans rfl
       have hcz24_4 : w17.cell? ⟨gb195, 4, none⟩ = some (.int .i64 0) := (blk_cell BK195.out 4).trans rfl
       have hfz24_0 := blk_frozen BK195.out 0
       have hfz24_1 := blk_frozen BK195.out 1
       have hfz24_2 := blk_frozen BK195.out 2
       have hfz24_3 := blk_frozen BK195.out 3
       have hfz24_4 := blk_frozen BK195.out 4
       go_wp2_with (first | (go_at_call 106; (with_reducible refine (impl_hour.calls ((rd_T159 l1 x26_2).f4) t196 _ A23.out).mono ?_); rintro e w' ⟨rfl, ⟨nd, rfl⟩⟩; (try first | exact ⟨rfl, _, World.drewN_drewN _ _ _⟩ | exact ⟨rfl, _, Eq.trans (World.drewN_drewN _ _ _) (congrArg (World.drewN _) (Nat.add_assoc _ _ _))⟩)))
       repeat (go_quiet (first | (go_at_call 106; (with_reducible refine (impl_hour.calls ((rd_T159 l1 x26_2).f4) t196 _ A23.out).mono ?_); rintro e w' ⟨rfl, ⟨nd, rfl⟩⟩; (try first | exact ⟨rfl, _, World.drewN_drewN _ _ _⟩ | exact ⟨rfl, _, Eq.trans (World.drewN_drewN _ _ _) (congrArg (World.drewN _) (Nat.add_assoc _ _ _))⟩))); try go_wp2_with (first | (go_at_call 106; (with_reducible refine (impl_hour.calls ((rd_T159 l1 x26_2).f4) t196 _ A23.out).mono ?_); rintro e w' ⟨rfl, ⟨nd, rfl⟩⟩; (try first | exact ⟨rfl, _, World.drewN_drewN _ _ _⟩ | exact ⟨rfl, _, Eq.trans (World.drewN_drewN _ _ _) (congrArg (World.drewN _) (Nat.add_assoc _ _ _))⟩))))
       go_meet
       case rel => exact ⟨_, (!t196), (by first | rfl | (simp; done) | (simp [*]; done)), H', ⟨by have := HJ2.out; have := HK2.out; first | omega | exact Nat.le_refl _⟩, ⟨by (with_reducible repeat (first | apply Kd.R_alloc | apply Kd.R_drewN | apply Kd.R_drew)); exact Kd.R_mono (Kd.R_far (p := ⟨gb195, 4, none⟩) (Kd.R_far (p := ⟨gb195, 3, none⟩) (Kd.R_far (p := ⟨gb195, 2, none⟩) (Kd.R_far (p := ⟨gb195, 1, none⟩) (Kd.R_far (p := ⟨gb195, 0, none⟩) (Kd.R_types HO_6.out BK195.out (by decide)) (fun _ hk => hk.2) (.int .i64 ((rd_T159 l1 x26_2).f0))) (fun _ hk => hk.2) (.int .i64 ((rd_T159 l1 x26_2).f1))) (fun _ hk => hk.2) (.int .i64 ((rd_T159 l1 x26_2).f2))) (fun _ hk => hk.2) (.int .i64 ((rd_T159 l1 x26_2).f3))) (fun _ hk => hk.2) (.int .i64 ((rd_T159 l1 x26_2).f4))) (fun _ hk => trivial)⟩, ⟨by (with_reducible repeat (first | refine blk_drewN ?_ _ | refine blk_drew ?_ | refine blk_alloc ?_ _)); refine blk_put (cs := #[.int .i64 ((rd_T159 l1 x26_2).f0), .int .i64 ((rd_T159 l1 x26_2).f1), .int .i64 ((rd_T159 l1 x26_2).f2), .int .i64 ((rd_T159 l1 x26_2).f3), .int .i64 0]) ?_ 4 _ rfl; (with_reducible repeat (first | refine blk_drewN ?_ _ | refine blk_drew ?_ | refine blk_alloc ?_ _)); refine blk_put (cs := #[.int .i64 ((rd_T159 l1 x26_2).f0), .int .i64 ((rd_T159 l1 x26_2).f1), .int .i64 ((rd_T159 l1 x26_2).f2), .int .i64 0, .int .i64 0]) ?_ 3 _ rfl; (with_reducible repeat (first | refine blk_drewN ?_ _ | refine blk_drew ?_ | refine blk_alloc ?_ _)); refine blk_put (cs := #[.int .i64 ((rd_T159 l1 x26_2).f0), .int .i64 ((rd_T159 l1 x26_2).f1), .int .i64 0, .int .i64 0, .int .i64 0]) ?_ 2 _ rfl; (with_reducible repeat (first | refine blk_drewN ?_ _ | refine blk_drew ?_ | refine blk_alloc ?_ _)); refine blk_put (cs := #[.int .i64 ((rd_T159 l1 x26_2).f0), .int .i64 0, .int .i64 0, .int .i64 0, .int .i64 0]) ?_ 1 _ rfl; (with_reducible repeat (first | refine blk_drewN ?_ _ | refine blk_drew ?_ | refine blk_alloc ?_ _)); refine blk_put (cs := #[.int .i64 0, .int .i64 0, .int .i64 0, .int .i64 0, .int .i64 0]) ?_ 0 _ rfl; (with_reducible repeat (first | refine blk_drewN ?_ _ | refine blk_drew ?_ | refine blk_alloc ?_ _)); exact BK195.out⟩, ⟨by repeat (first | (with_reducible first | exact HB.out | apply below_alloc | apply pw_below_drewN | apply below_drew1 | refine below_set ?_ GE195.out) | exact HB.out)⟩⟩
      case rest =>
       clear HC16
       try clear c1
       try clear p1
       try clear q1
       try clear hx1
       try clear c2
       try clear p2
       try clear c3
       try clear c5
       try clear c8
       try clear c9
       try clear c9b0
       try clear c9b1
       try clear c10
       try clear c10b0
       try clear c10b1
       try clear c13
       try clear c13b0
       try clear c14
       try clear c14b0
       try clear c15
       try clear c15b0
       try clear c19
       try clear c19b0
       try clear p19
       try clear q19
       try clear hx19
       try clear c21
       try clear c21b0
       try clear hcz18_0
       try clear hcz18_1
       try clear hcz18_2
       try clear hcz18_3
       try clear hcz18_4
       try clear hcz20_0
       try clear hcz20_1
       try clear hcz20_2
       try clear hcz20_3
       try clear hcz20_4
       try clear hcz22_0
       try clear hcz22_1
       try clear hcz22_2
       try clear hcz22_3
       try clear hcz22_4
       try clear hcz24_0
       try clear hcz24_1
       try clear hcz24_2
       try clear hcz24_3
       try clear hcz24_4
       try clear hfz18_0
       try clear hfz18_1
       try clear hfz18_2
       try clear hfz18_3
       try clear hfz18_4
       try clear hfz20_0
       try clear hfz20_1
       try clear hfz20_2
       try clear hfz20_3
       try clear hfz20_4
       try clear hfz22_0
       try clear hfz22_1
       try clear hfz22_2
       try clear hfz22_3
       try clear hfz22_4
       try clear hfz24_0
       try clear hfz24_1
       try clear hfz24_2
       try clear hfz24_3
       try clear hfz24_4
       try clear hx194_0
       try clear hx194_1
       try clear hx194_2
       try clear hx194_3
       try clear hx194_4
       try clear p194
       try clear p2
       try clear q194
       obtain ⟨kq, x45_15, rfl, HA, HJ15, HO_6, BK195, HB⟩ := hcut
       cases kq with
       | zero => exact absurd HA.out (by simp [impl_Lateness.j2])
       | succ kj15 =>
        have H := HA.out
        clear HA
        simp only [impl_Lateness.j2] at H
        by_cases c25 : x45_15 = true
        ·subst c25
         have H1 : (some (0, 0)) = some (r1, r2) := by rw [if_pos rfl] at H; exact H
         clear H
         have H := H1
         clear H1
         simp only [Option.some.injEq, Prod.mk.injEq] at H
         obtain ⟨rfl, rfl⟩ := H
         go_wp2
         repeat (go_quiet (fail); try go_wp2)
         go_ret2
         exact ⟨by first | rfl | (simp [errW_none, errW_some] <;> rfl) | (simp [*, errW_none, errW_some] <;> rfl), by repeat (first | (with_reducible first | exact HB.out | apply below_alloc | apply pw_below_drewN | apply below_drew1 | refine below_set ?_ GE195.out) | exact HB.out)⟩
        replace c25 := Bool.eq_false_iff.mpr c25
        subst c25
        have H1 : (if 0 ≤ ((rd_T159 l1 x26_2).f0) then (if ((rd_T159 l1 x26_2).f0) < (x6_2.length : Int) then (if ((rd_T159 l1 x26_2).f4) > (rd x6_2 ((rd_T159 l1 x26_2).f0)) then ((some (x6_2.set (((rd_T159 l1 x26_2).f0) : Int).toNat ((rd_T159 l1 x26_2).f4) : List Int)).bind fun y198 => (if ((rd_T159 l1 x26_2).f4) > x7_2 then (impl_Lateness.l0 kj15 l0 y198 ((rd_T159 l1 x26_2).f4) l1 (l1.length : Int) (wrap64 (x26_2 + 1))) else (impl_Lateness.l0 kj15 l0 y198 x7_2 l1 (l1.length : Int) (wrap64 (x26_2 + 1))))) else (if ((rd_T159 l1 x26_2).f4) > x7_2 then (impl_Lateness.l0 kj15 l0 x6_2 ((rd_T159 l1 x26_2).f4) l1 (l1.length : Int) (wrap64 (x26_2 + 1))) else (impl_Lateness.l0 kj15 l0 x6_2 x7_2 l1 (l1.length : Int) (wrap64 (x26_2 + 1))))) else (none)) else (none)) = some (r1, r2) := by rw [if_neg (show ¬ (false = true) by decide)] at H; exact H
        clear H
        have H := H1
        clear H1
        by_cases c26 : 0 ≤ ((rd_T159 l1 x26_2).f0)
        case neg => rw [if_neg c26] at H; exact absurd H (by simp)
        rw [if_pos c26] at H
        have c26b0 : decide (0 ≤ ((rd_T159 l1 x26_2).f0)) = true := decide_eq_true c26
        clear c26
        by_cases c27 : ((rd_T159 l1 x26_2).f0) < (x6_2.length : Int)
        case neg => rw [if_neg c27] at H; exact absurd H (by simp)
        rw [if_pos c27] at H
        have c27b0 : decide (((rd_T159 l1 x26_2).f0) < (x6_2.length : Int)) = true := decide_eq_true c27
        clear c27
        by_cases c28 : ((rd_T159 l1 x26_2).f4) > (rd x6_2 ((rd_T159 l1 x26_2).f0))
        ·rw [if_pos c28] at H
         have c28b0 : decide ((rd x6_2 ((rd_T159 l1 x26_2).f0)) < ((rd_T159 l1 x26_2).f4)) = true := decide_eq_true c28
         clear c28
         obtain ⟨y198, hy198⟩ : ∃ y_ : List Int, y_ = (x6_2.set (((rd_T159 l1 x26_2).f0) : Int).toNat ((rd_T159 l1 x26_2).f4)) := ⟨_, rfl⟩
         replace H : (if ((rd_T159 l1 x26_2).f4) > x7_2 then (impl_Lateness.l0 kj15 l0 y198 ((rd_T159 l1 x26_2).f4) l1 (l1.length : Int) (wrap64 (x26_2 + 1))) else (impl_Lateness.l0 kj15 l0 y198 x7_2 l1 (l1.length : Int) (wrap64 (x26_2 + 1)))) = some (r1, r2) := by first | (rw [hy198]; with_reducible exact H) | (have H2_ := (Option.bind_some _ _).symm.trans H; rw [hy198]; with_reducible exact H2_) | (have H2_ := (Option.bind_some _ _).symm.trans H; with_reducible exact H2_) | with_reducible exact H | (rw [hy198]; exact H) | exact H
         have Ny198 := Aside0.mk hy198
         clear hy198
         by_cases c30 : ((rd_T159 l1 x26_2).f4) > x7_2
         ·rw [if_pos c30] at H
          have c30b0 : decide (x7_2 < ((rd_T159 l1 x26_2).f4)) = true := decide_eq_true c30
          clear c30
          have H' := Aside0.mk H
          clear H
          have hcz31_0 : wc.cell? ⟨gb195, 0, none⟩ = some (.int .i64 ((rd_T159 l1 x26_2).f0)) := (blk_cell BK195.out 0).trans rfl
          have hcz31_1 : wc.cell? ⟨gb195, 1, none⟩ = some (.int .i64 ((rd_T159 l1 x26_2).f1)) := (blk_cell BK195.out 1).trans rfl
          have hcz31_2 : wc.cell? ⟨gb195, 2, none⟩ = some (.int .i64 ((rd_T159 l1 x26_2).f2)) := (blk_cell BK195.out 2).trans rfl
          have hcz31_3 : wc.cell? ⟨gb195, 3, none⟩ = some (.int .i64 ((rd_T159 l1 x26_2).f3)) := (blk_cell BK195.out 3).trans rfl
          have hcz31_4 : wc.cell? ⟨gb195, 4, none⟩ = some (.int .i64 ((rd_T159 l1 x26_2).f4)) := (blk_cell BK195.out 4).trans rfl
          have hfz31_0 := blk_frozen BK195.out 0
          have hfz31_1 := blk_frozen BK195.out 1
          have hfz31_2 := blk_frozen BK195.out 2
          have hfz31_3 := blk_frozen BK195.out 3
          have hfz31_4 := blk_frozen BK195.out 4
          obtain ⟨Ao32, co32, eo32⟩ := Kd.R_slice HO_6.out
          subst eo32
          have p197 : 0 ≤ (((rd_T159 l1 x26_2).f0) : Int) := of_decide_eq_true (by first | (with_reducible assumption) | assumption)
          have q197 : ((rd_T159 l1 x26_2).f0) < (x6_2.length : Int) := of_decide_eq_true (by first | (with_reducible assumption) | assumption)
          obtain ⟨ad197, e197, hx197_0⟩ := Kd.at_int (Kd.R_reads' HO_6.out).2.2 ((rd_T159 l1 x26_2).f0) p197 q197
          cases e197
          replace p197 := eq_true p197
          replace q197 := eq_true q197
          have p29 : 0 ≤ (((rd_T159 l1 x26_2).f0) : Int) := of_decide_eq_true (by first | (with_reducible assumption) | assumption)
          have q29 : (((rd_T159 l1 x26_2).f0) : Int) < ((x6_2.length : Int) : Int) := of_decide_eq_true (by first | (with_reducible assumption) | assumption)
          obtain ⟨go29, co29, eo29, gb29, gl29, cl29, HG29⟩ := Kd.R_form HO_6.out (by omega)
          (first | cases eo29 | (injection eo29 with ea_ en_ ec_; (first | subst ea_ | (injection ea_ with ea_; subst ea_)); subst ec_; clear en_))
          have GB29 := Aside0.mk gb29
          have GG29 := Aside0.mk HG29
          clear gb29 gl29 HG29
          (first | simp only [add_plain] at hx197_0 | skip)
          obtain ⟨hx29_0, hf29_0⟩ := Kd.R_celln 0 HO_6.out (((rd_T159 l1 x26_2).f0) : Int) p29 q29
          replace p29 := eq_true p29
          replace q29 := eq_true q29
          have HP33 := Kd.R_putg HO_6.out (((rd_T159 l1 x26_2).f0) : Int) ((rd_T159 l1 x26_2).f4)
          go_wp2_with (first | ((with_reducible refine gate_store (t := 3) (p := 59) rfl ?_); (try (rw [drewN_self wc]; generalize hq_ : World.drewN wc _ = wc; have n0_ := Aside0.mk (Kd.R_at hq_ HO_6.out); have n1_ := Aside0.mk (blk_at hq_ BK195.out); have n2_ := Aside0.mk (below_at hq_ HB.out); clear hq_ HO_6 BK195 HB; have HO_6 := n0_; have BK195 := n1_; have HB := n2_; clear n0_ n1_ n2_; (try (have HP33 := Kd.R_putg HO_6.out (((rd_T159 l1 x26_2).f0) : Int) ((rd_T159 l1 x26_2).f4))); (try (obtain ⟨hx29_0, hf29_0⟩ := Kd.R_celln 0 HO_6.out (((rd_T159 l1 x26_2).f0) : Int) (of_eq_true p29) (of_eq_true q29))))); refine store_event (t := 3) (p := 59) (v := ?vo_w34) (w1 := (wc.setCell ⟨go29, (((rd_T159 l1 x26_2).f0) : Int).toNat, none⟩ (.int .i64 ((rd_T159 l1 x26_2).f4)))) ?hg ?ho ?hn ?hr ?_; (case ho => rfl); (case hg => rfl); (case hn => rfl); (case hr => first | (go_simp; done) | (go_simp; rfl)); intro w34 hw; have hg : wc.grownBy w34 (some go29) := (by rw [hw]; exact HP33.2); have hp_ : Kd.R (Kd.int .i64) 3 w34 w.heap.size (fun _ => True) (.slice (some ⟨go29, 0, none⟩) x6_2.length co32) y198 := (by rw [hw, Ny198.out]; exact HP33.1); clear HP33; have n0_ := Aside0.mk (hp_); have n1_ := Aside0.mk (blk_grown (g := gb195) (o := .cells #[.int .i64 ((rd_T159 l1 x26_2).f0), .int .i64 ((rd_T159 l1 x26_2).f1), .int .i64 ((rd_T159 l1 x26_2).f2), .int .i64 ((rd_T159 l1 x26_2).f3), .int .i64 ((rd_T159 l1 x26_2).f4)] 159 (0, 0)) (by (with_reducible repeat (first | refine blk_drewN ?_ _ | refine blk_drew ?_ | refine blk_alloc ?_ _)); exact BK195.out) hg (Kd.R_ne HO_6.out BK195.out (by decide))); have n2_ := Aside0.mk ((by rw [hw]; exact below_set (HB.out) GB29.out : Below w.heap.size w w34)); clear HO_6; clear BK195; clear HB; have HO_6 := n0_; have BK195 := n1_; have HB := n2_; clear n0_ n1_ n2_; clear hg hw hp_; have hcz35_0 : w34.cell? ⟨gb195, 0, none⟩ = some (.int .i64 ((rd_T159 l1 x26_2).f0)) := (blk_cell BK195.out 0).trans rfl; have hcz35_1 : w34.cell? ⟨gb195, 1, none⟩ = some (.int .i64 ((rd_T159 l1 x26_2).f1)) := (blk_cell BK195.out 1).trans rfl; have hcz35_2 : w34.cell? ⟨gb195, 2, none⟩ = some (.int .i64 ((rd_T159 l1 x26_2).f2)) := (blk_cell BK195.out 2).trans rfl; have hcz35_3 : w34.cell? ⟨gb195, 3, none⟩ = some (.int .i64 ((rd_T159 l1 x26_2).f3)) := (blk_cell BK195.out 3).trans rfl; have hcz35_4 : w34.cell? ⟨gb195, 4, none⟩ = some (.int .i64 ((rd_T159 l1 x26_2).f4)) := (blk_cell BK195.out 4).trans rfl; have hfz35_0 := blk_frozen BK195.out 0; have hfz35_1 := blk_frozen BK195.out 1; have hfz35_2 := blk_frozen BK195.out 2; have hfz35_3 := blk_frozen BK195.out 3; have hfz35_4 := blk_frozen BK195.out 4))
          repeat (go_quiet (first | ((with_reducible refine gate_store (t := 3) (p := 59) rfl ?_); (try (rw [drewN_self wc]; generalize hq_ : World.drewN wc _ = wc; have n0_ := Aside0.mk (Kd.R_at hq_ HO_6.out); have n1_ := Aside0.mk (blk_at hq_ BK195.out); have n2_ := Aside0.mk (below_at hq_ HB.out); clear hq_ HO_6 BK195 HB; have HO_6 := n0_; have BK195 := n1_; have HB := n2_; clear n0_ n1_ n2_; (try (have HP33 := Kd.R_putg HO_6.out (((rd_T159 l1 x26_2).f0) : Int) ((rd_T159 l1 x26_2).f4))); (try (obtain ⟨hx29_0, hf29_0⟩ := Kd.R_celln 0 HO_6.out (((rd_T159 l1 x26_2).f0) : Int) (of_eq_true p29) (of_eq_true q29))))); refine store_event (t := 3) (p := 59) (v := ?vo_w34) (w1 := (wc.setCell ⟨go29, (((rd_T159 l1 x26_2).f0) : Int).toNat, none⟩ (.int .i64 ((rd_T159 l1 x26_2).f4)))) ?hg ?ho ?hn ?hr ?_; (case ho => rfl); (case hg => rfl); (case hn => rfl); (case hr => first | (go_simp; done) | (go_simp; rfl)); intro w34 hw; have hg : wc.grownBy w34 (some go29) := (by rw [hw]; exact HP33.2); have hp_ : Kd.R (Kd.int .i64) 3 w34 w.heap.size (fun _ => True) (.slice (some ⟨go29, 0, none⟩) x6_2.length co32) y198 := (by rw [hw, Ny198.out]; exact HP33.1); clear HP33; have n0_ := Aside0.mk (hp_); have n1_ := Aside0.mk (blk_grown (g := gb195) (o := .cells #[.int .i64 ((rd_T159 l1 x26_2).f0), .int .i64 ((rd_T159 l1 x26_2).f1), .int .i64 ((rd_T159 l1 x26_2).f2), .int .i64 ((rd_T159 l1 x26_2).f3), .int .i64 ((rd_T159 l1 x26_2).f4)] 159 (0, 0)) (by (with_reducible repeat (first | refine blk_drewN ?_ _ | refine blk_drew ?_ | refine blk_alloc ?_ _)); exact BK195.out) hg (Kd.R_ne HO_6.out BK195.out (by decide))); have n2_ := Aside0.mk ((by rw [hw]; exact below_set (HB.out) GB29.out : Below w.heap.size w w34)); clear HO_6; clear BK195; clear HB; have HO_6 := n0_; have BK195 := n1_; have HB := n2_; clear n0_ n1_ n2_; clear hg hw hp_; have hcz35_0 : w34.cell? ⟨gb195, 0, none⟩ = some (.int .i64 ((rd_T159 l1 x26_2).f0)) := (blk_cell BK195.out 0).trans rfl; have hcz35_1 : w34.cell? ⟨gb195, 1, none⟩ = some (.int .i64 ((rd_T159 l1 x26_2).f1)) := (blk_cell BK195.out 1).trans rfl; have hcz35_2 : w34.cell? ⟨gb195, 2, none⟩ = some (.int .i64 ((rd_T159 l1 x26_2).f2)) := (blk_cell BK195.out 2).trans rfl; have hcz35_3 : w34.cell? ⟨gb195, 3, none⟩ = some (.int .i64 ((rd_T159 l1 x26_2).f3)) := (blk_cell BK195.out 3).trans rfl; have hcz35_4 : w34.cell? ⟨gb195, 4, none⟩ = some (.int .i64 ((rd_T159 l1 x26_2).f4)) := (blk_cell BK195.out 4).trans rfl; have hfz35_0 := blk_frozen BK195.out 0; have hfz35_1 := blk_frozen BK195.out 1; have hfz35_2 := blk_frozen BK195.out 2; have hfz35_3 := blk_frozen BK195.out 3; have hfz35_4 := blk_frozen BK195.out 4)); try go_wp2_with (first | ((with_reducible refine gate_store (t := 3) (p := 59) rfl ?_); (try (rw [drewN_self wc]; generalize hq_ : World.drewN wc _ = wc; have n0_ := Aside0.mk (Kd.R_at hq_ HO_6.out); have n1_ := Aside0.mk (blk_at hq_ BK195.out); have n2_ := Aside0.mk (below_at hq_ HB.out); clear hq_ HO_6 BK195 HB; have HO_6 := n0_; have BK195 := n1_; have HB := n2_; clear n0_ n1_ n2_; (try (have HP33 := Kd.R_putg HO_6.out (((rd_T159 l1 x26_2).f0) : Int) ((rd_T159 l1 x26_2).f4))); (try (obtain ⟨hx29_0, hf29_0⟩ := Kd.R_celln 0 HO_6.out (((rd_T159 l1 x26_2).f0) : Int) (of_eq_true p29) (of_eq_true q29))))); refine store_event (t := 3) (p := 59) (v := ?vo_w34) (w1 := (wc.setCell ⟨go29, (((rd_T159 l1 x26_2).f0) : Int).toNat, none⟩ (.int .i64 ((rd_T159 l1 x26_2).f4)))) ?hg ?ho ?hn ?hr ?_; (case ho => rfl); (case hg => rfl); (case hn => rfl); (case hr => first | (go_simp; done) | (go_simp; rfl)); intro w34 hw; have hg : wc.grownBy w34 (some go29) := (by rw [hw]; exact HP33.2); have hp_ : Kd.R (Kd.int .i64) 3 w34 w.heap.size (fun _ => True) (.slice (some ⟨go29, 0, none⟩) x6_2.length co32) y198 := (by rw [hw, Ny198.out]; exact HP33.1); clear HP33; have n0_ := Aside0.mk (hp_); have n1_ := Aside0.mk (blk_grown (g := gb195) (o := .cells #[.int .i64 ((rd_T159 l1 x26_2).f0), .int .i64 ((rd_T159 l1 x26_2).f1), .int .i64 ((rd_T159 l1 x26_2).f2), .int .i64 ((rd_T159 l1 x26_2).f3), .int .i64 ((rd_T159 l1 x26_2).f4)] 159 (0, 0)) (by (with_reducible repeat (first | refine blk_drewN ?_ _ | refine blk_drew ?_ | refine blk_alloc ?_ _)); exact BK195.out) hg (Kd.R_ne HO_6.out BK195.out (by decide))); have n2_ := Aside0.mk ((by rw [hw]; exact below_set (HB.out) GB29.out : Below w.heap.size w w34)); clear HO_6; clear BK195; clear HB; have HO_6 := n0_; have BK195 := n1_; have HB := n2_; clear n0_ n1_ n2_; clear hg hw hp_; have hcz35_0 : w34.cell? ⟨gb195, 0, none⟩ = some (.int .i64 ((rd_T159 l1 x26_2).f0)) := (blk_cell BK195.out 0).trans rfl; have hcz35_1 : w34.cell? ⟨gb195, 1, none⟩ = some (.int .i64 ((rd_T159 l1 x26_2).f1)) := (blk_cell BK195.out 1).trans rfl; have hcz35_2 : w34.cell? ⟨gb195, 2, none⟩ = some (.int .i64 ((rd_T159 l1 x26_2).f2)) := (blk_cell BK195.out 2).trans rfl; have hcz35_3 : w34.cell? ⟨gb195, 3, none⟩ = some (.int .i64 ((rd_T159 l1 x26_2).f3)) := (blk_cell BK195.out 3).trans rfl; have hcz35_4 : w34.cell? ⟨gb195, 4, none⟩ = some (.int .i64 ((rd_T159 l1 x26_2).f4)) := (blk_cell BK195.out 4).trans rfl; have hfz35_0 := blk_frozen BK195.out 0; have hfz35_1 := blk_frozen BK195.out 1; have hfz35_2 := blk_frozen BK195.out 2; have hfz35_3 := blk_frozen BK195.out 3; have hfz35_4 := blk_frozen BK195.out 4)))
          go_roundg kj15
          case measure => have := HJ2.out; have := HK2.out; have := HJ15.out; omega
          case rel => exact ⟨(y198), (((rd_T159 l1 x26_2).f4)), (wrap64 (x26_2 + 1)), (by first | rfl | (simp; done) | (simp [*]; done)), (by first | rfl | (simp; done) | (simp [*]; done)), H', ⟨by have := HJ2.out; have := HK2.out; have := HJ15.out; omega⟩, ⟨by (with_reducible repeat (first | apply Kd.R_alloc | apply Kd.R_drewN | apply Kd.R_drew)); exact HO_6.out⟩, ⟨by repeat (first | (with_reducible first | exact HB.out | apply below_alloc | apply pw_below_drewN | apply below_drew1 | refine below_set ?_ GE195.out) | exact HB.out)⟩⟩
         rw [if_neg c30] at H
         have c30b0 : decide (x7_2 < ((rd_T159 l1 x26_2).f4)) = false := decide_eq_false c30
         clear c30
         have H' := Aside0.mk H
         clear H
         have hcz36_0 : wc.cell? ⟨gb195, 0, none⟩ = some (.int .i64 ((rd_T159 l1 x26_2).f0)) := (blk_cell BK195.out 0).trans rfl
         have hcz36_1 : wc.cell? ⟨gb195, 1, none⟩ = some (.int .i64 ((rd_T159 l1 x26_2).f1)) := (blk_cell BK195.out 1).trans rfl
         have hcz36_2 : wc.cell? ⟨gb195, 2, none⟩ = some (.int .i64 ((rd_T159 l1 x26_2).f2)) := (blk_cell BK195.out 2).trans rfl
         have hcz36_3 : wc.cell? ⟨gb195, 3, none⟩ = some (.int .i64 ((rd_T159 l1 x26_2).f3)) := (blk_cell BK195.out 3).trans rfl
         have hcz36_4 : wc.cell? ⟨gb195, 4, none⟩ = some (.int .i64 ((rd_T159 l1 x26_2).f4)) := (blk_cell BK195.out 4).trans rfl
         have hfz36_0 := blk_frozen BK195.out 0
         have hfz36_1 := blk_frozen BK195.out 1
         have hfz36_2 := blk_frozen BK195.out 2
         have hfz36_3 := blk_frozen BK195.out 3
         have hfz36_4 := blk_frozen BK195.out 4
         obtain ⟨Ao37, co37, eo37⟩ := Kd.R_slice HO_6.out
         subst eo37
         have p197 : 0 ≤ (((rd_T159 l1 x26_2).f0) : Int) := of_decide_eq_true (by first | (with_reducible assumption) | assumption)
         have q197 : ((rd_T159 l1 x26_2).f0) < (x6_2.length : Int) := of_decide_eq_true (by first | (with_reducible assumption) | assumption)
         obtain ⟨ad197, e197, hx197_0⟩ := Kd.at_int (Kd.R_reads' HO_6.out).2.2 ((rd_T159 l1 x26_2).f0) p197 q197
         cases e197
         replace p197 := eq_true p197
         replace q197 := eq_true q197
         have p29 : 0 ≤ (((rd_T159 l1 x26_2).f0) : Int) := of_decide_eq_true (by first | (with_reducible assumption) | assumption)
         have q29 : (((rd_T159 l1 x26_2).f0) : Int) < ((x6_2.length : Int) : Int) := of_decide_eq_true (by first | (with_reducible assumption) | assumption)
         obtain ⟨go29, co29, eo29, gb29, gl29, cl29, HG29⟩ := Kd.R_form HO_6.out (by omega)
         (first | cases eo29 | (injection eo29 with ea_ en_ ec_; (first | subst ea_ | (injection ea_ with ea_; subst ea_)); subst ec_; clear en_))
         have GB29 := Aside0.mk gb29
         have GG29 := Aside0.mk HG29
         clear gb29 gl29 HG29
         (first | simp only [add_plain] at hx197_0 | skip)
         obtain ⟨hx29_0, hf29_0⟩ := Kd.R_celln 0 HO_6.out (((rd_T159 l1 x26_2).f0) : Int) p29 q29
         replace p29 := eq_true p29
         replace q29 := eq_true q29
         have HP38 := Kd.R_putg HO_6.out (((rd_T159 l1 x26_2).f0) : Int) ((rd_T159 l1 x26_2).f4)
         go_wp2_with (first | ((with_reducible refine gate_store (t := 3) (p := 59) rfl ?_); (try (rw [drewN_self wc]; generalize hq_ : World.drewN wc _ = wc; have n0_ := Aside0.mk (Kd.R_at hq_ HO_6.out); have n1_ := Aside0.mk (blk_at hq_ BK195.out); have n2_ := Aside0.mk (below_at hq_ HB.out); clear hq_ HO_6 BK195 HB; have HO_6 := n0_; have BK195 := n1_; have HB := n2_; clear n0_ n1_ n2_; (try (have HP38 := Kd.R_putg HO_6.out (((rd_T159 l1 x26_2).f0) : Int) ((rd_T159 l1 x26_2).f4))); (try (obtain ⟨hx29_0, hf29_0⟩ := Kd.R_celln 0 HO_6.out (((rd_T159 l1 x26_2).f0) : Int) (of_eq_true p29) (of_eq_true q29))))); refine store_event (t := 3) (p := 59) (v := ?vo_w39) (w1 := (wc.setCell ⟨go29, (((rd_T159 l1 x26_2).f0) : Int).toNat, none⟩ (.int .i64 ((rd_T159 l1 x26_2).f4)))) ?hg ?ho ?hn ?hr ?_; (case ho => rfl); (case hg => rfl); (case hn => rfl); (case hr => first | (go_simp; done) | (go_simp; rfl)); intro w39 hw; have hg : wc.grownBy w39 (some go29) := (by rw [hw]; exact HP38.2); have hp_ : Kd.R (Kd.int .i64) 3 w39 w.heap.size (fun _ => True) (.slice (some ⟨go29, 0, none⟩) x6_2.length co37) y198 := (by rw [hw, Ny198.out]; exact HP38.1); clear HP38; have n0_ := Aside0.mk (hp_); have n1_ := Aside0.mk (blk_grown (g := gb195) (o := .cells #[.int .i64 ((rd_T159 l1 x26_2).f0), .int .i64 ((rd_T159 l1 x26_2).f1), .int .i64 ((rd_T159 l1 x26_2).f2), .int .i64 ((rd_T159 l1 x26_2).f3), .int .i64 ((rd_T159 l1 x26_2).f4)] 159 (0, 0)) (by (with_reducible repeat (first | refine blk_drewN ?_ _ | refine blk_drew ?_ | refine blk_alloc ?_ _)); exact BK195.out) hg (Kd.R_ne HO_6.out BK195.out (by decide))); have n2_ := Aside0.mk ((by rw [hw]; exact below_set (HB.out) GB29.out : Below w.heap.size w w39)); clear HO_6; clear BK195; clear HB; have HO_6 := n0_; have BK195 := n1_; have HB := n2_; clear n0_ n1_ n2_; clear hg hw hp_; have hcz40_0 : w39.cell? ⟨gb195, 0, none⟩ = some (.int .i64 ((rd_T159 l1 x26_2).f0)) := (blk_cell BK195.out 0).trans rfl; have hcz40_1 : w39.cell? ⟨gb195, 1, none⟩ = some (.int .i64 ((rd_T159 l1 x26_2).f1)) := (blk_cell BK195.out 1).trans rfl; have hcz40_2 : w39.cell? ⟨gb195, 2, none⟩ = some (.int .i64 ((rd_T159 l1 x26_2).f2)) := (blk_cell BK195.out 2).trans rfl; have hcz40_3 : w39.cell? ⟨gb195, 3, none⟩ = some (.int .i64 ((rd_T159 l1 x26_2).f3)) := (blk_cell BK195.out 3).trans rfl; have hcz40_4 : w39.cell? ⟨gb195, 4, none⟩ = some (.int .i64 ((rd_T159 l1 x26_2).f4)) := (blk_cell BK195.out 4).trans rfl; have hfz40_0 := blk_frozen BK195.out 0; have hfz40_1 := blk_frozen BK195.out 1; have hfz40_2 := blk_frozen BK195.out 2; have hfz40_3 := blk_frozen BK195.out 3; have hfz40_4 := blk_frozen BK195.out 4))
         repeat (go_quiet (first | ((with_reducible refine gate_store (t := 3) (p := 59) rfl ?_); (try (rw [drewN_self wc]; generalize hq_ : World.drewN wc _ = wc; have n0_ := Aside0.mk (Kd.R_at hq_ HO_6.out); have n1_ := Aside0.mk (blk_at hq_ BK195.out); have n2_ := Aside0.mk (below_at hq_ HB.out); clear hq_ HO_6 BK195 HB; have HO_6 := n0_; have BK195 := n1_; have HB := n2_; clear n0_ n1_ n2_; (try (have HP38 := Kd.R_putg HO_6.out (((rd_T159 l1 x26_2).f0) : Int) ((rd_T159 l1 x26_2).f4))); (try (obtain ⟨hx29_0, hf29_0⟩ := Kd.R_celln 0 HO_6.out (((rd_T159 l1 x26_2).f0) : Int) (of_eq_true p29) (of_eq_true q29))))); refine store_event (t := 3) (p := 59) (v := ?vo_w39) (w1 := (wc.setCell ⟨go29, (((rd_T159 l1 x26_2).f0) : Int).toNat, none⟩ (.int .i64 ((rd_T159 l1 x26_2).f4)))) ?hg ?ho ?hn ?hr ?_; (case ho => rfl); (case hg => rfl); (case hn => rfl); (case hr => first | (go_simp; done) | (go_simp; rfl)); intro w39 hw; have hg : wc.grownBy w39 (some go29) := (by rw [hw]; exact HP38.2); have hp_ : Kd.R (Kd.int .i64) 3 w39 w.heap.size (fun _ => True) (.slice (some ⟨go29, 0, none⟩) x6_2.length co37) y198 := (by rw [hw, Ny198.out]; exact HP38.1); clear HP38; have n0_ := Aside0.mk (hp_); have n1_ := Aside0.mk (blk_grown (g := gb195) (o := .cells #[.int .i64 ((rd_T159 l1 x26_2).f0), .int .i64 ((rd_T159 l1 x26_2).f1), .int .i64 ((rd_T159 l1 x26_2).f2), .int .i64 ((rd_T159 l1 x26_2).f3), .int .i64 ((rd_T159 l1 x26_2).f4)] 159 (0, 0)) (by (with_reducible repeat (first | refine blk_drewN ?_ _ | refine blk_drew ?_ | refine blk_alloc ?_ _)); exact BK195.out) hg (Kd.R_ne HO_6.out BK195.out (by decide))); have n2_ := Aside0.mk ((by rw [hw]; exact below_set (HB.out) GB29.out : Below w.heap.size w w39)); clear HO_6; clear BK195; clear HB; have HO_6 := n0_; have BK195 := n1_; have HB := n2_; clear n0_ n1_ n2_; clear hg hw hp_; have hcz40_0 : w39.cell? ⟨gb195, 0, none⟩ = some (.int .i64 ((rd_T159 l1 x26_2).f0)) := (blk_cell BK195.out 0).trans rfl; have hcz40_1 : w39.cell? ⟨gb195, 1, none⟩ = some (.int .i64 ((rd_T159 l1 x26_2).f1)) := (blk_cell BK195.out 1).trans rfl; have hcz40_2 : w39.cell? ⟨gb195, 2, none⟩ = some (.int .i64 ((rd_T159 l1 x26_2).f2)) := (blk_cell BK195.out 2).trans rfl; have hcz40_3 : w39.cell? ⟨gb195, 3, none⟩ = some (.int .i64 ((rd_T159 l1 x26_2).f3)) := (blk_cell BK195.out 3).trans rfl; have hcz40_4 : w39.cell? ⟨gb195, 4, none⟩ = some (.int .i64 ((rd_T159 l1 x26_2).f4)) := (blk_cell BK195.out 4).trans rfl; have hfz40_0 := blk_frozen BK195.out 0; have hfz40_1 := blk_frozen BK195.out 1; have hfz40_2 := blk_frozen BK195.out 2; have hfz40_3 := blk_frozen BK195.out 3; have hfz40_4 := blk_frozen BK195.out 4)); try go_wp2_with (first | ((with_reducible refine gate_store (t := 3) (p := 59) rfl ?_); (try (rw [drewN_self wc]; generalize hq_ : World.drewN wc _ = wc; have n0_ := Aside0.mk (Kd.R_at hq_ HO_6.out); have n1_ := Aside0.mk (blk_at hq_ BK195.out); have n2_ := Aside0.mk (below_at hq_ HB.out); clear hq_ HO_6 BK195 HB; have HO_6 := n0_; have BK195 := n1_; have HB := n2_; clear n0_ n1_ n2_; (try (have HP38 := Kd.R_putg HO_6.out (((rd_T159 l1 x26_2).f0) : Int) ((rd_T159 l1 x26_2).f4))); (try (obtain ⟨hx29_0, hf29_0⟩ := Kd.R_celln 0 HO_6.out (((rd_T159 l1 x26_2).f0) : Int) (of_eq_true p29) (of_eq_true q29))))); refine store_event (t := 3) (p := 59) (v := ?vo_w39) (w1 := (wc.setCell ⟨go29, (((rd_T159 l1 x26_2).f0) : Int).toNat, none⟩ (.int .i64 ((rd_T159 l1 x26_2).f4)))) ?hg ?ho ?hn ?hr ?_; (case ho => rfl); (case hg => rfl); (case hn => rfl); (case hr => first | (go_simp; done) | (go_simp; rfl)); intro w39 hw; have hg : wc.grownBy w39 (some go29) := (by rw [hw]; exact HP38.2); have hp_ : Kd.R (Kd.int .i64) 3 w39 w.heap.size (fun _ => True) (.slice (some ⟨go29, 0, none⟩) x6_2.length co37) y198 := (by rw [hw, Ny198.out]; exact HP38.1); clear HP38; have n0_ := Aside0.mk (hp_); have n1_ := Aside0.mk (blk_grown (g := gb195) (o := .cells #[.int .i64 ((rd_T159 l1 x26_2).f0), .int .i64 ((rd_T159 l1 x26_2).f1), .int .i64 ((rd_T159 l1 x26_2).f2), .int .i64 ((rd_T159 l1 x26_2).f3), .int .i64 ((rd_T159 l1 x26_2).f4)] 159 (0, 0)) (by (with_reducible repeat (first | refine blk_drewN ?_ _ | refine blk_drew ?_ | refine blk_alloc ?_ _)); exact BK195.out) hg (Kd.R_ne HO_6.out BK195.out (by decide))); have n2_ := Aside0.mk ((by rw [hw]; exact below_set (HB.out) GB29.out : Below w.heap.size w w39)); clear HO_6; clear BK195; clear HB; have HO_6 := n0_; have BK195 := n1_; have HB := n2_; clear n0_ n1_ n2_; clear hg hw hp_; have hcz40_0 : w39.cell? ⟨gb195, 0, none⟩ = some (.int .i64 ((rd_T159 l1 x26_2).f0)) := (blk_cell BK195.out 0).trans rfl; have hcz40_1 : w39.cell? ⟨gb195, 1, none⟩ = some (.int .i64 ((rd_T159 l1 x26_2).f1)) := (blk_cell BK195.out 1).trans rfl; have hcz40_2 : w39.cell? ⟨gb195, 2, none⟩ = some (.int .i64 ((rd_T159 l1 x26_2).f2)) := (blk_cell BK195.out 2).trans rfl; have hcz40_3 : w39.cell? ⟨gb195, 3, none⟩ = some (.int .i64 ((rd_T159 l1 x26_2).f3)) := (blk_cell BK195.out 3).trans rfl; have hcz40_4 : w39.cell? ⟨gb195, 4, none⟩ = some (.int .i64 ((rd_T159 l1 x26_2).f4)) := (blk_cell BK195.out 4).trans rfl; have hfz40_0 := blk_frozen BK195.out 0; have hfz40_1 := blk_frozen BK195.out 1; have hfz40_2 := blk_frozen BK195.out 2; have hfz40_3 := blk_frozen BK195.out 3; have hfz40_4 := blk_frozen BK195.out 4)))
         go_roundg kj15
         case measure => have := HJ2.out; have := HK2.out; have := HJ15.out; omega
         case rel => exact ⟨(y198), (x7_2), (wrap64 (x26_2 + 1)), (by first | rfl | (simp; done) | (simp [*]; done)), (by first | rfl | (simp; done) | (simp [*]; done)), H', ⟨by have := HJ2.out; have := HK2.out; have := HJ15.out; omega⟩, ⟨by (with_reducible repeat (first | apply Kd.R_alloc | apply Kd.R_drewN | apply Kd.R_drew)); exact HO_6.out⟩, ⟨by repeat (first | (with_reducible first | exact HB.out | apply below_alloc | apply pw_below_drewN | apply below_drew1 | refine below_set ?_ GE195.out) | exact HB.out)⟩⟩
        rw [if_neg c28] at H
        have c28b0 : decide ((rd x6_2 ((rd_T159 l1 x26_2).f0)) < ((rd_T159 l1 x26_2).f4)) = false := decide_eq_false c28
        clear c28
        by_cases c41 : ((rd_T159 l1 x26_2).f4) > x7_2
        ·rw [if_pos c41] at H
         have c41b0 : decide (x7_2 < ((rd_T159 l1 x26_2).f4)) = true := decide_eq_true c41
         clear c41
         have H' := Aside0.mk H
         clear H
         have hcz42_0 : wc.cell? ⟨gb195, 0, none⟩ = some (.int .i64 ((rd_T159 l1 x26_2).f0)) := (blk_cell BK195.out 0).trans rfl
         have hcz42_1 : wc.cell? ⟨gb195, 1, none⟩ = some (.int .i64 ((rd_T159 l1 x26_2).f1)) := (blk_cell BK195.out 1).trans rfl
         have hcz42_2 : wc.cell? ⟨gb195, 2, none⟩ = some (.int .i64 ((rd_T159 l1 x26_2).f2)) := (blk_cell BK195.out 2).trans rfl
         have hcz42_3 : wc.cell? ⟨gb195, 3, none⟩ = some (.int .i64 ((rd_T159 l1 x26_2).f3)) := (blk_cell BK195.out 3).trans rfl
         have hcz42_4 : wc.cell? ⟨gb195, 4, none⟩ = some (.int .i64 ((rd_T159 l1 x26_2).f4)) := (blk_cell BK195.out 4).trans rfl
         have hfz42_0 := blk_frozen BK195.out 0
         have hfz42_1 := blk_frozen BK195.out 1
         have hfz42_2 := blk_frozen BK195.out 2
         have hfz42_3 := blk_frozen BK195.out 3
         have hfz42_4 := blk_frozen BK195.out 4
         obtain ⟨Ao43, co43, eo43⟩ := Kd.R_slice HO_6.out
         subst eo43
         have p197 : 0 ≤ (((rd_T159 l1 x26_2).f0) : Int) := of_decide_eq_true (by first | (with_reducible assumption) | assumption)
         have q197 : ((rd_T159 l1 x26_2).f0) < (x6_2.length : Int) := of_decide_eq_true (by first | (with_reducible assumption) | assumption)
         obtain ⟨ad197, e197, hx197_0⟩ := Kd.at_int (Kd.R_reads' HO_6.out).2.2 ((rd_T159 l1 x26_2).f0) p197 q197
         cases e197
         replace p197 := eq_true p197
         replace q197 := eq_true q197
         go_wp2
         repeat (go_quiet (fail); try go_wp2)
         go_roundg kj15
         case measure => have := HJ2.out; have := HK2.out; have := HJ15.out; omega
         case rel => exact ⟨(x6_2), (((rd_T159 l1 x26_2).f4)), (wrap64 (x26_2 + 1)), (by first | rfl | (simp; done) | (simp [*]; done)), (by first | rfl | (simp; done) | (simp [*]; done)), H', ⟨by have := HJ2.out; have := HK2.out; have := HJ15.out; omega⟩, ⟨by (with_reducible repeat (first | apply Kd.R_alloc | apply Kd.R_drewN | apply Kd.R_drew)); exact HO_6.out⟩, ⟨by repeat (first | (with_reducible first | exact HB.out | apply below_alloc | apply pw_below_drewN | apply below_drew1 | refine below_set ?_ GE195.out) | exact HB.out)⟩⟩
        rw [if_neg c41] at H
        have c41b0 : decide (x7_2 < ((rd_T159 l1 x26_2).f4)) = false := decide_eq_false c41
        clear c41
        have H' := Aside0.mk H
        clear H
        have hcz44_0 : wc.cell? ⟨gb195, 0, none⟩ = some (.int .i64 ((rd_T159 l1 x26_2).f0)) := (blk_cell BK195.out 0).trans rfl
        have hcz44_1 : wc.cell? ⟨gb195, 1, none⟩ = some (.int .i64 ((rd_T159 l1 x26_2).f1)) := (blk_cell BK195.out 1).trans rfl
        have hcz44_2 : wc.cell? ⟨gb195, 2, none⟩ = some (.int .i64 ((rd_T159 l1 x26_2).f2)) := (blk_cell BK195.out 2).trans rfl
        have hcz44_3 : wc.cell? ⟨gb195, 3, none⟩ = some (.int .i64 ((rd_T159 l1 x26_2).f3)) := (blk_cell BK195.out 3).trans rfl
        have hcz44_4 : wc.cell? ⟨gb195, 4, none⟩ = some (.int .i64 ((rd_T159 l1 x26_2).f4)) := (blk_cell BK195.out 4).trans rfl
        have hfz44_0 := blk_frozen BK195.out 0
        have hfz44_1 := blk_frozen BK195.out 1
        have hfz44_2 := blk_frozen BK195.out 2
        have hfz44_3 := blk_frozen BK195.out 3
        have hfz44_4 := blk_frozen BK195.out 4
        obtain ⟨Ao45, co45, eo45⟩ := Kd.R_slice HO_6.out
        subst eo45
        have p197 : 0 ≤ (((rd_T159 l1 x26_2).f0) : Int) := of_decide_eq_true (by first | (with_reducible assumption) | assumption)
        have q197 : ((rd_T159 l1 x26_2).f0) < (x6_2.length : Int) := of_decide_eq_true (by first | (with_reducible assumption) | assumption)
        obtain ⟨ad197, e197, hx197_0⟩ := Kd.at_int (Kd.R_reads' HO_6.out).2.2 ((rd_T159 l1 x26_2).f0) p197 q197
        cases e197
        replace p197 := eq_true p197
        replace q197 := eq_true q197
        go_wp2
        repeat (go_quiet (fail); try go_wp2)
        go_roundg kj15
        case measure => have := HJ2.out; have := HK2.out; have := HJ15.out; omega
        case rel => exact ⟨(x6_2), (x7_2), (wrap64 (x26_2 + 1)), (by first | rfl | (simp; done) | (simp [*]; done)), (by first | rfl | (simp; done) | (simp [*]; done)), H', ⟨by have := HJ2.out; have := HK2.out; have := HJ15.out; omega⟩, ⟨by (with_reducible repeat (first | apply Kd.R_alloc | apply Kd.R_drewN | apply Kd.R_drew)); exact HO_6.out⟩, ⟨by repeat (first | (with_reducible first | exact HB.out | apply below_alloc | apply pw_below_drewN | apply below_drew1 | refine below_set ?_ GE195.out) | exact HB.out)⟩⟩
     rw [if_neg c13] at H
     have c13b0 : decide (x26_2 < (l1.length : Int)) = false := decide_eq_false c13
     clear c13
     have H' := Aside0.mk H
     clear H
     go_wp2
     repeat (go_quiet (fail); try go_wp2)
     go_loopg [10, 69] k2 (fun kq v10 v69 w' => ∃ (x10_3 : Int) (x69_3 : Int), v10 = .int .i64 x10_3 ∧ v69 = .int .i64 x69_3 ∧ Aside0 (impl_Lateness.l1 kq x6_2 x7_2 x10_3 l0 (l0.length : Int) x69_3 = some (r1, r2)) ∧ Aside0 (kq ≤ k2) ∧ Aside0 (Kd.R (Kd.int .i64) 3 w' w.heap.size (fun _ => True) v192 x6_2) ∧ Aside0 (Below w.heap.size w w'))
     case atStart => exact ⟨(0), (0), (by first | rfl | (simp; done) | (simp [*]; done)), (by first | rfl | (simp; done) | (simp [*]; done)), H', ⟨Nat.le_refl _⟩, ⟨by (with_reducible repeat (first | apply Kd.R_alloc | apply Kd.R_drewN | apply Kd.R_drew)); exact HO_6.out⟩, ⟨by repeat (first | (with_reducible first | exact HB.out | apply below_alloc | apply pw_below_drewN | apply below_drew1) | exact HB.out)⟩⟩
     case round =>
      clear H'
      try clear c1
      try clear p1
      try clear q1
      try clear hx1
      try clear c2
      try clear p2
      try clear q2
      try clear hx2
      try clear hf2
      try clear c3
      try clear c4
      try clear c5
      try clear p6
      try clear c8
      try clear c9
      try clear c9b0
      try clear c9b1
      try clear c10
      try clear c10b0
      try clear c10b1
      try clear c13
      try clear c13b0
      try clear c14
      try clear c14b0
      try clear c15
      try clear c15b0
      try clear c19
      try clear c19b0
      try clear p19
      try clear q19
      try clear hx19
      try clear c21
      try clear c21b0
      try clear c25
      try clear c26
      try clear c26b0
      try clear c27
      try clear c27b0
      try clear c28
      try clear c28b0
      try clear p29
      try clear q29
      try clear hx29
      try clear hf29
      try clear c30
      try clear c30b0
      try clear c41
      try clear c41b0
      try clear hcz18_0
      try clear hcz18_1
      try clear hcz18_2
      try clear hcz18_3
      try clear hcz18_4
      try clear hcz20_0
      try clear hcz20_1
      try clear hcz20_2
      try clear hcz20_3
      try clear hcz20_4
      try clear hcz22_0
      try clear hcz22_1
      try clear hcz22_2
      try clear hcz22_3
      try clear hcz22_4
      try clear hcz24_0
      try clear hcz24_1
      try clear hcz24_2
      try clear hcz24_3
      try clear hcz24_4
      try clear hcz31_0
      try clear hcz31_1
      try clear hcz31_2
      try clear hcz31_3
      try clear hcz31_4
      try clear hcz35_0
      try clear hcz35_1
      try clear hcz35_2
      try clear hcz35_3
      try clear hcz35_4
      try clear hcz36_0
      try clear hcz36_1
      try clear hcz36_2
      try clear hcz36_3
      try clear hcz36_4
      try clear hcz40_0
      try clear hcz40_1
      try clear hcz40_2
      try clear hcz40_3
      try clear hcz40_4
      try clear hcz42_0
      try clear hcz42_1
      try clear hcz42_2
      try clear hcz42_3
      try clear hcz42_4
      try clear hcz44_0
      try clear hcz44_1
      try clear hcz44_2
      try clear hcz44_3
      try clear hcz44_4
      try clear hfz18_0
      try clear hfz18_1
      try clear hfz18_2
      try clear hfz18_3
      try clear hfz18_4
      try clear hfz20_0
      try clear hfz20_1
      try clear hfz20_2
      try clear hfz20_3
      try clear hfz20_4
      try clear hfz22_0
      try clear hfz22_1
      try clear hfz22_2
      try clear hfz22_3
      try clear hfz22_4
      try clear hfz24_0
      try clear hfz24_1
      try clear hfz24_2
      try clear hfz24_3
      try clear hfz24_4
      try clear hfz31_0
      try clear hfz31_1
      try clear hfz31_2
      try clear hfz31_3
      try clear hfz31_4
      try clear hfz35_0
      try clear hfz35_1
      try clear hfz35_2
      try clear hfz35_3
      try clear hfz35_4
      try clear hfz36_0
      try clear hfz36_1
      try clear hfz36_2
      try clear hfz36_3
      try clear hfz36_4
      try clear hfz40_0
      try clear hfz40_1
      try clear hfz40_2
      try clear hfz40_3
      try clear hfz40_4
      try clear hfz42_0
      try clear hfz42_1
      try clear hfz42_2
      try clear hfz42_3
      try clear hfz42_4
      try clear hfz44_0
      try clear hfz44_1
      try clear hfz44_2
      try clear hfz44_3
      try clear hfz44_4
      try clear hx194_0
      try clear hx194_1
      try clear hx194_2
      try clear hx194_3
      try clear hx194_4
      try clear hx197_0
      try clear hx29_0
      try clear p1
      try clear p19
      try clear p194
      try clear p197
      try clear p2
      try clear p29
      try clear q1
      try clear q19
      try clear q194
      try clear q197
      try clear q29
      obtain ⟨x10_3, x69_3, rfl, rfl, HA, HK3, HO_6, HB⟩ := hrel
      cases gk with
      | zero => exact absurd HA.out (by simp [impl_Lateness.l1])
      | succ k3 =>
       have H := HA.out
       clear HA
       simp only [impl_Lateness.l1] at H
       by_cases c46 : x69_3 < (l0.length : Int)
       ·rw [if_pos c46] at H
        have c46b0 : decide (x69_3 < (l0.length : Int)) = true := decide_eq_true c46
        clear c46
        by_cases c47 : 0 ≤ x69_3
        case neg => rw [if_neg c47] at H; exact absurd H (by simp)
        rw [if_pos c47] at H
        have c47b0 : decide (0 ≤ x69_3) = true := decide_eq_true c47
        clear c47
        by_cases c48 : x69_3 < (l0.length : Int)
        case neg => rw [if_neg c48] at H; exact absurd H (by simp)
        rw [if_pos c48] at H
        have c48b0 : decide (x69_3 < (l0.length : Int)) = true := decide_eq_true c48
        clear c48
        by_cases c49 : x69_3 < (x6_2.length : Int)
        case neg => rw [if_neg c49] at H; exact absurd H (by simp)
        rw [if_pos c49] at H
        have c49b0 : decide (x69_3 < (x6_2.length : Int)) = true := decide_eq_true c49
        clear c49
        by_cases c50 : (rd x6_2 x69_3) > ((rd_T164 l0 x69_3).f1)
        ·rw [if_pos c50] at H
         have c50b0 : decide (((rd_T164 l0 x69_3).f1) < (rd x6_2 x69_3)) = true := decide_eq_true c50
         clear c50
         have H' := Aside0.mk H
         clear H
         have p199 : 0 ≤ (x69_3 : Int) := of_decide_eq_true (by first | (with_reducible assumption) | assumption)
         have q199 : x69_3 < (l0.length : Int) := of_decide_eq_true (by first | (with_reducible assumption) | assumption)
         obtain ⟨ad199, A199_3, c199_3, e199, hx199_0, hx199_1, hx199_2, hx199_3, hl199_3, hi199_3⟩ := at_T164 HR0.out x69_3 p199 q199
         cases e199
         replace hx199_0 := (HB.out.cell (World.block_lt_of_cell? w _ hx199_0)).trans hx199_0
         replace hx199_1 := (HB.out.cell (World.block_lt_of_cell? w _ hx199_1)).trans hx199_1
         replace hx199_2 := (HB.out.cell (World.block_lt_of_cell? w _ hx199_2)).trans hx199_2
         replace hx199_3 := (HB.out.cell (World.block_lt_of_cell? w _ hx199_3)).trans hx199_3
         have HR199_3 := Aside0.mk hi199_3
         have HC199_3 := Aside0.mk hl199_3
         clear hi199_3 hl199_3
         replace p199 := eq_true p199
         replace q199 := eq_true q199
         go_wp2_with (first | ((with_reducible refine gate_dst (N := 12) rfl ?_); (try (refine gate_guard (by rfl) ?_; dsimp only)); refine box_event ?hg (N := 12) ?hd (cs := #[.int .i64 0, .int .i64 0, .int .i64 0, .slice none 0 0]) (t := 164) ?hr ?_; (case hd => rfl); (case hg => rfl); (case hr => first | (go_simp; done) | (go_simp; rfl)); intro gb200 hg w51 hbox hb; have n0_ := Aside0.mk (Kd.R_below (by (with_reducible repeat (first | apply Kd.R_alloc | apply Kd.R_drewN | apply Kd.R_drew)); exact HO_6.out) hb); have n1_ := Aside0.mk (below_step (by repeat (first | (with_reducible first | exact HB.out | apply below_alloc | apply pw_below_drewN | apply below_drew1) | exact HB.out)) hb); have n2_ := Aside0.mk (hbox); have n3_ := Aside0.mk ((by rw [hg]; exact (below_size (by repeat (first | (with_reducible first | exact HB.out | apply below_alloc | apply pw_below_drewN | apply below_drew1) | exact HB.out))) : w.heap.size ≤ gb200)); have n4_ := Aside0.mk ((by rw [hg]; exact (below_size (by repeat (first | (with_reducible first | exact HB.out | apply below_alloc | apply pw_below_drewN | apply below_drew1) | exact HB.out))) : w.heap.size ≤ gb200)); clear HO_6; clear HB; have HO_6 := n0_; have HB := n1_; have BK200 := n2_; have GW200 := n3_; have GE200 := n4_; clear n0_ n1_ n2_ n3_ n4_; clear hb hbox hg; have hcz52_0 : w51.cell? ⟨gb200, 0, none⟩ = some (.int .i64 0) := (blk_cell BK200.out 0).trans rfl; have hcz52_1 : w51.cell? ⟨gb200, 1, none⟩ = some (.int .i64 0) := (blk_cell BK200.out 1).trans rfl; have hcz52_2 : w51.cell? ⟨gb200, 2, none⟩ = some (.int .i64 0) := (blk_cell BK200.out 2).trans rfl; have hcz52_3 : w51.cell? ⟨gb200, 3, none⟩ = some (.slice none 0 0) := (blk_cell BK200.out 3).trans rfl; have hfz52_0 := blk_frozen BK200.out 0; have hfz52_1 := blk_frozen BK200.out 1; have hfz52_2 := blk_frozen BK200.out 2; have hfz52_3 := blk_frozen BK200.out 3; obtain ⟨Ao53, co53, eo53⟩ := Kd.R_slice HO_6.out; subst eo53; have p201 : 0 ≤ (x69_3 : Int) := of_decide_eq_true (by first | (with_reducible assumption) | assumption); have q201 : x69_3 < (x6_2.length : Int) := of_decide_eq_true (by first | (with_reducible assumption) | assumption); obtain ⟨ad201, e201, hx201_0⟩ := Kd.at_int (Kd.R_reads' HO_6.out).2.2 x69_3 p201 q201; cases e201; have hn201_0 : ad201.block ≠ gb200 := Kd.own_blk (Kd.R_ne HO_6.out BK200.out (by decide)); have hn201_1 : ad201.block ≠ gb200 := Kd.own_blk (Kd.R_ne HO_6.out BK200.out (by decide)); have hn201_2 : ad201.block ≠ gb200 := Kd.own_blk (Kd.R_ne HO_6.out BK200.out (by decide)); have hn201_3 : ad201.block ≠ gb200 := Kd.own_blk (Kd.R_ne HO_6.out BK200.out (by decide)); replace hx201_0 := (cell_far (p := ⟨gb200, 0, none⟩) (by first | (rw [add_block]; exact hn201_0) | (show (Addr.add _ _).block ≠ _; rw [add_block]; exact hn201_0) | exact hn201_0) (.int .i64 ((rd_T164 l0 x69_3).f0))).trans hx201_0; replace hx201_0 := (cell_far (p := ⟨gb200, 1, none⟩) (by first | (rw [add_block]; exact hn201_1) | (show (Addr.add _ _).block ≠ _; rw [add_block]; exact hn201_1) | exact hn201_1) (.int .i64 ((rd_T164 l0 x69_3).f1))).trans hx201_0; replace hx201_0 := (cell_far (p := ⟨gb200, 2, none⟩) (by first | (rw [add_block]; exact hn201_2) | (show (Addr.add _ _).block ≠ _; rw [add_block]; exact hn201_2) | exact hn201_2) (.int .i64 ((rd_T164 l0 x69_3).f2))).trans hx201_0; replace hx201_0 := (cell_far (p := ⟨gb200, 3, none⟩) (by first | (rw [add_block]; exact hn201_3) | (show (Addr.add _ _).block ≠ _; rw [add_block]; exact hn201_3) | exact hn201_3) (.slice A199_3 ((rd_T164 l0 x69_3).f3).length c199_3)).trans hx201_0; (try have hy201_0 := fun (n_ : Nat) => (show ((((((w51.drewN n_).setCell ⟨gb200, 0, none⟩ (.int .i64 ((rd_T164 l0 x69_3).f0))).setCell ⟨gb200, 1, none⟩ (.int .i64 ((rd_T164 l0 x69_3).f1))).setCell ⟨gb200, 2, none⟩ (.int .i64 ((rd_T164 l0 x69_3).f2))).setCell ⟨gb200, 3, none⟩ (.slice A199_3 ((rd_T164 l0 x69_3).f3).length c199_3))).cell? _ = some _ from hx201_0)); clear hn201_0; clear hn201_1; clear hn201_2; clear hn201_3; replace p201 := eq_true p201; replace q201 := eq_true q201; have p202 : 0 ≤ (x69_3 : Int) := of_decide_eq_true (by first | (with_reducible assumption) | assumption); have q202 : x69_3 < (x6_2.length : Int) := of_decide_eq_true (by first | (with_reducible assumption) | assumption); obtain ⟨ad202, e202, hx202_0⟩ := Kd.at_int (Kd.R_reads' HO_6.out).2.2 x69_3 p202 q202; obtain rfl : ad201 = ad202 := (by injection e202); have hn202_0 : ad201.block ≠ gb200 := Kd.own_blk (Kd.R_ne HO_6.out BK200.out (by decide)); have hn202_1 : ad201.block ≠ gb200 := Kd.own_blk (Kd.R_ne HO_6.out BK200.out (by decide)); have hn202_2 : ad201.block ≠ gb200 := Kd.own_blk (Kd.R_ne HO_6.out BK200.out (by decide)); have hn202_3 : ad201.block ≠ gb200 := Kd.own_blk (Kd.R_ne HO_6.out BK200.out (by decide)); replace hx202_0 := (cell_far (p := ⟨gb200, 0, none⟩) (by first | (rw [add_block]; exact hn202_0) | (show (Addr.add _ _).block ≠ _; rw [add_block]; exact hn202_0) | exact hn202_0) (.int .i64 ((rd_T164 l0 x69_3).f0))).trans hx202_0; replace hx202_0 := (cell_far (p := ⟨gb200, 1, none⟩) (by first | (rw [add_block]; exact hn202_1) | (show (Addr.add _ _).block ≠ _; rw [add_block]; exact hn202_1) | exact hn202_1) (.int .i64 ((rd_T164 l0 x69_3).f1))).trans hx202_0; replace hx202_0 := (cell_far (p := ⟨gb200, 2, none⟩) (by first | (rw [add_block]; exact hn202_2) | (show (Addr.add _ _).block ≠ _; rw [add_block]; exact hn202_2) | exact hn202_2) (.int .i64 ((rd_T164 l0 x69_3).f2))).trans hx202_0; replace hx202_0 := (cell_far (p := ⟨gb200, 3, none⟩) (by first | (rw [add_block]; exact hn202_3) | (show (Addr.add _ _).block ≠ _; rw [add_block]; exact hn202_3) | exact hn202_3) (.slice A199_3 ((rd_T164 l0 x69_3).f3).length c199_3)).trans hx202_0; (try have hy202_0 := fun (n_ : Nat) => (show ((((((w51.drewN n_).setCell ⟨gb200, 0, none⟩ (.int .i64 ((rd_T164 l0 x69_3).f0))).setCell ⟨gb200, 1, none⟩ (.int .i64 ((rd_T164 l0 x69_3).f1))).setCell ⟨gb200, 2, none⟩ (.int .i64 ((rd_T164 l0 x69_3).f2))).setCell ⟨gb200, 3, none⟩ (.slice A199_3 ((rd_T164 l0 x69_3).f3).length c199_3))).cell? _ = some _ from hx202_0)); clear hn202_0; clear hn202_1; clear hn202_2; clear hn202_3; replace p202 := eq_true p202; replace q202 := eq_true q202))
         repeat (go_quiet (first | ((with_reducible refine gate_dst (N := 12) rfl ?_); (try (refine gate_guard (by rfl) ?_; dsimp only)); refine box_event ?hg (N := 12) ?hd (cs := #[.int .i64 0, .int .i64 0, .int .i64 0, .slice none 0 0]) (t := 164) ?hr ?_; (case hd => rfl); (case hg => rfl); (case hr => first | (go_simp; done) | (go_simp; rfl)); intro gb200 hg w51 hbox hb; have n0_ := Aside0.mk (Kd.R_below (by (with_reducible repeat (first | apply Kd.R_alloc | apply Kd.R_drewN | apply Kd.R_drew)); exact HO_6.out) hb); have n1_ := Aside0.mk (below_step (by repeat (first | (with_reducible first | exact HB.out | apply below_alloc | apply pw_below_drewN | apply below_drew1) | exact HB.out)) hb); have n2_ := Aside0.mk (hbox); have n3_ := Aside0.mk ((by rw [hg]; exact (below_size (by repeat (first | (with_reducible first | exact HB.out | apply below_alloc | apply pw_below_drewN | apply below_drew1) | exact HB.out))) : w.heap.size ≤ gb200)); have n4_ := Aside0.mk ((by rw [hg]; exact (below_size (by repeat (first | (with_reducible first | exact HB.out | apply below_alloc | apply pw_below_drewN | apply below_drew1) | exact HB.out))) : w.heap.size ≤ gb200)); clear HO_6; clear HB; have HO_6 := n0_; have HB := n1_; have BK200 := n2_; have GW200 := n3_; have GE200 := n4_; clear n0_ n1_ n2_ n3_ n4_; clear hb hbox hg; have hcz52_0 : w51.cell? ⟨gb200, 0, none⟩ = some (.int .i64 0) := (blk_cell BK200.out 0).trans rfl; have hcz52_1 : w51.cell? ⟨gb200, 1, none⟩ = some (.int .i64 0) := (blk_cell BK200.out 1).trans rfl; have hcz52_2 : w51.cell? ⟨gb200, 2, none⟩ = some (.int .i64 0) := (blk_cell BK200.out 2).trans rfl; have hcz52_3 : w51.cell? ⟨gb200, 3, none⟩ = some (.slice none 0 0) := (blk_cell BK200.out 3).trans rfl; have hfz52_0 := blk_frozen BK200.out 0; have hfz52_1 := blk_frozen BK200.out 1; have hfz52_2 := blk_frozen BK200.out 2; have hfz52_3 := blk_frozen BK200.out 3; obtain ⟨Ao53, co53, eo53⟩ := Kd.R_slice HO_6.out; subst eo53; have p201 : 0 ≤ (x69_3 : Int) := of_decide_eq_true (by first | (with_reducible assumption) | assumption); have q201 : x69_3 < (x6_2.length : Int) := of_decide_eq_true (by first | (with_reducible assumption) | assumption); obtain ⟨ad201, e201, hx201_0⟩ := Kd.at_int (Kd.R_reads' HO_6.out).2.2 x69_3 p201 q201; cases e201; have hn201_0 : ad201.block ≠ gb200 := Kd.own_blk (Kd.R_ne HO_6.out BK200.out (by decide)); have hn201_1 : ad201.block ≠ gb200 := Kd.own_blk (Kd.R_ne HO_6.out BK200.out (by decide)); have hn201_2 : ad201.block ≠ gb200 := Kd.own_blk (Kd.R_ne HO_6.out BK200.out (by decide)); have hn201_3 : ad201.block ≠ gb200 := Kd.own_blk (Kd.R_ne HO_6.out BK200.out (by decide)); replace hx201_0 := (cell_far (p := ⟨gb200, 0, none⟩) (by first | (rw [add_block]; exact hn201_0) | (show (Addr.add _ _).block ≠ _; rw [add_block]; exact hn201_0) | exact hn201_0) (.int .i64 ((rd_T164 l0 x69_3).f0))).trans hx201_0; replace hx201_0 := (cell_far (p := ⟨gb200, 1, none⟩) (by first | (rw [add_block]; exact hn201_1) | (show (Addr.add _ _).block ≠ _; rw [add_block]; exact hn201_1) | exact hn201_1) (.int .i64 ((rd_T164 l0 x69_3).f1))).trans hx201_0; replace hx201_0 := (cell_far (p := ⟨gb200, 2, none⟩) (by first | (rw [add_block]; exact hn201_2) | (show (Addr.add _ _).block ≠ _; rw [add_block]; exact hn201_2) | exact hn201_2) (.int .i64 ((rd_T164 l0 x69_3).f2))).trans hx201_0; replace hx201_0 := (cell_far (p := ⟨gb200, 3, none⟩) (by first | (rw [add_block]; exact hn201_3) | (show (Addr.add _ _).block ≠ _; rw [add_block]; exact hn201_3) | exact hn201_3) (.slice A199_3 ((rd_T164 l0 x69_3).f3).length c199_3)).trans hx201_0; (try have hy201_0 := fun (n_ : Nat) => (show ((((((w51.drewN n_).setCell ⟨gb200, 0, none⟩ (.int .i64 ((rd_T164 l0 x69_3).f0))).setCell ⟨gb200, 1, none⟩ (.int .i64 ((rd_T164 l0 x69_3).f1))).setCell ⟨gb200, 2, none⟩ (.int .i64 ((rd_T164 l0 x69_3).f2))).setCell ⟨gb200, 3, none⟩ (.slice A199_3 ((rd_T164 l0 x69_3).f3).length c199_3))).cell? _ = some _ from hx201_0)); clear hn201_0; clear hn201_1; clear hn201_2; clear hn201_3; replace p201 := eq_true p201; replace q201 := eq_true q201; have p202 : 0 ≤ (x69_3 : Int) := of_decide_eq_true (by first | (with_reducible assumption) | assumption); have q202 : x69_3 < (x6_2.length : Int) := of_decide_eq_true (by first | (with_reducible assumption) | assumption); obtain ⟨ad202, e202, hx202_0⟩ := Kd.at_int (Kd.R_reads' HO_6.out).2.2 x69_3 p202 q202; obtain rfl : ad201 = ad202 := (by injection e202); have hn202_0 : ad201.block ≠ gb200 := Kd.own_blk (Kd.R_ne HO_6.out BK200.out (by decide)); have hn202_1 : ad201.block ≠ gb200 := Kd.own_blk (Kd.R_ne HO_6.out BK200.out (by decide)); have hn202_2 : ad201.block ≠ gb200 := Kd.own_blk (Kd.R_ne HO_6.out BK200.out (by decide)); have hn202_3 : ad201.block ≠ gb200 := Kd.own_blk (Kd.R_ne HO_6.out BK200.out (by decide)); replace hx202_0 := (cell_far (p := ⟨gb200, 0, none⟩) (by first | (rw [add_block]; exact hn202_0) | (show (Addr.add _ _).block ≠ _; rw [add_block]; exact hn202_0) | exact hn202_0) (.int .i64 ((rd_T164 l0 x69_3).f0))).trans hx202_0; replace hx202_0 := (cell_far (p := ⟨gb200, 1, none⟩) (by first | (rw [add_block]; exact hn202_1) | (show (Addr.add _ _).block ≠ _; rw [add_block]; exact hn202_1) | exact hn202_1) (.int .i64 ((rd_T164 l0 x69_3).f1))).trans hx202_0; replace hx202_0 := (cell_far (p := ⟨gb200, 2, none⟩) (by first | (rw [add_block]; exact hn202_2) | (show (Addr.add _ _).block ≠ _; rw [add_block]; exact hn202_2) | exact hn202_2) (.int .i64 ((rd_T164 l0 x69_3).f2))).trans hx202_0; replace hx202_0 := (cell_far (p := ⟨gb200, 3, none⟩) (by first | (rw [add_block]; exact hn202_3) | (show (Addr.add _ _).block ≠ _; rw [add_block]; exact hn202_3) | exact hn202_3) (.slice A199_3 ((rd_T164 l0 x69_3).f3).length c199_3)).trans hx202_0; (try have hy202_0 := fun (n_ : Nat) => (show ((((((w51.drewN n_).setCell ⟨gb200, 0, none⟩ (.int .i64 ((rd_T164 l0 x69_3).f0))).setCell ⟨gb200, 1, none⟩ (.int .i64 ((rd_T164 l0 x69_3).f1))).setCell ⟨gb200, 2, none⟩ (.int .i64 ((rd_T164 l0 x69_3).f2))).setCell ⟨gb200, 3, none⟩ (.slice A199_3 ((rd_T164 l0 x69_3).f3).length c199_3))).cell? _ = some _ from hx202_0)); clear hn202_0; clear hn202_1; clear hn202_2; clear hn202_3; replace p202 := eq_true p202; replace q202 := eq_true q202)); try go_wp2_with (first | ((with_reducible refine gate_dst (N := 12) rfl ?_); (try (refine gate_guard (by rfl) ?_; dsimp only)); refine box_event ?hg (N := 12) ?hd (cs := #[.int .i64 0, .int .i64 0, .int .i64 0, .slice none 0 0]) (t := 164) ?hr ?_; (case hd => rfl); (case hg => rfl); (case hr => first | (go_simp; done) | (go_simp; rfl)); intro gb200 hg w51 hbox hb; have n0_ := Aside0.mk (Kd.R_below (by (with_reducible repeat (first | apply Kd.R_alloc | apply Kd.R_drewN | apply Kd.R_drew)); exact HO_6.out) hb); have n1_ := Aside0.mk (below_step (by repeat (first | (with_reducible first | exact HB.out | apply below_alloc | apply pw_below_drewN | apply below_drew1) | exact HB.out)) hb); have n2_ := Aside0.mk (hbox); have n3_ := Aside0.mk ((by rw [hg]; exact (below_size (by repeat (first | (with_reducible first | exact HB.out | apply below_alloc | apply pw_below_drewN | apply below_drew1) | exact HB.out))) : w.heap.size ≤ gb200)); have n4_ := Aside0.mk ((by rw [hg]; exact (below_size (by repeat (first | (with_reducible first | exact HB.out | apply below_alloc | apply pw_below_drewN | apply below_drew1) | exact HB.out))) : w.heap.size ≤ gb200)); clear HO_6; clear HB; have HO_6 := n0_; have HB := n1_; have BK200 := n2_; have GW200 := n3_; have GE200 := n4_; clear n0_ n1_ n2_ n3_ n4_; clear hb hbox hg; have hcz52_0 : w51.cell? ⟨gb200, 0, none⟩ = some (.int .i64 0) := (blk_cell BK200.out 0).trans rfl; have hcz52_1 : w51.cell? ⟨gb200, 1, none⟩ = some (.int .i64 0) := (blk_cell BK200.out 1).trans rfl; have hcz52_2 : w51.cell? ⟨gb200, 2, none⟩ = some (.int .i64 0) := (blk_cell BK200.out 2).trans rfl; have hcz52_3 : w51.cell? ⟨gb200, 3, none⟩ = some (.slice none 0 0) := (blk_cell BK200.out 3).trans rfl; have hfz52_0 := blk_frozen BK200.out 0; have hfz52_1 := blk_frozen BK200.out 1; have hfz52_2 := blk_frozen BK200.out 2; have hfz52_3 := blk_frozen BK200.out 3; obtain ⟨Ao53, co53, eo53⟩ := Kd.R_slice HO_6.out; subst eo53; have p201 : 0 ≤ (x69_3 : Int) := of_decide_eq_true (by first | (with_reducible assumption) | assumption); have q201 : x69_3 < (x6_2.length : Int) := of_decide_eq_true (by first | (with_reducible assumption) | assumption); obtain ⟨ad201, e201, hx201_0⟩ := Kd.at_int (Kd.R_reads' HO_6.out).2.2 x69_3 p201 q201; cases e201; have hn201_0 : ad201.block ≠ gb200 := Kd.own_blk (Kd.R_ne HO_6.out BK200.out (by decide)); have hn201_1 : ad201.block ≠ gb200 := Kd.own_blk (Kd.R_ne HO_6.out BK200.out (by decide)); have hn201_2 : ad201.block ≠ gb200 := Kd.own_blk (Kd.R_ne HO_6.out BK200.out (by decide)); have hn201_3 : ad201.block ≠ gb200 := Kd.own_blk (Kd.R_ne HO_6.out BK200.out (by decide)); replace hx201_0 := (cell_far (p := ⟨gb200, 0, none⟩) (by first | (rw [add_block]; exact hn201_0) | (show (Addr.add _ _).block ≠ _; rw [add_block]; exact hn201_0) | exact hn201_0) (.int .i64 ((rd_T164 l0 x69_3).f0))).trans hx201_0; replace hx201_0 := (cell_far (p := ⟨gb200, 1, none⟩) (by first | (rw [add_block]; exact hn201_1) | (show (Addr.add _ _).block ≠ _; rw [add_block]; exact hn201_1) | exact hn201_1) (.int .i64 ((rd_T164 l0 x69_3).f1))).trans hx201_0; replace hx201_0 := (cell_far (p := ⟨gb200, 2, none⟩) (by first | (rw [add_block]; exact hn201_2) | (show (Addr.add _ _).block ≠ _; rw [add_block]; exact hn201_2) | exact hn201_2) (.int .i64 ((rd_T164 l0 x69_3).f2))).trans hx201_0; replace hx201_0 := (cell_far (p := ⟨gb200, 3, none⟩) (by first | (rw [add_block]; exact hn201_3) | (show (Addr.add _ _).block ≠ _; rw [add_block]; exact hn201_3) | exact hn201_3) (.slice A199_3 ((rd_T164 l0 x69_3).f3).length c199_3)).trans hx201_0; (try have hy201_0 := fun (n_ : Nat) => (show ((((((w51.drewN n_).setCell ⟨gb200, 0, none⟩ (.int .i64 ((rd_T164 l0 x69_3).f0))).setCell ⟨gb200, 1, none⟩ (.int .i64 ((rd_T164 l0 x69_3).f1))).setCell ⟨gb200, 2, none⟩ (.int .i64 ((rd_T164 l0 x69_3).f2))).setCell ⟨gb200, 3, none⟩ (.slice A199_3 ((rd_T164 l0 x69_3).f3).length c199_3))).cell? _ = some _ from hx201_0)); clear hn201_0; clear hn201_1; clear hn201_2; clear hn201_3; replace p201 := eq_true p201; replace q201 := eq_true q201; have p202 : 0 ≤ (x69_3 : Int) := of_decide_eq_true (by first | (with_reducible assumption) | assumption); have q202 : x69_3 < (x6_2.length : Int) := of_decide_eq_true (by first | (with_reducible assumption) | assumption); obtain ⟨ad202, e202, hx202_0⟩ := Kd.at_int (Kd.R_reads' HO_6.out).2.2 x69_3 p202 q202; obtain rfl : ad201 = ad202 := (by injection e202); have hn202_0 : ad201.block ≠ gb200 := Kd.own_blk (Kd.R_ne HO_6.out BK200.out (by decide)); have hn202_1 : ad201.block ≠ gb200 := Kd.own_blk (Kd.R_ne HO_6.out BK200.out (by decide)); have hn202_2 : ad201.block ≠ gb200 := Kd.own_blk (Kd.R_ne HO_6.out BK200.out (by decide)); have hn202_3 : ad201.block ≠ gb200 := Kd.own_blk (Kd.R_ne HO_6.out BK200.out (by decide)); replace hx202_0 := (cell_far (p := ⟨gb200, 0, none⟩) (by first | (rw [add_block]; exact hn202_0) | (show (Addr.add _ _).block ≠ _; rw [add_block]; exact hn202_0) | exact hn202_0) (.int .i64 ((rd_T164 l0 x69_3).f0))).trans hx202_0; replace hx202_0 := (cell_far (p := ⟨gb200, 1, none⟩) (by first | (rw [add_block]; exact hn202_1) | (show (Addr.add _ _).block ≠ _; rw [add_block]; exact hn202_1) | exact hn202_1) (.int .i64 ((rd_T164 l0 x69_3).f1))).trans hx202_0; replace hx202_0 := (cell_far (p := ⟨gb200, 2, none⟩) (by first | (rw [add_block]; exact hn202_2) | (show (Addr.add _ _).block ≠ _; rw [add_block]; exact hn202_2) | exact hn202_2) (.int .i64 ((rd_T164 l0 x69_3).f2))).trans hx202_0; replace hx202_0 := (cell_far (p := ⟨gb200, 3, none⟩) (by first | (rw [add_block]; exact hn202_3) | (show (Addr.add _ _).block ≠ _; rw [add_block]; exact hn202_3) | exact hn202_3) (.slice A199_3 ((rd_T164 l0 x69_3).f3).length c199_3)).trans hx202_0; (try have hy202_0 := fun (n_ : Nat) => (show ((((((w51.drewN n_).setCell ⟨gb200, 0, none⟩ (.int .i64 ((rd_T164 l0 x69_3).f0))).setCell ⟨gb200, 1, none⟩ (.int .i64 ((rd_T164 l0 x69_3).f1))).setCell ⟨gb200, 2, none⟩ (.int .i64 ((rd_T164 l0 x69_3).f2))).setCell ⟨gb200, 3, none⟩ (.slice A199_3 ((rd_T164 l0 x69_3).f3).length c199_3))).cell? _ = some _ from hx202_0)); clear hn202_0; clear hn202_1; clear hn202_2; clear hn202_3; replace p202 := eq_true p202; replace q202 := eq_true q202)))
         go_roundg k3
         case measure => have := HJ2.out; have := HK2.out; have := HK3.out; omega
         case rel => exact ⟨(wrap64 (x10_3 + (wrap64 (((rd_T164 l0 x69_3).f2) * (wrap64 ((rd x6_2 x69_3) - ((rd_T164 l0 x69_3).f1))))))), (wrap64 (x69_3 + 1)), (by first | rfl | (simp; done) | (simp [*]; done)), (by first | rfl | (simp; done) | (simp [*]; done)), H', ⟨by have := HJ2.out; have := HK2.out; have := HK3.out; omega⟩, ⟨by (with_reducible repeat (first | apply Kd.R_alloc | apply Kd.R_drewN | apply Kd.R_drew)); exact Kd.R_mono (Kd.R_far (p := ⟨gb200, 3, none⟩) (Kd.R_far (p := ⟨gb200, 2, none⟩) (Kd.R_far (p := ⟨gb200, 1, none⟩) (Kd.R_far (p := ⟨gb200, 0, none⟩) (Kd.R_types HO_6.out BK200.out (by decide)) (fun _ hk => hk.2) (.int .i64 ((rd_T164 l0 x69_3).f0))) (fun _ hk => hk.2) (.int .i64 ((rd_T164 l0 x69_3).f1))) (fun _ hk => hk.2) (.int .i64 ((rd_T164 l0 x69_3).f2))) (fun _ hk => hk.2) (.slice A199_3 ((rd_T164 l0 x69_3).f3).length c199_3)) (fun _ hk => trivial)⟩, ⟨by repeat (first | (with_reducible first | exact HB.out | apply below_alloc | apply pw_below_drewN | apply below_drew1 | refine below_set ?_ GE200.out) | exact HB.out)⟩⟩
        rw [if_neg c50] at H
        have c50b0 : decide (((rd_T164 l0 x69_3).f1) < (rd x6_2 x69_3)) = false := decide_eq_false c50
        clear c50
        have H' := Aside0.mk H
        clear H
        have p199 : 0 ≤ (x69_3 : Int) := of_decide_eq_true (by first | (with_reducible assumption) | assumption)
        have q199 : x69_3 < (l0.length : Int) := of_decide_eq_true (by first | (with_reducible assumption) | assumption)
        obtain ⟨ad199, A199_3, c199_3, e199, hx199_0, hx199_1, hx199_2, hx199_3, hl199_3, hi199_3⟩ := at_T164 HR0.out x69_3 p199 q199
        cases e199
        replace hx199_0 := (HB.out.cell (World.block_lt_of_cell? w _ hx199_0)).trans hx199_0
        replace hx199_1 := (HB.out.cell (World.block_lt_of_cell? w _ hx199_1)).trans hx199_1
        replace hx199_2 := (HB.out.cell (World.block_lt_of_cell? w _ hx199_2)).trans hx199_2
        replace hx199_3 := (HB.out.cell (World.block_lt_of_cell? w _ hx199_3)).trans hx199_3
        have HR199_3 := Aside0.mk hi199_3
        have HC199_3 := Aside0.mk hl199_3
        clear hi199_3 hl199_3
        replace p199 := eq_true p199
        replace q199 := eq_true q199
        go_wp2_with (first | ((with_reducible refine gate_dst (N := 12) rfl ?_); (try (refine gate_guard (by rfl) ?_; dsimp only)); refine box_event ?hg (N := 12) ?hd (cs := #[.int .i64 0, .int .i64 0, .int .i64 0, .slice none 0 0]) (t := 164) ?hr ?_; (case hd => rfl); (case hg => rfl); (case hr => first | (go_simp; done) | (go_simp; rfl)); intro gb200 hg w54 hbox hb; have n0_ := Aside0.mk (Kd.R_below (by (with_reducible repeat (first | apply Kd.R_alloc | apply Kd.R_drewN | apply Kd.R_drew)); exact HO_6.out) hb); have n1_ := Aside0.mk (below_step (by repeat (first | (with_reducible first | exact HB.out | apply below_alloc | apply pw_below_drewN | apply below_drew1) | exact HB.out)) hb); have n2_ := Aside0.mk (hbox); have n3_ := Aside0.mk ((by rw [hg]; exact (below_size (by repeat (first | (with_reducible first | exact HB.out | apply below_alloc | apply pw_below_drewN | apply below_drew1) | exact HB.out))) : w.heap.size ≤ gb200)); have n4_ := Aside0.mk ((by rw [hg]; exact (below_size (by repeat (first | (with_reducible first | exact HB.out | apply below_alloc | apply pw_below_drewN | apply below_drew1) | exact HB.out))) : w.heap.size ≤ gb200)); clear HO_6; clear HB; have HO_6 := n0_; have HB := n1_; have BK200 := n2_; have GW200 := n3_; have GE200 := n4_; clear n0_ n1_ n2_ n3_ n4_; clear hb hbox hg; have hcz55_0 : w54.cell? ⟨gb200, 0, none⟩ = some (.int .i64 0) := (blk_cell BK200.out 0).trans rfl; have hcz55_1 : w54.cell? ⟨gb200, 1, none⟩ = some (.int .i64 0) := (blk_cell BK200.out 1).trans rfl; have hcz55_2 : w54.cell? ⟨gb200, 2, none⟩ = some (.int .i64 0) := (blk_cell BK200.out 2).trans rfl; have hcz55_3 : w54.cell? ⟨gb200, 3, none⟩ = some (.slice none 0 0) := (blk_cell BK200.out 3).trans rfl; have hfz55_0 := blk_frozen BK200.out 0; have hfz55_1 := blk_frozen BK200.out 1; have hfz55_2 := blk_frozen BK200.out 2; have hfz55_3 := blk_frozen BK200.out 3; obtain ⟨Ao56, co56, eo56⟩ := Kd.R_slice HO_6.out; subst eo56; have p201 : 0 ≤ (x69_3 : Int) := of_decide_eq_true (by first | (with_reducible assumption) | assumption); have q201 : x69_3 < (x6_2.length : Int) := of_decide_eq_true (by first | (with_reducible assumption) | assumption); obtain ⟨ad201, e201, hx201_0⟩ := Kd.at_int (Kd.R_reads' HO_6.out).2.2 x69_3 p201 q201; cases e201; have hn201_0 : ad201.block ≠ gb200 := Kd.own_blk (Kd.R_ne HO_6.out BK200.out (by decide)); have hn201_1 : ad201.block ≠ gb200 := Kd.own_blk (Kd.R_ne HO_6.out BK200.out (by decide)); have hn201_2 : ad201.block ≠ gb200 := Kd.own_blk (Kd.R_ne HO_6.out BK200.out (by decide)); have hn201_3 : ad201.block ≠ gb200 := Kd.own_blk (Kd.R_ne HO_6.out BK200.out (by decide)); replace hx201_0 := (cell_far (p := ⟨gb200, 0, none⟩) (by first | (rw [add_block]; exact hn201_0) | (show (Addr.add _ _).block ≠ _; rw [add_block]; exact hn201_0) | exact hn201_0) (.int .i64 ((rd_T164 l0 x69_3).f0))).trans hx201_0; replace hx201_0 := (cell_far (p := ⟨gb200, 1, none⟩) (by first | (rw [add_block]; exact hn201_1) | (show (Addr.add _ _).block ≠ _; rw [add_block]; exact hn201_1) | exact hn201_1) (.int .i64 ((rd_T164 l0 x69_3).f1))).trans hx201_0; replace hx201_0 := (cell_far (p := ⟨gb200, 2, none⟩) (by first | (rw [add_block]; exact hn201_2) | (show (Addr.add _ _).block ≠ _; rw [add_block]; exact hn201_2) | exact hn201_2) (.int .i64 ((rd_T164 l0 x69_3).f2))).trans hx201_0; replace hx201_0 := (cell_far (p := ⟨gb200, 3, none⟩) (by first | (rw [add_block]; exact hn201_3) | (show (Addr.add _ _).block ≠ _; rw [add_block]; exact hn201_3) | exact hn201_3) (.slice A199_3 ((rd_T164 l0 x69_3).f3).length c199_3)).trans hx201_0; (try have hy201_0 := fun (n_ : Nat) => (show ((((((w54.drewN n_).setCell ⟨gb200, 0, none⟩ (.int .i64 ((rd_T164 l0 x69_3).f0))).setCell ⟨gb200, 1, none⟩ (.int .i64 ((rd_T164 l0 x69_3).f1))).setCell ⟨gb200, 2, none⟩ (.int .i64 ((rd_T164 l0 x69_3).f2))).setCell ⟨gb200, 3, none⟩ (.slice A199_3 ((rd_T164 l0 x69_3).f3).length c199_3))).cell? _ = some _ from hx201_0)); clear hn201_0; clear hn201_1; clear hn201_2; clear hn201_3; replace p201 := eq_true p201; replace q201 := eq_true q201))
        repeat (go_quiet (first | ((with_reducible refine gate_dst (N := 12) rfl ?_); (try (refine gate_guard (by rfl) ?_; dsimp only)); refine box_event ?hg (N := 12) ?hd (cs := #[.int .i64 0, .int .i64 0, .int .i64 0, .slice none 0 0]) (t := 164) ?hr ?_; (case hd => rfl); (case hg => rfl); (case hr => first | (go_simp; done) | (go_simp; rfl)); intro gb200 hg w54 hbox hb; have n0_ := Aside0.mk (Kd.R_below (by (with_reducible repeat (first | apply Kd.R_alloc | apply Kd.R_drewN | apply Kd.R_drew)); exact HO_6.out) hb); have n1_ := Aside0.mk (below_step (by repeat (first | (with_reducible first | exact HB.out | apply below_alloc | apply pw_below_drewN | apply below_drew1) | exact HB.out)) hb); have n2_ := Aside0.mk (hbox); have n3_ := Aside0.mk ((by rw [hg]; exact (below_size (by repeat (first | (with_reducible first | exact HB.out | apply below_alloc | apply pw_below_drewN | apply below_drew1) | exact HB.out))) : w.heap.size ≤ gb200)); have n4_ := Aside0.mk ((by rw [hg]; exact (below_size (by repeat (first | (with_reducible first | exact HB.out | apply below_alloc | apply pw_below_drewN | apply below_drew1) | exact HB.out))) : w.heap.size ≤ gb200)); clear HO_6; clear HB; have HO_6 := n0_; have HB := n1_; have BK200 := n2_; have GW200 := n3_; have GE200 := n4_; clear n0_ n1_ n2_ n3_ n4_; clear hb hbox hg; have hcz55_0 : w54.cell? ⟨gb200, 0, none⟩ = some (.int .i64 0) := (blk_cell BK200.out 0).trans rfl; have hcz55_1 : w54.cell? ⟨gb200, 1, none⟩ = some (.int .i64 0) := (blk_cell BK200.out 1).trans rfl; have hcz55_2 : w54.cell? ⟨gb200, 2, none⟩ = some (.int .i64 0) := (blk_cell BK200.out 2).trans rfl; have hcz55_3 : w54.cell? ⟨gb200, 3, none⟩ = some (.slice none 0 0) := (blk_cell BK200.out 3).trans rfl; have hfz55_0 := blk_frozen BK200.out 0; have hfz55_1 := blk_frozen BK200.out 1; have hfz55_2 := blk_frozen BK200.out 2; have hfz55_3 := blk_frozen BK200.out 3; obtain ⟨Ao56, co56, eo56⟩ := Kd.R_slice HO_6.out; subst eo56; have p201 : 0 ≤ (x69_3 : Int) := of_decide_eq_true (by first | (with_reducible assumption) | assumption); have q201 : x69_3 < (x6_2.length : Int) := of_decide_eq_true (by first | (with_reducible assumption) | assumption); obtain ⟨ad201, e201, hx201_0⟩ := Kd.at_int (Kd.R_reads' HO_6.out).2.2 x69_3 p201 q201; cases e201; have hn201_0 : ad201.block ≠ gb200 := Kd.own_blk (Kd.R_ne HO_6.out BK200.out (by decide)); have hn201_1 : ad201.block ≠ gb200 := Kd.own_blk (Kd.R_ne HO_6.out BK200.out (by decide)); have hn201_2 : ad201.block ≠ gb200 := Kd.own_blk (Kd.R_ne HO_6.out BK200.out (by decide)); have hn201_3 : ad201.block ≠ gb200 := Kd.own_blk (Kd.R_ne HO_6.out BK200.out (by decide)); replace hx201_0 := (cell_far (p := ⟨gb200, 0, none⟩) (by first | (rw [add_block]; exact hn201_0) | (show (Addr.add _ _).block ≠ _; rw [add_block]; exact hn201_0) | exact hn201_0) (.int .i64 ((rd_T164 l0 x69_3).f0))).trans hx201_0; replace hx201_0 := (cell_far (p := ⟨gb200, 1, none⟩) (by first | (rw [add_block]; exact hn201_1) | (show (Addr.add _ _).block ≠ _; rw [add_block]; exact hn201_1) | exact hn201_1) (.int .i64 ((rd_T164 l0 x69_3).f1))).trans hx201_0; replace hx201_0 := (cell_far (p := ⟨gb200, 2, none⟩) (by first | (rw [add_block]; exact hn201_2) | (show (Addr.add _ _).block ≠ _; rw [add_block]; exact hn201_2) | exact hn201_2) (.int .i64 ((rd_T164 l0 x69_3).f2))).trans hx201_0; replace hx201_0 := (cell_far (p := ⟨gb200, 3, none⟩) (by first | (rw [add_block]; exact hn201_3) | (show (Addr.add _ _).block ≠ _; rw [add_block]; exact hn201_3) | exact hn201_3) (.slice A199_3 ((rd_T164 l0 x69_3).f3).length c199_3)).trans hx201_0; (try have hy201_0 := fun (n_ : Nat) => (show ((((((w54.drewN n_).setCell ⟨gb200, 0, none⟩ (.int .i64 ((rd_T164 l0 x69_3).f0))).setCell ⟨gb200, 1, none⟩ (.int .i64 ((rd_T164 l0 x69_3).f1))).setCell ⟨gb200, 2, none⟩ (.int .i64 ((rd_T164 l0 x69_3).f2))).setCell ⟨gb200, 3, none⟩ (.slice A199_3 ((rd_T164 l0 x69_3).f3).length c199_3))).cell? _ = some _ from hx201_0)); clear hn201_0; clear hn201_1; clear hn201_2; clear hn201_3; replace p201 := eq_true p201; replace q201 := eq_true q201)); try go_wp2_with (first | ((with_reducible refine gate_dst (N := 12) rfl ?_); (try (refine gate_guard (by rfl) ?_; dsimp only)); refine box_event ?hg (N := 12) ?hd (cs := #[.int .i64 0, .int .i64 0, .int .i64 0, .slice none 0 0]) (t := 164) ?hr ?_; (case hd => rfl); (case hg => rfl); (case hr => first | (go_simp; done) | (go_simp; rfl)); intro gb200 hg w54 hbox hb; have n0_ := Aside0.mk (Kd.R_below (by (with_reducible repeat (first | apply Kd.R_alloc | apply Kd.R_drewN | apply Kd.R_drew)); exact HO_6.out) hb); have n1_ := Aside0.mk (below_step (by repeat (first | (with_reducible first | exact HB.out | apply below_alloc | apply pw_below_drewN | apply below_drew1) | exact HB.out)) hb); have n2_ := Aside0.mk (hbox); have n3_ := Aside0.mk ((by rw [hg]; exact (below_size (by repeat (first | (with_reducible first | exact HB.out | apply below_alloc | apply pw_below_drewN | apply below_drew1) | exact HB.out))) : w.heap.size ≤ gb200)); have n4_ := Aside0.mk ((by rw [hg]; exact (below_size (by repeat (first | (with_reducible first | exact HB.out | apply below_alloc | apply pw_below_drewN | apply below_drew1) | exact HB.out))) : w.heap.size ≤ gb200)); clear HO_6; clear HB; have HO_6 := n0_; have HB := n1_; have BK200 := n2_; have GW200 := n3_; have GE200 := n4_; clear n0_ n1_ n2_ n3_ n4_; clear hb hbox hg; have hcz55_0 : w54.cell? ⟨gb200, 0, none⟩ = some (.int .i64 0) := (blk_cell BK200.out 0).trans rfl; have hcz55_1 : w54.cell? ⟨gb200, 1, none⟩ = some (.int .i64 0) := (blk_cell BK200.out 1).trans rfl; have hcz55_2 : w54.cell? ⟨gb200, 2, none⟩ = some (.int .i64 0) := (blk_cell BK200.out 2).trans rfl; have hcz55_3 : w54.cell? ⟨gb200, 3, none⟩ = some (.slice none 0 0) := (blk_cell BK200.out 3).trans rfl; have hfz55_0 := blk_frozen BK200.out 0; have hfz55_1 := blk_frozen BK200.out 1; have hfz55_2 := blk_frozen BK200.out 2; have hfz55_3 := blk_frozen BK200.out 3; obtain ⟨Ao56, co56, eo56⟩ := Kd.R_slice HO_6.out; subst eo56; have p201 : 0 ≤ (x69_3 : Int) := of_decide_eq_true (by first | (with_reducible assumption) | assumption); have q201 : x69_3 < (x6_2.length : Int) := of_decide_eq_true (by first | (with_reducible assumption) | assumption); obtain ⟨ad201, e201, hx201_0⟩ := Kd.at_int (Kd.R_reads' HO_6.out).2.2 x69_3 p201 q201; cases e201; have hn201_0 : ad201.block ≠ gb200 := Kd.own_blk (Kd.R_ne HO_6.out BK200.out (by decide)); have hn201_1 : ad201.block ≠ gb200 := Kd.own_blk (Kd.R_ne HO_6.out BK200.out (by decide)); have hn201_2 : ad201.block ≠ gb200 := Kd.own_blk (Kd.R_ne HO_6.out BK200.out (by decide)); have hn201_3 : ad201.block ≠ gb200 := Kd.own_blk (Kd.R_ne HO_6.out BK200.out (by decide)); replace hx201_0 := (cell_far (p := ⟨gb200, 0, none⟩) (by first | (rw [add_block]; exact hn201_0) | (show (Addr.add _ _).block ≠ _; rw [add_block]; exact hn201_0) | exact hn201_0) (.int .i64 ((rd_T164 l0 x69_3).f0))).trans hx201_0; replace hx201_0 := (cell_far (p := ⟨gb200, 1, none⟩) (by first | (rw [add_block]; exact hn201_1) | (show (Addr.add _ _).block ≠ _; rw [add_block]; exact hn201_1) | exact hn201_1) (.int .i64 ((rd_T164 l0 x69_3).f1))).trans hx201_0; replace hx201_0 := (cell_far (p := ⟨gb200, 2, none⟩) (by first | (rw [add_block]; exact hn201_2) | (show (Addr.add _ _).block ≠ _; rw [add_block]; exact hn201_2) | exact hn201_2) (.int .i64 ((rd_T164 l0 x69_3).f2))).trans hx201_0; replace hx201_0 := (cell_far (p := ⟨gb200, 3, none⟩) (by first | (rw [add_block]; exact hn201_3) | (show (Addr.add _ _).block ≠ _; rw [add_block]; exact hn201_3) | exact hn201_3) (.slice A199_3 ((rd_T164 l0 x69_3).f3).length c199_3)).trans hx201_0; (try have hy201_0 := fun (n_ : Nat) => (show ((((((w54.drewN n_).setCell ⟨gb200, 0, none⟩ (.int .i64 ((rd_T164 l0 x69_3).f0))).setCell ⟨gb200, 1, none⟩ (.int .i64 ((rd_T164 l0 x69_3).f1))).setCell ⟨gb200, 2, none⟩ (.int .i64 ((rd_T164 l0 x69_3).f2))).setCell ⟨gb200, 3, none⟩ (.slice A199_3 ((rd_T164 l0 x69_3).f3).length c199_3))).cell? _ = some _ from hx201_0)); clear hn201_0; clear hn201_1; clear hn201_2; clear hn201_3; replace p201 := eq_true p201; replace q201 := eq_true q201)))
        go_roundg k3
        case measure => have := HJ2.out; have := HK2.out; have := HK3.out; omega
        case rel => exact ⟨(x10_3), (wrap64 (x69_3 + 1)), (by first | rfl | (simp; done) | (simp [*]; done)), (by first | rfl | (simp; done) | (simp [*]; done)), H', ⟨by have := HJ2.out; have := HK2.out; have := HK3.out; omega⟩, ⟨by (with_reducible repeat (first | apply Kd.R_alloc | apply Kd.R_drewN | apply Kd.R_drew)); exact Kd.R_mono (Kd.R_far (p := ⟨gb200, 3, none⟩) (Kd.R_far (p := ⟨gb200, 2, none⟩) (Kd.R_far (p := ⟨gb200, 1, none⟩) (Kd.R_far (p := ⟨gb200, 0, none⟩) (Kd.R_types HO_6.out BK200.out (by decide)) (fun _ hk => hk.2) (.int .i64 ((rd_T164 l0 x69_3).f0))) (fun _ hk => hk.2) (.int .i64 ((rd_T164 l0 x69_3).f1))) (fun _ hk => hk.2) (.int .i64 ((rd_T164 l0 x69_3).f2))) (fun _ hk => hk.2) (.slice A199_3 ((rd_T164 l0 x69_3).f3).length c199_3)) (fun _ hk => trivial)⟩, ⟨by repeat (first | (with_reducible first | exact HB.out | apply below_alloc | apply pw_below_drewN | apply below_drew1 | refine below_set ?_ GE200.out) | exact HB.out)⟩⟩
       rw [if_neg c46] at H
       have c46b0 : decide (x69_3 < (l0.length : Int)) = false := decide_eq_false c46
       clear c46
       simp only [Option.some.injEq, Prod.mk.injEq] at H
       obtain ⟨rfl, rfl⟩ := H
       go_wp2
       repeat (go_quiet (fail); try go_wp2)
       go_ret2
       exact ⟨by first | rfl | (simp [errW_none, errW_some] <;> rfl) | (simp [*, errW_none, errW_some] <;> rfl), by repeat (first | (with_reducible first | exact HB.out | apply below_alloc | apply pw_below_drewN | apply below_drew1) | exact HB.out)⟩

end Go.Proofs.Ytflagondodkonaa.PFnExactLateness
