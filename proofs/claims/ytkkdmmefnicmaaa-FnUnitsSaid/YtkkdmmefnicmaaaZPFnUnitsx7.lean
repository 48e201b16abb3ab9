/- Lines by a program (a changed copy of the kit's print: this repo's wip/tools): Go functions as Lean functions, and proofs that the calls answer so. -/
import Derived.Test.YtkkdmmefnicmaaaZPFnUnitsx0
import Derived.Test.YtkkdmmefnicmaaaZPFnUnitsx6
namespace Go.Proofs.Ytkkdmmefnicmaaa.PFnUnits
open Go.RowKit Go.Proofs.YtkkdmmefnicmaaaW.PrintWords Go.Proofs.YtkkdmmefnicmaaaW.PrintLast Go.Proofs.YtkkdmmefnicmaaaW.PrintMore
attribute [local go_sem] max2_int min2_int max_two min_two max_three min_three max_four min_four   -- for this text's walks alone
set_option linter.unusedVariables false
set_option linter.unusedSimpArgs false

/-! ### spec_l15By: function 80 -/
def spec_l15By.f (k : Nat) (a0 : Int) (a1 : Int) (a2 : Int) : Option (Int × Bool) := if a0 = 0 then (some (0, true)) else ((spec_l15Gcd.f k a1 a2).bind fun t264 => (if t264 = 0 then (none) else (if (wrap64 (Int.tdiv a2 t264)) = 0 then (none) else (if (Int.tmod a0 (wrap64 (Int.tdiv a2 t264))) = 0 then (if (wrap64 (Int.tdiv a0 (wrap64 (Int.tdiv a2 t264)))) = 0 then (none) else (if (wrap64 (Int.tdiv a1 t264)) > (wrap64 (Int.tdiv (1000000 : Int) (wrap64 (Int.tdiv a0 (wrap64 (Int.tdiv a2 t264)))))) then (some (0, false)) else (some (wrap64 ((wrap64 (Int.tdiv a0 (wrap64 (Int.tdiv a2 t264)))) * (wrap64 (Int.tdiv a1 t264))), true)))) else (some (0, false))))))
theorem spec_l15By.mono : ∀ a0 a1 a2 k, LeO (spec_l15By.f k a0 a1 a2) (spec_l15By.f (k + 1) a0 a1 a2) := by
 intro a0 a1 a2 k
 unfold spec_l15By.f
 repeat' first
   | (with_reducible exact spec_l15Gcd.mono _ _ _)
   | (with_reducible exact LeO.refl _)
   | (with_reducible exact LeO.none _)
   | (with_reducible refine LeO.ite ?_ ?_)
   | (with_reducible refine LeO.bind ?_ (fun _ => ?_))
   | exact spec_l15Gcd.mono _ _ _
   | exact LeO.none _
   | refine LeO.ite ?_ ?_
   | refine LeO.bind ?_ (fun _ => ?_)
set_option maxHeartbeats 8000000 in
set_option maxRecDepth 100000 in
theorem spec_l15By.calls (k : Nat) (a0 : Int) (a1 : Int) (a2 : Int) (r1 : Int) (r2 : Bool) (w : World) (h : spec_l15By.f k a0 a1 a2 = some (r1, r2)) :
  Calls Try.prog 80 #[.int .i64 a0, .int .i64 a1, .int .i64 a2] w fun e w' => e = .returned (.tuple #[.int .i64 r1, .bool r2]) ∧ Drawn0 w w' := by
 have H : (if a0 = 0 then (some (0, true)) else ((spec_l15Gcd.f k a1 a2).bind fun t264 => (if t264 = 0 then (none) else (if (wrap64 (Int.tdiv a2 t264)) = 0 then (none) else (if (Int.tmod a0 (wrap64 (Int.tdiv a2 t264))) = 0 then (if (wrap64 (Int.tdiv a0 (wrap64 (Int.tdiv a2 t264)))) = 0 then (none) else (if (wrap64 (Int.tdiv a1 t264)) > (wrap64 (Int.tdiv (1000000 : Int) (wrap64 (Int.tdiv a0 (wrap64 (Int.tdiv a2 t264)))))) then (some (0, false)) else (some (wrap64 ((wrap64 (Int.tdiv a0 (wrap64 (Int.tdiv a2 t264)))) * (wrap64 (Int.tdiv a1 t264))), true)))) else (some (0, false))))))) = some (r1, r2) := h
 clear h
 by_cases c4 : a0 = 0
 ·rw [if_pos c4] at H
  have c4b0 : (a0 == 0) = true := beq_iff_eq.mpr c4
  have c4b1 : (a0 != 0) = false := bne_eq_false_iff_eq.mpr c4
  clear c4
  simp only [Option.some.injEq, Prod.mk.injEq] at H
  obtain ⟨rfl, rfl⟩ := H
  go_enter Try.func80, Try.ntmps80
  go_wp2
  go_ret2
  exact ⟨by first | rfl | (simp; done) | (simp [*]; done), by repeat (first | exact Drawn0.refl _ | apply Drawn0.step)⟩
 rw [if_neg c4] at H
 have c4b0 : (a0 == 0) = false := beq_eq_false_iff_ne.mpr c4
 have c4b1 : (a0 != 0) = true := bne_iff_ne.mpr c4
 replace H := Option.bind_eq_some_iff.mp H
 obtain ⟨t264, A50, H⟩ := H
 replace H : (if t264 = 0 then (none) else (if (wrap64 (Int.tdiv a2 t264)) = 0 then (none) else (if (Int.tmod a0 (wrap64 (Int.tdiv a2 t264))) = 0 then (if (wrap64 (Int.tdiv a0 (wrap64 (Int.tdiv a2 t264)))) = 0 then (none) else (if (wrap64 (Int.tdiv a1 t264)) > (wrap64 (Int.tdiv (1000000 : Int) (wrap64 (Int.tdiv a0 (wrap64 (Int.tdiv a2 t264)))))) then (some (0, false)) else (some (wrap64 ((wrap64 (Int.tdiv a0 (wrap64 (Int.tdiv a2 t264)))) * (wrap64 (Int.tdiv a1 t264))), true)))) else (some (0, false))))) = some (r1, r2) := H
 have A5 := Aside0.mk A50
 clear A50
 by_cases c6 : t264 = 0
 ·rw [if_pos c6] at H
  exact absurd H (by simp)
 rw [if_neg c6] at H
 have c6b0 : (t264 == 0) = false := beq_eq_false_iff_ne.mpr c6
 have c6b1 : (t264 != 0) = true := bne_iff_ne.mpr c6
 by_cases c7 : (wrap64 (Int.tdiv a2 t264)) = 0
 ·rw [if_pos c7] at H
  exact absurd H (by simp)
 rw [if_neg c7] at H
 have c7b0 : ((wrap64 (Int.tdiv a2 t264)) == 0) = false := beq_eq_false_iff_ne.mpr c7
 have c7b1 : ((wrap64 (Int.tdiv a2 t264)) != 0) = true := bne_iff_ne.mpr c7
 by_cases c8 : (Int.tmod a0 (wrap64 (Int.tdiv a2 t264))) = 0
 ·rw [if_pos c8] at H
  have c8b0 : ((Int.tmod a0 (wrap64 (Int.tdiv a2 t264))) == 0) = true := beq_iff_eq.mpr c8
  have c8b1 : ((Int.tmod a0 (wrap64 (Int.tdiv a2 t264))) != 0) = false := bne_eq_false_iff_eq.mpr c8
  clear c8
  by_cases c9 : (wrap64 (Int.tdiv a0 (wrap64 (Int.tdiv a2 t264)))) = 0
  ·rw [if_pos c9] at H
   exact absurd H (by simp)
  rw [if_neg c9] at H
  have c9b0 : ((wrap64 (Int.tdiv a0 (wrap64 (Int.tdiv a2 t264)))) == 0) = false := beq_eq_false_iff_ne.mpr c9
  have c9b1 : ((wrap64 (Int.tdiv a0 (wrap64 (Int.tdiv a2 t264)))) != 0) = true := bne_iff_ne.mpr c9
  by_cases c10 : (wrap64 (Int.tdiv a1 t264)) > (wrap64 (Int.tdiv (1000000 : Int) (wrap64 (Int.tdiv a0 (wrap64 (Int.tdiv a2 t264))))))
  ·rw [if_pos c10] at H
   have c10b0 : decide ((wrap64 (Int.tdiv (1000000 : Int) (wrap64 (Int.tdiv a0 (wrap64 (Int.tdiv a2 t264)))))) < (wrap64 (Int.tdiv a1 t264))) = true := decide_eq_true c10
   clear c10
   simp only [Option.some.injEq, Prod.mk.injEq] at H
   obtain ⟨rfl, rfl⟩ := H
   go_enter Try.func80, Try.ntmps80
   go_wp2_with (first | ((with_reducible refine qw0 (f := 136) rfl ?_); refine qn1 (some 13) rfl rfl Try.func136 (by kernel_rfl) rfl #[.int .i64 a1, .int .i64 a2] rfl (by (try simp only [List.map_toArray, List.map_cons, List.map_nil]); first | done | rfl | (simp only [List.length_drop, List.length_take]; rfl)) ?_; (with_reducible refine (spec_l15Gcd.calls k a1 a2 t264 _ A5.out).mono ?_); rintro e w' ⟨rfl, ⟨nd, rfl⟩⟩; refine ⟨_, rfl, ?_⟩))
   go_ret2
   exact ⟨by first | rfl | (simp; done) | (simp [*]; done), by repeat (first | exact Drawn0.refl _ | apply Drawn0.step)⟩
  rw [if_neg c10] at H
  have c10b0 : decide ((wrap64 (Int.tdiv (1000000 : Int) (wrap64 (Int.tdiv a0 (wrap64 (Int.tdiv a2 t264)))))) < (wrap64 (Int.tdiv a1 t264))) = false := decide_eq_false c10
  clear c10
  simp only [Option.some.injEq, Prod.mk.injEq] at H
  obtain ⟨rfl, rfl⟩ := H
  go_enter Try.func80, Try.ntmps80
  go_wp2_with (first | ((with_reducible refine qw0 (f := 136) rfl ?_); refine qn1 (some 13) rfl rfl Try.func136 (by kernel_rfl) rfl #[.int .i64 a1, .int .i64 a2] rfl (by (try simp only [List.map_toArray, List.map_cons, List.map_nil]); first | done | rfl | (simp only [List.length_drop, List.length_take]; rfl)) ?_; (with_reducible refine (spec_l15Gcd.calls k a1 a2 t264 _ A5.out).mono ?_); rintro e w' ⟨rfl, ⟨nd, rfl⟩⟩; refine ⟨_, rfl, ?_⟩))
  go_ret2
  exact ⟨by first | rfl | (simp; done) | (simp [*]; done), by repeat (first | exact Drawn0.refl _ | apply Drawn0.step)⟩
 rw [if_neg c8] at H
 have c8b0 : ((Int.tmod a0 (wrap64 (Int.tdiv a2 t264))) == 0) = false := beq_eq_false_iff_ne.mpr c8
 have c8b1 : ((Int.tmod a0 (wrap64 (Int.tdiv a2 t264))) != 0) = true := bne_iff_ne.mpr c8
 simp only [Option.some.injEq, Prod.mk.injEq] at H
 obtain ⟨rfl, rfl⟩ := H
 go_enter Try.func80, Try.ntmps80
 go_wp2_with (first | ((with_reducible refine qw0 (f := 136) rfl ?_); refine qn1 (some 13) rfl rfl Try.func136 (by kernel_rfl) rfl #[.int .i64 a1, .int .i64 a2] rfl (by (try simp only [List.map_toArray, List.map_cons, List.map_nil]); first | done | rfl | (simp only [List.length_drop, List.length_take]; rfl)) ?_; (with_reducible refine (spec_l15Gcd.calls k a1 a2 t264 _ A5.out).mono ?_); rintro e w' ⟨rfl, ⟨nd, rfl⟩⟩; refine ⟨_, rfl, ?_⟩))
 go_ret2
 exact ⟨by first | rfl | (simp; done) | (simp [*]; done), by repeat (first | exact Drawn0.refl _ | apply Drawn0.step)⟩

end Go.Proofs.Ytkkdmmefnicmaaa.PFnUnits
