/- Lines by a program (a changed copy of the kit's print: this repo's wip/tools): Go functions as Lean functions, and proofs that the calls answer so. -/
import Derived.Test.YtlodndejipjceaaZPFnExactProposex0
namespace Go.Proofs.Ytlodndejipjceaa.PFnExactPropose
open Go.RowKit Go.Proofs.YtlodndejipjceaaW.PrintWords Go.Proofs.YtlodndejipjceaaW.PrintLast Go.Proofs.YtlodndejipjceaaW.PrintMore
attribute [local go_sem] max2_int min2_int max_two min_two max_three min_three max_four min_four   -- for this text's walks alone
set_option linter.unusedVariables false
set_option linter.unusedSimpArgs false

/-! ### impl_Propose_2: function 100 -/
def impl_Propose_2.f (a0 : Int) (a1 : Int) (l2 : List (S129)) : Option (Bool) := if 0 ≤ a0 then (if a0 < (l2.length : Int) then (if 0 ≤ a1 then (if a1 < (l2.length : Int) then (some (decide (((rd_T129 l2 a0).f2) > ((rd_T129 l2 a1).f2)))) else (none)) else (none)) else (none)) else (none)
set_option maxHeartbeats 8000000 in
set_option maxRecDepth 100000 in
theorem impl_Propose_2.calls (a0 : Int) (a1 : Int) (g2 : Nat) (A2 : Option Addr) (c2 : Nat) (l2 : List (S129)) (r : Bool) (w : World) (hk2 : w.heap[g2]? = some (.cells #[.slice A2 l2.length c2] 38 (0, 0))) (hr2 : Kd.C k129 w A2 l2.length l2) (hc2 : l2.length ≤ c2) (h : impl_Propose_2.f a0 a1 l2 = some r) :
  Calls Try.prog 100 #[.int .i64 a0, .int .i64 a1, .pointer (some ⟨g2, 0, none⟩)] w fun e w' => e = .returned (.bool r) ∧ Drawn0 w w' := by
 have HR2 := Aside0.mk hr2
 have HC2 := Aside0.mk hc2
 have BK191 := Aside0.mk hk2
 clear hr2 hc2 hk2
 have H : (if 0 ≤ a0 then (if a0 < (l2.length : Int) then (if 0 ≤ a1 then (if a1 < (l2.length : Int) then (some (decide (((rd_T129 l2 a0).f2) > ((rd_T129 l2 a1).f2)))) else (none)) else (none)) else (none)) else (none)) = some r := h
 clear h
 by_cases c3 : 0 ≤ a0
 case neg => rw [if_neg c3] at H; exact absurd H (by simp)
 rw [if_pos c3] at H
 have c3b0 : decide (0 ≤ a0) = true := decide_eq_true c3
 clear c3
 by_cases c4 : a0 < (l2.length : Int)
 case neg => rw [if_neg c4] at H; exact absurd H (by simp)
 rw [if_pos c4] at H
 have c4b0 : decide (a0 < (l2.length : Int)) = true := decide_eq_true c4
 clear c4
 by_cases c5 : 0 ≤ a1
 case neg => rw [if_neg c5] at H; exact absurd H (by simp)
 rw [if_pos c5] at H
 have c5b0 : decide (0 ≤ a1) = true := decide_eq_true c5
 clear c5
 by_cases c6 : a1 < (l2.length : Int)
 case neg => rw [if_neg c6] at H; exact absurd H (by simp)
 rw [if_pos c6] at H
 have c6b0 : decide (a1 < (l2.length : Int)) = true := decide_eq_true c6
 clear c6
 obtain rfl := Option.some.inj H
 have hcz7_0 : w.cell? ⟨g2, 0, none⟩ = some (.slice A2 l2.length c2) := (qe0 BK191.out 0).trans rfl
 have hfz7_0 := qd0 BK191.out 0
 have p192 : 0 ≤ (a0 : Int) := of_decide_eq_true (by first | (with_reducible assumption) | assumption)
 have q192 : a0 < (l2.length : Int) := of_decide_eq_true (by first | (with_reducible assumption) | assumption)
 obtain ⟨ad192, e192, hx192_0, hx192_1, hx192_2, hx192_3⟩ := at_T129 HR2.out a0 p192 q192
 cases e192
 replace p192 := eq_true p192
 replace q192 := eq_true q192
 have p193 : 0 ≤ (a1 : Int) := of_decide_eq_true (by first | (with_reducible assumption) | assumption)
 have q193 : a1 < (l2.length : Int) := of_decide_eq_true (by first | (with_reducible assumption) | assumption)
 obtain ⟨ad193, e193, hx193_0, hx193_1, hx193_2, hx193_3⟩ := at_T129 HR2.out a1 p193 q193
 obtain rfl : ad192 = ad193 := (by injection e193)
 replace p193 := eq_true p193
 replace q193 := eq_true q193
 go_enter Try.func100, Try.ntmps100
 go_wp2
 repeat (go_quiet (fail); try go_wp2)
 go_ret
 exact ⟨by first | rfl | (simp; done) | (simp [*]; done), by repeat (first | exact Drawn0.refl _ | apply Drawn0.step)⟩
theorem impl_Propose_2.ok (W : World) {g2 : Nat} {A2 : Option Addr} {c2 : Nat} {l2 : List (S129)} (hk2 : W.heap[g2]? = some (.cells #[.slice A2 l2.length c2] 38 (0, 0))) (hr2 : Kd.C k129 W A2 l2.length l2) (hc2 : l2.length ≤ c2) : FnOk (α := Int) Try.prog W 100 #[.pointer (some ⟨g2, 0, none⟩)] (Value.int .i64) (fun a_ b_ => impl_Propose_2.f a_ b_ l2) :=
 ⟨fn_enters Try.func100 (by kernel_rfl) rfl, fun x y r hr => (impl_Propose_2.calls x y g2 A2 c2 l2 r W hk2 hr2 hc2 hr).mono fun e w' h => ⟨h.1, h.2.below⟩⟩

end Go.Proofs.Ytlodndejipjceaa.PFnExactPropose
