/- Lines by a program (a changed copy of the kit's print: this repo's wip/tools): Go functions as Lean functions, and proofs that the calls answer so. -/
import Derived.Test.YtdnhpicgjkddbaaZPFnExactAllotx0
namespace Go.Proofs.Ytdnhpicgjkddbaa.PFnExactAllot
open Go.RowKit Go.Proofs.YtdnhpicgjkddbaaW.PrintWords Go.Proofs.YtdnhpicgjkddbaaW.PrintLast Go.Proofs.YtdnhpicgjkddbaaW.PrintMore
attribute [local go_sem] max2_int min2_int max_two min_two max_three min_three max_four min_four   -- for this text's walks alone
set_option linter.unusedVariables false
set_option linter.unusedSimpArgs false

/-! ### impl_Shares_1: function 168 -/
def impl_Shares_1.f (a0_0 : Int) (a0_1 : Int) (a1_0 : Int) (a1_1 : Int) : Option (Bool) := some (decide (a0_1 > a1_1))
set_option maxHeartbeats 8000000 in
set_option maxRecDepth 100000 in
theorem impl_Shares_1.calls (a0_0 : Int) (a0_1 : Int) (a1_0 : Int) (a1_1 : Int) (r : Bool) (w : World) (h : impl_Shares_1.f a0_0 a0_1 a1_0 a1_1 = some r) :
  Calls Try.prog 168 #[.agg #[.int .i64 a0_0, .int .i64 a0_1], .agg #[.int .i64 a1_0, .int .i64 a1_1]] w fun e w' => e = .returned (.bool r) ∧ Below w.heap.size w w' := by
 have hu223 := Try.underlying223
 have HB := Aside0.mk (Below.refl w.heap.size w)
 have H : (some (decide (a0_1 > a1_1))) = some r := h
 clear h
 obtain rfl := Option.some.inj H
 go_enter Try.func168, Try.ntmps168
 go_wp2_with (first | ((with_reducible refine qu0 (N := 2) rfl ?_); refine qy0 ?hg (N := 2) ?hd (cs := #[.int .i64 a0_0, .int .i64 a0_1]) (t := 223) ?hr ?_; (case hd => rfl); (case hg => rfl); (case hr => first | (go_simp; done) | (go_simp; rfl)); intro gb230 hg w3 hbox hb; have n0_ := Aside0.mk (qo0 (by repeat (first | (with_reducible first | exact HB.out | apply qc0 | apply qa0 | apply qb0) | exact HB.out)) hb); have n1_ := Aside0.mk (hbox); have n2_ := Aside0.mk ((by rw [hg]; exact (qk0 (by repeat (first | (with_reducible first | exact HB.out | apply qc0 | apply qa0 | apply qb0) | exact HB.out))) : w.heap.size ≤ gb230)); have n3_ := Aside0.mk ((by rw [hg]; exact (qk0 (by repeat (first | (with_reducible first | exact HB.out | apply qc0 | apply qa0 | apply qb0) | exact HB.out))) : w.heap.size ≤ gb230)); clear HB; have HB := n0_; have BK230 := n1_; have GW230 := n2_; have GE230 := n3_; clear n0_ n1_ n2_ n3_; clear hb hbox hg) | ((with_reducible refine qu0 (N := 3) rfl ?_); refine qy0 ?hg (N := 3) ?hd (cs := #[.int .i64 a1_0, .int .i64 a1_1]) (t := 223) ?hr ?_; (case hd => rfl); (case hg => rfl); (case hr => first | (go_simp; done) | (go_simp; rfl)); intro gb231 hg w4 hbox hb; have n0_ := Aside0.mk (qa1 (g := gb230) (o := .cells #[.int .i64 a0_0, .int .i64 a0_1] 223 (0, 0)) (by (with_reducible repeat (first | refine qh0 ?_ _ | refine qj0 ?_ | refine qi0 ?_ _)); exact BK230.out) hb); have n1_ := Aside0.mk (qo0 (by repeat (first | (with_reducible first | exact HB.out | apply qc0 | apply qa0 | apply qb0 | refine qg0 ?_ GE230.out) | exact HB.out)) hb); have n2_ := Aside0.mk (hbox); have n3_ := Aside0.mk ((by rw [hg]; exact (qk0 (by repeat (first | (with_reducible first | exact HB.out | apply qc0 | apply qa0 | apply qb0 | refine qg0 ?_ GE230.out) | exact HB.out))) : w.heap.size ≤ gb231)); have n4_ := Aside0.mk ((by rw [hg]; exact (qk0 (by repeat (first | (with_reducible first | exact HB.out | apply qc0 | apply qa0 | apply qb0 | refine qg0 ?_ GE230.out) | exact HB.out))) : w.heap.size ≤ gb231)); have n5_ := Aside0.mk ((by rw [hg]; exact Nat.ne_of_lt (qb1 (g := gb230) (o := .cells #[.int .i64 a0_0, .int .i64 a0_1] 223 (0, 0)) (by (with_reducible repeat (first | refine qh0 ?_ _ | refine qj0 ?_ | refine qi0 ?_ _)); exact BK230.out)) : gb230 ≠ gb231)); have n6_ := Aside0.mk ((by rw [hg]; exact Nat.ne_of_gt (qb1 (g := gb230) (o := .cells #[.int .i64 a0_0, .int .i64 a0_1] 223 (0, 0)) (by (with_reducible repeat (first | refine qh0 ?_ _ | refine qj0 ?_ | refine qi0 ?_ _)); exact BK230.out)) : gb231 ≠ gb230)); clear BK230; clear HB; have BK230 := n0_; have HB := n1_; have BK231 := n2_; have GW231 := n3_; have GE231 := n4_; have NB230_231 := n5_; have NB231_230 := n6_; clear n0_ n1_ n2_ n3_ n4_ n5_ n6_; clear hb hbox hg; have hnb5 := NB230_231.out; have hnc5 := NB231_230.out; have hcz6_0 : w4.cell? ⟨gb230, 0, none⟩ = some (.int .i64 a0_0) := (qd0 BK230.out 0).trans rfl; have hcz6_1 : w4.cell? ⟨gb230, 1, none⟩ = some (.int .i64 a0_1) := (qd0 BK230.out 1).trans rfl; have hfz6_0 := qf0 BK230.out 0; have hfz6_1 := qf0 BK230.out 1; have hcz7_0 : w4.cell? ⟨gb231, 0, none⟩ = some (.int .i64 a1_0) := (qd0 BK231.out 0).trans rfl; have hcz7_1 : w4.cell? ⟨gb231, 1, none⟩ = some (.int .i64 a1_1) := (qd0 BK231.out 1).trans rfl; have hfz7_0 := qf0 BK231.out 0; have hfz7_1 := qf0 BK231.out 1))
 go_ret
 exact ⟨by first | rfl | (simp [errW_none, errW_some] <;> rfl) | (simp [*, errW_none, errW_some] <;> rfl), by repeat (first | (with_reducible first | exact HB.out | apply qc0 | apply qa0 | apply qb0 | refine qg0 ?_ GE230.out | refine qg0 ?_ GE231.out) | exact HB.out)⟩
theorem impl_Shares_1.ok (W : World) : FnOk (α := S223) Try.prog W 168 #[] (fun x_ => .agg #[.int .i64 x_.f0, .int .i64 x_.f1]) (fun a_ b_ => impl_Shares_1.f a_.f0 a_.f1 b_.f0 b_.f1) :=
 ⟨fn_enters Try.func168 (by kernel_rfl) rfl, fun x y r hr => (impl_Shares_1.calls x.f0 x.f1 y.f0 y.f1 r W hr).mono fun e w' h => ⟨h.1, h.2⟩⟩

end Go.Proofs.Ytdnhpicgjkddbaa.PFnExactAllot
