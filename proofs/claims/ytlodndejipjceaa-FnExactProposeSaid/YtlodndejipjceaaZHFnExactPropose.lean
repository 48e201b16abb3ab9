/- What the law's helper functions answer: sizes, conversions, comparisons. By this repo's wip/tools/pg.py. -/
import Derived.Test.YtlodndejipjceaaZPFnExactProposex0
import Derived.Test.YtlodndejipjceaaZPFnExactProposex1
import Derived.Test.YtlodndejipjceaaZPFnExactProposex3
import Derived.Test.YtlodndejipjceaaZPFnExactProposex8
import Derived.Test.YtlodndejipjceaaZPFnExactProposex9
import Derived.Test.YtlodndejipjceaaZEv
set_option maxHeartbeats 2000000
set_option linter.unusedVariables false
set_option linter.unusedSimpArgs false
namespace Go.Proofs.Ytlodndejipjceaa.PFnExactPropose
open Go.RowKit Go.Proofs.YtlodndejipjceaaW.PrintWords Go.Proofs.YtlodndejipjceaaW.PrintLast Go.Proofs.Ytlodndejipjceaa.XEv

theorem laws_szBillS_ev (l : List (S132)) (n : Int) (h0 : 0 ≤ n) (h1 : n ≤ 1048576) (hg : l.length ≤ maxLen ∧ ∀ a_ ∈ l, G132 a_) : ∃ r, Ev (fun _ => laws_szBillS.f l n) r ∧ (r < 0 ∨ (0 ≤ r ∧ r ≤ n ∧ (l.length : Int) ≤ n)) := by
  have hl := hg.1
  unfold maxLen at hl
  have hw : wrap64 (n - (l.length : Int)) = n - (l.length : Int) := wrap_id (by omega) (by omega)
  unfold laws_szBillS.f
  simp only [hw]
  by_cases c : n - (l.length : Int) < 0
  · exact ⟨-1, ev_pos c (Ev.now _), .inl (by decide)⟩
  · exact ⟨n - (l.length : Int), ev_neg c (Ev.now _), .inr ⟨by omega, by omega, by omega⟩⟩
/-- The law's own value as the program's. -/
def cv132 (x : S132) : S129 := ⟨x.f0, x.f1, x.f2, x.f3⟩
theorem laws_toBill_ev (x : S132) : Ev (fun _ => laws_toBill.f (x.f0) (x.f1) (x.f2) (x.f3)) (x.f0, x.f1, x.f2, x.f3) := by
  unfold laws_toBill.f
  exact Ev.now _
theorem laws_toBillS_ev (l : List (S132)) (hb : (l.length : Int) ≤ 1048576) : Ev (fun k => laws_toBillS.f k l) (l.map cv132) := by
  have hl := hb
  unfold laws_toBillS.f
  refine ev_pos (by omega) (ev_pos (by omega) ?_)
  have hfl := fill_loop (fun k ys i => laws_toBillS.l0 k l ys i) cv132 (z129) l ?_ ?_
  · simpa only [Int.toNat_natCast] using hfl
  · intro ys i hi r hy hq
    have hrd : rd_T132 l (i : Int) = l[i] := getD_at hi _
    refine Ev.step (fun k => by rw [laws_toBillS.l0]) ?_
    simp only [hrd]
    refine ev_pos (by omega) (ev_pos (by omega) (Ev.bind (laws_toBill_ev l[i]) (ev_pos (by omega) ?_)))
    rw [wrap_succ hi (by omega)]
    simp only [Int.toNat_natCast]
    exact hq
  · intro ys
    refine Ev.step (fun k => by rw [laws_toBillS.l0]) ?_
    exact ev_neg (by omega) (Ev.now _)
theorem laws_eqIntS_ev (l : List (Int)) (hb : (l.length : Int) ≤ 1048576) : Ev (fun k => laws_eqIntS.f k l l) true := by
  have hl := hb
  unfold laws_eqIntS.f
  refine ev_pos rfl ?_
  refine all_loop (fun k i => laws_eqIntS.l0 k l l i) l.length ?_ ?_
  · intro i hi hq
    refine Ev.step (fun k => by rw [laws_eqIntS.l0]) ?_
    refine ev_pos (by omega) (ev_pos (by omega) (ev_pos (by omega) (ev_pos rfl ?_)))
    rw [wrap_succ hi (by omega)]
    exact hq
  · refine Ev.step (fun k => by rw [laws_eqIntS.l0]) ?_
    exact ev_neg (by omega) (Ev.now _)
theorem laws_eqBill_ev (x : S129) : Ev (fun _ => laws_eqBill.f (x.f0) (x.f1) (x.f2) (x.f3) (x.f0) (x.f1) (x.f2) (x.f3)) true := by
  unfold laws_eqBill.f
  refine ev_pos rfl ?_
  refine ev_pos rfl ?_
  refine ev_pos rfl ?_
  refine ev_pos rfl ?_
  exact Ev.now _
theorem laws_eqBillS_ev (l : List (S129)) (hb : (l.length : Int) ≤ 1048576) : Ev (fun k => laws_eqBillS.f k l l) true := by
  have hl := hb
  unfold laws_eqBillS.f
  refine ev_pos rfl ?_
  refine all_loop (fun k i => laws_eqBillS.l0 k l l i) l.length ?_ ?_
  · intro i hi hq
    refine Ev.step (fun k => by rw [laws_eqBillS.l0]) ?_
    have hrd : rd_T129 l (i : Int) = l[i] := getD_at hi _
    simp only [hrd]
    refine ev_pos (by omega) (ev_pos (by omega) (ev_pos (by omega) (Ev.bind (laws_eqBill_ev l[i]) (ev_pos rfl ?_))))
    rw [wrap_succ hi (by omega)]
    exact hq
  · refine Ev.step (fun k => by rw [laws_eqBillS.l0]) ?_
    exact ev_neg (by omega) (Ev.now _)
theorem laws_markBillS_ev (l : List (S129)) (n : Int) (h0 : 0 ≤ n) (h1 : n ≤ 1152921504606846976) (hb : (l.length : Int) ≤ 1048576) : ∃ r, Ev (fun k => laws_markBillS.f k l n) r ∧ n ≤ r.1 ∧ r.1 ≤ n + l.length * 4 ∧ r.2.length = l.length := by
  unfold laws_markBillS.f
  refine mark_loop (fun k xs n i => laws_markBillS.l0 k xs n i) l.length 4 (by decide) ?_ ?_ l n rfl h0 (by omega)
  · intro xs n i hi hx h0 h1
    have hw0 : wrap64 (n + 1) = n + 1 := wrap_id (by omega) (by omega)
    have hw1 : wrap64 (n + 1 + 1) = n + 1 + 1 := wrap_id (by omega) (by omega)
    have hw2 : wrap64 (n + 1 + 1 + 1) = n + 1 + 1 + 1 := wrap_id (by omega) (by omega)
    have hw3 : wrap64 (n + 1 + 1 + 1 + 1) = n + 1 + 1 + 1 + 1 := wrap_id (by omega) (by omega)
    refine ⟨?n', ?x', ?b0, ?b1, ?b2, fun r hr => ?main⟩
    case main =>
      refine Ev.step (fun k => by rw [laws_markBillS.l0]) ?_
      simp only [hw0, hw1, hw2, hw3, wrap_succ hi (show l.length ≤ 9223372036854775807 by omega)]
      refine ev_pos (by omega) ?_
      refine ev_pos (by omega) ?_
      refine ev_bind0 rfl ?_
      refine ev_bind0 rfl ?_
      refine ev_bind0 rfl ?_
      exact hr
    all_goals first | omega | (simp [hx]; done)
  · intro xs n hx
    refine Ev.step (fun k => by rw [laws_markBillS.l0]) ?_
    exact ev_neg (by omega) (Ev.now _)
theorem laws_markIntS_ev (l : List Int) (n : Int) (h0 : 0 ≤ n) (h1 : n ≤ 2305843009213693952) (hb : (l.length : Int) ≤ 1048576) : Ev (fun k => laws_markIntS.f k l n) (n + l.length, seqFrom n l.length) := by
  unfold laws_markIntS.f
  refine markInt_loop (fun k xs n i => laws_markIntS.l0 k xs n i) l.length ?_ ?_ l n rfl h0 (by omega)
  · intro xs n i hi hx r hr
    refine Ev.step (fun k => by rw [laws_markIntS.l0]) ?_
    refine ev_pos (by omega) (ev_pos (by omega) ?_)
    rw [wrap_succ hi (by omega)]
    simp only [Int.toNat_natCast]
    exact hr
  · intro xs n hx
    refine Ev.step (fun k => by rw [laws_markIntS.l0]) ?_
    exact ev_neg (by omega) (Ev.now _)
theorem laws_heldIntS_ev (n : Int) (m : Nat) (h0 : 0 ≤ n) (h1 : n ≤ 2305843009213693952) (hb : (m : Int) ≤ 1048576) : Ev (fun k => laws_heldIntS.f k (seqFrom n m) n) (n + m) := by
  unfold laws_heldIntS.f
  refine held_loop (fun k q i => laws_heldIntS.l0 k (seqFrom n m) q i) m n h0 (by omega) ?_ ?_
  · intro i hi r hr
    refine Ev.step (fun k => by rw [laws_heldIntS.l0]) ?_
    simp only [seqFrom_rd n hi, seqFrom_length]
    refine ev_pos (by omega) (ev_pos (by omega) (ev_pos (by first | rfl | trivial) ?_))
    rw [wrap_succ hi (by omega)]
    exact hr
  · refine Ev.step (fun k => by rw [laws_heldIntS.l0]) ?_
    exact ev_neg (by rw [seqFrom_length]; omega) (Ev.now _)
theorem spec_l1In_eq (a b c : Int) : spec_l1In.f a b c = some (decide (b ≤ a ∧ a ≤ c)) := by
  unfold spec_l1In.f
  by_cases h : a ≥ b
  · rw [if_pos h]; simp [show b ≤ a from h]
  · rw [if_neg h]; simp [show ¬ b ≤ a from h]
theorem impl_between_eq (a b c : Int) : impl_between.f a b c = some (decide (b ≤ a ∧ a ≤ c)) := by
  unfold impl_between.f
  by_cases h : a ≥ b
  · rw [if_pos h]; simp [show b ≤ a from h]
  · rw [if_neg h]; simp [show ¬ b ≤ a from h]
theorem spec_l2Day_eq (a : Int) : spec_l2Day.f a = some (decide (0 ≤ a ∧ a ≤ 40000)) := by
  unfold spec_l2Day.f
  rw [spec_l1In_eq]
  rfl
theorem impl_money_eq (a : Int) : impl_money.f a = some (decide (0 ≤ a ∧ a ≤ 100000000000)) := by
  unfold impl_money.f
  rw [impl_between_eq]
  rfl
theorem impl_isDay_eq (a : Int) : impl_isDay.f a = some (decide (0 ≤ a ∧ a ≤ 40000)) := by
  unfold impl_isDay.f
  rw [impl_between_eq]
  rfl
theorem impl_rateOk_eq (a : Int) : impl_rateOk.f a = some (decide (0 ≤ a ∧ a ≤ 100000)) := by
  unfold impl_rateOk.f
  rw [impl_between_eq]
  rfl
end Go.Proofs.Ytlodndejipjceaa.PFnExactPropose
