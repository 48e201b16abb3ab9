/- What the law's helper functions answer: sizes, conversions, comparisons. By this repo's wip/tools/pg.py. -/
import Derived.Test.YtlodndejipjceaaZPFnExactLandedx0
import Derived.Test.YtlodndejipjceaaZPFnExactLandedx1
import Derived.Test.YtlodndejipjceaaZPFnExactLandedx5
import Derived.Test.YtlodndejipjceaaZPFnExactLandedx8
import Derived.Test.YtlodndejipjceaaZEv
set_option maxHeartbeats 2000000
set_option linter.unusedVariables false
set_option linter.unusedSimpArgs false
namespace Go.Proofs.Ytlodndejipjceaa.PFnExactLanded
open Go.RowKit Go.Proofs.YtlodndejipjceaaW.PrintWords Go.Proofs.YtlodndejipjceaaW.PrintLast Go.Proofs.Ytlodndejipjceaa.XEv

theorem laws_szLayS_ev (l : List (S154)) (n : Int) (h0 : 0 ≤ n) (h1 : n ≤ 1048576) (hg : l.length ≤ maxLen ∧ ∀ a_ ∈ l, G154 a_) : ∃ r, Ev (fun _ => laws_szLayS.f l n) r ∧ (r < 0 ∨ (0 ≤ r ∧ r ≤ n ∧ (l.length : Int) ≤ n)) := by
  have hl := hg.1
  unfold maxLen at hl
  have hw : wrap64 (n - (l.length : Int)) = n - (l.length : Int) := wrap_id (by omega) (by omega)
  unfold laws_szLayS.f
  simp only [hw]
  by_cases c : n - (l.length : Int) < 0
  · exact ⟨-1, ev_pos c (Ev.now _), .inl (by decide)⟩
  · exact ⟨n - (l.length : Int), ev_neg c (Ev.now _), .inr ⟨by omega, by omega, by omega⟩⟩
/-- The law's own value as the program's. -/
def cv154 (x : S154) : S61 := ⟨x.f0, x.f1⟩
theorem laws_toLay_ev (x : S154) : Ev (fun _ => laws_toLay.f (x.f0) (x.f1)) (x.f0, x.f1) := by
  unfold laws_toLay.f
  exact Ev.now _
theorem laws_toLayS_ev (l : List (S154)) (hb : (l.length : Int) ≤ 1048576) : Ev (fun k => laws_toLayS.f k l) (l.map cv154) := by
  have hl := hb
  unfold laws_toLayS.f
  refine ev_pos (by omega) (ev_pos (by omega) ?_)
  have hfl := fill_loop (fun k ys i => laws_toLayS.l0 k l ys i) cv154 (z61) l ?_ ?_
  · simpa only [Int.toNat_natCast] using hfl
  · intro ys i hi r hy hq
    have hrd : rd_T154 l (i : Int) = l[i] := getD_at hi _
    refine Ev.step (fun k => by rw [laws_toLayS.l0]) ?_
    simp only [hrd]
    refine ev_pos (by omega) (ev_pos (by omega) (Ev.bind (laws_toLay_ev l[i]) (ev_pos (by omega) ?_)))
    rw [wrap_succ hi (by omega)]
    simp only [Int.toNat_natCast]
    exact hq
  · intro ys
    refine Ev.step (fun k => by rw [laws_toLayS.l0]) ?_
    exact ev_neg (by omega) (Ev.now _)
theorem laws_eqLay_ev (x : S61) : Ev (fun _ => laws_eqLay.f (x.f0) (x.f1) (x.f0) (x.f1)) true := by
  unfold laws_eqLay.f
  refine ev_pos rfl ?_
  refine ev_pos rfl ?_
  exact Ev.now _
theorem laws_eqLayS_ev (l : List (S61)) (hb : (l.length : Int) ≤ 1048576) : Ev (fun k => laws_eqLayS.f k l l) true := by
  have hl := hb
  unfold laws_eqLayS.f
  refine ev_pos rfl ?_
  refine all_loop (fun k i => laws_eqLayS.l0 k l l i) l.length ?_ ?_
  · intro i hi hq
    refine Ev.step (fun k => by rw [laws_eqLayS.l0]) ?_
    have hrd : rd_T61 l (i : Int) = l[i] := getD_at hi _
    simp only [hrd]
    refine ev_pos (by omega) (ev_pos (by omega) (ev_pos (by omega) (Ev.bind (laws_eqLay_ev l[i]) (ev_pos rfl ?_))))
    rw [wrap_succ hi (by omega)]
    exact hq
  · refine Ev.step (fun k => by rw [laws_eqLayS.l0]) ?_
    exact ev_neg (by omega) (Ev.now _)
theorem laws_markLayS_ev (l : List (S61)) (n : Int) (h0 : 0 ≤ n) (h1 : n ≤ 1152921504606846976) (hb : (l.length : Int) ≤ 1048576) : ∃ r, Ev (fun k => laws_markLayS.f k l n) r ∧ n ≤ r.1 ∧ r.1 ≤ n + l.length * 2 ∧ r.2.length = l.length := by
  unfold laws_markLayS.f
  refine mark_loop (fun k xs n i => laws_markLayS.l0 k xs n i) l.length 2 (by decide) ?_ ?_ l n rfl h0 (by omega)
  · intro xs n i hi hx h0 h1
    have hw0 : wrap64 (n + 1) = n + 1 := wrap_id (by omega) (by omega)
    have hw1 : wrap64 (n + 1 + 1) = n + 1 + 1 := wrap_id (by omega) (by omega)
    refine ⟨?n', ?x', ?b0, ?b1, ?b2, fun r hr => ?main⟩
    case main =>
      refine Ev.step (fun k => by rw [laws_markLayS.l0]) ?_
      simp only [hw0, hw1, wrap_succ hi (show l.length ≤ 9223372036854775807 by omega)]
      refine ev_pos (by omega) ?_
      refine ev_pos (by omega) ?_
      refine ev_bind0 rfl ?_
      exact hr
    all_goals first | omega | (simp [hx]; done)
  · intro xs n hx
    refine Ev.step (fun k => by rw [laws_markLayS.l0]) ?_
    exact ev_neg (by omega) (Ev.now _)
/-- What marks write. -/
noncomputable def mk61 (n : Int) : S61 := ⟨n, n + 1⟩
theorem laws_markLayS_eq (l : List (S61)) (n : Int) (h0 : 0 ≤ n) (h1 : n ≤ 576460752303423488) (hb : (l.length : Int) ≤ 1048576) : Ev (fun k => laws_markLayS.f k l n) (n + l.length * 2, (List.range l.length).map fun i => mk61 (n + ((i : Nat) : Int) * 2)) := by
  unfold laws_markLayS.f
  refine mark_loop2 (fun k xs n i => laws_markLayS.l0 k xs n i) mk61 l.length 2 (by decide) ?_ ?_ l n rfl h0 (by omega)
  · intro xs n i hi hx h0 h1 r hr
    have hw0 : wrap64 (n + 1) = n + 1 := wrap_id (by omega) (by omega)
    have hw1 : wrap64 (n + 1 + 1) = n + 1 + 1 := wrap_id (by omega) (by omega)
    have hset : ∀ a b : S61, (xs.set i a).set i b = xs.set i b := fun a b => by simp
    have hrs : ∀ a : S61, rd_T61 (xs.set i a) (i : Int) = a := fun a => by unfold rd_T61; simp [List.getD, List.getElem?_set_self (show i < xs.length by omega)]
    have hil : (i : Int) < (xs.length : Int) := by omega
    have hi0 : 0 ≤ (i : Int) := by omega
    have hr' : Ev (fun k => laws_markLayS.l0 k (xs.set i ⟨n, n + 1⟩) (n + 1 + 1) ((i + 1 : Nat) : Int)) r := by
      have en : n + 2 = n + 1 + 1 := by omega
      rw [← en]
      exact hr
    refine Ev.step (fun k => by rw [laws_markLayS.l0]) ?_
    simp only [hw0, hw1, wrap_succ hi (show l.length ≤ 9223372036854775807 by omega), Int.toNat_natCast, Option.bind_some, hset, hrs]
    (repeat' (first | with_reducible exact hr' | refine Ev.bind (by with_reducible assumption) ?_ | refine ev_pos (by first | with_reducible exact hil | with_reducible exact hi0 | (simp only [List.length_set]; first | with_reducible exact hil | with_reducible exact hi0)) ?_ | (simp only [Int.toNat_natCast, Option.bind_some, hset, hrs])))
  · intro xs n hx
    refine Ev.step (fun k => by rw [laws_markLayS.l0]) ?_
    exact ev_neg (by omega) (Ev.now _)
theorem laws_heldLayS_eq (n : Int) (m : Nat) (h0 : 0 ≤ n) (h1 : n ≤ 576460752303423488) (hb : (m : Int) ≤ 1048576) : Ev (fun k => laws_heldLayS.f k ((List.range m).map fun i => mk61 (n + ((i : Nat) : Int) * 2)) n) (n + (m : Int) * 2) := by
  unfold laws_heldLayS.f
  refine held_loop2 (fun k q i => laws_heldLayS.l0 k ((List.range m).map fun i => mk61 (n + ((i : Nat) : Int) * 2)) q i) m 2 n (by decide) h0 (by omega) ?_ ?_
  · intro i hi h0 h1 r hr
    have hrd : rd_T61 ((List.range m).map fun i => mk61 (n + ((i : Nat) : Int) * 2)) (i : Int) = ⟨n + (i : Int) * 2, n + (i : Int) * 2 + 1⟩ := by
      unfold rd_T61
      rw [Int.toNat_natCast, getD_at (by simpa using hi), List.getElem_map, List.getElem_range]
      rfl
    have hw0 : wrap64 (n + (i : Int) * 2 + 1) = n + (i : Int) * 2 + 1 := wrap_id (by omega) (by omega)
    have hw1 : wrap64 (n + (i : Int) * 2 + 1 + 1) = n + (i : Int) * 2 + 1 + 1 := wrap_id (by omega) (by omega)
    have hil : (i : Int) < (((List.range m).map fun i => mk61 (n + ((i : Nat) : Int) * 2)).length : Int) := by rw [List.length_map, List.length_range]; omega
    have hi0 : 0 ≤ (i : Int) := by omega
    have hr' : Ev (fun k => laws_heldLayS.l0 k ((List.range m).map fun i => mk61 (n + ((i : Nat) : Int) * 2)) (n + (i : Int) * 2 + 1 + 1) ((i + 1 : Nat) : Int)) r := by
      have en : n + (i : Int) * 2 + 2 = n + (i : Int) * 2 + 1 + 1 := by omega
      rw [← en]
      exact hr
    refine Ev.step (fun k => by rw [laws_heldLayS.l0]) ?_
    simp only [hrd, hw0, hw1, wrap_succ hi (show m ≤ 9223372036854775807 by omega)]
    (repeat' (first | with_reducible exact hr' | refine Ev.bind (by with_reducible assumption) ?_ | refine ev_pos (by first | with_reducible exact hil | with_reducible exact hi0 | with_reducible rfl | trivial) ?_))
  · refine Ev.step (fun k => by rw [laws_heldLayS.l0]) ?_
    exact ev_neg (by rw [List.length_map, List.length_range]; omega) (Ev.now _)
theorem spec_l1In_eq (a b c : Int) : spec_l1In.f a b c = some (decide (b ≤ a ∧ a ≤ c)) := by
  unfold spec_l1In.f
  by_cases h : a ≥ b
  · rw [if_pos h]; simp [show b ≤ a from h]
  · rw [if_neg h]; simp [show ¬ b ≤ a from h]
theorem impl_between_eq (a b c : Int) : impl_between.f a b c = some (decide (b ≤ a ∧ a ≤ c)) := by
  unfold impl_between.f
  by_cases h : a ≥ b
  · rw [if_pos h]; simp [show b ≤ a from h]
  · rw [if_neg h]; simp [show ¬ b ≤ a from h]
theorem spec_l1Amount_eq (a : Int) : spec_l1Amount.f a = some (decide (-100000000000 ≤ a ∧ a ≤ 100000000000)) := by
  unfold spec_l1Amount.f
  rw [spec_l1In_eq]
  rfl
theorem spec_l1Factor_eq (a : Int) : spec_l1Factor.f a = some (decide (0 ≤ a ∧ a ≤ 10000000)) := by
  unfold spec_l1Factor.f
  rw [spec_l1In_eq]
  rfl
theorem impl_amount_eq (a : Int) : impl_amount.f a = some (decide (-100000000000 ≤ a ∧ a ≤ 100000000000)) := by
  unfold impl_amount.f
  rw [impl_between_eq]
  rfl
theorem impl_factor_eq (a : Int) : impl_factor.f a = some (decide (0 ≤ a ∧ a ≤ 10000000)) := by
  unfold impl_factor.f
  rw [impl_between_eq]
  rfl
end Go.Proofs.Ytlodndejipjceaa.PFnExactLanded
