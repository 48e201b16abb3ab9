/- What the law's helper functions answer: sizes, conversions, comparisons. By this repo's wip/tools/pg.py. -/
import Derived.Test.YtggfggmmecbdnaaZPFnExactTakeInx0
import Derived.Test.YtggfggmmecbdnaaZPFnExactTakeInx1
import Derived.Test.YtggfggmmecbdnaaZPFnExactTakeInx3
import Derived.Test.YtggfggmmecbdnaaZPFnExactTakeInx7
import Derived.Test.YtggfggmmecbdnaaZPFnExactTakeInx8
import Derived.Test.YtggfggmmecbdnaaZEv
set_option maxHeartbeats 2000000
set_option linter.unusedVariables false
set_option linter.unusedSimpArgs false
namespace Go.Proofs.Ytggfggmmecbdnaa.PFnExactTakeIn
open Go.RowKit Go.Proofs.YtggfggmmecbdnaaW.PrintWords Go.Proofs.YtggfggmmecbdnaaW.PrintLast Go.Proofs.Ytggfggmmecbdnaa.XEv

theorem laws_szLayS_ev (l : List (S73)) (n : Int) (h0 : 0 ≤ n) (h1 : n ≤ 1048576) (hg : l.length ≤ maxLen ∧ ∀ a_ ∈ l, G73 a_) : ∃ r, Ev (fun _ => laws_szLayS.f l n) r ∧ (r < 0 ∨ (0 ≤ r ∧ r ≤ n ∧ (l.length : Int) ≤ n)) := by
  have hl := hg.1
  unfold maxLen at hl
  have hw : wrap64 (n - (l.length : Int)) = n - (l.length : Int) := wrap_id (by omega) (by omega)
  unfold laws_szLayS.f
  simp only [hw]
  by_cases c : n - (l.length : Int) < 0
  · exact ⟨-1, ev_pos c (Ev.now _), .inl (by decide)⟩
  · exact ⟨n - (l.length : Int), ev_neg c (Ev.now _), .inr ⟨by omega, by omega, by omega⟩⟩
/-- What is counted of it is at most n. -/
def B33 (n : Int) (x : S33) : Prop := ((x.f2.length : Int) ≤ n)
/-- What is counted of it is at most n. -/
def B37 (n : Int) (x : S37) : Prop := ((x.f2.length : Int) ≤ n)
theorem laws_szWorth_ev (x : S33) (n : Int) (h0 : 0 ≤ n) (h1 : n ≤ 1048576) (hg : G33 x) : ∃ r, Ev (fun _ => laws_szWorth.f (x.f0) (x.f1) (x.f2) (x.f3) n) r ∧ (r < 0 ∨ (0 ≤ r ∧ r ≤ n ∧ B33 n x)) := by
  unfold laws_szWorth.f
  obtain ⟨r2, e2, h2⟩ := laws_szLayS_ev x.f2 n (by omega) (by omega) hg.2.2.1
  rcases h2 with h2 | ⟨p2, q2, b2⟩
  · exact ⟨-1, Ev.bind e2 (ev_pos h2 (Ev.now _)), .inl (by decide)⟩
  · skip
    exact ⟨r2, Ev.bind e2 (ev_neg (by omega) (Ev.now _)), .inr ⟨by omega, by omega, Int.le_trans b2 (by omega)⟩⟩
/-- The law's own value as the program's. -/
def cv73 (x : S73) : S59 := ⟨x.f0, x.f1⟩
theorem laws_toLay_ev (x : S73) : Ev (fun _ => laws_toLay.f (x.f0) (x.f1)) (x.f0, x.f1) := by
  unfold laws_toLay.f
  exact Ev.now _
theorem laws_toLayS_ev (l : List (S73)) (hb : (l.length : Int) ≤ 1048576) : Ev (fun k => laws_toLayS.f k l) (l.map cv73) := by
  have hl := hb
  unfold laws_toLayS.f
  refine ev_pos (by omega) (ev_pos (by omega) ?_)
  have hfl := fill_loop (fun k ys i => laws_toLayS.l0 k l ys i) cv73 (z59) l ?_ ?_
  · simpa only [Int.toNat_natCast] using hfl
  · intro ys i hi r hy hq
    have hrd : rd_T73 l (i : Int) = l[i] := getD_at hi _
    refine Ev.step (fun k => by rw [laws_toLayS.l0]) ?_
    simp only [hrd]
    refine ev_pos (by omega) (ev_pos (by omega) (Ev.bind (laws_toLay_ev l[i]) (ev_pos (by omega) ?_)))
    rw [wrap_succ hi (by omega)]
    simp only [Int.toNat_natCast]
    exact hq
  · intro ys
    refine Ev.step (fun k => by rw [laws_toLayS.l0]) ?_
    exact ev_neg (by omega) (Ev.now _)
theorem laws_toWorth_ev (x : S33) (hb : B33 1048576 x) : Ev (fun k => laws_toWorth.f k (x.f0) (x.f1) (x.f2) (x.f3)) (x.f0, x.f1, x.f2.map cv73, x.f3) := by
  unfold laws_toWorth.f
  exact Ev.bind (laws_toLayS_ev x.f2 hb) (Ev.now _)
theorem laws_eqLay_ev (x : S59) : Ev (fun _ => laws_eqLay.f (x.f0) (x.f1) (x.f0) (x.f1)) true := by
  unfold laws_eqLay.f
  refine ev_pos rfl ?_
  refine ev_pos rfl ?_
  exact Ev.now _
theorem laws_eqLayS_ev (l : List (S59)) (hb : (l.length : Int) ≤ 1048576) : Ev (fun k => laws_eqLayS.f k l l) true := by
  have hl := hb
  unfold laws_eqLayS.f
  refine ev_pos rfl ?_
  refine all_loop (fun k i => laws_eqLayS.l0 k l l i) l.length ?_ ?_
  · intro i hi hq
    refine Ev.step (fun k => by rw [laws_eqLayS.l0]) ?_
    have hrd : rd_T59 l (i : Int) = l[i] := getD_at hi _
    simp only [hrd]
    refine ev_pos (by omega) (ev_pos (by omega) (ev_pos (by omega) (Ev.bind (laws_eqLay_ev l[i]) (ev_pos rfl ?_))))
    rw [wrap_succ hi (by omega)]
    exact hq
  · refine Ev.step (fun k => by rw [laws_eqLayS.l0]) ?_
    exact ev_neg (by omega) (Ev.now _)
theorem laws_eqWorth_ev (x : S37) (hb : B37 1048576 x) : Ev (fun k => laws_eqWorth.f k (x.f0) (x.f1) (x.f2) (x.f3) (x.f0) (x.f1) (x.f2) (x.f3)) true := by
  unfold laws_eqWorth.f
  refine ev_pos rfl ?_
  refine ev_pos rfl ?_
  refine Ev.bind (laws_eqLayS_ev x.f2 hb) (ev_pos rfl ?_)
  refine ev_pos rfl ?_
  exact Ev.now _
/-- What marks write. -/
noncomputable def mk59 (n : Int) : S59 := ⟨n, n + 1⟩
theorem laws_markLayS_eq (l : List (S59)) (n : Int) (h0 : 0 ≤ n) (h1 : n ≤ 576460752303423488) (hb : (l.length : Int) ≤ 1048576) : Ev (fun k => laws_markLayS.f k l n) (n + l.length * 2, (List.range l.length).map fun i => mk59 (n + ((i : Nat) : Int) * 2)) := by
  unfold laws_markLayS.f
  refine mark_loop2 (fun k xs n i => laws_markLayS.l0 k xs n i) mk59 l.length 2 (by decide) ?_ ?_ l n rfl h0 (by omega)
  · intro xs n i hi hx h0 h1 r hr
    have hw0 : wrap64 (n + 1) = n + 1 := wrap_id (by omega) (by omega)
    have hw1 : wrap64 (n + 1 + 1) = n + 1 + 1 := wrap_id (by omega) (by omega)
    have hset : ∀ a b : S59, (xs.set i a).set i b = xs.set i b := fun a b => by simp
    have hrs : ∀ a : S59, rd_T59 (xs.set i a) (i : Int) = a := fun a => by unfold rd_T59; simp [List.getD, List.getElem?_set_self (show i < xs.length by omega)]
    have hil : (i : Int) < (xs.length : Int) := by omega
    have hi0 : 0 ≤ (i : Int) := by omega
    have hr' : Ev (fun k => laws_markLayS.l0 k (xs.set i ⟨n, n + 1⟩) (n + 1 + 1) ((i + 1 : Nat) : Int)) r := by
      have en : n + 2 = n + 1 + 1 := by omega
      rw [← en]
      exact hr
    refine Ev.step (fun k => by rw [laws_markLayS.l0]) ?_
    simp only [hw0, hw1, wrap_succ hi (show l.length ≤ 9223372036854775807 by omega), Int.toNat_natCast, Option.bind_some, hset, hrs]
    (repeat' (first | with_reducible exact hr' | refine Ev.bind (by with_reducible assumption) ?_ | refine ev_pos (by first | with_reducible exact hil | with_reducible exact hi0 | (simp only [List.length_set]; first | with_reducible exact hil | with_reducible exact hi0)) ?_ | (simp only [Int.toNat_natCast, Option.bind_some, hset, hrs])))
  · intro xs n hx
    refine Ev.step (fun k => by rw [laws_markLayS.l0]) ?_
    exact ev_neg (by omega) (Ev.now _)
-- no lemma for laws_markWorth (a struct): by hand
theorem laws_heldLayS_eq (n : Int) (m : Nat) (h0 : 0 ≤ n) (h1 : n ≤ 576460752303423488) (hb : (m : Int) ≤ 1048576) : Ev (fun k => laws_heldLayS.f k ((List.range m).map fun i => mk59 (n + ((i : Nat) : Int) * 2)) n) (n + (m : Int) * 2) := by
  unfold laws_heldLayS.f
  refine held_loop2 (fun k q i => laws_heldLayS.l0 k ((List.range m).map fun i => mk59 (n + ((i : Nat) : Int) * 2)) q i) m 2 n (by decide) h0 (by omega) ?_ ?_
  · intro i hi h0 h1 r hr
    have hrd : rd_T59 ((List.range m).map fun i => mk59 (n + ((i : Nat) : Int) * 2)) (i : Int) = ⟨n + (i : Int) * 2, n + (i : Int) * 2 + 1⟩ := by
      unfold rd_T59
      rw [Int.toNat_natCast, getD_at (by simpa using hi), List.getElem_map, List.getElem_range]
      rfl
    have hw0 : wrap64 (n + (i : Int) * 2 + 1) = n + (i : Int) * 2 + 1 := wrap_id (by omega) (by omega)
    have hw1 : wrap64 (n + (i : Int) * 2 + 1 + 1) = n + (i : Int) * 2 + 1 + 1 := wrap_id (by omega) (by omega)
    have hil : (i : Int) < (((List.range m).map fun i => mk59 (n + ((i : Nat) : Int) * 2)).length : Int) := by rw [List.length_map, List.length_range]; omega
    have hi0 : 0 ≤ (i : Int) := by omega
    have hr' : Ev (fun k => laws_heldLayS.l0 k ((List.range m).map fun i => mk59 (n + ((i : Nat) : Int) * 2)) (n + (i : Int) * 2 + 1 + 1) ((i + 1 : Nat) : Int)) r := by
      have en : n + (i : Int) * 2 + 2 = n + (i : Int) * 2 + 1 + 1 := by omega
      rw [← en]
      exact hr
    refine Ev.step (fun k => by rw [laws_heldLayS.l0]) ?_
    simp only [hrd, hw0, hw1, wrap_succ hi (show m ≤ 9223372036854775807 by omega)]
    (repeat' (first | with_reducible exact hr' | refine Ev.bind (by with_reducible assumption) ?_ | refine ev_pos (by first | with_reducible exact hil | with_reducible exact hi0 | with_reducible rfl | trivial) ?_))
  · refine Ev.step (fun k => by rw [laws_heldLayS.l0]) ?_
    exact ev_neg (by rw [List.length_map, List.length_range]; omega) (Ev.now _)
-- no lemma for laws_heldWorth (a struct): by hand
theorem spec_l1In_eq (a b c : Int) : spec_l1In.f a b c = some (decide (b ≤ a ∧ a ≤ c)) := by
  unfold spec_l1In.f
  by_cases h : a ≥ b
  · rw [if_pos h]; simp [show b ≤ a from h]
  · rw [if_neg h]; simp [show ¬ b ≤ a from h]
theorem impl_between_eq (a b c : Int) : impl_between.f a b c = some (decide (b ≤ a ∧ a ≤ c)) := by
  unfold impl_between.f
  by_cases h : a ≥ b
  · rw [if_pos h]; simp [show b ≤ a from h]
  · rw [if_neg h]; simp [show ¬ b ≤ a from h]
theorem spec_l1Amount_eq (a : Int) : spec_l1Amount.f a = some (decide (-100000000000 ≤ a ∧ a ≤ 100000000000)) := by
  unfold spec_l1Amount.f
  rw [spec_l1In_eq]
  rfl
theorem spec_l12Qty_eq (a : Int) : spec_l12Qty.f a = some (decide (0 ≤ a ∧ a ≤ 1000000)) := by
  unfold spec_l12Qty.f
  rw [spec_l1In_eq]
  rfl
theorem impl_amount_eq (a : Int) : impl_amount.f a = some (decide (-100000000000 ≤ a ∧ a ≤ 100000000000)) := by
  unfold impl_amount.f
  rw [impl_between_eq]
  rfl
theorem impl_money_eq (a : Int) : impl_money.f a = some (decide (0 ≤ a ∧ a ≤ 100000000000)) := by
  unfold impl_money.f
  rw [impl_between_eq]
  rfl
theorem impl_price_eq (a : Int) : impl_price.f a = some (decide (0 ≤ a ∧ a ≤ 100000)) := by
  unfold impl_price.f
  rw [impl_between_eq]
  rfl
end Go.Proofs.Ytggfggmmecbdnaa.PFnExactTakeIn
