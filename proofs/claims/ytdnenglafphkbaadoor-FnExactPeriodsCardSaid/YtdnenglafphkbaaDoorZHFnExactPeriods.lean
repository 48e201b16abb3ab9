/- What the law's helper functions answer: sizes, conversions, comparisons. By this repo's wip/tools/pg.py. -/
import Derived.Test.YtdnenglafphkbaaDoorZPFnExactPeriodsx0
import Derived.Test.YtdnenglafphkbaaDoorZPFnExactPeriodsx2
import Derived.Test.YtdnenglafphkbaaDoorZPFnExactPeriodsx4
import Derived.Test.YtdnenglafphkbaaDoorZPFnExactPeriodsx6
import Derived.Test.YtdnenglafphkbaaDoorZPFnExactPeriodsx7
import Derived.Test.YtdnenglafphkbaaDoorZEv
set_option maxHeartbeats 2000000
set_option linter.unusedVariables false
set_option linter.unusedSimpArgs false
namespace Go.Proofs.YtdnenglafphkbaaDoor.PFnExactPeriods
open Go.RowKit Go.Proofs.YtdnenglafphkbaaDoorW.PrintWords Go.Proofs.YtdnenglafphkbaaDoorW.PrintLast Go.Proofs.YtdnenglafphkbaaDoor.XEv

theorem laws_eqPeriod_ev (x : S39) : Ev (fun _ => laws_eqPeriod.f (x.f0) (x.f1) (x.f0) (x.f1)) true := by
  unfold laws_eqPeriod.f
  refine ev_pos rfl ?_
  refine ev_pos rfl ?_
  exact Ev.now _
theorem laws_eqPeriodS_ev (l : List (S39)) (hb : (l.length : Int) ≤ 1048576) : Ev (fun k => laws_eqPeriodS.f k l l) true := by
  have hl := hb
  unfold laws_eqPeriodS.f
  refine ev_pos rfl ?_
  refine all_loop (fun k i => laws_eqPeriodS.l0 k l l i) l.length ?_ ?_
  · intro i hi hq
    refine Ev.step (fun k => by rw [laws_eqPeriodS.l0]) ?_
    have hrd : rd_T39 l (i : Int) = l[i] := getD_at hi _
    simp only [hrd]
    refine ev_pos (by omega) (ev_pos (by omega) (ev_pos (by omega) (Ev.bind (laws_eqPeriod_ev l[i]) (ev_pos rfl ?_))))
    rw [wrap_succ hi (by omega)]
    exact hq
  · refine Ev.step (fun k => by rw [laws_eqPeriodS.l0]) ?_
    exact ev_neg (by omega) (Ev.now _)
/-- What marks write. -/
noncomputable def mk39 (n : Int) : S39 := ⟨n, n + 1⟩
theorem laws_markPeriodS_eq (l : List (S39)) (n : Int) (h0 : 0 ≤ n) (h1 : n ≤ 576460752303423488) (hb : (l.length : Int) ≤ 1048576) : Ev (fun k => laws_markPeriodS.f k l n) (n + l.length * 2, (List.range l.length).map fun i => mk39 (n + ((i : Nat) : Int) * 2)) := by
  unfold laws_markPeriodS.f
  refine mark_loop2 (fun k xs n i => laws_markPeriodS.l0 k xs n i) mk39 l.length 2 (by decide) ?_ ?_ l n rfl h0 (by omega)
  · intro xs n i hi hx h0 h1 r hr
    have hw0 : wrap64 (n + 1) = n + 1 := wrap_id (by omega) (by omega)
    have hw1 : wrap64 (n + 1 + 1) = n + 1 + 1 := wrap_id (by omega) (by omega)
    have hset : ∀ a b : S39, (xs.set i a).set i b = xs.set i b := fun a b => by simp
    have hrs : ∀ a : S39, rd_T39 (xs.set i a) (i : Int) = a := fun a => by unfold rd_T39; simp [List.getD, List.getElem?_set_self (show i < xs.length by omega)]
    have hil : (i : Int) < (xs.length : Int) := by omega
    have hi0 : 0 ≤ (i : Int) := by omega
    have hr' : Ev (fun k => laws_markPeriodS.l0 k (xs.set i ⟨n, n + 1⟩) (n + 1 + 1) ((i + 1 : Nat) : Int)) r := by
      have en : n + 2 = n + 1 + 1 := by omega
      rw [← en]
      exact hr
    refine Ev.step (fun k => by rw [laws_markPeriodS.l0]) ?_
    simp only [hw0, hw1, wrap_succ hi (show l.length ≤ 9223372036854775807 by omega), Int.toNat_natCast, Option.bind_some, hset, hrs]
    (repeat' (first | with_reducible exact hr' | refine Ev.bind (by with_reducible assumption) ?_ | refine ev_pos (by first | with_reducible exact hil | with_reducible exact hi0 | (simp only [List.length_set]; first | with_reducible exact hil | with_reducible exact hi0)) ?_ | (simp only [Int.toNat_natCast, Option.bind_some, hset, hrs])))
  · intro xs n hx
    refine Ev.step (fun k => by rw [laws_markPeriodS.l0]) ?_
    exact ev_neg (by omega) (Ev.now _)
theorem laws_heldPeriodS_eq (n : Int) (m : Nat) (h0 : 0 ≤ n) (h1 : n ≤ 576460752303423488) (hb : (m : Int) ≤ 1048576) : Ev (fun k => laws_heldPeriodS.f k ((List.range m).map fun i => mk39 (n + ((i : Nat) : Int) * 2)) n) (n + (m : Int) * 2) := by
  unfold laws_heldPeriodS.f
  refine held_loop2 (fun k q i => laws_heldPeriodS.l0 k ((List.range m).map fun i => mk39 (n + ((i : Nat) : Int) * 2)) q i) m 2 n (by decide) h0 (by omega) ?_ ?_
  · intro i hi h0 h1 r hr
    have hrd : rd_T39 ((List.range m).map fun i => mk39 (n + ((i : Nat) : Int) * 2)) (i : Int) = ⟨n + (i : Int) * 2, n + (i : Int) * 2 + 1⟩ := by
      unfold rd_T39
      rw [Int.toNat_natCast, getD_at (by simpa using hi), List.getElem_map, List.getElem_range]
      rfl
    have hw0 : wrap64 (n + (i : Int) * 2 + 1) = n + (i : Int) * 2 + 1 := wrap_id (by omega) (by omega)
    have hw1 : wrap64 (n + (i : Int) * 2 + 1 + 1) = n + (i : Int) * 2 + 1 + 1 := wrap_id (by omega) (by omega)
    have hil : (i : Int) < (((List.range m).map fun i => mk39 (n + ((i : Nat) : Int) * 2)).length : Int) := by rw [List.length_map, List.length_range]; omega
    have hi0 : 0 ≤ (i : Int) := by omega
    have hr' : Ev (fun k => laws_heldPeriodS.l0 k ((List.range m).map fun i => mk39 (n + ((i : Nat) : Int) * 2)) (n + (i : Int) * 2 + 1 + 1) ((i + 1 : Nat) : Int)) r := by
      have en : n + (i : Int) * 2 + 2 = n + (i : Int) * 2 + 1 + 1 := by omega
      rw [← en]
      exact hr
    refine Ev.step (fun k => by rw [laws_heldPeriodS.l0]) ?_
    simp only [hrd, hw0, hw1, wrap_succ hi (show m ≤ 9223372036854775807 by omega)]
    (repeat' (first | with_reducible exact hr' | refine Ev.bind (by with_reducible assumption) ?_ | refine ev_pos (by first | with_reducible exact hil | with_reducible exact hi0 | with_reducible rfl | trivial) ?_))
  · refine Ev.step (fun k => by rw [laws_heldPeriodS.l0]) ?_
    exact ev_neg (by rw [List.length_map, List.length_range]; omega) (Ev.now _)
end Go.Proofs.YtdnenglafphkbaaDoor.PFnExactPeriods
