/- What the law's helper functions answer: sizes, conversions, comparisons. By this repo's wip/tools/pg.py. -/
import Derived.Test.YtinibkdbfpafcaaPFnExactLoadOkx1
import Derived.Test.YtinibkdbfpafcaaPFnExactLoadOkx2
import Derived.Test.YtinibkdbfpafcaaPFnExactLoadOkx3
import Derived.Test.YtinibkdbfpafcaaPFnExactLoadOkx4
import Derived.Test.YtinibkdbfpafcaaPFnExactLoadOkx5
import Derived.Test.YtinibkdbfpafcaaPFnExactLoadOkx6
import Derived.Test.YtinibkdbfpafcaaEv
set_option linter.unusedVariables false
set_option linter.unusedSimpArgs false
namespace Go.Proofs.Ytinibkdbfpafcaa.PFnExactLoadOk
open Go.RowKit Go.Proofs.YtinibkdbfpafcaaW.PrintWords Go.Proofs.YtinibkdbfpafcaaW.PrintLast Go.Proofs.Ytinibkdbfpafcaa.XEv

/-- What is counted of it is at most n. -/
def B217 (n : Int) (x : S217) : Prop := True
theorem B217_mono {n m : Int} {x : S217} (h : n ≤ m) (hb : B217 n x) : B217 m x := True.intro
theorem laws_szMachineS_ev (l : List (S217)) (n : Int) (h0 : 0 ≤ n) (h1 : n ≤ 1048576) (hg : l.length ≤ maxLen ∧ ∀ a_ ∈ l, G217 a_) : ∃ r, Ev (fun _ => laws_szMachineS.f l n) r ∧ (r < 0 ∨ (0 ≤ r ∧ r ≤ n ∧ (l.length : Int) ≤ n)) := by
  have hl := hg.1
  unfold maxLen at hl
  have hw : wrap64 (n - (l.length : Int)) = n - (l.length : Int) := wrap_id (by omega) (by omega)
  unfold laws_szMachineS.f
  simp only [hw]
  by_cases c : n - (l.length : Int) < 0
  · exact ⟨-1, ev_pos c (Ev.now _), .inl (by decide)⟩
  · exact ⟨n - (l.length : Int), ev_neg c (Ev.now _), .inr ⟨by omega, by omega, by omega⟩⟩
/-- What is counted of it is at most n. -/
def B285 (n : Int) (x : S285) : Prop := True
theorem B285_mono {n m : Int} {x : S285} (h : n ≤ m) (hb : B285 n x) : B285 m x := True.intro
theorem laws_szTaskS_ev (l : List (S285)) (n : Int) (h0 : 0 ≤ n) (h1 : n ≤ 1048576) (hg : l.length ≤ maxLen ∧ ∀ a_ ∈ l, G285 a_) : ∃ r, Ev (fun _ => laws_szTaskS.f l n) r ∧ (r < 0 ∨ (0 ≤ r ∧ r ≤ n ∧ (l.length : Int) ≤ n)) := by
  have hl := hg.1
  unfold maxLen at hl
  have hw : wrap64 (n - (l.length : Int)) = n - (l.length : Int) := wrap_id (by omega) (by omega)
  unfold laws_szTaskS.f
  simp only [hw]
  by_cases c : n - (l.length : Int) < 0
  · exact ⟨-1, ev_pos c (Ev.now _), .inl (by decide)⟩
  · exact ⟨n - (l.length : Int), ev_neg c (Ev.now _), .inr ⟨by omega, by omega, by omega⟩⟩
/-- What is counted of it is at most n. -/
def B206 (n : Int) (x : S206) : Prop := ((x.f3.length : Int) ≤ n)
theorem B206_mono {n m : Int} {x : S206} (h : n ≤ m) (hb : B206 n x) : B206 m x := Int.le_trans hb h
/-- What is counted of it is at most n. -/
def B215 (n : Int) (x : S215) : Prop := True
theorem B215_mono {n m : Int} {x : S215} (h : n ≤ m) (hb : B215 n x) : B215 m x := True.intro
/-- What is counted of it is at most n. -/
def B213 (n : Int) (x : S213) : Prop := ((x.f3.length : Int) ≤ n)
theorem B213_mono {n m : Int} {x : S213} (h : n ≤ m) (hb : B213 n x) : B213 m x := Int.le_trans hb h
theorem laws_szJob_ev (x : S206) (n : Int) (h0 : 0 ≤ n) (h1 : n ≤ 1048576) (hg : G206 x) : ∃ r, Ev (fun _ => laws_szJob.f (x.f0) (x.f1) (x.f2) (x.f3) n) r ∧ (r < 0 ∨ (0 ≤ r ∧ r ≤ n ∧ B206 n x)) := by
  unfold laws_szJob.f
  obtain ⟨r3, e3, h3⟩ := laws_szTaskS_ev x.f3 n (by omega) (by omega) hg.2.2.2
  rcases h3 with h3 | ⟨p3, q3, b3⟩
  · exact ⟨-1, Ev.bind e3 (ev_pos h3 (Ev.now _)), .inl (by decide)⟩
  · skip
    exact ⟨r3, Ev.bind e3 (ev_neg (by omega) (Ev.now _)), .inr ⟨by omega, by omega, Int.le_trans b3 (by omega)⟩⟩
theorem laws_szJobS_ev (l : List (S206)) (n : Int) (h0 : 0 ≤ n) (h1 : n ≤ 1048576) (hg : l.length ≤ maxLen ∧ ∀ a_ ∈ l, G206 a_) : ∃ r, Ev (fun k => laws_szJobS.f k l n) r ∧ (r < 0 ∨ (0 ≤ r ∧ r ≤ n ∧ (l.length : Int) ≤ n ∧ ∀ a_ ∈ l, B206 n a_)) := by
  have hl := hg.1
  unfold maxLen at hl
  have hw : wrap64 (n - (l.length : Int)) = n - (l.length : Int) := wrap_id (by omega) (by omega)
  unfold laws_szJobS.f
  simp only [hw]
  by_cases c : n - (l.length : Int) < 0
  · exact ⟨-1, ev_pos c (Ev.now _), .inl (by decide)⟩
  · have tl := take_loop (fun k left i => laws_szJobS.l0 k l left i) l (fun n a_ => B206 n a_) (fun _ _ _ h hb => B206_mono h hb) ?_ ?_ (n - (l.length : Int)) (by omega) (by omega)
    · obtain ⟨r, hr, h⟩ := tl
      refine ⟨r, ev_neg c hr, ?_⟩
      rcases h with h | ⟨a, b, c'⟩
      · exact .inl h
      · exact .inr ⟨a, by omega, by omega, fun x hx => B206_mono (by omega) (c' x hx)⟩
    · intro left i hi h0 h1
      have hrd : rd_T206 l (i : Int) = l[i] := getD_at hi _
      obtain ⟨r, hr, h⟩ := laws_szJob_ev l[i] left h0 h1 (hg.2 _ (List.getElem_mem hi))
      refine ⟨r, ?_⟩
      rcases h with h | ⟨a, b, c'⟩
      · refine .inl ⟨h, Ev.step (fun k => by rw [laws_szJobS.l0]) ?_⟩
        simp only [hrd]
        exact ev_pos (by omega) (ev_pos (by omega) (Ev.bind hr (ev_pos h (Ev.now _))))
      · refine .inr ⟨a, b, c', fun q hq => Ev.step (fun k => by rw [laws_szJobS.l0]) ?_⟩
        simp only [hrd]
        refine ev_pos (by omega) (ev_pos (by omega) (Ev.bind hr (ev_neg (by omega) ?_)))
        rw [wrap_succ hi (by omega)]
        exact hq
    · intro left
      refine Ev.step (fun k => by rw [laws_szJobS.l0]) ?_
      exact ev_neg (by omega) (Ev.now _)
/-- What is counted of it is at most n. -/
def B210 (n : Int) (x : S210) : Prop := True
theorem B210_mono {n m : Int} {x : S210} (h : n ≤ m) (hb : B210 n x) : B210 m x := True.intro
/-- The law's own value as the program's. -/
def cv217 (x : S217) : S210 := ⟨x.f0, x.f1, x.f2⟩
theorem cv217_B {n : Int} {x : S217} (hb : B217 n x) : B210 n (cv217 x) := True.intro
theorem laws_toMachine_ev (x : S217) : Ev (fun _ => laws_toMachine.f (x.f0) (x.f1) (x.f2)) (x.f0, x.f1, x.f2) := by
  unfold laws_toMachine.f
  exact Ev.now _
theorem laws_toMachineS_ev (l : List (S217)) (hb : (l.length : Int) ≤ 1048576) : Ev (fun k => laws_toMachineS.f k l) (l.map cv217) := by
  have hl := hb
  unfold laws_toMachineS.f
  refine ev_pos (by omega) (ev_pos (by omega) ?_)
  have hfl := fill_loop (fun k ys i => laws_toMachineS.l0 k l ys i) cv217 (z210) l ?_ ?_
  · simpa only [Int.toNat_natCast] using hfl
  · intro ys i hi r hy hq
    have hrd : rd_T217 l (i : Int) = l[i] := getD_at hi _
    refine Ev.step (fun k => by rw [laws_toMachineS.l0]) ?_
    simp only [hrd]
    refine ev_pos (by omega) (ev_pos (by omega) (Ev.bind (laws_toMachine_ev l[i]) (ev_pos (by omega) ?_)))
    rw [wrap_succ hi (by omega)]
    simp only [Int.toNat_natCast]
    exact hq
  · intro ys
    refine Ev.step (fun k => by rw [laws_toMachineS.l0]) ?_
    exact ev_neg (by omega) (Ev.now _)
/-- The law's own value as the program's. -/
def cv285 (x : S285) : S215 := ⟨x.f0, x.f1, x.f2⟩
theorem cv285_B {n : Int} {x : S285} (hb : B285 n x) : B215 n (cv285 x) := True.intro
theorem laws_toTask_ev (x : S285) : Ev (fun _ => laws_toTask.f (x.f0) (x.f1) (x.f2)) (x.f0, x.f1, x.f2) := by
  unfold laws_toTask.f
  exact Ev.now _
theorem laws_toTaskS_ev (l : List (S285)) (hb : (l.length : Int) ≤ 1048576) : Ev (fun k => laws_toTaskS.f k l) (l.map cv285) := by
  have hl := hb
  unfold laws_toTaskS.f
  refine ev_pos (by omega) (ev_pos (by omega) ?_)
  have hfl := fill_loop (fun k ys i => laws_toTaskS.l0 k l ys i) cv285 (z215) l ?_ ?_
  · simpa only [Int.toNat_natCast] using hfl
  · intro ys i hi r hy hq
    have hrd : rd_T285 l (i : Int) = l[i] := getD_at hi _
    refine Ev.step (fun k => by rw [laws_toTaskS.l0]) ?_
    simp only [hrd]
    refine ev_pos (by omega) (ev_pos (by omega) (Ev.bind (laws_toTask_ev l[i]) (ev_pos (by omega) ?_)))
    rw [wrap_succ hi (by omega)]
    simp only [Int.toNat_natCast]
    exact hq
  · intro ys
    refine Ev.step (fun k => by rw [laws_toTaskS.l0]) ?_
    exact ev_neg (by omega) (Ev.now _)
/-- The law's own value as the program's. -/
def cv206 (x : S206) : S213 := ⟨x.f0, x.f1, x.f2, x.f3.map cv285⟩
theorem cv206_B {n : Int} {x : S206} (hb : B206 n x) : B213 n (cv206 x) := (by simp only [cv206, B213, List.length_map]; exact hb)
theorem laws_toJob_ev (x : S206) (hb : B206 1048576 x) : Ev (fun k => laws_toJob.f k (x.f0) (x.f1) (x.f2) (x.f3)) (x.f0, x.f1, x.f2, x.f3.map cv285) := by
  unfold laws_toJob.f
  exact Ev.bind (laws_toTaskS_ev x.f3 hb) (Ev.now _)
theorem laws_toJobS_ev (l : List (S206)) (hb : (l.length : Int) ≤ 1048576 ∧ ∀ a_ ∈ l, B206 1048576 a_) : Ev (fun k => laws_toJobS.f k l) (l.map cv206) := by
  have hl := hb.1
  unfold laws_toJobS.f
  refine ev_pos (by omega) (ev_pos (by omega) ?_)
  have hfl := fill_loop (fun k ys i => laws_toJobS.l0 k l ys i) cv206 (z213) l ?_ ?_
  · simpa only [Int.toNat_natCast] using hfl
  · intro ys i hi r hy hq
    have hrd : rd_T206 l (i : Int) = l[i] := getD_at hi _
    refine Ev.step (fun k => by rw [laws_toJobS.l0]) ?_
    simp only [hrd]
    refine ev_pos (by omega) (ev_pos (by omega) (Ev.bind (laws_toJob_ev l[i] (hb.2 _ (List.getElem_mem hi))) (ev_pos (by omega) ?_)))
    rw [wrap_succ hi (by omega)]
    simp only [Int.toNat_natCast]
    exact hq
  · intro ys
    refine Ev.step (fun k => by rw [laws_toJobS.l0]) ?_
    exact ev_neg (by omega) (Ev.now _)
theorem laws_eqMachine_ev (x : S210) : Ev (fun _ => laws_eqMachine.f (x.f0) (x.f1) (x.f2) (x.f0) (x.f1) (x.f2)) true := by
  unfold laws_eqMachine.f
  refine ev_pos rfl ?_
  refine ev_pos rfl ?_
  refine ev_pos rfl ?_
  exact Ev.now _
theorem laws_eqMachineS_ev (l : List (S210)) (hb : (l.length : Int) ≤ 1048576) : Ev (fun k => laws_eqMachineS.f k l l) true := by
  have hl := hb
  unfold laws_eqMachineS.f
  refine ev_pos rfl ?_
  refine all_loop (fun k i => laws_eqMachineS.l0 k l l i) l.length ?_ ?_
  · intro i hi hq
    refine Ev.step (fun k => by rw [laws_eqMachineS.l0]) ?_
    have hrd : rd_T210 l (i : Int) = l[i] := getD_at hi _
    simp only [hrd]
    refine ev_pos (by omega) (ev_pos (by omega) (ev_pos (by omega) (Ev.bind (laws_eqMachine_ev l[i]) (ev_pos rfl ?_))))
    rw [wrap_succ hi (by omega)]
    exact hq
  · refine Ev.step (fun k => by rw [laws_eqMachineS.l0]) ?_
    exact ev_neg (by omega) (Ev.now _)
theorem laws_eqTask_ev (x : S215) : Ev (fun _ => laws_eqTask.f (x.f0) (x.f1) (x.f2) (x.f0) (x.f1) (x.f2)) true := by
  unfold laws_eqTask.f
  refine ev_pos rfl ?_
  refine ev_pos rfl ?_
  refine ev_pos rfl ?_
  exact Ev.now _
theorem laws_eqTaskS_ev (l : List (S215)) (hb : (l.length : Int) ≤ 1048576) : Ev (fun k => laws_eqTaskS.f k l l) true := by
  have hl := hb
  unfold laws_eqTaskS.f
  refine ev_pos rfl ?_
  refine all_loop (fun k i => laws_eqTaskS.l0 k l l i) l.length ?_ ?_
  · intro i hi hq
    refine Ev.step (fun k => by rw [laws_eqTaskS.l0]) ?_
    have hrd : rd_T215 l (i : Int) = l[i] := getD_at hi _
    simp only [hrd]
    refine ev_pos (by omega) (ev_pos (by omega) (ev_pos (by omega) (Ev.bind (laws_eqTask_ev l[i]) (ev_pos rfl ?_))))
    rw [wrap_succ hi (by omega)]
    exact hq
  · refine Ev.step (fun k => by rw [laws_eqTaskS.l0]) ?_
    exact ev_neg (by omega) (Ev.now _)
theorem laws_eqJob_ev (x : S213) (hb : B213 1048576 x) : Ev (fun k => laws_eqJob.f k (x.f0) (x.f1) (x.f2) (x.f3) (x.f0) (x.f1) (x.f2) (x.f3)) true := by
  unfold laws_eqJob.f
  refine ev_pos rfl ?_
  refine ev_pos rfl ?_
  refine ev_pos rfl ?_
  refine Ev.bind (laws_eqTaskS_ev x.f3 hb) (ev_pos rfl ?_)
  exact Ev.now _
theorem laws_eqJobS_ev (l : List (S213)) (hb : (l.length : Int) ≤ 1048576 ∧ ∀ a_ ∈ l, B213 1048576 a_) : Ev (fun k => laws_eqJobS.f k l l) true := by
  have hl := hb.1
  unfold laws_eqJobS.f
  refine ev_pos rfl ?_
  refine all_loop (fun k i => laws_eqJobS.l0 k l l i) l.length ?_ ?_
  · intro i hi hq
    refine Ev.step (fun k => by rw [laws_eqJobS.l0]) ?_
    have hrd : rd_T213 l (i : Int) = l[i] := getD_at hi _
    simp only [hrd]
    refine ev_pos (by omega) (ev_pos (by omega) (ev_pos (by omega) (Ev.bind (laws_eqJob_ev l[i] (hb.2 _ (List.getElem_mem hi))) (ev_pos rfl ?_))))
    rw [wrap_succ hi (by omega)]
    exact hq
  · refine Ev.step (fun k => by rw [laws_eqJobS.l0]) ?_
    exact ev_neg (by omega) (Ev.now _)
theorem spec_l1In_eq (a b c : Int) : spec_l1In.f a b c = some (decide (b ≤ a ∧ a ≤ c)) := by
  unfold spec_l1In.f
  by_cases h : a ≥ b
  · rw [if_pos h]; simp [show b ≤ a from h]
  · rw [if_neg h]; simp [show ¬ b ≤ a from h]
theorem impl_between_eq (a b c : Int) : impl_between.f a b c = some (decide (b ≤ a ∧ a ≤ c)) := by
  unfold impl_between.f
  by_cases h : a ≥ b
  · rw [if_pos h]; simp [show b ≤ a from h]
  · rw [if_neg h]; simp [show ¬ b ≤ a from h]
theorem impl_hour_eq (a : Int) : impl_hour.f a = some (decide (0 ≤ a ∧ a ≤ 5000)) := by
  unfold impl_hour.f
  rw [impl_between_eq]
  rfl
end Go.Proofs.Ytinibkdbfpafcaa.PFnExactLoadOk
