/- Lateness: the program's answer is the reference's, whatever the jobs and the slots. -/
import Derived.Test.YtflagondodkonaaZPFnExactLatenessx
import Derived.Test.YtflagondodkonaaZHFnExactLateness
set_option linter.unusedVariables false
set_option maxHeartbeats 4000000
set_option linter.unusedSimpArgs false
set_option linter.unusedSectionVars false
namespace Go.Proofs.Ytflagondodkonaa.Pure
open Go.RowKit Go.Proofs.Ytflagondodkonaa.PFnExactLateness Go.Proofs.YtflagondodkonaaW.PrintWords Go.Proofs.YtflagondodkonaaW.PrintLast Go.Proofs.Ytflagondodkonaa.XEv
abbrev JJ := S164
abbrev TT := S268
def TaskIs (x : TT) : Prop := (1 ≤ x.f1 ∧ x.f1 ≤ 500) ∧ (0 ≤ x.f2 ∧ x.f2 ≤ 9)
def JobIs (x : JJ) : Prop := ((0 ≤ x.f0 ∧ x.f0 ≤ 5000) ∧ (0 ≤ x.f1 ∧ x.f1 ≤ 5000) ∧ (0 ≤ x.f2 ∧ x.f2 ≤ 1000) ∧ (1 ≤ (x.f3.length : Int) ∧ (x.f3.length : Int) ≤ 8)) ∧ ∀ t ∈ x.f3, TaskIs t
theorem spec_tasks (x : JJ) (hb : B164 1048576 x) : ∃ b, Ev (fun k => spec_l19Job.l0 k 0 x.f0 x.f1 x.f2 x.f3) b ∧ (b = true ↔ (∀ t ∈ x.f3, TaskIs t) ∧ True) := by
  have hl : (x.f3.length : Int) ≤ 1048576 := hb
  refine each_mem x.f3 (fun k i => spec_l19Job.l0 k i x.f0 x.f1 x.f2 x.f3) TaskIs True ?_ ?_
  · intro i hi
    have hrd : rd_T268 x.f3 (i : Int) = x.f3[i] := getD_at hi _
    by_cases c1 : 1 ≤ x.f3[i].f1 ∧ x.f3[i].f1 ≤ 500
    · by_cases c2 : 0 ≤ x.f3[i].f2 ∧ x.f3[i].f2 ≤ 9
      · refine .inl ⟨⟨c1, c2⟩, fun r hr => ?_⟩
        refine Ev.step (fun k => by rw [spec_l19Job.l0]) ?_
        simp only [hrd]
        refine ev_pos (by omega) (ev_pos (by omega) (ev_bind0 (spec_l1In_eq ..) (ev_pos (by simpa using c1) (ev_bind0 (spec_l1In_eq ..) (ev_pos (by simpa using c2) ?_)))))
        rw [wrap_succ hi (by omega)]
        exact hr
      · refine .inr ⟨fun h => c2 h.2, ?_⟩
        refine Ev.step (fun k => by rw [spec_l19Job.l0]) ?_
        simp only [hrd]
        exact ev_pos (by omega) (ev_pos (by omega) (ev_bind0 (spec_l1In_eq ..) (ev_pos (by simpa using c1) (ev_bind0 (spec_l1In_eq ..) (ev_neg (by rw [decide_eq_true_eq]; exact c2) (Ev.now _))))))
    · refine .inr ⟨fun h => c1 h.1, ?_⟩
      refine Ev.step (fun k => by rw [spec_l19Job.l0]) ?_
      simp only [hrd]
      exact ev_pos (by omega) (ev_pos (by omega) (ev_bind0 (spec_l1In_eq ..) (ev_neg (by rw [decide_eq_true_eq]; exact c1) (Ev.now _))))
  · refine ⟨true, ?_, by simp⟩
    refine Ev.step (fun k => by rw [spec_l19Job.l0]) ?_
    exact ev_neg (by omega) (Ev.now _)

theorem spec_job (x : JJ) (hb : B164 1048576 x) : ∃ b, Ev (fun k => spec_l19Job.f k x.f0 x.f1 x.f2 x.f3) b ∧ (b = true ↔ JobIs x) := by
  obtain ⟨b, hbt, hP⟩ := spec_tasks x hb
  have hj : ∀ bad : Bool, ∃ b', Ev (fun k => spec_l19Job.j0 k bad x.f0 x.f1 x.f2 x.f3) b' ∧ (b' = true ↔ bad = false ∧ ∀ t ∈ x.f3, TaskIs t) := by
    intro bad
    cases bad with
    | true => exact ⟨false, Ev.step (fun k => by rw [spec_l19Job.j0]) (ev_pos rfl (Ev.now _)), fun h => (by cases h), fun h => (by cases h.1)⟩
    | false => exact ⟨b, Ev.step (fun k => by rw [spec_l19Job.j0]) (ev_neg (by simp) hbt), hP.trans ⟨fun h => ⟨rfl, h.1⟩, fun h => ⟨h.2, True.intro⟩⟩⟩
  have e1 : ∀ a, spec_l19Hour.f a = some (decide (0 ≤ a ∧ a ≤ 5000)) := fun a => by unfold spec_l19Hour.f; rw [spec_l1In_eq]; rfl
  obtain ⟨bt, ht, pt⟩ := hj true
  unfold spec_l19Job.f
  by_cases c0 : 0 ≤ x.f0 ∧ x.f0 ≤ 5000
  · by_cases c1 : 0 ≤ x.f1 ∧ x.f1 ≤ 5000
    · by_cases c2 : 0 ≤ x.f2 ∧ x.f2 ≤ 1000
      · obtain ⟨b', hb', hP'⟩ := hj (!decide (1 ≤ (x.f3.length : Int) ∧ (x.f3.length : Int) ≤ 8))
        refine ⟨b', ev_bind0 (e1 _) (ev_pos (by simpa using c0) (ev_bind0 (e1 _) (ev_pos (by simpa using c1) (ev_bind0 (spec_l1In_eq ..) (ev_pos (by simpa using c2) (ev_bind0 (spec_l1In_eq ..) hb')))))), ?_⟩
        rw [hP']
        simp only [Bool.not_eq_false', decide_eq_true_eq]
        exact ⟨fun h => ⟨⟨c0, c1, c2, h.1⟩, h.2⟩, fun h => ⟨h.1.2.2.2, h.2⟩⟩
      · refine ⟨bt, ev_bind0 (e1 _) (ev_pos (by simpa using c0) (ev_bind0 (e1 _) (ev_pos (by simpa using c1) (ev_bind0 (spec_l1In_eq ..) (ev_neg (by rw [decide_eq_true_eq]; exact c2) ht))))), ?_⟩
        rw [pt]
        exact ⟨fun h => (by cases h.1), fun h => absurd h.1.2.2.1 c2⟩
    · refine ⟨bt, ev_bind0 (e1 _) (ev_pos (by simpa using c0) (ev_bind0 (e1 _) (ev_neg (by rw [decide_eq_true_eq]; exact c1) ht))), ?_⟩
      rw [pt]
      exact ⟨fun h => (by cases h.1), fun h => absurd h.1.2.1 c1⟩
  · refine ⟨bt, ev_bind0 (e1 _) (ev_neg (by rw [decide_eq_true_eq]; exact c0) ht), ?_⟩
    rw [pt]
    exact ⟨fun h => (by cases h.1), fun h => absurd h.1.1 c0⟩

theorem impl_tasks (l : List TT) (hl : (l.length : Int) ≤ 1048576) : ∃ b, Ev (fun k => impl_jobOk.l0 k l (l.length : Int) 0) b ∧ (b = true ↔ (∀ t ∈ l, TaskIs t) ∧ True) := by
  refine each_mem l (fun k i => impl_jobOk.l0 k l (l.length : Int) i) TaskIs True ?_ ?_
  · intro i hi
    have hrd : rd_T268 l (i : Int) = l[i] := getD_at hi _
    by_cases c1 : 1 ≤ l[i].f1 ∧ l[i].f1 ≤ 500
    · by_cases c2 : 0 ≤ l[i].f2 ∧ l[i].f2 ≤ 9
      · refine .inl ⟨⟨c1, c2⟩, fun r hr => ?_⟩
        refine Ev.step (fun k => by rw [impl_jobOk.l0]) ?_
        simp only [hrd]
        refine ev_pos (by omega) (ev_pos (by omega) (ev_pos (by omega) (ev_bind0 (impl_between_eq ..) (ev_pos (by simpa using c1) (ev_bind0 (impl_between_eq ..) (ev_pos (by simpa using c2) ?_))))))
        rw [wrap_succ hi (by omega)]
        exact hr
      · refine .inr ⟨fun h => c2 h.2, ?_⟩
        refine Ev.step (fun k => by rw [impl_jobOk.l0]) ?_
        simp only [hrd]
        exact ev_pos (by omega) (ev_pos (by omega) (ev_pos (by omega) (ev_bind0 (impl_between_eq ..) (ev_pos (by simpa using c1) (ev_bind0 (impl_between_eq ..) (ev_neg (by rw [decide_eq_true_eq]; exact c2) (Ev.now _)))))))
    · refine .inr ⟨fun h => c1 h.1, ?_⟩
      refine Ev.step (fun k => by rw [impl_jobOk.l0]) ?_
      simp only [hrd]
      exact ev_pos (by omega) (ev_pos (by omega) (ev_pos (by omega) (ev_bind0 (impl_between_eq ..) (ev_neg (by rw [decide_eq_true_eq]; exact c1) (Ev.now _)))))
  · refine ⟨true, ?_, by simp⟩
    refine Ev.step (fun k => by rw [impl_jobOk.l0]) ?_
    exact ev_neg (by omega) (Ev.now _)

theorem impl_job (x : JJ) (hb : B164 1048576 x) : ∃ b, Ev (fun k => impl_jobOk.f k x.f0 x.f1 x.f2 x.f3) b ∧ (b = true ↔ JobIs x) := by
  obtain ⟨b, hbt, hP⟩ := impl_tasks x.f3 hb
  have hj : ∀ bad : Bool, ∃ b', Ev (fun k => impl_jobOk.j0 k bad x.f0 x.f1 x.f2 x.f3) b' ∧ (b' = true ↔ bad = false ∧ ∀ t ∈ x.f3, TaskIs t) := by
    intro bad
    cases bad with
    | true => exact ⟨false, Ev.step (fun k => by rw [impl_jobOk.j0]) (ev_pos rfl (Ev.now _)), fun h => (by cases h), fun h => (by cases h.1)⟩
    | false => exact ⟨b, Ev.step (fun k => by rw [impl_jobOk.j0]) (ev_neg (by simp) hbt), hP.trans ⟨fun h => ⟨rfl, h.1⟩, fun h => ⟨h.2, True.intro⟩⟩⟩
  obtain ⟨bt, ht, pt⟩ := hj true
  unfold impl_jobOk.f
  by_cases c0 : 0 ≤ x.f0 ∧ x.f0 ≤ 5000
  · by_cases c1 : 0 ≤ x.f1 ∧ x.f1 ≤ 5000
    · by_cases c2 : 0 ≤ x.f2 ∧ x.f2 ≤ 1000
      · by_cases c3 : (x.f3.length : Int) < 1
        · refine ⟨bt, ev_bind0 (impl_hour_eq _) (ev_pos (by simpa using c0) (ev_bind0 (impl_hour_eq _) (ev_pos (by simpa using c1) (ev_bind0 (impl_between_eq ..) (ev_pos (by simpa using c2) (ev_pos c3 ht)))))), ?_⟩
          rw [pt]
          exact ⟨fun h => (by cases h.1), fun h => absurd h.1.2.2.2.1 (by omega)⟩
        · obtain ⟨b', hb', hP'⟩ := hj (decide ((x.f3.length : Int) > 8))
          refine ⟨b', ev_bind0 (impl_hour_eq _) (ev_pos (by simpa using c0) (ev_bind0 (impl_hour_eq _) (ev_pos (by simpa using c1) (ev_bind0 (impl_between_eq ..) (ev_pos (by simpa using c2) (ev_neg c3 hb')))))), ?_⟩
          rw [hP']
          simp only [decide_eq_false_iff_not]
          exact ⟨fun h => ⟨⟨c0, c1, c2, by omega⟩, h.2⟩, fun h => ⟨by have := h.1.2.2.2; omega, h.2⟩⟩
      · refine ⟨bt, ev_bind0 (impl_hour_eq _) (ev_pos (by simpa using c0) (ev_bind0 (impl_hour_eq _) (ev_pos (by simpa using c1) (ev_bind0 (impl_between_eq ..) (ev_neg (by rw [decide_eq_true_eq]; exact c2) ht))))), ?_⟩
        rw [pt]
        exact ⟨fun h => (by cases h.1), fun h => absurd h.1.2.2.1 c2⟩
    · refine ⟨bt, ev_bind0 (impl_hour_eq _) (ev_pos (by simpa using c0) (ev_bind0 (impl_hour_eq _) (ev_neg (by rw [decide_eq_true_eq]; exact c1) ht))), ?_⟩
      rw [pt]
      exact ⟨fun h => (by cases h.1), fun h => absurd h.1.2.1 c1⟩
  · refine ⟨bt, ev_bind0 (impl_hour_eq _) (ev_neg (by rw [decide_eq_true_eq]; exact c0) ht), ?_⟩
    rw [pt]
    exact ⟨fun h => (by cases h.1), fun h => absurd h.1.1 c0⟩

def JobsIs (l : List JJ) : Prop := (l.length : Int) ≤ 40 ∧ ∀ x ∈ l, JobIs x
theorem spec_jobs (l : List JJ) (hl : (l.length : Int) ≤ 1048576 ∧ ∀ x ∈ l, B164 1048576 x) : ∃ b, Ev (fun k => spec_l19Jobs.f k l) b ∧ (b = true ↔ JobsIs l) := by
  have hl1 := hl.1
  unfold spec_l19Jobs.f
  by_cases c : (l.length : Int) > 40
  · exact ⟨false, ev_pos c (Ev.now _), fun h => (by cases h), fun h => absurd h.1 (by omega)⟩
  · obtain ⟨b, hb, hP⟩ := each_mem l (fun k i => spec_l19Jobs.l0 k l i) JobIs True (by
      intro i hi
      have hrd : rd_T164 l (i : Int) = l[i] := getD_at hi _
      obtain ⟨b, hb, hP⟩ := spec_job l[i] (hl.2 _ (List.getElem_mem hi))
      by_cases c1 : b = true
      · refine .inl ⟨hP.1 c1, fun r hr => ?_⟩
        refine Ev.step (fun k => by rw [spec_l19Jobs.l0]) ?_
        simp only [hrd]
        refine ev_pos (by omega) (ev_pos (by omega) (Ev.bind hb (ev_pos c1 ?_)))
        rw [wrap_succ hi (by omega)]
        exact hr
      · refine .inr ⟨fun h => c1 (hP.2 h), ?_⟩
        refine Ev.step (fun k => by rw [spec_l19Jobs.l0]) ?_
        simp only [hrd]
        exact ev_pos (by omega) (ev_pos (by omega) (Ev.bind hb (ev_neg c1 (Ev.now _))))) (by
      refine ⟨true, ?_, by simp⟩
      refine Ev.step (fun k => by rw [spec_l19Jobs.l0]) ?_
      exact ev_neg (by omega) (Ev.now _))
    exact ⟨b, ev_neg c hb, hP.trans ⟨fun h => ⟨by omega, h.1⟩, fun h => ⟨h.2, True.intro⟩⟩⟩
theorem impl_jobs (l : List JJ) (hl : (l.length : Int) ≤ 1048576 ∧ ∀ x ∈ l, B164 1048576 x) : ∃ b, Ev (fun k => impl_jobsOk.f k l) b ∧ (b = true ↔ JobsIs l) := by
  have hl1 := hl.1
  unfold impl_jobsOk.f
  by_cases c : (l.length : Int) > 40
  · exact ⟨false, ev_pos c (Ev.now _), fun h => (by cases h), fun h => absurd h.1 (by omega)⟩
  · obtain ⟨b, hb, hP⟩ := each_mem l (fun k i => impl_jobsOk.l0 k l (l.length : Int) i) JobIs True (by
      intro i hi
      have hrd : rd_T164 l (i : Int) = l[i] := getD_at hi _
      obtain ⟨b, hb, hP⟩ := impl_job l[i] (hl.2 _ (List.getElem_mem hi))
      by_cases c1 : b = true
      · refine .inl ⟨hP.1 c1, fun r hr => ?_⟩
        refine Ev.step (fun k => by rw [impl_jobsOk.l0]) ?_
        simp only [hrd]
        refine ev_pos (by omega) (ev_pos (by omega) (ev_pos (by omega) (Ev.bind hb (ev_pos c1 ?_))))
        rw [wrap_succ hi (by omega)]
        exact hr
      · refine .inr ⟨fun h => c1 (hP.2 h), ?_⟩
        refine Ev.step (fun k => by rw [impl_jobsOk.l0]) ?_
        simp only [hrd]
        exact ev_pos (by omega) (ev_pos (by omega) (ev_pos (by omega) (Ev.bind hb (ev_neg c1 (Ev.now _)))))) (by
      refine ⟨true, ?_, by simp⟩
      refine Ev.step (fun k => by rw [impl_jobsOk.l0]) ?_
      exact ev_neg (by omega) (Ev.now _))
    exact ⟨b, ev_neg c hb, hP.trans ⟨fun h => ⟨by omega, h.1⟩, fun h => ⟨h.2, True.intro⟩⟩⟩

theorem spec_max (a b : Int) : spec_l9Max.f a b = some (if a > b then a else b) := by
  unfold spec_l9Max.f
  split <;> rfl
theorem spec_hour (a : Int) : spec_l19Hour.f a = some (decide (0 ≤ a ∧ a ≤ 5000)) := by unfold spec_l19Hour.f; rw [spec_l1In_eq]; rfl

/-- The ends that the slots leave. -/
def Fit (ends : List Int) : Prop := ∀ e ∈ ends, 0 ≤ e ∧ e ≤ 5000
theorem set_same {l : List Int} {j : Nat} (h : j < l.length) : l.set j l[j] = l := by
  apply List.ext_getElem?
  intro q
  by_cases c : j = q
  · subst c; rw [List.getElem?_set_self h, List.getElem?_eq_getElem h]
  · rw [List.getElem?_set_ne c]

/-- The second loops. -/
theorem sums (jobs : List JJ) (hj : JobsIs jobs) (ends : List Int) (he : Fit ends) (hl : ends.length = jobs.length) (last : Int) : ∀ (d i : Nat) (s : Int), i + d = jobs.length → 0 ≤ s → s ≤ i * 5000000 →
    ∃ r, Ev (fun k => spec_Lateness.l1 k jobs ends last s (i : Int)) r ∧ Ev (fun k => impl_Lateness.l1 k ends last s jobs (jobs.length : Int) (i : Int)) r := by
  have h40 := hj.1
  intro d
  induction d with
  | zero =>
    intro i s hd h0 h1
    have : i = jobs.length := by omega
    subst this
    exact ⟨(s, last), by refine Ev.step (fun k => by rw [spec_Lateness.l1]) ?_; exact ev_neg (by omega) (Ev.now _), by refine Ev.step (fun k => by rw [impl_Lateness.l1]) ?_; exact ev_neg (by omega) (Ev.now _)⟩
  | succ d ih =>
    intro i s hd h0 h1
    have hi : i < jobs.length := by omega
    have hi2 : i < ends.length := by omega
    have hrd : rd_T164 jobs (i : Int) = jobs[i] := getD_at hi _
    have hre : rd ends (i : Int) = ends[i] := rd_at hi2
    obtain ⟨e0, e1⟩ := he _ (List.getElem_mem hi2)
    obtain ⟨⟨_, ⟨d0, d1⟩, ⟨w0, w1⟩, _⟩, _⟩ := hj.2 _ (List.getElem_mem hi)
    have hlt : (i : Int) < (jobs.length : Int) := by omega
    have hlt2 : (i : Int) < (ends.length : Int) := by omega
    have hge : 0 ≤ (i : Int) := by omega
    have b1 : -9223372036854775808 ≤ ends[i] - jobs[i].f1 := by omega
    have b2 : ends[i] - jobs[i].f1 ≤ 9223372036854775807 := by omega
    have b3 : -9223372036854775808 ≤ s := by omega
    have b4 : s ≤ 9223372036854775807 := by omega
    have hwle : jobs.length ≤ 9223372036854775807 := by omega
    by_cases c : ends[i] > jobs[i].f1
    · have hp0 : 0 ≤ jobs[i].f2 * (ends[i] - jobs[i].f1) := Int.mul_nonneg w0 (by omega)
      have hp1 : jobs[i].f2 * (ends[i] - jobs[i].f1) ≤ 1000 * 5000 := Int.mul_le_mul w1 (by omega) (by omega) (by omega)
      have cz : ¬ (0 : Int) > ends[i] - jobs[i].f1 := by omega
      generalize hP : jobs[i].f2 * (ends[i] - jobs[i].f1) = P at hp0 hp1
      have b5 : -9223372036854775808 ≤ P := by omega
      have b6 : P ≤ 9223372036854775807 := by omega
      have b7 : -9223372036854775808 ≤ s + P := by omega
      have b8 : s + P ≤ 9223372036854775807 := by omega
      have b9 : 0 ≤ s + P := by omega
      have b10 : s + P ≤ ((i + 1 : Nat) : Int) * 5000000 := by omega
      obtain ⟨r, h1, h2⟩ := ih (i + 1) (s + P) (by omega) b9 b10
      have hw : wrap64 ((i : Int) + 1) = ((i + 1 : Nat) : Int) := wrap_succ hi hwle
      refine ⟨r, ?_, ?_⟩
      · refine Ev.step (fun k => by rw [spec_Lateness.l1]) ?_
        simp only [hrd, hre, hw, wrap_id b1 b2, spec_max, Option.bind_some, if_neg cz, hP, wrap_id b5 b6, wrap_id b7 b8]
        exact ev_pos hlt (ev_pos hge (ev_pos hlt2 h1))
      · refine Ev.step (fun k => by rw [impl_Lateness.l1]) ?_
        simp only [hrd, hre, hw, wrap_id b1 b2, hP, wrap_id b5 b6, wrap_id b7 b8]
        exact ev_pos hlt (ev_pos hge (ev_pos hlt (ev_pos hlt2 (ev_pos c h2))))
    · have b10 : s ≤ ((i + 1 : Nat) : Int) * 5000000 := by omega
      have hz : (if (0 : Int) > ends[i] - jobs[i].f1 then (0 : Int) else ends[i] - jobs[i].f1) = 0 := by split <;> omega
      obtain ⟨r, h1, h2⟩ := ih (i + 1) s (by omega) h0 b10
      have hw : wrap64 ((i : Int) + 1) = ((i + 1 : Nat) : Int) := wrap_succ hi hwle
      have hs : wrap64 (s + 0) = s := by rw [Int.add_zero]; exact wrap_id b3 b4
      refine ⟨r, ?_, ?_⟩
      · refine Ev.step (fun k => by rw [spec_Lateness.l1]) ?_
        simp only [hrd, hre, hw, wrap_id b1 b2, spec_max, Option.bind_some, hz, Int.mul_zero, wrap_id (show (-9223372036854775808 : Int) ≤ 0 by decide) (show (0 : Int) ≤ 9223372036854775807 by decide), hs]
        exact ev_pos hlt (ev_pos hge (ev_pos hlt2 h1))
      · refine Ev.step (fun k => by rw [impl_Lateness.l1]) ?_
        simp only [hrd, hre, hw]
        exact ev_pos hlt (ev_pos hge (ev_pos hlt (ev_pos hlt2 (ev_neg c h2))))

/-- The first loops. -/
theorem slots_ev (jobs : List JJ) (hj : JobsIs jobs) (slots : List S159) (h4 : (slots.length : Int) ≤ 400) : ∀ (d i : Nat) (ends : List Int) (last : Int), i + d = slots.length → ends.length = jobs.length → Fit ends →
    ∃ r, Ev (fun k => spec_Lateness.l0 k jobs slots ends last (i : Int)) r ∧ Ev (fun k => impl_Lateness.l0 k jobs ends last slots (slots.length : Int) (i : Int)) r := by
  have h40 := hj.1
  intro d
  induction d with
  | zero =>
    intro i ends last hd hl hf
    have : i = slots.length := by omega
    subst this
    obtain ⟨r, h1, h2⟩ := sums jobs hj ends hf hl last jobs.length 0 0 (by omega) (by omega) (by omega)
    have h1' : Ev (fun k => spec_Lateness.l1 k jobs ends last 0 0) r := h1
    have h2' : Ev (fun k => impl_Lateness.l1 k ends last 0 jobs (jobs.length : Int) 0) r := h2
    exact ⟨r, by refine Ev.step (fun k => by rw [spec_Lateness.l0]) ?_; exact ev_neg (by omega) h1', by refine Ev.step (fun k => by rw [impl_Lateness.l0]) ?_; exact ev_neg (by omega) h2'⟩
  | succ d ih =>
    intro i ends last hd hl hf
    have hi : i < slots.length := by omega
    have hrd : rd_T159 slots (i : Int) = slots[i] := getD_at hi _
    have hw : wrap64 ((i : Int) + 1) = ((i + 1 : Nat) : Int) := wrap_succ hi (by omega)
    have hw2 : wrap64 ((jobs.length : Int) - 1) = (jobs.length : Int) - 1 := wrap_id (by omega) (by omega)
    generalize hx : slots[i] = x at hrd
    by_cases c0 : 0 ≤ x.f0 ∧ x.f0 ≤ (jobs.length : Int) - 1
    · by_cases c1 : 0 ≤ x.f4 ∧ x.f4 ≤ 5000
      · obtain ⟨c00, c01⟩ := c0
        obtain ⟨j, hj0⟩ : ∃ j : Nat, x.f0 = (j : Int) := ⟨x.f0.toNat, by omega⟩
        have hj1 : j < ends.length := by omega
        have hre : rd ends (j : Int) = ends[j] := rd_at hj1
        obtain ⟨e0, e1⟩ := hf _ (List.getElem_mem hj1)
        obtain ⟨r, h1, h2⟩ := ih (i + 1) (ends.set j (if ends[j] > x.f4 then ends[j] else x.f4)) (if last > x.f4 then last else x.f4) (by omega) (by rw [List.length_set]; exact hl) (by
          intro e he
          rcases List.mem_or_eq_of_mem_set he with h | h
          · exact hf e h
          · rw [h]; split <;> omega)
        refine ⟨r, ?_, ?_⟩
        · refine Ev.step (fun k => by rw [spec_Lateness.l0]) ?_
          simp only [hrd, hw2, spec_l1In_eq, spec_hour, Option.bind_some, decide_eq_true_eq]
          refine ev_pos (by omega) (ev_pos (by omega) (ev_pos (by omega) ?_))
          refine Ev.step (fun k => by rw [spec_Lateness.j2]) ?_
          simp only [hrd, spec_max, Option.bind_some, hj0, hre, hw, Int.toNat_natCast]
          exact ev_neg (by simp; omega) (ev_pos (by omega) (ev_pos (by omega) (ev_pos (by omega) (ev_pos (by omega) h1))))
        · refine Ev.step (fun k => by rw [impl_Lateness.l0]) ?_
          simp only [hrd, impl_hour_eq, Option.bind_some]
          refine ev_pos (by omega) (ev_pos (by omega) (ev_pos (by omega) (ev_neg (by omega) (ev_neg (by omega) ?_))))
          refine Ev.step (fun k => by rw [impl_Lateness.j2]) ?_
          simp only [hj0, hre, hw, Int.toNat_natCast]
          refine ev_neg (by simp; omega) (ev_pos (by omega) (ev_pos (by omega) ?_))
          by_cases c2 : x.f4 > ends[j]
          · refine ev_pos c2 (ev_bind0 rfl ?_)
            rw [if_neg (show ¬ ends[j] > x.f4 by omega)] at h2
            by_cases c3 : x.f4 > last
            · rw [if_neg (show ¬ last > x.f4 by omega)] at h2
              exact ev_pos c3 h2
            · refine ev_neg c3 ?_
              have : (if last > x.f4 then last else x.f4) = last := by split <;> omega
              rw [this] at h2
              exact h2
          · refine ev_neg c2 ?_
            have hs : (if ends[j] > x.f4 then ends[j] else x.f4) = ends[j] := by split <;> omega
            rw [hs, set_same hj1] at h2
            by_cases c3 : x.f4 > last
            · rw [if_neg (show ¬ last > x.f4 by omega)] at h2
              exact ev_pos c3 h2
            · refine ev_neg c3 ?_
              have : (if last > x.f4 then last else x.f4) = last := by split <;> omega
              rw [this] at h2
              exact h2
      · refine ⟨(0, 0), ?_, ?_⟩
        · refine Ev.step (fun k => by rw [spec_Lateness.l0]) ?_
          simp only [hrd, hw2, spec_l1In_eq, spec_hour, Option.bind_some, decide_eq_true_eq]
          refine ev_pos (by omega) (ev_pos (by omega) (ev_pos c0 ?_))
          refine Ev.step (fun k => by rw [spec_Lateness.j2]) ?_
          exact ev_pos (by simp; omega) (Ev.now _)
        · refine Ev.step (fun k => by rw [impl_Lateness.l0]) ?_
          simp only [hrd, impl_hour_eq, Option.bind_some]
          refine ev_pos (by omega) (ev_pos (by omega) (ev_pos (by omega) (ev_neg (by omega) (ev_neg (by omega) ?_))))
          refine Ev.step (fun k => by rw [impl_Lateness.j2]) ?_
          exact ev_pos (by simp; omega) (Ev.now _)
    · have iF : Ev (fun k => impl_Lateness.j2 k jobs ends last slots (slots.length : Int) (i : Int) true x.f0 x.f1 x.f2 x.f3 x.f4) (0, 0) := by
        refine Ev.step (fun k => by rw [impl_Lateness.j2]) ?_
        exact ev_pos rfl (Ev.now _)
      refine ⟨(0, 0), ?_, ?_⟩
      · refine Ev.step (fun k => by rw [spec_Lateness.l0]) ?_
        simp only [hrd, hw2, spec_l1In_eq, spec_hour, Option.bind_some, decide_eq_true_eq]
        refine ev_pos (by omega) (ev_pos (by omega) (ev_neg c0 ?_))
        refine Ev.step (fun k => by rw [spec_Lateness.j2]) ?_
        exact ev_pos rfl (Ev.now _)
      · refine Ev.step (fun k => by rw [impl_Lateness.l0]) ?_
        simp only [hrd, impl_hour_eq, Option.bind_some]
        refine ev_pos (by omega) (ev_pos (by omega) (ev_pos (by omega) ?_))
        by_cases c2 : x.f0 < 0
        · exact ev_pos c2 iF
        · exact ev_neg c2 (ev_pos (by omega) iF)

theorem main (jobs : List JJ) (slots : List S159) (hl : (jobs.length : Int) ≤ 1048576 ∧ ∀ x ∈ jobs, B164 1048576 x) (hs : (slots.length : Int) ≤ 1048576) :
    ∃ r, Ev (fun k => spec_Lateness.f k jobs slots) r ∧ Ev (fun k => impl_Lateness.f k jobs slots) r := by
  obtain ⟨b, e1, p1⟩ := spec_jobs jobs hl
  obtain ⟨b', e2, p2⟩ := impl_jobs jobs hl
  have hbb : b = b' := bool_of_iff p1 p2
  subst hbb
  have hn := hl.1
  unfold spec_Lateness.f impl_Lateness.f
  have sT : Ev (fun k => spec_Lateness.j0 k jobs slots true) (0, 0) := by
    refine Ev.step (fun k => by rw [spec_Lateness.j0]) ?_
    exact ev_pos rfl (Ev.now _)
  have iT : Ev (fun k => impl_Lateness.j0 k jobs slots true) (0, 0) := by
    refine Ev.step (fun k => by rw [impl_Lateness.j0]) ?_
    exact ev_pos rfl (Ev.now _)
  by_cases c : b = true
  · by_cases c4 : (slots.length : Int) > 400
    · refine ⟨(0, 0), Ev.bind e1 (ev_pos c ?_), Ev.bind e2 (ev_pos c ?_)⟩
      · rw [decide_eq_true c4]; exact sT
      · rw [decide_eq_true c4]; exact iT
    · have hj := p1.1 c
      have h40 := hj.1
      obtain ⟨r, h1, h2⟩ := slots_ev jobs hj slots (by omega) slots.length 0 (List.replicate jobs.length 0) 0 (by omega) (by rw [List.length_replicate]) (by
        intro e he
        have := List.eq_of_mem_replicate he
        omega)
      have h1' : Ev (fun k => spec_Lateness.l0 k jobs slots (List.replicate ((jobs.length : Int) : Int).toNat 0) 0 0) r := by simpa using h1
      have h2' : Ev (fun k => impl_Lateness.l0 k jobs (List.replicate ((jobs.length : Int) : Int).toNat 0) 0 slots (slots.length : Int) 0) r := by simpa using h2
      refine ⟨r, Ev.bind e1 (ev_pos c ?_), Ev.bind e2 (ev_pos c ?_)⟩
      · rw [decide_eq_false c4]
        refine Ev.step (fun k => by rw [spec_Lateness.j0]) ?_
        exact ev_neg (by simp) (ev_pos (by omega) (ev_pos (by omega) h1'))
      · rw [decide_eq_false c4]
        refine Ev.step (fun k => by rw [impl_Lateness.j0]) ?_
        exact ev_neg (by simp) (ev_pos (by omega) (ev_pos (by omega) h2'))
  · exact ⟨(0, 0), Ev.bind e1 (ev_neg c sT), Ev.bind e2 (ev_neg c iT)⟩

theorem FnExactLateness : laws_FnExactLateness.Pure := by
  intro l0 l1 hg0 hg1
  apply Ev.rounds
  unfold laws_FnExactLateness.f
  obtain ⟨s, hs, h⟩ := laws_szJobS_ev l0 1048576 (by omega) (by omega) hg0
  refine Ev.bind hs ?_
  rcases h with h | ⟨n0, n1, hB0⟩
  · exact ev_pos h (Ev.now _)
  refine ev_neg (by omega) ?_
  obtain ⟨s1, hs1, h1⟩ := laws_szSlotS_ev l1 s n0 n1 hg1
  refine Ev.bind hs1 ?_
  rcases h1 with h1 | ⟨_, _, hB1⟩
  · exact ev_pos h1 (Ev.now _)
  refine ev_neg (by omega) ?_
  have hB1m : (l1.length : Int) ≤ 1048576 := by omega
  have to0 := laws_toJobS_ev l0 hB0
  have to1 := laws_toSlotS_ev l1 hB1m
  have hB1' : ((l1.map cv167).length : Int) ≤ 1048576 := by rw [List.length_map]; exact hB1m
  have hB0' : ((l0.map cv156).length : Int) ≤ 1048576 ∧ ∀ x ∈ l0.map cv156, B164 1048576 x := ⟨by rw [List.length_map]; exact hB0.1, fun x hx => by
    obtain ⟨y, hy, rfl⟩ := List.mem_map.1 hx
    exact cv156_B (hB0.2 y hy)⟩
  obtain ⟨r, h1, h2⟩ := main _ _ hB0' hB1'
  have hj : Ev (fun k => laws_FnExactLateness.j0 k l0 l1 (l0.map cv156) (l1.map cv167) false) true := by
    refine Ev.step (fun k => by rw [laws_FnExactLateness.j0]) ?_
    exact ev_neg (by simp) (Ev.bind to0 (Ev.bind (laws_eqJobS_ev _ hB0') (ev_pos rfl (Ev.bind to1 (Ev.bind (laws_eqSlotS_ev _ hB1') (ev_pos rfl (Ev.now _)))))))
  refine Ev.bind to0 (Ev.bind to1 (Ev.bind h1 (Ev.bind to0 (Ev.bind to1 (Ev.bind h2 (ev_pos rfl ?_))))))
  have e : (r.2 != r.2) = false := by simp
  rw [e]
  exact hj
end Go.Proofs.Ytflagondodkonaa.Pure
