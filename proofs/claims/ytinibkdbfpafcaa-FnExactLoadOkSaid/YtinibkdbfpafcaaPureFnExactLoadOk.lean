/- LoadOk: the program's answer is the reference's, whatever the machines and the jobs. -/
import Derived.Test.YtinibkdbfpafcaaPFnExactLoadOkx
import Derived.Test.YtinibkdbfpafcaaHFnExactLoadOk
set_option linter.unusedVariables false
set_option linter.unusedSimpArgs false
set_option linter.unusedSectionVars false
namespace Go.Proofs.Ytinibkdbfpafcaa.Pure
open Go.RowKit Go.Proofs.Ytinibkdbfpafcaa.PFnExactLoadOk Go.Proofs.YtinibkdbfpafcaaW.PrintWords Go.Proofs.YtinibkdbfpafcaaW.PrintLast Go.Proofs.Ytinibkdbfpafcaa.XEv

abbrev MM := S210
abbrev JJ := S213
abbrev TT := S215
def TaskIs (x : TT) : Prop := (1 ≤ x.f1 ∧ x.f1 ≤ 500) ∧ (0 ≤ x.f2 ∧ x.f2 ≤ 9)
def JobIs (x : JJ) : Prop := ((0 ≤ x.f0 ∧ x.f0 ≤ 5000) ∧ (0 ≤ x.f1 ∧ x.f1 ≤ 5000) ∧ (0 ≤ x.f2 ∧ x.f2 ≤ 1000) ∧ (1 ≤ (x.f3.length : Int) ∧ (x.f3.length : Int) ≤ 8)) ∧ ∀ t ∈ x.f3, TaskIs t
def MachIs (x : MM) : Prop := (0 ≤ x.f0 ∧ x.f0 ≤ 23) ∧ (x.f0 + 1 ≤ x.f1 ∧ x.f1 ≤ 24) ∧ (0 ≤ x.f2 ∧ x.f2 ≤ 100)

theorem spec_tasks (x : JJ) (hb : B213 1048576 x) : ∃ b, Ev (fun k => spec_l19Job.l0 k 0 x.f0 x.f1 x.f2 x.f3) b ∧ (b = true ↔ (∀ t ∈ x.f3, TaskIs t) ∧ True) := by
  have hl : (x.f3.length : Int) ≤ 1048576 := hb
  refine each_mem x.f3 (fun k i => spec_l19Job.l0 k i x.f0 x.f1 x.f2 x.f3) TaskIs True ?_ ?_
  · intro i hi
    have hrd : rd_T215 x.f3 (i : Int) = x.f3[i] := getD_at hi _
    by_cases c1 : 1 ≤ x.f3[i].f1 ∧ x.f3[i].f1 ≤ 500
    · by_cases c2 : 0 ≤ x.f3[i].f2 ∧ x.f3[i].f2 ≤ 9
      · refine .inl ⟨⟨c1, c2⟩, fun r hr => ?_⟩
        refine Ev.step (fun k => by rw [spec_l19Job.l0]) ?_
        simp only [hrd]
        refine ev_pos (by omega) (ev_pos (by omega) (ev_bind0 (spec_l1In_eq ..) (ev_pos (by simpa using c1) (ev_bind0 (spec_l1In_eq ..) (ev_pos (by simpa using c2) ?_)))))
        rw [wrap_succ hi (by omega)]
        exact hr
      · refine .inr ⟨fun h => c2 h.2, ?_⟩
        refine Ev.step (fun k => by rw [spec_l19Job.l0]) ?_
        simp only [hrd]
        exact ev_pos (by omega) (ev_pos (by omega) (ev_bind0 (spec_l1In_eq ..) (ev_pos (by simpa using c1) (ev_bind0 (spec_l1In_eq ..) (ev_neg (by rw [decide_eq_true_eq]; exact c2) (Ev.now _))))))
    · refine .inr ⟨fun h => c1 h.1, ?_⟩
      refine Ev.step (fun k => by rw [spec_l19Job.l0]) ?_
      simp only [hrd]
      exact ev_pos (by omega) (ev_pos (by omega) (ev_bind0 (spec_l1In_eq ..) (ev_neg (by rw [decide_eq_true_eq]; exact c1) (Ev.now _))))
  · refine ⟨true, ?_, by simp⟩
    refine Ev.step (fun k => by rw [spec_l19Job.l0]) ?_
    exact ev_neg (by omega) (Ev.now _)

theorem spec_job (x : JJ) (hb : B213 1048576 x) : ∃ b, Ev (fun k => spec_l19Job.f k x.f0 x.f1 x.f2 x.f3) b ∧ (b = true ↔ JobIs x) := by
  obtain ⟨b, hbt, hP⟩ := spec_tasks x hb
  have hj : ∀ bad : Bool, ∃ b', Ev (fun k => spec_l19Job.j0 k bad x.f0 x.f1 x.f2 x.f3) b' ∧ (b' = true ↔ bad = false ∧ ∀ t ∈ x.f3, TaskIs t) := by
    intro bad
    cases bad with
    | true => exact ⟨false, Ev.step (fun k => by rw [spec_l19Job.j0]) (ev_pos rfl (Ev.now _)), fun h => (by cases h), fun h => (by cases h.1)⟩
    | false => exact ⟨b, Ev.step (fun k => by rw [spec_l19Job.j0]) (ev_neg (by simp) hbt), hP.trans ⟨fun h => ⟨rfl, h.1⟩, fun h => ⟨h.2, True.intro⟩⟩⟩
  have e1 : ∀ a, spec_l19Hour.f a = some (decide (0 ≤ a ∧ a ≤ 5000)) := fun a => by unfold spec_l19Hour.f; rw [spec_l1In_eq]; rfl
  obtain ⟨bt, ht, pt⟩ := hj true
  unfold spec_l19Job.f
  by_cases c0 : 0 ≤ x.f0 ∧ x.f0 ≤ 5000
  · by_cases c1 : 0 ≤ x.f1 ∧ x.f1 ≤ 5000
    · by_cases c2 : 0 ≤ x.f2 ∧ x.f2 ≤ 1000
      · obtain ⟨b', hb', hP'⟩ := hj (!decide (1 ≤ (x.f3.length : Int) ∧ (x.f3.length : Int) ≤ 8))
        refine ⟨b', ev_bind0 (e1 _) (ev_pos (by simpa using c0) (ev_bind0 (e1 _) (ev_pos (by simpa using c1) (ev_bind0 (spec_l1In_eq ..) (ev_pos (by simpa using c2) (ev_bind0 (spec_l1In_eq ..) hb')))))), ?_⟩
        rw [hP']
        simp only [Bool.not_eq_false', decide_eq_true_eq]
        exact ⟨fun h => ⟨⟨c0, c1, c2, h.1⟩, h.2⟩, fun h => ⟨h.1.2.2.2, h.2⟩⟩
      · refine ⟨bt, ev_bind0 (e1 _) (ev_pos (by simpa using c0) (ev_bind0 (e1 _) (ev_pos (by simpa using c1) (ev_bind0 (spec_l1In_eq ..) (ev_neg (by rw [decide_eq_true_eq]; exact c2) ht))))), ?_⟩
        rw [pt]
        exact ⟨fun h => (by cases h.1), fun h => absurd h.1.2.2.1 c2⟩
    · refine ⟨bt, ev_bind0 (e1 _) (ev_pos (by simpa using c0) (ev_bind0 (e1 _) (ev_neg (by rw [decide_eq_true_eq]; exact c1) ht))), ?_⟩
      rw [pt]
      exact ⟨fun h => (by cases h.1), fun h => absurd h.1.2.1 c1⟩
  · refine ⟨bt, ev_bind0 (e1 _) (ev_neg (by rw [decide_eq_true_eq]; exact c0) ht), ?_⟩
    rw [pt]
    exact ⟨fun h => (by cases h.1), fun h => absurd h.1.1 c0⟩

theorem impl_tasks (l : List TT) (hl : (l.length : Int) ≤ 1048576) : ∃ b, Ev (fun k => impl_jobOk.l0 k l (l.length : Int) 0) b ∧ (b = true ↔ (∀ t ∈ l, TaskIs t) ∧ True) := by
  refine each_mem l (fun k i => impl_jobOk.l0 k l (l.length : Int) i) TaskIs True ?_ ?_
  · intro i hi
    have hrd : rd_T215 l (i : Int) = l[i] := getD_at hi _
    by_cases c1 : 1 ≤ l[i].f1 ∧ l[i].f1 ≤ 500
    · by_cases c2 : 0 ≤ l[i].f2 ∧ l[i].f2 ≤ 9
      · refine .inl ⟨⟨c1, c2⟩, fun r hr => ?_⟩
        refine Ev.step (fun k => by rw [impl_jobOk.l0]) ?_
        simp only [hrd]
        refine ev_pos (by omega) (ev_pos (by omega) (ev_pos (by omega) (ev_bind0 (impl_between_eq ..) (ev_pos (by simpa using c1) (ev_bind0 (impl_between_eq ..) (ev_pos (by simpa using c2) ?_))))))
        rw [wrap_succ hi (by omega)]
        exact hr
      · refine .inr ⟨fun h => c2 h.2, ?_⟩
        refine Ev.step (fun k => by rw [impl_jobOk.l0]) ?_
        simp only [hrd]
        exact ev_pos (by omega) (ev_pos (by omega) (ev_pos (by omega) (ev_bind0 (impl_between_eq ..) (ev_pos (by simpa using c1) (ev_bind0 (impl_between_eq ..) (ev_neg (by rw [decide_eq_true_eq]; exact c2) (Ev.now _)))))))
    · refine .inr ⟨fun h => c1 h.1, ?_⟩
      refine Ev.step (fun k => by rw [impl_jobOk.l0]) ?_
      simp only [hrd]
      exact ev_pos (by omega) (ev_pos (by omega) (ev_pos (by omega) (ev_bind0 (impl_between_eq ..) (ev_neg (by rw [decide_eq_true_eq]; exact c1) (Ev.now _)))))
  · refine ⟨true, ?_, by simp⟩
    refine Ev.step (fun k => by rw [impl_jobOk.l0]) ?_
    exact ev_neg (by omega) (Ev.now _)

theorem impl_job (x : JJ) (hb : B213 1048576 x) : ∃ b, Ev (fun k => impl_jobOk.f k x.f0 x.f1 x.f2 x.f3) b ∧ (b = true ↔ JobIs x) := by
  obtain ⟨b, hbt, hP⟩ := impl_tasks x.f3 hb
  have hj : ∀ bad : Bool, ∃ b', Ev (fun k => impl_jobOk.j0 k bad x.f0 x.f1 x.f2 x.f3) b' ∧ (b' = true ↔ bad = false ∧ ∀ t ∈ x.f3, TaskIs t) := by
    intro bad
    cases bad with
    | true => exact ⟨false, Ev.step (fun k => by rw [impl_jobOk.j0]) (ev_pos rfl (Ev.now _)), fun h => (by cases h), fun h => (by cases h.1)⟩
    | false => exact ⟨b, Ev.step (fun k => by rw [impl_jobOk.j0]) (ev_neg (by simp) hbt), hP.trans ⟨fun h => ⟨rfl, h.1⟩, fun h => ⟨h.2, True.intro⟩⟩⟩
  obtain ⟨bt, ht, pt⟩ := hj true
  unfold impl_jobOk.f
  by_cases c0 : 0 ≤ x.f0 ∧ x.f0 ≤ 5000
  · by_cases c1 : 0 ≤ x.f1 ∧ x.f1 ≤ 5000
    · by_cases c2 : 0 ≤ x.f2 ∧ x.f2 ≤ 1000
      · by_cases c3 : (x.f3.length : Int) < 1
        · refine ⟨bt, ev_bind0 (impl_hour_eq _) (ev_pos (by simpa using c0) (ev_bind0 (impl_hour_eq _) (ev_pos (by simpa using c1) (ev_bind0 (impl_between_eq ..) (ev_pos (by simpa using c2) (ev_pos c3 ht)))))), ?_⟩
          rw [pt]
          exact ⟨fun h => (by cases h.1), fun h => absurd h.1.2.2.2.1 (by omega)⟩
        · obtain ⟨b', hb', hP'⟩ := hj (decide ((x.f3.length : Int) > 8))
          refine ⟨b', ev_bind0 (impl_hour_eq _) (ev_pos (by simpa using c0) (ev_bind0 (impl_hour_eq _) (ev_pos (by simpa using c1) (ev_bind0 (impl_between_eq ..) (ev_pos (by simpa using c2) (ev_neg c3 hb')))))), ?_⟩
          rw [hP']
          simp only [decide_eq_false_iff_not]
          exact ⟨fun h => ⟨⟨c0, c1, c2, by omega⟩, h.2⟩, fun h => ⟨by have := h.1.2.2.2; omega, h.2⟩⟩
      · refine ⟨bt, ev_bind0 (impl_hour_eq _) (ev_pos (by simpa using c0) (ev_bind0 (impl_hour_eq _) (ev_pos (by simpa using c1) (ev_bind0 (impl_between_eq ..) (ev_neg (by rw [decide_eq_true_eq]; exact c2) ht))))), ?_⟩
        rw [pt]
        exact ⟨fun h => (by cases h.1), fun h => absurd h.1.2.2.1 c2⟩
    · refine ⟨bt, ev_bind0 (impl_hour_eq _) (ev_pos (by simpa using c0) (ev_bind0 (impl_hour_eq _) (ev_neg (by rw [decide_eq_true_eq]; exact c1) ht))), ?_⟩
      rw [pt]
      exact ⟨fun h => (by cases h.1), fun h => absurd h.1.2.1 c1⟩
  · refine ⟨bt, ev_bind0 (impl_hour_eq _) (ev_neg (by rw [decide_eq_true_eq]; exact c0) ht), ?_⟩
    rw [pt]
    exact ⟨fun h => (by cases h.1), fun h => absurd h.1.1 c0⟩

def JobsIs (l : List JJ) : Prop := (l.length : Int) ≤ 40 ∧ ∀ x ∈ l, JobIs x
theorem spec_jobs (l : List JJ) (hl : (l.length : Int) ≤ 1048576 ∧ ∀ x ∈ l, B213 1048576 x) : ∃ b, Ev (fun k => spec_l19Jobs.f k l) b ∧ (b = true ↔ JobsIs l) := by
  have hl1 := hl.1
  unfold spec_l19Jobs.f
  by_cases c : (l.length : Int) > 40
  · exact ⟨false, ev_pos c (Ev.now _), fun h => (by cases h), fun h => absurd h.1 (by omega)⟩
  · obtain ⟨b, hb, hP⟩ := each_mem l (fun k i => spec_l19Jobs.l0 k l i) JobIs True (by
      intro i hi
      have hrd : rd_T213 l (i : Int) = l[i] := getD_at hi _
      obtain ⟨b, hb, hP⟩ := spec_job l[i] (hl.2 _ (List.getElem_mem hi))
      by_cases c1 : b = true
      · refine .inl ⟨hP.1 c1, fun r hr => ?_⟩
        refine Ev.step (fun k => by rw [spec_l19Jobs.l0]) ?_
        simp only [hrd]
        refine ev_pos (by omega) (ev_pos (by omega) (Ev.bind hb (ev_pos c1 ?_)))
        rw [wrap_succ hi (by omega)]
        exact hr
      · refine .inr ⟨fun h => c1 (hP.2 h), ?_⟩
        refine Ev.step (fun k => by rw [spec_l19Jobs.l0]) ?_
        simp only [hrd]
        exact ev_pos (by omega) (ev_pos (by omega) (Ev.bind hb (ev_neg c1 (Ev.now _))))) (by
      refine ⟨true, ?_, by simp⟩
      refine Ev.step (fun k => by rw [spec_l19Jobs.l0]) ?_
      exact ev_neg (by omega) (Ev.now _))
    exact ⟨b, ev_neg c hb, hP.trans ⟨fun h => ⟨by omega, h.1⟩, fun h => ⟨h.2, True.intro⟩⟩⟩
theorem impl_jobs (l : List JJ) (hl : (l.length : Int) ≤ 1048576 ∧ ∀ x ∈ l, B213 1048576 x) : ∃ b, Ev (fun k => impl_jobsOk.f k l) b ∧ (b = true ↔ JobsIs l) := by
  have hl1 := hl.1
  unfold impl_jobsOk.f
  by_cases c : (l.length : Int) > 40
  · exact ⟨false, ev_pos c (Ev.now _), fun h => (by cases h), fun h => absurd h.1 (by omega)⟩
  · obtain ⟨b, hb, hP⟩ := each_mem l (fun k i => impl_jobsOk.l0 k l (l.length : Int) i) JobIs True (by
      intro i hi
      have hrd : rd_T213 l (i : Int) = l[i] := getD_at hi _
      obtain ⟨b, hb, hP⟩ := impl_job l[i] (hl.2 _ (List.getElem_mem hi))
      by_cases c1 : b = true
      · refine .inl ⟨hP.1 c1, fun r hr => ?_⟩
        refine Ev.step (fun k => by rw [impl_jobsOk.l0]) ?_
        simp only [hrd]
        refine ev_pos (by omega) (ev_pos (by omega) (ev_pos (by omega) (Ev.bind hb (ev_pos c1 ?_))))
        rw [wrap_succ hi (by omega)]
        exact hr
      · refine .inr ⟨fun h => c1 (hP.2 h), ?_⟩
        refine Ev.step (fun k => by rw [impl_jobsOk.l0]) ?_
        simp only [hrd]
        exact ev_pos (by omega) (ev_pos (by omega) (ev_pos (by omega) (Ev.bind hb (ev_neg c1 (Ev.now _)))))) (by
      refine ⟨true, ?_, by simp⟩
      refine Ev.step (fun k => by rw [impl_jobsOk.l0]) ?_
      exact ev_neg (by omega) (Ev.now _))
    exact ⟨b, ev_neg c hb, hP.trans ⟨fun h => ⟨by omega, h.1⟩, fun h => ⟨h.2, True.intro⟩⟩⟩

theorem spec_mach (x : MM) : ∃ b, spec_l19Machine.f x.f0 x.f1 x.f2 = some b ∧ (b = true ↔ MachIs x) := by
  unfold spec_l19Machine.f MachIs
  rw [spec_l1In_eq, Option.bind_some]
  by_cases c0 : 0 ≤ x.f0 ∧ x.f0 ≤ 23
  · rw [if_pos (by simpa using c0), wrap_id (by omega) (by omega), spec_l1In_eq, Option.bind_some]
    by_cases c1 : x.f0 + 1 ≤ x.f1 ∧ x.f1 ≤ 24
    · rw [if_pos (by simpa using c1), spec_l1In_eq, Option.bind_some]
      refine ⟨_, rfl, ?_⟩
      rw [decide_eq_true_eq]
      exact ⟨fun h => ⟨c0, c1, h⟩, fun h => h.2.2⟩
    · rw [if_neg (by rw [decide_eq_true_eq]; exact c1)]
      exact ⟨_, rfl, fun h => (by cases h), fun h => absurd h.2.1 c1⟩
  · rw [if_neg (by rw [decide_eq_true_eq]; exact c0)]
    exact ⟨_, rfl, fun h => (by cases h), fun h => absurd h.1 c0⟩
theorem impl_mach (x : MM) : ∃ b, impl_machineOk.f x.f0 x.f1 x.f2 = some b ∧ (b = true ↔ MachIs x) := by
  unfold impl_machineOk.f MachIs
  by_cases c0 : x.f0 ≥ 0
  · rw [if_pos c0]
    by_cases c1 : x.f0 < x.f1
    · rw [if_pos c1]
      by_cases c2 : x.f1 ≤ 24
      · rw [if_pos c2, impl_between_eq, Option.bind_some]
        refine ⟨_, rfl, ?_⟩
        rw [decide_eq_true_eq]
        exact ⟨fun h => ⟨by omega, by omega, h⟩, fun h => h.2.2⟩
      · rw [if_neg c2]
        exact ⟨_, rfl, fun h => (by cases h), fun h => by omega⟩
    · rw [if_neg c1]
      exact ⟨_, rfl, fun h => (by cases h), fun h => by omega⟩
  · rw [if_neg c0]
    exact ⟨_, rfl, fun h => (by cases h), fun h => by omega⟩

def OnIs (n : Nat) (t : TT) : Prop := 0 ≤ t.f0 ∧ t.f0 < (n : Int)
section
variable (ms : List MM) (js : List JJ) (hms : (ms.length : Int) ≤ 1048576) (hl : (js.length : Int) ≤ 1048576 ∧ ∀ x ∈ js, B213 1048576 x)
include hms hl
theorem spec_on : ∃ b, Ev (fun k => spec_LoadOk.l1 k ms js 0) b ∧ (b = true ↔ (∀ x ∈ js, ∀ t ∈ x.f3, OnIs ms.length t) ∧ True) := by
  have hl1 := hl.1
  refine each_mem js (fun k i => spec_LoadOk.l1 k ms js i) (fun x => ∀ t ∈ x.f3, OnIs ms.length t) True ?_ ?_
  · intro i hi
    have hrd : rd_T213 js (i : Int) = js[i] := getD_at hi _
    have hB : (js[i].f3.length : Int) ≤ 1048576 := hl.2 _ (List.getElem_mem hi)
    have inner := each_mem_go js[i].f3 (fun k j => spec_LoadOk.l2 k ms js (i : Int) j) (OnIs ms.length) (fun k => spec_LoadOk.l1 k ms js ((i + 1 : Nat) : Int)) false (by
      intro j hj
      have hrd2 : rd_T215 js[i].f3 (j : Int) = js[i].f3[j] := getD_at hj _
      have hw : wrap64 ((ms.length : Int) - 1) = (ms.length : Int) - 1 := wrap_id (by omega) (by omega)
      by_cases c : OnIs ms.length js[i].f3[j]
      · refine .inl ⟨c, fun r hr => ?_⟩
        unfold OnIs at c
        refine Ev.step (fun k => by rw [spec_LoadOk.l2]) ?_
        simp only [hrd, hrd2, hw]
        refine ev_pos (by omega) (ev_pos (by omega) (ev_pos (by omega) (ev_pos (by omega) (ev_bind0 (spec_l1In_eq ..) (ev_pos (by rw [decide_eq_true_eq]; omega) ?_)))))
        rw [wrap_succ hj (by omega)]
        exact hr
      · refine .inr ⟨c, ?_⟩
        unfold OnIs at c
        refine Ev.step (fun k => by rw [spec_LoadOk.l2]) ?_
        simp only [hrd, hrd2, hw]
        exact ev_pos (by omega) (ev_pos (by omega) (ev_pos (by omega) (ev_pos (by omega) (ev_bind0 (spec_l1In_eq ..) (ev_neg (by rw [decide_eq_true_eq]; omega) (Ev.now _))))))) (by
      intro r hr
      refine Ev.step (fun k => by rw [spec_LoadOk.l2]) ?_
      simp only [hrd]
      refine ev_pos (by omega) (ev_pos (by omega) (ev_neg (by omega) ?_))
      rw [wrap_succ hi (by omega)]
      exact hr)
    rcases inner with ⟨h, g⟩ | ⟨h, g⟩
    · refine .inl ⟨h, fun r hr => ?_⟩
      refine Ev.step (fun k => by rw [spec_LoadOk.l1]) ?_
      exact ev_pos (by omega) (g r hr)
    · refine .inr ⟨h, ?_⟩
      refine Ev.step (fun k => by rw [spec_LoadOk.l1]) ?_
      exact ev_pos (by omega) g
  · refine ⟨true, ?_, by simp⟩
    refine Ev.step (fun k => by rw [spec_LoadOk.l1]) ?_
    exact ev_neg (by omega) (Ev.now _)
theorem impl_on : ∃ b, Ev (fun k => impl_LoadOk.l1 k ms js (js.length : Int) 0) b ∧ (b = true ↔ (∀ x ∈ js, ∀ t ∈ x.f3, OnIs ms.length t) ∧ True) := by
  have hl1 := hl.1
  refine each_mem js (fun k i => impl_LoadOk.l1 k ms js (js.length : Int) i) (fun x => ∀ t ∈ x.f3, OnIs ms.length t) True ?_ ?_
  · intro i hi
    have hrd : rd_T213 js (i : Int) = js[i] := getD_at hi _
    have hB : (js[i].f3.length : Int) ≤ 1048576 := hl.2 _ (List.getElem_mem hi)
    have inner := each_mem_go js[i].f3 (fun k j => impl_LoadOk.l2 k ms js (js.length : Int) (i : Int) js[i].f3 (js[i].f3.length : Int) j) (OnIs ms.length) (fun k => impl_LoadOk.l1 k ms js (js.length : Int) ((i + 1 : Nat) : Int)) false (by
      intro j hj
      have hrd2 : rd_T215 js[i].f3 (j : Int) = js[i].f3[j] := getD_at hj _
      by_cases c : OnIs ms.length js[i].f3[j]
      · refine .inl ⟨c, fun r hr => ?_⟩
        unfold OnIs at c
        refine Ev.step (fun k => by rw [impl_LoadOk.l2]) ?_
        simp only [hrd2]
        refine ev_pos (by omega) (ev_pos (by omega) (ev_pos (by omega) (ev_neg (by omega) (ev_neg (by omega) ?_))))
        rw [wrap_succ hj (by omega)]
        exact hr
      · refine .inr ⟨c, ?_⟩
        unfold OnIs at c
        refine Ev.step (fun k => by rw [impl_LoadOk.l2]) ?_
        simp only [hrd2]
        by_cases c2 : js[i].f3[j].f0 < 0
        · exact ev_pos (by omega) (ev_pos (by omega) (ev_pos (by omega) (ev_pos c2 (Ev.now _))))
        · exact ev_pos (by omega) (ev_pos (by omega) (ev_pos (by omega) (ev_neg c2 (ev_pos (by omega) (Ev.now _)))))) (by
      intro r hr
      refine Ev.step (fun k => by rw [impl_LoadOk.l2]) ?_
      refine ev_neg (by omega) ?_
      rw [wrap_succ hi (by omega)]
      exact hr)
    rcases inner with ⟨h, g⟩ | ⟨h, g⟩
    · refine .inl ⟨h, fun r hr => ?_⟩
      refine Ev.step (fun k => by rw [impl_LoadOk.l1]) ?_
      simp only [hrd]
      exact ev_pos (by omega) (ev_pos (by omega) (ev_pos (by omega) (g r hr)))
    · refine .inr ⟨h, ?_⟩
      refine Ev.step (fun k => by rw [impl_LoadOk.l1]) ?_
      simp only [hrd]
      exact ev_pos (by omega) (ev_pos (by omega) (ev_pos (by omega) g))
  · refine ⟨true, ?_, by simp⟩
    refine Ev.step (fun k => by rw [impl_LoadOk.l1]) ?_
    exact ev_neg (by omega) (Ev.now _)
theorem spec_rest : ∃ b, Ev (fun k => spec_LoadOk.l0 k ms js 0) b ∧ (b = true ↔ (∀ x ∈ ms, MachIs x) ∧ ((∀ x ∈ js, ∀ t ∈ x.f3, OnIs ms.length t) ∧ True)) := by
  refine each_mem ms (fun k i => spec_LoadOk.l0 k ms js i) MachIs _ ?_ ?_
  · intro i hi
    have hrd : rd_T210 ms (i : Int) = ms[i] := getD_at hi _
    obtain ⟨b, hb, hP⟩ := spec_mach ms[i]
    by_cases c : b = true
    · refine .inl ⟨hP.1 c, fun r hr => ?_⟩
      refine Ev.step (fun k => by rw [spec_LoadOk.l0]) ?_
      simp only [hrd]
      refine ev_pos (by omega) (ev_pos (by omega) (ev_bind0 hb (ev_pos c ?_)))
      rw [wrap_succ hi (by omega)]
      exact hr
    · refine .inr ⟨fun h => c (hP.2 h), ?_⟩
      refine Ev.step (fun k => by rw [spec_LoadOk.l0]) ?_
      simp only [hrd]
      exact ev_pos (by omega) (ev_pos (by omega) (ev_bind0 hb (ev_neg c (Ev.now _))))
  · obtain ⟨b, hb, hP⟩ := spec_on ms js hms hl
    refine ⟨b, ?_, hP⟩
    refine Ev.step (fun k => by rw [spec_LoadOk.l0]) ?_
    exact ev_neg (by omega) hb
theorem impl_rest : ∃ b, Ev (fun k => impl_LoadOk.l0 k ms js ms (ms.length : Int) 0) b ∧ (b = true ↔ (∀ x ∈ ms, MachIs x) ∧ ((∀ x ∈ js, ∀ t ∈ x.f3, OnIs ms.length t) ∧ True)) := by
  refine each_mem ms (fun k i => impl_LoadOk.l0 k ms js ms (ms.length : Int) i) MachIs _ ?_ ?_
  · intro i hi
    have hrd : rd_T210 ms (i : Int) = ms[i] := getD_at hi _
    obtain ⟨b, hb, hP⟩ := impl_mach ms[i]
    by_cases c : b = true
    · refine .inl ⟨hP.1 c, fun r hr => ?_⟩
      refine Ev.step (fun k => by rw [impl_LoadOk.l0]) ?_
      simp only [hrd]
      refine ev_pos (by omega) (ev_pos (by omega) (ev_pos (by omega) (ev_bind0 hb (ev_pos c ?_))))
      rw [wrap_succ hi (by omega)]
      exact hr
    · refine .inr ⟨fun h => c (hP.2 h), ?_⟩
      refine Ev.step (fun k => by rw [impl_LoadOk.l0]) ?_
      simp only [hrd]
      exact ev_pos (by omega) (ev_pos (by omega) (ev_pos (by omega) (ev_bind0 hb (ev_neg c (Ev.now _)))))
  · obtain ⟨b, hb, hP⟩ := impl_on ms js hms hl
    refine ⟨b, ?_, hP⟩
    refine Ev.step (fun k => by rw [impl_LoadOk.l0]) ?_
    exact ev_neg (by omega) hb
theorem main : ∃ b, Ev (fun k => spec_LoadOk.f k ms js) b ∧ Ev (fun k => impl_LoadOk.f k ms js) b := by
  obtain ⟨b1, h1, p1⟩ := spec_rest ms js hms hl
  obtain ⟨b2, h2, p2⟩ := impl_rest ms js hms hl
  have : b1 = b2 := bool_of_iff p1 p2
  subst this
  have hjs : ∀ bad : Bool, Ev (fun k => spec_LoadOk.j0 k ms js bad) (!bad && b1) := by
    intro bad
    cases bad with
    | true =>
      refine Ev.step (fun k => by rw [spec_LoadOk.j0]) ?_
      exact ev_pos rfl (Ev.now _)
    | false => exact Ev.step (fun k => by rw [spec_LoadOk.j0]) (ev_neg (by simp) h1)
  have hji : ∀ bad : Bool, Ev (fun k => impl_LoadOk.j0 k ms js bad) (!bad && b1) := by
    intro bad
    cases bad with
    | true =>
      refine Ev.step (fun k => by rw [impl_LoadOk.j0]) ?_
      exact ev_pos rfl (Ev.now _)
    | false => exact Ev.step (fun k => by rw [impl_LoadOk.j0]) (ev_neg (by simp) h2)
  unfold spec_LoadOk.f impl_LoadOk.f
  by_cases c : 1 ≤ (ms.length : Int) ∧ (ms.length : Int) ≤ 12
  · obtain ⟨q1, g1, r1⟩ := spec_jobs js hl
    obtain ⟨q2, g2, r2⟩ := impl_jobs js hl
    have : q1 = q2 := bool_of_iff r1 r2
    subst this
    exact ⟨_, ev_bind0 (spec_l1In_eq ..) (ev_pos (by simpa using c) (Ev.bind g1 (hjs (!q1)))), ev_neg (by omega) (ev_neg (by omega) (Ev.bind g2 (hji (!q1))))⟩
  · refine ⟨_, ev_bind0 (spec_l1In_eq ..) (ev_neg (by rw [decide_eq_true_eq]; exact c) (hjs true)), ?_⟩
    by_cases c2 : (ms.length : Int) < 1
    · exact ev_pos c2 (hji true)
    · exact ev_neg c2 (ev_pos (by omega) (hji true))
end

theorem FnExactLoadOk : laws_FnExactLoadOk.Pure := by
  intro l0 l1 hg0 hg1
  apply Ev.rounds
  unfold laws_FnExactLoadOk.f
  obtain ⟨s, hs, h⟩ := laws_szMachineS_ev l0 1048576 (by omega) (by omega) hg0
  refine Ev.bind hs ?_
  rcases h with h | ⟨n0, n1, hB0⟩
  · exact ev_pos h (Ev.now _)
  refine ev_neg (by omega) ?_
  obtain ⟨s1, hs1, h1⟩ := laws_szJobS_ev l1 s n0 n1 hg1
  refine Ev.bind hs1 ?_
  rcases h1 with h1 | ⟨_, _, hB1, hC1⟩
  · exact ev_pos h1 (Ev.now _)
  refine ev_neg (by omega) ?_
  have hBm : (l1.length : Int) ≤ 1048576 ∧ ∀ x ∈ l1, B206 1048576 x := ⟨by omega, fun x hx => B206_mono n1 (hC1 x hx)⟩
  have to0 := laws_toMachineS_ev l0 hB0
  have to1 := laws_toJobS_ev l1 hBm
  have hB0' : ((l0.map cv217).length : Int) ≤ 1048576 := by rw [List.length_map]; exact hB0
  have hB1' : ((l1.map cv206).length : Int) ≤ 1048576 ∧ ∀ x ∈ l1.map cv206, B213 1048576 x := ⟨by rw [List.length_map]; exact hBm.1, fun x hx => by
    obtain ⟨y, hy, rfl⟩ := List.mem_map.1 hx
    exact cv206_B (hBm.2 y hy)⟩
  obtain ⟨r, h1, h2⟩ := main _ _ hB0' hB1'
  exact Ev.bind to0 (Ev.bind to1 (Ev.bind h1 (Ev.bind to0 (Ev.bind to1 (Ev.bind h2 (ev_neg (by simp) (Ev.bind to0 (Ev.bind (laws_eqMachineS_ev _ hB0') (ev_pos rfl (Ev.bind to1 (Ev.bind (laws_eqJobS_ev _ hB1') (ev_pos rfl (Ev.now _)))))))))))))
end Go.Proofs.Ytinibkdbfpafcaa.Pure
