/- Balance: the program's two sums are the reference's, whatever the ledger. -/
import Derived.Test.YtiamlcnmjicpaaaPFnExactBalancex
import Derived.Test.YtiamlcnmjicpaaaHFnExactBalance
set_option linter.unusedVariables false
set_option linter.unusedSimpArgs false
namespace Go.Proofs.Ytiamlcnmjicpaaa.Pure
open Go.RowKit Go.Proofs.Ytiamlcnmjicpaaa.PFnExactBalance Go.Proofs.YtiamlcnmjicpaaaW.PrintWords Go.Proofs.YtiamlcnmjicpaaaW.PrintLast Go.Proofs.Ytiamlcnmjicpaaa.XEv

/-- What a line must be to be counted. -/
def Counts (day acc dim cur a1 a2 a3 a4 a5 : Int) : Prop := (a4 ≤ day ∧ day ≤ a5) ∧ (a1 = -1 ∨ a1 = acc) ∧ (a2 = -1 ∨ a2 = dim) ∧ (a3 = -1 ∨ a3 = cur)
instance (day acc dim cur a1 a2 a3 a4 a5 : Int) : Decidable (Counts day acc dim cur a1 a2 a3 a4 a5) := by unfold Counts; infer_instance

theorem spec_j2 (k : Nat) (x1 x2 x3 x4 x5 x14 x15 x16 x18 : Int) (b : Bool) (l : List S125) (h y0 y1 : Int) (y2 : ByteArray) (m : List S127) (z0 z1 z2 z3 z4 : Int) :
    spec_Balance.j2 (k + 1) x1 x2 x3 x4 x5 x14 x15 x16 x18 b l h y0 y1 y2 m z0 z1 z2 z3 z4 =
      if b = true then some (0, 0) else if Counts y0 z0 z1 z2 x1 x2 x3 x4 x5 then spec_Balance.l1 k x1 x2 x3 x4 x5 (wrap64 (x14 + z3)) (wrap64 (x15 + z4)) x16 (wrap64 (x18 + 1)) l h y0 y1 y2 m
        else spec_Balance.l1 k x1 x2 x3 x4 x5 x14 x15 x16 (wrap64 (x18 + 1)) l h y0 y1 y2 m := by
  rw [spec_Balance.j2]
  by_cases c : b = true
  · rw [if_pos c, if_pos c]
  rw [if_neg c, if_neg c]
  unfold spec_l1In.f Counts
  by_cases h1 : y0 ≥ x4
  · by_cases h2 : y0 ≤ x5
    · by_cases h3 : x1 = -1 <;> by_cases h4 : x1 = z0 <;> by_cases h5 : x2 = -1 <;> by_cases h6 : x2 = z1 <;> by_cases h7 : x3 = -1 <;> by_cases h8 : x3 = z2 <;> simp_all
    · simp [h1, h2]
  · have : ¬ x4 ≤ y0 := h1
    simp [this]

theorem impl_j2 (k : Nat) (x1 x2 x3 x4 x5 x14 x15 : Int) (l : List S125) (n i : Int) (m : List S127) (q j : Int) (b : Bool) (y0 y1 : Int) (y2 : ByteArray) (m' : List S127) (z0 z1 z2 z3 z4 : Int) :
    impl_Balance.j2 (k + 1) x1 x2 x3 x4 x5 x14 x15 l n i m q j b y0 y1 y2 m' z0 z1 z2 z3 z4 =
      if b = true then some (0, 0) else if Counts y0 z0 z1 z2 x1 x2 x3 x4 x5 then impl_Balance.l1 k x1 x2 x3 x4 x5 (wrap64 (x14 + z3)) (wrap64 (x15 + z4)) l n i m q (wrap64 (j + 1)) y0 y1 y2 m'
        else impl_Balance.l1 k x1 x2 x3 x4 x5 x14 x15 l n i m q (wrap64 (j + 1)) y0 y1 y2 m' := by
  rw [impl_Balance.j2]
  by_cases c : b = true
  · rw [if_pos c, if_pos c]
  rw [if_neg c, if_neg c]
  unfold Counts
  by_cases h1 : x4 ≤ y0
  · by_cases h2 : y0 ≤ x5
    · by_cases h3 : x1 = -1 <;> by_cases h4 : x1 = z0 <;> by_cases h5 : x2 = -1 <;> by_cases h6 : x2 = z1 <;> by_cases h7 : x3 = -1 <;> by_cases h8 : x3 = z2 <;> simp_all
    · simp [h1, h2]
  · simp [h1]

theorem am (x : Int) : impl_amount.f x = spec_l1Amount.f x := rfl
theorem am_some (x : Int) : ∃ b, spec_l1Amount.f x = some b := by
  unfold spec_l1Amount.f spec_l1In.f
  split <;> exact ⟨_, rfl⟩

/-- The lines of one entry: both go on alike. -/
theorem lines (x1 x2 x3 x4 x5 : Int) (l : List S125) (hd : Int) (i : Nat) (e : S125) (he : (e.f3.length : Int) ≤ 1048576)
    (hout : ∀ a b, ∃ r, Ev (fun k => spec_Balance.l0 k x1 x2 x3 x4 x5 a b (wrap64 ((i : Int) + 1)) l hd) r ∧ Ev (fun k => impl_Balance.l0 k x1 x2 x3 x4 x5 a b l (l.length : Int) (wrap64 ((i : Int) + 1))) r) (d : Nat) :
    ∀ (j : Nat) (a b : Int), j + d = e.f3.length → ∃ r, Ev (fun k => spec_Balance.l1 k x1 x2 x3 x4 x5 a b (i : Int) (j : Int) l hd e.f0 e.f1 e.f2 e.f3) r ∧
      Ev (fun k => impl_Balance.l1 k x1 x2 x3 x4 x5 a b l (l.length : Int) (i : Int) e.f3 (e.f3.length : Int) (j : Int) e.f0 e.f1 e.f2 e.f3) r := by
  induction d with
  | zero =>
    intro j a b hj
    obtain ⟨r, h1, h2⟩ := hout a b
    refine ⟨r, ?_, ?_⟩
    · refine Ev.step (fun k => by rw [spec_Balance.l1]) ?_
      exact ev_neg (by omega) h1
    · refine Ev.step (fun k => by rw [impl_Balance.l1]) ?_
      exact ev_neg (by omega) h2
  | succ d ih =>
    intro j a b hj
    have hlt : j < e.f3.length := by omega
    have hrd : rd_T127 e.f3 (j : Int) = e.f3[j] := getD_at hlt _
    obtain ⟨b1, hb1⟩ := am_some e.f3[j].f3
    obtain ⟨b2, hb2⟩ := am_some e.f3[j].f4
    have key : ∀ bad : Bool, ∃ r, Ev (fun k => spec_Balance.j2 k x1 x2 x3 x4 x5 a b (i : Int) (j : Int) bad l hd e.f0 e.f1 e.f2 e.f3 e.f3[j].f0 e.f3[j].f1 e.f3[j].f2 e.f3[j].f3 e.f3[j].f4) r ∧
        Ev (fun k => impl_Balance.j2 k x1 x2 x3 x4 x5 a b l (l.length : Int) (i : Int) e.f3 (e.f3.length : Int) (j : Int) bad e.f0 e.f1 e.f2 e.f3 e.f3[j].f0 e.f3[j].f1 e.f3[j].f2 e.f3[j].f3 e.f3[j].f4) r := by
      intro bad
      by_cases c : bad = true
      · exact ⟨(0, 0), Ev.step (fun k => spec_j2 ..) (ev_pos c (Ev.now _)), Ev.step (fun k => impl_j2 ..) (ev_pos c (Ev.now _))⟩
      · by_cases ct : Counts e.f0 e.f3[j].f0 e.f3[j].f1 e.f3[j].f2 x1 x2 x3 x4 x5
        · obtain ⟨r, h1, h2⟩ := ih (j + 1) (wrap64 (a + e.f3[j].f3)) (wrap64 (b + e.f3[j].f4)) (by omega)
          rw [← wrap_succ hlt (by omega)] at h1 h2
          exact ⟨r, Ev.step (fun k => spec_j2 ..) (ev_neg c (ev_pos ct h1)), Ev.step (fun k => impl_j2 ..) (ev_neg c (ev_pos ct h2))⟩
        · obtain ⟨r, h1, h2⟩ := ih (j + 1) a b (by omega)
          rw [← wrap_succ hlt (by omega)] at h1 h2
          exact ⟨r, Ev.step (fun k => spec_j2 ..) (ev_neg c (ev_neg ct h1)), Ev.step (fun k => impl_j2 ..) (ev_neg c (ev_neg ct h2))⟩
    by_cases c1 : b1 = true
    · obtain ⟨r, h1, h2⟩ := key (!b2)
      refine ⟨r, ?_, ?_⟩
      · refine Ev.step (fun k => by rw [spec_Balance.l1]) ?_
        simp only [hrd]
        exact ev_pos (by omega) (ev_pos (by omega) (ev_bind0 hb1 (ev_pos c1 (ev_bind0 hb2 h1))))
      · refine Ev.step (fun k => by rw [impl_Balance.l1]) ?_
        simp only [hrd]
        exact ev_pos (by omega) (ev_pos (by omega) (ev_pos (by omega) (ev_bind0 hb1 (ev_pos c1 (ev_bind0 hb2 h2)))))
    · obtain ⟨r, h1, h2⟩ := key true
      refine ⟨r, ?_, ?_⟩
      · refine Ev.step (fun k => by rw [spec_Balance.l1]) ?_
        simp only [hrd]
        exact ev_pos (by omega) (ev_pos (by omega) (ev_bind0 hb1 (ev_neg c1 h1)))
      · refine Ev.step (fun k => by rw [impl_Balance.l1]) ?_
        simp only [hrd]
        exact ev_pos (by omega) (ev_pos (by omega) (ev_pos (by omega) (ev_bind0 hb1 (ev_neg c1 h2))))

theorem entries (x1 x2 x3 x4 x5 : Int) (l : List S125) (hd : Int) (hl : (l.length : Int) ≤ 1048576 ∧ ∀ e ∈ l, B125 1048576 e) (d : Nat) :
    ∀ (i : Nat) (a b : Int), i + d = l.length → ∃ r, Ev (fun k => spec_Balance.l0 k x1 x2 x3 x4 x5 a b (i : Int) l hd) r ∧ Ev (fun k => impl_Balance.l0 k x1 x2 x3 x4 x5 a b l (l.length : Int) (i : Int)) r := by
  have hl1 := hl.1
  induction d with
  | zero =>
    intro i a b hi
    refine ⟨(a, b), ?_, ?_⟩
    · refine Ev.step (fun k => by rw [spec_Balance.l0]) ?_
      exact ev_neg (by omega) (Ev.now _)
    · refine Ev.step (fun k => by rw [impl_Balance.l0]) ?_
      exact ev_neg (by omega) (Ev.now _)
  | succ d ih =>
    intro i a b hi
    have hlt : i < l.length := by omega
    have hrd : rd_T125 l (i : Int) = l[i] := getD_at hlt _
    have hb := hl.2 _ (List.getElem_mem hlt)
    by_cases c : (l[i].f3.length : Int) > 60
    · refine ⟨(0, 0), ?_, ?_⟩
      · refine Ev.step (fun k => by rw [spec_Balance.l0]) ?_
        simp only [hrd]
        exact ev_pos (by omega) (ev_pos (by omega) (ev_pos c (Ev.now _)))
      · refine Ev.step (fun k => by rw [impl_Balance.l0]) ?_
        simp only [hrd]
        exact ev_pos (by omega) (ev_pos (by omega) (ev_pos (by omega) (ev_pos c (Ev.now _))))
    · obtain ⟨r, h1, h2⟩ := lines x1 x2 x3 x4 x5 l hd i l[i] (by omega) (fun a b => by rw [wrap_succ hlt (by omega)]; exact ih (i + 1) a b (by omega)) l[i].f3.length 0 a b (by omega)
      refine ⟨r, ?_, ?_⟩
      · refine Ev.step (fun k => by rw [spec_Balance.l0]) ?_
        simp only [hrd]
        exact ev_pos (by omega) (ev_pos (by omega) (ev_neg c h1))
      · refine Ev.step (fun k => by rw [impl_Balance.l0]) ?_
        simp only [hrd]
        exact ev_pos (by omega) (ev_pos (by omega) (ev_pos (by omega) (ev_neg c h2)))

theorem main (l : List S125) (hd a1 a2 a3 a4 a5 : Int) (hl : (l.length : Int) ≤ 1048576 ∧ ∀ e ∈ l, B125 1048576 e) :
    ∃ r, Ev (fun k => spec_Balance.f k l hd a1 a2 a3 a4 a5) r ∧ Ev (fun k => impl_Balance.f k l hd a1 a2 a3 a4 a5) r := by
  unfold spec_Balance.f impl_Balance.f
  by_cases c : (l.length : Int) > 1000
  · exact ⟨(0, 0), ev_pos c (Ev.now _), ev_pos c (Ev.now _)⟩
  · obtain ⟨r, h1, h2⟩ := entries a1 a2 a3 a4 a5 l hd hl l.length 0 0 0 (by omega)
    exact ⟨r, ev_neg c h1, ev_neg c h2⟩

theorem FnExactBalance : laws_FnExactBalance.Pure := by
  intro l hd a1 a2 a3 a4 a5 hg _ _ _ _ _ _
  apply Ev.rounds
  obtain ⟨s, hs, h⟩ := laws_szLedger_ev ⟨l, hd⟩ 1048576 (by omega) (by omega) ⟨hg, by assumption⟩
  unfold laws_FnExactBalance.f
  refine Ev.bind hs ?_
  rcases h with h | ⟨_, _, hB⟩
  · exact ev_pos h (Ev.now _)
  refine ev_neg (by omega) ?_
  have hto := laws_toLedger_ev ⟨l, hd⟩ hB
  have hB' := cv44_B hB
  obtain ⟨r, h1, h2⟩ := main (l.map cv131) hd a1 a2 a3 a4 a5 hB'
  refine Ev.bind hto (Ev.bind h1 (Ev.bind hto (Ev.bind h2 (ev_pos rfl ?_))))
  rw [show (r.2 != r.2) = false by simp]
  refine Ev.step (fun k => by rw [laws_FnExactBalance.j0]) ?_
  refine ev_neg (by simp) (Ev.bind hto (Ev.bind (laws_eqLedger_ev ⟨l.map cv131, hd⟩ hB') (ev_pos rfl (Ev.now _))))
end Go.Proofs.Ytiamlcnmjicpaaa.Pure
