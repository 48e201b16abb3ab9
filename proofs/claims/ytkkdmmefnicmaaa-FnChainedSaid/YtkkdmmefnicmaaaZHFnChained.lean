/- What the law's helper functions answer: sizes, conversions, comparisons. By this repo's wip/tools/pg.py. -/
import Derived.Test.YtkkdmmefnicmaaaZPFnChainedx0
import Derived.Test.YtkkdmmefnicmaaaZPFnChainedx1
import Derived.Test.YtkkdmmefnicmaaaZPFnChainedx10
import Derived.Test.YtkkdmmefnicmaaaZPFnChainedx5
import Derived.Test.YtkkdmmefnicmaaaZEv
set_option maxHeartbeats 2000000
set_option linter.unusedVariables false
set_option linter.unusedSimpArgs false
namespace Go.Proofs.Ytkkdmmefnicmaaa.PFnChained
open Go.RowKit Go.Proofs.YtkkdmmefnicmaaaW.PrintWords Go.Proofs.YtkkdmmefnicmaaaW.PrintLast Go.Proofs.Ytkkdmmefnicmaaa.XEv

/-- What is counted of it is at most n. -/
def B98 (n : Int) (x : S98) : Prop := ((x.f2.size : Int) ≤ n) ∧ ((x.f3.length : Int) ≤ n)
/-- What is counted of it is at most n. -/
def B209 (n : Int) (x : S209) : Prop := ((x.f0.size : Int) ≤ n)
theorem spec_l1In_eq (a b c : Int) : spec_l1In.f a b c = some (decide (b ≤ a ∧ a ≤ c)) := by
  unfold spec_l1In.f
  by_cases h : a ≥ b
  · rw [if_pos h]; simp [show b ≤ a from h]
  · rw [if_neg h]; simp [show ¬ b ≤ a from h]
theorem impl_between_eq (a b c : Int) : impl_between.f a b c = some (decide (b ≤ a ∧ a ≤ c)) := by
  unfold impl_between.f
  by_cases h : a ≥ b
  · rw [if_pos h]; simp [show b ≤ a from h]
  · rw [if_neg h]; simp [show ¬ b ≤ a from h]
theorem spec_NameOk_l0 (k : Nat) (s : ByteArray) (x : Int) : spec_NameOk.l0 (k + 1) s x = if x < (s.size : Int) then (if 0 ≤ x then (if nb (bt s x) = true then spec_NameOk.l0 k s (wrap64 (x + 1)) else some false) else none) else ((spec_l1In.f (s.size : Int) 1 20).bind fun t => some t) := by
  rw [spec_NameOk.l0]
  by_cases h : x < (s.size : Int)
  · rw [if_pos h, if_pos h]
    by_cases h0 : 0 ≤ x
    · rw [if_pos h0, if_pos h0]
      generalize bt s x = c
      generalize spec_NameOk.l0 k s (wrap64 (x + 1)) = L
      unfold nb
      simp only [decide_eq_true_eq]
      repeat' split
      all_goals first | rfl | omega
    · rw [if_neg h0, if_neg h0]
  · rw [if_neg h, if_neg h]
theorem spec_NameOk_ev (s : ByteArray) (hs : (s.size : Int) ≤ 1048576) : ∃ b, Ev (fun k => spec_NameOk.f k s) b ∧ (b = true ↔ NameIs s) := by
  have key : ∀ (d i : Nat), i + d = s.size → ∃ b, Ev (fun k => spec_NameOk.l0 k s (i : Int)) b ∧ (b = true ↔ (1 ≤ s.size ∧ s.size ≤ 20) ∧ ∀ j, i ≤ j → j < s.size → nb (bt s (j : Nat)) = true) := by
    intro d
    induction d with
    | zero =>
      intro i hi
      refine ⟨decide (1 ≤ (s.size : Int) ∧ (s.size : Int) ≤ 20), Ev.step (fun k => spec_NameOk_l0 ..) (ev_neg (by omega) (ev_bind0 (spec_l1In_eq ..) (Ev.now _))), ?_⟩
      rw [decide_eq_true_eq]
      exact ⟨fun h => ⟨by omega, fun j h1 h2 => absurd h2 (by omega)⟩, fun h => by omega⟩
    | succ d ih =>
      intro i hi
      by_cases c : nb (bt s (i : Int)) = true
      · obtain ⟨b, hb, hP⟩ := ih (i + 1) (by omega)
        refine ⟨b, Ev.step (fun k => spec_NameOk_l0 ..) (ev_pos (by omega) (ev_pos (by omega) (ev_pos c (by rw [wrap_succ (n := s.size) (i := i) (by omega) (by omega)]; exact hb)))), ?_⟩
        rw [hP]
        refine ⟨fun h => ⟨h.1, fun j h1 h2 => ?_⟩, fun h => ⟨h.1, fun j h1 h2 => h.2 j (by omega) h2⟩⟩
        rcases Nat.lt_or_ge i j with h3 | h3
        · exact h.2 j h3 h2
        · have : i = j := by omega
          subst this
          exact c
      · refine ⟨false, Ev.step (fun k => spec_NameOk_l0 ..) (ev_pos (by omega) (ev_pos (by omega) (ev_neg c (Ev.now _)))), ?_⟩
        exact ⟨fun h => (by cases h), fun h => absurd (h.2 i (Nat.le_refl _) (by omega)) c⟩
  obtain ⟨b, hb, hP⟩ := key s.size 0 (by omega)
  refine ⟨b, by unfold spec_NameOk.f; exact hb, hP.trans ⟨fun h => ⟨h.1.1, h.1.2, fun j hj => h.2 j (by omega) hj⟩, fun h => ⟨⟨h.1, h.2.1⟩, fun j _ hj => h.2.2 j hj⟩⟩⟩
end Go.Proofs.Ytkkdmmefnicmaaa.PFnChained
