/- Count: the program's answer is the reference's, whatever the stock and the counts. -/
import Derived.Test.YtinibkdbfpafcaaPFnExactCountx
import Derived.Test.YtinibkdbfpafcaaHFnExactCount
set_option linter.unusedVariables false
set_option linter.unusedSimpArgs false
namespace Go.Proofs.Ytinibkdbfpafcaa.Pure
open Go.RowKit Go.Proofs.Ytinibkdbfpafcaa.PFnExactCount Go.Proofs.YtinibkdbfpafcaaW.PrintWords Go.Proofs.YtinibkdbfpafcaaW.PrintLast Go.Proofs.Ytinibkdbfpafcaa.XEv

theorem both (st : List S117) (cs : List Int) (hc : cs.length = st.length) (hl : (st.length : Int) ≤ 1048576) : ∀ (d i : Nat) (acc : List Int), i + d = st.length → acc.length = i →
    ∃ r : List Int, Ev (fun k => spec_Count.l0 k st cs acc (i : Int)) r ∧ Ev (fun k => impl_Count.l0 k cs acc st (st.length : Int) (i : Int)) r ∧ (r.length : Int) ≤ 1048576 := by
  intro d
  induction d with
  | zero =>
    intro i acc hd ha
    have h1 : Ev (fun k => spec_Count.l0 k st cs acc (i : Int)) acc := by
      refine Ev.step (fun k => by rw [spec_Count.l0]) ?_
      exact ev_neg (by omega) (Ev.now _)
    have h2 : Ev (fun k => impl_Count.l0 k cs acc st (st.length : Int) (i : Int)) acc := by
      refine Ev.step (fun k => by rw [impl_Count.l0]) ?_
      exact ev_neg (by omega) (Ev.now _)
    exact ⟨acc, h1, h2, by omega⟩
  | succ d ih =>
    intro i acc hd ha
    have hi : i < st.length := by omega
    have hi2 : i < cs.length := by omega
    have hq : ∀ a, spec_l12Qty.f a = some (decide (0 ≤ a ∧ a ≤ 1000000)) := spec_l12Qty_eq
    by_cases c : 0 ≤ rd cs (i : Int) ∧ rd cs (i : Int) ≤ 1000000
    · by_cases c2 : rd cs (i : Int) < (rd_T117 st (i : Int)).f5
      · refine ⟨[], ?_, ?_, by simp⟩
        · refine Ev.step (fun k => by rw [spec_Count.l0]) ?_
          exact ev_pos (by omega) (ev_pos (by omega) (ev_pos (by omega) (ev_bind0 (hq _) (ev_pos (by simpa using c) (ev_pos c2 (Ev.now _))))))
        · refine Ev.step (fun k => by rw [impl_Count.l0]) ?_
          exact ev_pos (by omega) (ev_pos (by omega) (ev_pos (by omega) (ev_pos (by omega) (ev_bind0 (impl_quantity_eq _) (ev_pos (by simpa using c) (ev_pos c2 (Ev.now _)))))))
      · obtain ⟨r, h1, h2, h3⟩ := ih (i + 1) (acc ++ [wrap64 (rd cs (i : Int) - (rd_T117 st (i : Int)).f4)]) (by omega) (by simp [ha])
        refine ⟨r, ?_, ?_, h3⟩
        · refine Ev.step (fun k => by rw [spec_Count.l0]) ?_
          refine ev_pos (by omega) (ev_pos (by omega) (ev_pos (by omega) (ev_bind0 (hq _) (ev_pos (by simpa using c) (ev_neg c2 (ev_pos (by omega) ?_))))))
          rw [wrap_succ hi (by omega)]
          exact h1
        · refine Ev.step (fun k => by rw [impl_Count.l0]) ?_
          refine ev_pos (by omega) (ev_pos (by omega) (ev_pos (by omega) (ev_pos (by omega) (ev_bind0 (impl_quantity_eq _) (ev_pos (by simpa using c) (ev_neg c2 (ev_pos (by omega) ?_)))))))
          rw [wrap_succ hi (by omega)]
          exact h2
    · refine ⟨[], ?_, ?_, by simp⟩
      · refine Ev.step (fun k => by rw [spec_Count.l0]) ?_
        exact ev_pos (by omega) (ev_pos (by omega) (ev_pos (by omega) (ev_bind0 (hq _) (ev_neg (by rw [decide_eq_true_eq]; exact c) (Ev.now _)))))
      · refine Ev.step (fun k => by rw [impl_Count.l0]) ?_
        exact ev_pos (by omega) (ev_pos (by omega) (ev_pos (by omega) (ev_pos (by omega) (ev_bind0 (impl_quantity_eq _) (ev_neg (by rw [decide_eq_true_eq]; exact c) (Ev.now _))))))

theorem main (st : List S117) (cs : List Int) (hl : (st.length : Int) ≤ 1048576 ∧ ∀ x ∈ st, B117 1048576 x) (hcs : (cs.length : Int) ≤ 1048576) : ∃ r : List Int, Ev (fun k => spec_Count.f k st cs) r ∧ Ev (fun k => impl_Count.f k st cs) r ∧ (r.length : Int) ≤ 1048576 := by
  have sT : Ev (fun k => spec_Count.j0 k st cs ([] : List Int) true) ([] : List Int) := by
    refine Ev.step (fun k => by rw [spec_Count.j0]) ?_
    exact ev_pos rfl (Ev.now _)
  have iT : Ev (fun k => impl_Count.j0 k st cs true) ([] : List Int) := by
    refine Ev.step (fun k => by rw [impl_Count.j0]) ?_
    exact ev_pos rfl (Ev.now _)
  obtain ⟨b1, h1, p1⟩ := spec_stock_ev st hl
  obtain ⟨b2, h2, p2⟩ := impl_stock_ev st hl
  have : b1 = b2 := bool_of_iff p1 p2
  subst this
  unfold spec_Count.f impl_Count.f
  by_cases c : b1 = true
  · by_cases c2 : (cs.length : Int) = (st.length : Int)
    · have e : ((cs.length : Int) != (st.length : Int)) = false := by simp [c2]
      obtain ⟨r, g1, g2, g3⟩ := both st cs (by omega) hl.1 st.length 0 [] (by omega) rfl
      refine ⟨r, ?_, ?_, g3⟩
      · refine ev_bind0 rfl (Ev.bind h1 (ev_pos c ?_))
        rw [e]
        refine Ev.step (fun k => by rw [spec_Count.j0]) ?_
        exact ev_neg (by simp) g1
      · refine Ev.bind h2 (ev_pos c ?_)
        rw [e]
        refine Ev.step (fun k => by rw [impl_Count.j0]) ?_
        exact ev_neg (by simp) g2
    · have e : ((cs.length : Int) != (st.length : Int)) = true := by simp; omega
      refine ⟨[], ?_, ?_, by simp⟩
      · refine ev_bind0 rfl (Ev.bind h1 (ev_pos c ?_))
        rw [e]
        exact sT
      · refine Ev.bind h2 (ev_pos c ?_)
        rw [e]
        exact iT
  · exact ⟨[], ev_bind0 rfl (Ev.bind h1 (ev_neg c sT)), Ev.bind h2 (ev_neg c iT), by simp⟩

theorem FnExactCount : laws_FnExactCount.Pure := by
  intro l0 l1 hg0 hg1
  apply Ev.rounds
  unfold laws_FnExactCount.f
  by_cases cl : (l1.length : Int) > 1048576
  · exact ev_pos cl (Ev.now _)
  refine ev_neg cl ?_
  obtain ⟨s, hs, h⟩ := laws_szCellS_ev l0 1048576 (by omega) (by omega) hg0
  refine Ev.bind hs ?_
  rcases h with h | ⟨_, _, hB⟩
  · exact ev_pos h (Ev.now _)
  refine ev_neg (by omega) ?_
  have to0 := laws_toCellS_ev l0 hB
  have to1 := laws_toIntS_ev l1 (by omega)
  have hB' : ((l0.map cv189).length : Int) ≤ 1048576 ∧ ∀ x ∈ l0.map cv189, B117 1048576 x := ⟨by rw [List.length_map]; exact hB.1, fun x hx => by
    obtain ⟨y, hy, rfl⟩ := List.mem_map.1 hx
    exact cv189_B (hB.2 y hy)⟩
  obtain ⟨r, h1, h2, h3⟩ := main _ l1 hB' (by omega)
  refine Ev.bind to0 (Ev.bind to1 (Ev.bind h1 (Ev.bind to0 (Ev.bind to1 (Ev.bind h2 (Ev.bind (laws_eqIntS_ev r h3) (ev_pos rfl (Ev.bind to0 (Ev.bind (laws_eqCellS_ev _ hB') (ev_pos rfl (Ev.bind to1 (Ev.bind (laws_eqIntS_ev l1 (by omega)) (ev_pos rfl ?_)))))))))))))
  obtain ⟨q, hq, q0, q1, _⟩ := laws_markCellS_ev (l0.map cv189) 1 (by omega) (by omega) hB'.1
  have hlen := hB'.1
  refine Ev.bind hq (Ev.bind (laws_markIntS_ev l1 q.1 (by omega) (by omega) (by omega)) (ev_neg (by simp only; omega) (Ev.bind (laws_eqIntS_ev r h3) ?_)))
  refine Ev.step (fun k => by rw [laws_FnExactCount.j0]) ?_
  refine ev_neg (by simp) ?_
  refine Ev.bind (laws_markIntS_ev r 1 (by omega) (by omega) h3) (Ev.bind (laws_heldIntS_ev 1 r.length (by omega) (by omega) h3) (ev_neg (by omega) (ev_pos rfl ?_)))
  exact Ev.bind to0 (Ev.bind to1 (Ev.bind h2 (Ev.bind (laws_eqIntS_ev r h3) (ev_pos rfl (Ev.bind (laws_heldIntS_ev 1 r.length (by omega) (by omega) h3) (ev_neg (by omega) (ev_pos rfl (Ev.now _))))))))
end Go.Proofs.Ytinibkdbfpafcaa.Pure
