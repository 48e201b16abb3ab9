/- Receive: the program's answer is the reference's, whatever the stock and the cell. -/
import Derived.Test.YtflagondodkonaaZPFnExactReceivex
import Derived.Test.YtflagondodkonaaZHFnExactReceive
set_option linter.unusedVariables false
set_option maxHeartbeats 4000000
set_option linter.unusedSimpArgs false
set_option linter.unusedSectionVars false
namespace Go.Proofs.Ytflagondodkonaa.Pure
open Go.RowKit Go.Proofs.Ytflagondodkonaa.PFnExactReceive Go.Proofs.YtflagondodkonaaW.PrintWords Go.Proofs.YtflagondodkonaaW.PrintLast Go.Proofs.Ytflagondodkonaa.XEv
abbrev CC := S76
def BC (l : List CC) : Prop := (l.length : Int) ≤ 1048576 ∧ ∀ y ∈ l, B76 1048576 y
def more (y : CC) (q : Int) : CC := ⟨y.f0, y.f1, y.f2, y.f3, wrap64 (y.f4 + q), y.f5⟩
theorem same_iff (y x : CC) : (y.f0.toList == x.f0.toList && (y.f1.toList == x.f1.toList && (y.f2.toList == x.f2.toList))) = true ↔ Same y x := by
  simp only [Bool.and_eq_true, beq_iff_eq, str_iff]
  rfl
theorem bring_go (l : List CC) (x : CC) (hl : (l.length : Int) ≤ 100) : ∀ (d i j : Nat), i + d = j → j ≤ l.length → (∀ (q : Nat) y, q < j → l[q]? = some y → ¬ Same y x) → ∀ r, Ev (fun k => impl_bring.l0 k l (l.length : Int) (j : Int) x.f0 x.f1 x.f2 x.f3 x.f4 x.f5) r → Ev (fun k => impl_bring.l0 k l (l.length : Int) (i : Int) x.f0 x.f1 x.f2 x.f3 x.f4 x.f5) r := by
  have hw : ∀ y : CC, impl_Cell_where.f y.f0 y.f1 y.f2 y.f3 y.f4 y.f5 = some (y.f0, y.f1, y.f2) := fun _ => rfl
  intro d
  induction d with
  | zero => intro i j h _ _ r hr; have : i = j := by omega
            subst this; exact hr
  | succ d ih =>
    intro i j h hj hn r hr
    have hi : i < l.length := by omega
    have hrd : rd_T76 l (i : Int) = l[i] := getD_at hi _
    have hs : ¬ Same l[i] x := hn i _ (by omega) (List.getElem?_eq_getElem hi)
    refine Ev.step (fun k => by rw [impl_bring.l0]) ?_
    simp only [hrd, hw, Option.bind_some, show impl_Cell_where.f x.f0 x.f1 x.f2 x.f3 x.f4 x.f5 = some (x.f0, x.f1, x.f2) from rfl, wrap_succ hi (show l.length ≤ 9223372036854775807 by omega)]
    exact ev_pos (by omega) (ev_pos (by omega) (ev_pos (by omega) (ev_neg (fun h => hs ((same_iff _ _).1 h)) (ih (i + 1) j (by omega) hj hn r hr))))
/-- None is of its kind. -/
theorem bring_none (l : List CC) (x : CC) (hl : (l.length : Int) ≤ 100) (hn : ∀ y ∈ l, ¬ Same y x) :
    ((l.length : Int) ≥ 100 ∧ Ev (fun k => spec_l15Add.f k l x.f0 x.f1 x.f2 x.f3 x.f4 x.f5) (l, false) ∧ Ev (fun k => impl_bring.f k l x.f0 x.f1 x.f2 x.f3 x.f4 x.f5) ([], false)) ∨
    ((l.length : Int) < 100 ∧ Ev (fun k => spec_l15Add.f k l x.f0 x.f1 x.f2 x.f3 x.f4 x.f5) (l ++ [x], true) ∧ Ev (fun k => impl_bring.f k l x.f0 x.f1 x.f2 x.f3 x.f4 x.f5) (l ++ [x], true)) := by
  obtain ⟨r, er, pr⟩ := spec_find_ev l x (by omega)
  have hn' : ∀ (q : Nat) y, q < l.length → l[q]? = some y → ¬ Same y x := fun q y _ h => hn y (List.mem_of_getElem? h)
  have hr : r = -1 := by
    rcases pr with ⟨h, _⟩ | ⟨i, _, y, hy, hs, _⟩
    · exact h
    · exact absurd hs (hn y (List.mem_of_getElem? hy))
  subst hr
  unfold spec_l15Add.f impl_bring.f
  by_cases c : (l.length : Int) ≥ 100
  · refine .inl ⟨c, Ev.bind er (ev_pos (by omega) (ev_pos c (Ev.now _))), ?_⟩
    refine bring_go l x hl l.length 0 l.length (by omega) (Nat.le_refl _) hn' _ ?_
    refine Ev.step (fun k => by rw [impl_bring.l0]) ?_
    exact ev_neg (by omega) (ev_pos (by omega) (Ev.now _))
  · refine .inr ⟨by omega, Ev.bind er (ev_pos (by omega) (ev_neg c (ev_pos (by omega) (Ev.now _)))), ?_⟩
    refine bring_go l x hl l.length 0 l.length (by omega) (Nat.le_refl _) hn' _ ?_
    refine Ev.step (fun k => by rw [impl_bring.l0]) ?_
    exact ev_neg (by omega) (ev_neg (by omega) (ev_pos (by omega) (Ev.now _)))
/-- The first of its kind is at i. -/
theorem bring_some (l : List CC) (x : CC) (hl : (l.length : Int) ≤ 100) (i : Nat) (y : CC) (hy : l[i]? = some y) (hs : Same y x) (hf : ∀ (j : Nat) z, j < i → l[j]? = some z → ¬ Same z x) :
    (wrap64 (y.f4 + x.f4) > 1000000 ∧ Ev (fun k => spec_l15Add.f k l x.f0 x.f1 x.f2 x.f3 x.f4 x.f5) (l, false) ∧ Ev (fun k => impl_bring.f k l x.f0 x.f1 x.f2 x.f3 x.f4 x.f5) ([], false)) ∨
    (¬ wrap64 (y.f4 + x.f4) > 1000000 ∧ Ev (fun k => spec_l15Add.f k l x.f0 x.f1 x.f2 x.f3 x.f4 x.f5) (l.set i (more y x.f4), true) ∧ Ev (fun k => impl_bring.f k l x.f0 x.f1 x.f2 x.f3 x.f4 x.f5) (l.set i (more y x.f4), true)) := by
  obtain ⟨r, er, pr⟩ := spec_find_ev l x (by omega)
  have hw : ∀ y : CC, impl_Cell_where.f y.f0 y.f1 y.f2 y.f3 y.f4 y.f5 = some (y.f0, y.f1, y.f2) := fun _ => rfl
  have hi : i < l.length := (List.getElem?_eq_some_iff.1 hy).1
  have hyi : l[i] = y := (List.getElem?_eq_some_iff.1 hy).2
  have hr : r = (i : Int) := by
    rcases pr with ⟨_, h⟩ | ⟨j, hj, z, hz, hsz, hfz⟩
    · exact absurd hs (h y (List.mem_of_getElem? hy))
    · rcases Nat.lt_trichotomy j i with h | h | h
      · exact absurd hsz (hf j z h hz)
      · rw [hj, h]
      · exact absurd hs (hfz i y h hy)
  subst hr
  have hrd : rd_T76 l (i : Int) = y := by rw [← hyi]; exact getD_at hi _
  unfold spec_l15Add.f impl_bring.f
  have head : ∀ r, Ev (fun k => impl_bring.l0 k l (l.length : Int) (i : Int) x.f0 x.f1 x.f2 x.f3 x.f4 x.f5) r → Ev (fun k => impl_bring.l0 k l (l.length : Int) 0 x.f0 x.f1 x.f2 x.f3 x.f4 x.f5) r := bring_go l x hl i 0 i (by omega) (by omega) hf
  by_cases c : wrap64 (y.f4 + x.f4) > 1000000
  · refine .inl ⟨c, Ev.bind er ?_, head _ ?_⟩
    · simp only [hrd]
      exact ev_neg (by omega) (ev_pos (by omega) (ev_pos (by omega) (ev_pos c (Ev.now _))))
    · refine Ev.step (fun k => by rw [impl_bring.l0]) ?_
      simp only [hrd, hw, Option.bind_some, show impl_Cell_where.f x.f0 x.f1 x.f2 x.f3 x.f4 x.f5 = some (x.f0, x.f1, x.f2) from rfl]
      exact ev_pos (by omega) (ev_pos (by omega) (ev_pos (by omega) (ev_pos ((same_iff _ _).2 hs) (ev_pos c (Ev.now _)))))
  · refine .inr ⟨c, Ev.bind er ?_, head _ ?_⟩
    · simp only [hrd, Int.toNat_natCast]
      exact ev_neg (by omega) (ev_pos (by omega) (ev_pos (by omega) (ev_neg c (Ev.now _))))
    · refine Ev.step (fun k => by rw [impl_bring.l0]) ?_
      simp only [hrd, hw, Option.bind_some, Int.toNat_natCast, show impl_Cell_where.f x.f0 x.f1 x.f2 x.f3 x.f4 x.f5 = some (x.f0, x.f1, x.f2) from rfl]
      exact ev_pos (by omega) (ev_pos (by omega) (ev_pos (by omega) (ev_pos ((same_iff _ _).2 hs) (ev_neg c (Ev.now _)))))
theorem first_of (l : List CC) (x : CC) : (∀ y ∈ l, ¬ Same y x) ∨ ∃ (i : Nat) (y : CC), l[i]? = some y ∧ Same y x ∧ ∀ (j : Nat) z, j < i → l[j]? = some z → ¬ Same z x := by
  induction l with
  | nil => exact .inl (fun y hy => by cases hy)
  | cons a l ih =>
    by_cases c : Same a x
    · exact .inr ⟨0, a, rfl, c, fun j z h => by omega⟩
    · rcases ih with h | ⟨i, y, hy, hs, hf⟩
      · exact .inl (fun y hy => by rcases List.mem_cons.1 hy with h2 | h2; rw [h2]; exact c; exact h y h2)
      · refine .inr ⟨i + 1, y, by simpa using hy, hs, fun j z hj hz => ?_⟩
        cases j with
        | zero => simp at hz; rw [← hz]; exact c
        | succ j => exact hf j z (by omega) (by simpa using hz)
/-- Both sides bring a cell into a stock, or have no room. -/
theorem bring_ev (l : List CC) (x : CC) (hl : (l.length : Int) ≤ 100) : ∃ (b : Bool) (rs ri : List CC), Ev (fun k => spec_l15Add.f k l x.f0 x.f1 x.f2 x.f3 x.f4 x.f5) (rs, b) ∧ Ev (fun k => impl_bring.f k l x.f0 x.f1 x.f2 x.f3 x.f4 x.f5) (ri, b) ∧
    (b = true → rs = ri ∧ ((rs = l ++ [x] ∧ (l.length : Int) < 100 ∧ ∀ y ∈ l, ¬ Same y x) ∨ ∃ (i : Nat) (y : CC), l[i]? = some y ∧ Same y x ∧ rs = l.set i (more y x.f4) ∧ ¬ wrap64 (y.f4 + x.f4) > 1000000)) := by
  rcases first_of l x with hn | ⟨i, y, hy, hs, hf⟩
  · rcases bring_none l x hl hn with ⟨_, h1, h2⟩ | ⟨c, h1, h2⟩
    · exact ⟨false, _, _, h1, h2, fun h => (by cases h)⟩
    · exact ⟨true, _, _, h1, h2, fun _ => ⟨rfl, .inl ⟨rfl, c, hn⟩⟩⟩
  · rcases bring_some l x hl i y hy hs hf with ⟨_, h1, h2⟩ | ⟨c, h1, h2⟩
    · exact ⟨false, _, _, h1, h2, fun h => (by cases h)⟩
    · exact ⟨true, _, _, h1, h2, fun _ => ⟨rfl, .inr ⟨i, y, hy, hs, rfl, c⟩⟩⟩
theorem impl_copy_eq (l : List CC) (hl : (l.length : Int) ≤ 1048576) : impl_copyStock.f l = some l := by
  unfold impl_copyStock.f
  simp only [Option.bind_some, List.nil_append]
  exact if_pos (by simp; omega)
theorem spec_copy_eq (l : List CC) (hl : (l.length : Int) ≤ 1048576) : spec_l15Copy.f l = some l := by
  unfold spec_l15Copy.f
  simp only [Option.bind_some, List.nil_append]
  exact if_pos (by simp; omega)
theorem BC_set {l : List CC} {i : Nat} {y : CC} (h : BC l) (hy : B76 1048576 y) : BC (l.set i y) := by
  refine ⟨by rw [List.length_set]; exact h.1, fun z hz => ?_⟩
  rcases List.mem_or_eq_of_mem_set hz with h2 | h2
  · exact h.2 z h2
  · rw [h2]; exact hy
theorem bring_B {l rs : List CC} {x : CC} (h : BC l) (hl : (l.length : Int) ≤ 100) (hx : B76 1048576 x) (hr : (rs = l ++ [x] ∧ (l.length : Int) < 100 ∧ ∀ y ∈ l, ¬ Same y x) ∨ ∃ (i : Nat) (y : CC), l[i]? = some y ∧ Same y x ∧ rs = l.set i (more y x.f4) ∧ ¬ wrap64 (y.f4 + x.f4) > 1000000) : BC rs := by
  rcases hr with ⟨rfl, _, _⟩ | ⟨i, y, hy, _, rfl, _⟩
  · refine ⟨by simp; omega, fun z hz => ?_⟩
    rcases List.mem_append.1 hz with h2 | h2
    · exact h.2 z h2
    · rw [List.mem_singleton.1 h2]; exact hx
  · have := h.2 y (List.mem_of_getElem? hy)
    exact BC_set h this
theorem main (l : List CC) (x : CC) (hl : BC l) (hx : B76 1048576 x) : ∃ (r : List CC) (n : Int), Ev (fun k => spec_Receive.f k l x.f0 x.f1 x.f2 x.f3 x.f4 x.f5) (r, n) ∧ Ev (fun k => impl_Receive.f k l x.f0 x.f1 x.f2 x.f3 x.f4 x.f5) (r, n) ∧ BC r := by
  have hl1 := hl.1
  obtain ⟨b, e1, p1⟩ := spec_stock_ev l hl
  obtain ⟨b', e2, p2⟩ := impl_stock_ev l hl
  have hbb : b = b' := bool_of_iff p1 p2
  subst hbb
  unfold spec_Receive.f impl_Receive.f
  by_cases c : b = true
  case neg => exact ⟨[], 1, Ev.bind e1 (ev_neg c (Ev.now _)), Ev.bind e2 (ev_neg c (Ev.now _)), by simp, fun y hy => by cases hy⟩
  have hs := p1.1 c
  have h100 := hs.1
  obtain ⟨q, f1, g1⟩ := spec_cell_ev x hx
  obtain ⟨q', f2, g2⟩ := impl_cell_ev x hx
  have hqq : q = q' := bool_of_iff g1 g2
  subst hqq
  have sT : Ev (fun k => spec_Receive.j0 k l true x.f0 x.f1 x.f2 x.f3 x.f4 x.f5) (l, 2) := by
    refine Ev.step (fun k => by rw [spec_Receive.j0]) ?_
    exact ev_pos rfl (ev_bind0 (spec_copy_eq l hl1) (Ev.now _))
  have iT : Ev (fun k => impl_Receive.j0 k l true x.f0 x.f1 x.f2 x.f3 x.f4 x.f5) (l, 2) := by
    refine Ev.step (fun k => by rw [impl_Receive.j0]) ?_
    exact ev_pos rfl (ev_bind0 (impl_copy_eq l hl1) (Ev.now _))
  by_cases cq : q = true
  case neg => exact ⟨l, 2, Ev.bind e1 (ev_pos c (Ev.bind f1 (ev_neg cq sT))), Ev.bind e2 (ev_pos c (Ev.bind f2 (ev_neg cq iT))), hl⟩
  by_cases c0 : x.f5 = 0
  case neg =>
    have e : (x.f5 != 0) = true := by simpa using c0
    exact ⟨l, 2, Ev.bind e1 (ev_pos c (Ev.bind f1 (ev_pos cq (by rw [e]; exact sT)))), Ev.bind e2 (ev_pos c (Ev.bind f2 (ev_pos cq (by rw [e]; exact iT)))), hl⟩
  have e : (x.f5 != 0) = false := by simpa using c0
  obtain ⟨t, rs, ri, h1, h2, h3⟩ := bring_ev l x h100
  by_cases ct : t = true
  · obtain ⟨rfl, h4⟩ := h3 ct
    refine ⟨rs, 0, Ev.bind e1 (ev_pos c (Ev.bind f1 (ev_pos cq ?_))), Ev.bind e2 (ev_pos c (Ev.bind f2 (ev_pos cq ?_))), bring_B hl h100 hx h4⟩
    · rw [e]
      refine Ev.step (fun k => by rw [spec_Receive.j0]) ?_
      exact ev_neg (by simp) (ev_bind0 (spec_copy_eq l hl1) (Ev.bind h1 (ev_pos ct (Ev.now _))))
    · rw [e]
      refine Ev.step (fun k => by rw [impl_Receive.j0]) ?_
      exact ev_neg (by simp) (ev_bind0 (impl_copy_eq l hl1) (Ev.bind h2 (ev_pos ct (Ev.now _))))
  · refine ⟨l, 4, Ev.bind e1 (ev_pos c (Ev.bind f1 (ev_pos cq ?_))), Ev.bind e2 (ev_pos c (Ev.bind f2 (ev_pos cq ?_))), hl⟩
    · rw [e]
      refine Ev.step (fun k => by rw [spec_Receive.j0]) ?_
      exact ev_neg (by simp) (ev_bind0 (spec_copy_eq l hl1) (Ev.bind h1 (ev_neg ct (ev_bind0 (spec_copy_eq l hl1) (Ev.now _)))))
    · rw [e]
      refine Ev.step (fun k => by rw [impl_Receive.j0]) ?_
      exact ev_neg (by simp) (ev_bind0 (impl_copy_eq l hl1) (Ev.bind h2 (ev_neg ct (ev_bind0 (impl_copy_eq l hl1) (Ev.now _)))))

theorem FnExactReceive : laws_FnExactReceive.Pure := by
  intro l0 a0 a1 a2 a3 a4 a5 hg0 g0 g1 g2 g3 g4 g5
  apply Ev.rounds
  unfold laws_FnExactReceive.f
  obtain ⟨s, hs, h⟩ := laws_szCellS_ev l0 1048576 (by omega) (by omega) hg0
  refine Ev.bind hs ?_
  rcases h with h | ⟨n0, n1, hB0⟩
  · exact ev_pos h (Ev.now _)
  refine ev_neg (by omega) ?_
  obtain ⟨s1, hs1, h1⟩ := laws_szCell_ev ⟨a0, a1, a2, a3, a4, a5⟩ s n0 n1 ⟨g0, g1, g2, g3, g4, g5⟩
  refine Ev.bind hs1 ?_
  rcases h1 with h1 | ⟨_, _, hB1⟩
  · exact ev_pos h1 (Ev.now _)
  refine ev_neg (by omega) ?_
  have to0 := laws_toCellS_ev l0 hB0
  have to1 := laws_toCell_ev ⟨a0, a1, a2, a3, a4, a5⟩
  have hB0' : BC (l0.map cv69) := ⟨by rw [List.length_map]; exact hB0.1, fun x hx => by
    obtain ⟨y, hy, rfl⟩ := List.mem_map.1 hx
    exact cv69_B (hB0.2 y hy)⟩
  have hB1' : B76 1048576 (cv69 ⟨a0, a1, a2, a3, a4, a5⟩) := cv69_B (B69_mono n1 hB1)
  obtain ⟨r, n, h1, h2, hr⟩ := main _ _ hB0' hB1'
  have er := laws_eqCellS_ev r hr
  refine Ev.bind to0 (Ev.bind to1 (Ev.bind h1 (Ev.bind to0 (Ev.bind to1 (Ev.bind h2 (Ev.bind er (ev_pos rfl ?_)))))))
  have en : (n != n) = false := by simp
  simp only [en]
  refine Ev.step (fun k => by rw [laws_FnExactReceive.j0]) ?_
  refine ev_neg (by simp) (Ev.bind to0 (Ev.bind (laws_eqCellS_ev _ hB0') (ev_pos rfl ?_)))
  obtain ⟨q, hq, q0, q1, _⟩ := laws_markCellS_ev (l0.map cv69) 1 (by omega) (by omega) hB0'.1
  refine Ev.bind hq (ev_neg (by omega) (Ev.bind er (ev_pos rfl ?_)))
  simp only [en]
  refine Ev.step (fun k => by rw [laws_FnExactReceive.j1]) ?_
  have hm := laws_markCellS_eq r 1 (by omega) (by omega) hr.1
  have hh := laws_heldCellS_eq 1 r.length (by omega) (by omega) hr.1
  refine ev_neg (by simp) (Ev.bind hm (Ev.bind hh (ev_neg (by omega) (ev_pos rfl ?_))))
  refine Ev.bind to0 (Ev.bind to1 (Ev.bind h2 (Ev.bind er (ev_pos rfl ?_))))
  simp only [en]
  refine Ev.step (fun k => by rw [laws_FnExactReceive.j2]) ?_
  exact ev_neg (by simp) (Ev.bind hh (ev_neg (by omega) (ev_pos rfl (Ev.now _))))
end Go.Proofs.Ytflagondodkonaa.Pure
