/- What the law's helper functions answer: sizes, conversions, comparisons. By this repo's wip/tools/pg.py. -/
import Derived.Test.YtinibkdbfpafcaaZPFnMovedx0
import Derived.Test.YtinibkdbfpafcaaZPFnMovedx10
import Derived.Test.YtinibkdbfpafcaaZPFnMovedx3
import Derived.Test.YtinibkdbfpafcaaZPFnMovedx4
import Derived.Test.YtinibkdbfpafcaaZPFnMovedx6
import Derived.Test.YtinibkdbfpafcaaZPFnMovedx7
import Derived.Test.YtinibkdbfpafcaaZPFnMovedx8
import Derived.Test.YtinibkdbfpafcaaZPFnMovedx9
import Derived.Test.YtinibkdbfpafcaaZEv
set_option maxHeartbeats 2000000
set_option linter.unusedVariables false
set_option linter.unusedSimpArgs false
namespace Go.Proofs.Ytinibkdbfpafcaa.PFnMoved
open Go.RowKit Go.Proofs.YtinibkdbfpafcaaW.PrintWords Go.Proofs.YtinibkdbfpafcaaW.PrintLast Go.Proofs.Ytinibkdbfpafcaa.XEv

/-- What is counted of it is at most n. -/
def B117 (n : Int) (x : S117) : Prop := ((x.f0.size : Int) ≤ n) ∧ ((x.f1.size : Int) ≤ n) ∧ ((x.f2.size : Int) ≤ n)
theorem spec_l1In_eq (a b c : Int) : spec_l1In.f a b c = some (decide (b ≤ a ∧ a ≤ c)) := by
  unfold spec_l1In.f
  by_cases h : a ≥ b
  · rw [if_pos h]; simp [show b ≤ a from h]
  · rw [if_neg h]; simp [show ¬ b ≤ a from h]
theorem impl_between_eq (a b c : Int) : impl_between.f a b c = some (decide (b ≤ a ∧ a ≤ c)) := by
  unfold impl_between.f
  by_cases h : a ≥ b
  · rw [if_pos h]; simp [show b ≤ a from h]
  · rw [if_neg h]; simp [show ¬ b ≤ a from h]
theorem spec_l2Day_eq (a : Int) : spec_l2Day.f a = some (decide (0 ≤ a ∧ a ≤ 40000)) := by
  unfold spec_l2Day.f
  rw [spec_l1In_eq]
  rfl
theorem spec_l12Qty_eq (a : Int) : spec_l12Qty.f a = some (decide (0 ≤ a ∧ a ≤ 1000000)) := by
  unfold spec_l12Qty.f
  rw [spec_l1In_eq]
  rfl
theorem impl_isDay_eq (a : Int) : impl_isDay.f a = some (decide (0 ≤ a ∧ a ≤ 40000)) := by
  unfold impl_isDay.f
  rw [impl_between_eq]
  rfl
theorem impl_quantity_eq (a : Int) : impl_quantity.f a = some (decide (0 ≤ a ∧ a ≤ 1000000)) := by
  unfold impl_quantity.f
  rw [impl_between_eq]
  rfl
theorem impl_nameByte_eq (c : Int) : impl_nameByte.f c = some (nb c) := by
  unfold impl_nameByte.f nb
  repeat' split
  all_goals first | (congr 1; symm; simp only [decide_eq_true_eq]; omega) | (congr 1; rw [Bool.eq_iff_iff]; simp only [beq_iff_eq, decide_eq_true_eq]; omega)
theorem spec_NameOk_l0 (k : Nat) (s : ByteArray) (x : Int) : spec_NameOk.l0 (k + 1) s x = if x < (s.size : Int) then (if 0 ≤ x then (if nb (bt s x) = true then spec_NameOk.l0 k s (wrap64 (x + 1)) else some false) else none) else ((spec_l1In.f (s.size : Int) 1 20).bind fun t => some t) := by
  rw [spec_NameOk.l0]
  by_cases h : x < (s.size : Int)
  · rw [if_pos h, if_pos h]
    by_cases h0 : 0 ≤ x
    · rw [if_pos h0, if_pos h0]
      generalize bt s x = c
      generalize spec_NameOk.l0 k s (wrap64 (x + 1)) = L
      unfold nb
      simp only [decide_eq_true_eq]
      repeat' split
      all_goals first | rfl | omega
    · rw [if_neg h0, if_neg h0]
  · rw [if_neg h, if_neg h]
theorem spec_NameOk_ev (s : ByteArray) (hs : (s.size : Int) ≤ 1048576) : ∃ b, Ev (fun k => spec_NameOk.f k s) b ∧ (b = true ↔ NameIs s) := by
  have key : ∀ (d i : Nat), i + d = s.size → ∃ b, Ev (fun k => spec_NameOk.l0 k s (i : Int)) b ∧ (b = true ↔ (1 ≤ s.size ∧ s.size ≤ 20) ∧ ∀ j, i ≤ j → j < s.size → nb (bt s (j : Nat)) = true) := by
    intro d
    induction d with
    | zero =>
      intro i hi
      refine ⟨decide (1 ≤ (s.size : Int) ∧ (s.size : Int) ≤ 20), Ev.step (fun k => spec_NameOk_l0 ..) (ev_neg (by omega) (ev_bind0 (spec_l1In_eq ..) (Ev.now _))), ?_⟩
      rw [decide_eq_true_eq]
      exact ⟨fun h => ⟨by omega, fun j h1 h2 => absurd h2 (by omega)⟩, fun h => by omega⟩
    | succ d ih =>
      intro i hi
      by_cases c : nb (bt s (i : Int)) = true
      · obtain ⟨b, hb, hP⟩ := ih (i + 1) (by omega)
        refine ⟨b, Ev.step (fun k => spec_NameOk_l0 ..) (ev_pos (by omega) (ev_pos (by omega) (ev_pos c (by rw [wrap_succ (n := s.size) (i := i) (by omega) (by omega)]; exact hb)))), ?_⟩
        rw [hP]
        refine ⟨fun h => ⟨h.1, fun j h1 h2 => ?_⟩, fun h => ⟨h.1, fun j h1 h2 => h.2 j (by omega) h2⟩⟩
        rcases Nat.lt_or_ge i j with h3 | h3
        · exact h.2 j h3 h2
        · have : i = j := by omega
          subst this
          exact c
      · refine ⟨false, Ev.step (fun k => spec_NameOk_l0 ..) (ev_pos (by omega) (ev_pos (by omega) (ev_neg c (Ev.now _)))), ?_⟩
        exact ⟨fun h => (by cases h), fun h => absurd (h.2 i (Nat.le_refl _) (by omega)) c⟩
  obtain ⟨b, hb, hP⟩ := key s.size 0 (by omega)
  refine ⟨b, by unfold spec_NameOk.f; exact hb, hP.trans ⟨fun h => ⟨h.1.1, h.1.2, fun j hj => h.2 j (by omega) hj⟩, fun h => ⟨⟨h.1, h.2.1⟩, fun j _ hj => h.2.2 j hj⟩⟩⟩
theorem impl_NameOk_ev (s : ByteArray) : ∃ b, Ev (fun k => impl_NameOk.f k s) b ∧ (b = true ↔ NameIs s) := by
  have key : s.size ≤ 20 → ∀ (d i : Nat), i + d = s.size → ∃ b, Ev (fun k => impl_NameOk.l0 k s (i : Int)) b ∧ (b = true ↔ ∀ j, i ≤ j → j < s.size → nb (bt s (j : Nat)) = true) := by
    intro hs d
    induction d with
    | zero =>
      intro i hi
      refine ⟨true, Ev.step (fun k => by rw [impl_NameOk.l0]) (ev_neg (by omega) (Ev.now _)), ?_⟩
      exact ⟨fun _ j h1 h2 => absurd h2 (by omega), fun _ => rfl⟩
    | succ d ih =>
      intro i hi
      by_cases c : nb (bt s (i : Int)) = true
      · obtain ⟨b, hb, hP⟩ := ih (i + 1) (by omega)
        have hb' : Ev (fun k => impl_NameOk.l0 k s (i : Int)) b := by
          refine Ev.step (fun k => by rw [impl_NameOk.l0]) ?_
          refine ev_pos (by omega) (ev_pos (by omega) (ev_bind0 (impl_nameByte_eq ..) (ev_pos c ?_)))
          rw [wrap_succ (n := s.size) (i := i) (by omega) (by omega)]
          exact hb
        refine ⟨b, hb', ?_⟩
        rw [hP]
        refine ⟨fun h j h1 h2 => ?_, fun h j h1 h2 => h j (by omega) h2⟩
        rcases Nat.lt_or_ge i j with h3 | h3
        · exact h j h3 h2
        · have : i = j := by omega
          subst this
          exact c
      · refine ⟨false, Ev.step (fun k => by rw [impl_NameOk.l0]) (ev_pos (by omega) (ev_pos (by omega) (ev_bind0 (impl_nameByte_eq ..) (ev_neg c (Ev.now _))))), ?_⟩
        exact ⟨fun h => (by cases h), fun h => absurd (h i (Nat.le_refl _) (by omega)) c⟩
  unfold impl_NameOk.f
  by_cases c1 : (s.size : Int) < 1
  · refine ⟨false, ev_pos c1 (Ev.step (fun k => by rw [impl_NameOk.j0]) (ev_pos rfl (Ev.now _))), fun h => (by cases h), fun h => absurd h.1 (by omega)⟩
  · by_cases c2 : (s.size : Int) > 20
    · refine ⟨false, ev_neg c1 (Ev.step (fun k => by rw [impl_NameOk.j0]) (ev_pos (by simp [c2]) (Ev.now _))), fun h => (by cases h), fun h => absurd h.2.1 (by omega)⟩
    · obtain ⟨b, hb, hP⟩ := key (by omega) s.size 0 (by omega)
      have hb' : Ev (fun k => impl_NameOk.j0 k s (decide ((s.size : Int) > 20))) b := by
        refine Ev.step (fun k => by rw [impl_NameOk.j0]) ?_
        exact ev_neg (by simp; omega) hb
      refine ⟨b, ev_neg c1 hb', hP.trans ⟨fun h => ⟨by omega, by omega, fun j hj => h j (by omega) hj⟩, fun h j _ hj => h.2.2 j hj⟩⟩
/-- What a cell must be. -/
def CellIs (x : S117) : Prop := NameIs x.f0 ∧ NameIs x.f1 ∧ (x.f2.size = 0 ∨ NameIs x.f2) ∧ (0 ≤ x.f3 ∧ x.f3 ≤ 40000) ∧ (0 ≤ x.f4 ∧ x.f4 ≤ 1000000) ∧ (0 ≤ x.f5 ∧ x.f5 ≤ x.f4)
/-- Cells of one place. -/
def Same (y x : S117) : Prop := y.f0 = x.f0 ∧ y.f1 = x.f1 ∧ y.f2 = x.f2
/-- What a stock must be. -/
def StockIs (l : List S117) : Prop := (l.length : Int) ≤ 100 ∧ ∀ (i : Nat) (hi : i < l.length), CellIs l[i] ∧ ∀ (j : Nat) y, j < i → l[j]? = some y → ¬ Same y l[i]
theorem spec_cell_ev (x : S117) (hb : B117 1048576 x) : ∃ b, Ev (fun k => spec_l15Cell.f k x.f0 x.f1 x.f2 x.f3 x.f4 x.f5) b ∧ (b = true ↔ CellIs x) := by
  obtain ⟨b0, e0, p0⟩ := spec_NameOk_ev x.f0 hb.1
  obtain ⟨b1, e1, p1⟩ := spec_NameOk_ev x.f1 hb.2.1
  obtain ⟨b2, e2, p2⟩ := spec_NameOk_ev x.f2 hb.2.2
  unfold spec_l15Cell.f CellIs
  by_cases c0 : b0 = true
  case neg => exact ⟨false, Ev.bind e0 (ev_neg c0 (Ev.now _)), fun h => (by cases h), fun h => absurd (p0.2 h.1) c0⟩
  by_cases c1 : b1 = true
  case neg => exact ⟨false, Ev.bind e0 (ev_pos c0 (Ev.bind e1 (ev_neg c1 (Ev.now _)))), fun h => (by cases h), fun h => absurd (p1.2 h.2.1) c1⟩
  have tail : ∃ b, ((spec_l2Day.f x.f3).bind fun t114 => (if t114 = true then ((spec_l12Qty.f x.f4).bind fun t115 => (if t115 = true then ((spec_l1In.f x.f5 0 x.f4).bind fun t116 => (some t116)) else (some false))) else (some false))) = some b ∧ (b = true ↔ (0 ≤ x.f3 ∧ x.f3 ≤ 40000) ∧ (0 ≤ x.f4 ∧ x.f4 ≤ 1000000) ∧ (0 ≤ x.f5 ∧ x.f5 ≤ x.f4)) := by
    rw [spec_l2Day_eq, Option.bind_some]
    by_cases d0 : 0 ≤ x.f3 ∧ x.f3 ≤ 40000
    · rw [if_pos (by simpa using d0), spec_l12Qty_eq, Option.bind_some]
      by_cases d1 : 0 ≤ x.f4 ∧ x.f4 ≤ 1000000
      · rw [if_pos (by simpa using d1), spec_l1In_eq, Option.bind_some]
        refine ⟨_, rfl, ?_⟩
        rw [decide_eq_true_eq]
        exact ⟨fun h => ⟨d0, d1, h⟩, fun h => h.2.2⟩
      · rw [if_neg (by rw [decide_eq_true_eq]; exact d1)]
        exact ⟨_, rfl, fun h => (by cases h), fun h => absurd h.2.1 d1⟩
    · rw [if_neg (by rw [decide_eq_true_eq]; exact d0)]
      exact ⟨_, rfl, fun h => (by cases h), fun h => absurd h.1 d0⟩
  obtain ⟨b, eb, pb⟩ := tail
  by_cases c2 : x.f2.toList = ([] : List UInt8)
  · refine ⟨b, Ev.bind e0 (ev_pos c0 (Ev.bind e1 (ev_pos c1 (ev_pos c2 (ev_eq eb))))), ?_⟩
    rw [pb]
    exact ⟨fun h => ⟨p0.1 c0, p1.1 c1, .inl (str_nil.1 c2), h⟩, fun h => h.2.2.2⟩
  · by_cases c3 : b2 = true
    · refine ⟨b, Ev.bind e0 (ev_pos c0 (Ev.bind e1 (ev_pos c1 (ev_neg c2 (Ev.bind e2 (ev_pos c3 (ev_eq eb))))))), ?_⟩
      rw [pb]
      exact ⟨fun h => ⟨p0.1 c0, p1.1 c1, .inr (p2.1 c3), h⟩, fun h => h.2.2.2⟩
    · refine ⟨false, Ev.bind e0 (ev_pos c0 (Ev.bind e1 (ev_pos c1 (ev_neg c2 (Ev.bind e2 (ev_neg c3 (Ev.now _))))))), fun h => (by cases h), fun h => ?_⟩
      rcases h.2.2.1 with h | h
      · exact absurd (str_nil.2 h) c2
      · exact absurd (p2.2 h) c3
theorem impl_cell_ev (x : S117) (hb : B117 1048576 x) : ∃ b, Ev (fun k => impl_cellOk.f k x.f0 x.f1 x.f2 x.f3 x.f4 x.f5) b ∧ (b = true ↔ CellIs x) := by
  obtain ⟨b0, e0, p0⟩ := impl_NameOk_ev x.f0
  obtain ⟨b1, e1, p1⟩ := impl_NameOk_ev x.f1
  obtain ⟨b2, e2, p2⟩ := impl_NameOk_ev x.f2
  unfold impl_cellOk.f CellIs
  by_cases c0 : b0 = true
  case neg => exact ⟨false, Ev.bind e0 (ev_neg c0 (Ev.now _)), fun h => (by cases h), fun h => absurd (p0.2 h.1) c0⟩
  by_cases c1 : b1 = true
  case neg => exact ⟨false, Ev.bind e0 (ev_pos c0 (Ev.bind e1 (ev_neg c1 (Ev.now _)))), fun h => (by cases h), fun h => absurd (p1.2 h.2.1) c1⟩
  have tail : ∃ b, ((impl_isDay.f x.f3).bind fun t114 => (if t114 = true then ((impl_quantity.f x.f4).bind fun t115 => (if t115 = true then ((impl_between.f x.f5 0 x.f4).bind fun t116 => (some t116)) else (some false))) else (some false))) = some b ∧ (b = true ↔ (0 ≤ x.f3 ∧ x.f3 ≤ 40000) ∧ (0 ≤ x.f4 ∧ x.f4 ≤ 1000000) ∧ (0 ≤ x.f5 ∧ x.f5 ≤ x.f4)) := by
    rw [impl_isDay_eq, Option.bind_some]
    by_cases d0 : 0 ≤ x.f3 ∧ x.f3 ≤ 40000
    · rw [if_pos (by simpa using d0), impl_quantity_eq, Option.bind_some]
      by_cases d1 : 0 ≤ x.f4 ∧ x.f4 ≤ 1000000
      · rw [if_pos (by simpa using d1), impl_between_eq, Option.bind_some]
        refine ⟨_, rfl, ?_⟩
        rw [decide_eq_true_eq]
        exact ⟨fun h => ⟨d0, d1, h⟩, fun h => h.2.2⟩
      · rw [if_neg (by rw [decide_eq_true_eq]; exact d1)]
        exact ⟨_, rfl, fun h => (by cases h), fun h => absurd h.2.1 d1⟩
    · rw [if_neg (by rw [decide_eq_true_eq]; exact d0)]
      exact ⟨_, rfl, fun h => (by cases h), fun h => absurd h.1 d0⟩
  obtain ⟨b, eb, pb⟩ := tail
  by_cases c2 : x.f2.toList = ([] : List UInt8)
  · refine ⟨b, Ev.bind e0 (ev_pos c0 (Ev.bind e1 (ev_pos c1 (ev_pos c2 (ev_eq eb))))), ?_⟩
    rw [pb]
    exact ⟨fun h => ⟨p0.1 c0, p1.1 c1, .inl (str_nil.1 c2), h⟩, fun h => h.2.2.2⟩
  · by_cases c3 : b2 = true
    · refine ⟨b, Ev.bind e0 (ev_pos c0 (Ev.bind e1 (ev_pos c1 (ev_neg c2 (Ev.bind e2 (ev_pos c3 (ev_eq eb))))))), ?_⟩
      rw [pb]
      exact ⟨fun h => ⟨p0.1 c0, p1.1 c1, .inr (p2.1 c3), h⟩, fun h => h.2.2.2⟩
    · refine ⟨false, Ev.bind e0 (ev_pos c0 (Ev.bind e1 (ev_pos c1 (ev_neg c2 (Ev.bind e2 (ev_neg c3 (Ev.now _))))))), fun h => (by cases h), fun h => ?_⟩
      rcases h.2.2.1 with h | h
      · exact absurd (str_nil.2 h) c2
      · exact absurd (p2.2 h) c3
theorem spec_find_ev (l : List S117) (x : S117) (hl : (l.length : Int) ≤ 1048576) : ∃ r, Ev (fun k => spec_l15Find.f k l x.f0 x.f1 x.f2 x.f3 x.f4 x.f5) r ∧ ((r = -1 ∧ ∀ y ∈ l, ¬ Same y x) ∨ ∃ i : Nat, r = (i : Int) ∧ ∃ y, l[i]? = some y ∧ Same y x ∧ ∀ (j : Nat) z, j < i → l[j]? = some z → ¬ Same z x) := by
  unfold spec_l15Find.f
  refine first_loop l (fun k i => spec_l15Find.l0 k l i x.f0 x.f1 x.f2 x.f3 x.f4 x.f5) (fun y => Same y x) ?_ ?_
  · intro i hi
    have hrd : rd_T117 l (i : Int) = l[i] := getD_at hi _
    by_cases c0 : l[i].f0 = x.f0
    · by_cases c1 : l[i].f1 = x.f1
      · by_cases c2 : l[i].f2 = x.f2
        · refine .inl ⟨⟨c0, c1, c2⟩, ?_⟩
          refine Ev.step (fun k => by rw [spec_l15Find.l0]) ?_
          simp only [hrd, str_iff]
          exact ev_pos (by omega) (ev_pos (by omega) (ev_pos c0 (ev_pos c1 (ev_pos c2 (Ev.now _)))))
        · refine .inr ⟨fun h => c2 h.2.2, fun r hr => ?_⟩
          refine Ev.step (fun k => by rw [spec_l15Find.l0]) ?_
          simp only [hrd, str_iff]
          refine ev_pos (by omega) (ev_pos (by omega) (ev_pos c0 (ev_pos c1 (ev_neg c2 ?_))))
          rw [wrap_succ hi (by omega)]
          exact hr
      · refine .inr ⟨fun h => c1 h.2.1, fun r hr => ?_⟩
        refine Ev.step (fun k => by rw [spec_l15Find.l0]) ?_
        simp only [hrd, str_iff]
        refine ev_pos (by omega) (ev_pos (by omega) (ev_pos c0 (ev_neg c1 ?_)))
        rw [wrap_succ hi (by omega)]
        exact hr
    · refine .inr ⟨fun h => c0 h.1, fun r hr => ?_⟩
      refine Ev.step (fun k => by rw [spec_l15Find.l0]) ?_
      simp only [hrd, str_iff]
      refine ev_pos (by omega) (ev_pos (by omega) (ev_neg c0 ?_))
      rw [wrap_succ hi (by omega)]
      exact hr
  · refine Ev.step (fun k => by rw [spec_l15Find.l0]) ?_
    exact ev_neg (by omega) (Ev.now _)
theorem spec_stock_ev (l : List S117) (hl : (l.length : Int) ≤ 1048576 ∧ ∀ x ∈ l, B117 1048576 x) : ∃ b, Ev (fun k => spec_StockOk.f k l) b ∧ (b = true ↔ StockIs l) := by
  have hl1 := hl.1
  unfold spec_StockOk.f StockIs
  by_cases c : (l.length : Int) > 100
  · exact ⟨false, ev_pos c (Ev.now _), fun h => (by cases h), fun h => absurd h.1 (by omega)⟩
  obtain ⟨b, hb, hP⟩ := each_ev l (fun k i => spec_StockOk.l0 k l i) (fun i x => CellIs x ∧ ∀ (j : Nat) y, j < i → l[j]? = some y → ¬ Same y x) True (by
    intro i hi
    have hrd : rd_T117 l (i : Int) = l[i] := getD_at hi _
    have hg : l[i]? = some l[i] := List.getElem?_eq_getElem hi
    obtain ⟨b0, e0, p0⟩ := spec_cell_ev l[i] (hl.2 _ (List.getElem_mem hi))
    by_cases c0 : b0 = true
    · obtain ⟨r, er, pr⟩ := spec_find_ev l l[i] hl1
      rcases pr with ⟨_, h⟩ | ⟨q, rfl, y, hq, hs, hf⟩
      · exact absurd ⟨rfl, rfl, rfl⟩ (h _ (List.getElem_mem hi))
      · by_cases c1 : q = i
        · subst c1
          refine .inl ⟨⟨p0.1 c0, hf⟩, fun r hr => ?_⟩
          refine Ev.step (fun k => by rw [spec_StockOk.l0]) ?_
          simp only [hrd]
          refine ev_pos (by omega) (ev_pos (by omega) (Ev.bind e0 (ev_pos c0 (Ev.bind er (ev_pos rfl ?_)))))
          rw [wrap_succ hi (by omega)]
          exact hr
        · refine .inr ⟨fun h => ?_, ?_⟩
          · rcases Nat.lt_or_ge q i with h1 | h1
            · exact h.2 q y h1 hq hs
            · exact hf i _ (by omega) hg ⟨rfl, rfl, rfl⟩
          · refine Ev.step (fun k => by rw [spec_StockOk.l0]) ?_
            simp only [hrd]
            exact ev_pos (by omega) (ev_pos (by omega) (Ev.bind e0 (ev_pos c0 (Ev.bind er (ev_neg (by omega) (Ev.now _))))))
    · refine .inr ⟨fun h => c0 (p0.2 h.1), ?_⟩
      refine Ev.step (fun k => by rw [spec_StockOk.l0]) ?_
      simp only [hrd]
      exact ev_pos (by omega) (ev_pos (by omega) (Ev.bind e0 (ev_neg c0 (Ev.now _))))) (by
    refine ⟨true, ?_, by simp⟩
    refine Ev.step (fun k => by rw [spec_StockOk.l0]) ?_
    exact ev_neg (by omega) (Ev.now _))
  exact ⟨b, ev_neg c hb, hP.trans ⟨fun h => ⟨by omega, h.1⟩, fun h => ⟨h.2, True.intro⟩⟩⟩
/-- The places seen by then. -/
def seenBy (l : List S117) : Nat → List (S229 × Bool)
  | 0 => []
  | i + 1 => mset (seenBy l i) (⟨(rd_T117 l (i : Int)).f0, (rd_T117 l (i : Int)).f1, (rd_T117 l (i : Int)).f2⟩ : S229) true
theorem seenBy_get (l : List S117) (x : S117) : ∀ i, i ≤ l.length → ((mget (seenBy l i) (⟨x.f0, x.f1, x.f2⟩ : S229)).getD false = true ↔ ∃ (j : Nat) (y : S117), j < i ∧ l[j]? = some y ∧ Same y x) := by
  intro i
  induction i with
  | zero => intro _; exact ⟨fun h => by simp [seenBy, mget] at h, fun ⟨j, y, h, _⟩ => absurd h (by omega)⟩
  | succ i ih =>
    intro hi
    have hlt : i < l.length := by omega
    have hrd : rd_T117 l (i : Int) = l[i] := getD_at hlt _
    have hg : l[i]? = some l[i] := List.getElem?_eq_getElem hlt
    rw [seenBy, mget_set, hrd]
    by_cases c : (⟨l[i].f0, l[i].f1, l[i].f2⟩ : S229) = ⟨x.f0, x.f1, x.f2⟩
    · rw [if_pos c]
      injection c with c0 c1 c2
      exact ⟨fun _ => ⟨i, l[i], by omega, hg, c0, c1, c2⟩, fun _ => rfl⟩
    · rw [if_neg c, ih (by omega)]
      refine ⟨fun ⟨j, y, h1, h2, h3⟩ => ⟨j, y, by omega, h2, h3⟩, fun ⟨j, y, h1, h2, h3⟩ => ?_⟩
      rcases Nat.lt_or_ge j i with h4 | h4
      · exact ⟨j, y, h4, h2, h3⟩
      · have : j = i := by omega
        subst this
        rw [hg] at h2
        injection h2 with h2
        subst h2
        exact absurd (by rw [h3.1, h3.2.1, h3.2.2]) c
theorem impl_stock_ev (l : List S117) (hl : (l.length : Int) ≤ 1048576 ∧ ∀ x ∈ l, B117 1048576 x) : ∃ b, Ev (fun k => impl_StockOk.f k l) b ∧ (b = true ↔ StockIs l) := by
  have hl1 := hl.1
  unfold impl_StockOk.f StockIs
  by_cases c : (l.length : Int) > 100
  · exact ⟨false, ev_pos c (Ev.now _), fun h => (by cases h), fun h => absurd h.1 (by omega)⟩
  obtain ⟨b, hb, hP⟩ := each_ev l (fun k i => impl_StockOk.l0 k (seenBy l i.toNat) l (l.length : Int) i) (fun i x => CellIs x ∧ ∀ (j : Nat) y, j < i → l[j]? = some y → ¬ Same y x) True (by
    intro i hi
    have hrd : rd_T117 l (i : Int) = l[i] := getD_at hi _
    have hB := hl.2 _ (List.getElem_mem hi)
    have hb0 := hB.1
    have hb1 := hB.2.1
    have hb2 := hB.2.2
    obtain ⟨b0, e0, p0⟩ := impl_cell_ev l[i] hB
    simp only [Int.toNat_natCast]
    have hw : ∀ x : S117, impl_Cell_where.f x.f0 x.f1 x.f2 x.f3 x.f4 x.f5 = some (x.f0, x.f1, x.f2) := fun _ => rfl
    by_cases c0 : b0 = true
    · by_cases c1 : (mget (seenBy l i) (⟨l[i].f0, l[i].f1, l[i].f2⟩ : S229)).getD false = true
      · refine .inr ⟨fun h => ?_, ?_⟩
        · obtain ⟨j, y, h1, h2, h3⟩ := (seenBy_get l l[i] i (by omega)).1 c1
          exact h.2 j y h1 h2 h3
        · refine Ev.step (fun k => by rw [impl_StockOk.l0]) ?_
          simp only [hrd, hw, Option.bind_some]
          exact ev_pos (by omega) (ev_pos (by omega) (ev_pos (by omega) (Ev.bind e0 (ev_pos c0 (ev_pos (by omega) (ev_pos (by omega) (ev_pos (by omega) (ev_pos c1 (Ev.now _)))))))))
      · refine .inl ⟨⟨p0.1 c0, fun j y h1 h2 h3 => c1 ((seenBy_get l l[i] i (by omega)).2 ⟨j, y, h1, h2, h3⟩)⟩, fun r hr => ?_⟩
        refine Ev.step (fun k => by rw [impl_StockOk.l0]) ?_
        simp only [hrd, hw, Option.bind_some]
        refine ev_pos (by omega) (ev_pos (by omega) (ev_pos (by omega) (Ev.bind e0 (ev_pos c0 (ev_pos (by omega) (ev_pos (by omega) (ev_pos (by omega) (ev_neg c1 (ev_pos (by omega) (ev_pos (by omega) (ev_pos (by omega) ?_)))))))))))
        rw [wrap_succ hi (by omega)]
        rw [seenBy, hrd] at hr
        exact hr
    · refine .inr ⟨fun h => c0 (p0.2 h.1), ?_⟩
      refine Ev.step (fun k => by rw [impl_StockOk.l0]) ?_
      simp only [hrd]
      exact ev_pos (by omega) (ev_pos (by omega) (ev_pos (by omega) (Ev.bind e0 (ev_neg c0 (Ev.now _)))))) (by
    refine ⟨true, ?_, by simp⟩
    refine Ev.step (fun k => by rw [impl_StockOk.l0]) ?_
    exact ev_neg (by omega) (Ev.now _))
  exact ⟨b, ev_neg c hb, hP.trans ⟨fun h => ⟨by omega, h.1⟩, fun h => ⟨h.2, True.intro⟩⟩⟩
end Go.Proofs.Ytinibkdbfpafcaa.PFnMoved
