/- What the law's helper functions answer: sizes, conversions, comparisons. By this repo's wip/tools/pg.py. -/
import Derived.Test.YtdnhpicgjkddbaaZPFnExactHeadOfx0
import Derived.Test.YtdnhpicgjkddbaaZPFnExactHeadOfx1
import Derived.Test.YtdnhpicgjkddbaaZPFnExactHeadOfx2
import Derived.Test.YtdnhpicgjkddbaaZPFnExactHeadOfx3
import Derived.Test.YtdnhpicgjkddbaaZPFnExactHeadOfx4
import Derived.Test.YtdnhpicgjkddbaaZPFnExactHeadOfx5
import Derived.Test.YtdnhpicgjkddbaaZEv
set_option maxHeartbeats 2000000
set_option linter.unusedVariables false
set_option linter.unusedSimpArgs false
namespace Go.Proofs.Ytdnhpicgjkddbaa.PFnExactHeadOf
open Go.RowKit Go.Proofs.YtdnhpicgjkddbaaW.PrintWords Go.Proofs.YtdnhpicgjkddbaaW.PrintLast Go.Proofs.Ytdnhpicgjkddbaa.XEv

theorem laws_szLineS_ev (l : List (S254)) (n : Int) (h0 : 0 ≤ n) (h1 : n ≤ 1048576) (hg : l.length ≤ maxLen ∧ ∀ a_ ∈ l, G254 a_) : ∃ r, Ev (fun _ => laws_szLineS.f l n) r ∧ (r < 0 ∨ (0 ≤ r ∧ r ≤ n ∧ (l.length : Int) ≤ n)) := by
  have hl := hg.1
  unfold maxLen at hl
  have hw : wrap64 (n - (l.length : Int)) = n - (l.length : Int) := wrap_id (by omega) (by omega)
  unfold laws_szLineS.f
  simp only [hw]
  by_cases c : n - (l.length : Int) < 0
  · exact ⟨-1, ev_pos c (Ev.now _), .inl (by decide)⟩
  · exact ⟨n - (l.length : Int), ev_neg c (Ev.now _), .inr ⟨by omega, by omega, by omega⟩⟩
/-- What is counted of it is at most n. -/
def B177 (n : Int) (x : S177) : Prop := ((x.f2.size : Int) ≤ n) ∧ ((x.f3.length : Int) ≤ n)
theorem B177_mono {n m : Int} {x : S177} (h : n ≤ m) (hb : B177 n x) : B177 m x := ⟨Int.le_trans hb.1 h, Int.le_trans hb.2 h⟩
/-- What is counted of it is at most n. -/
def B96 (n : Int) (x : S96) : Prop := ((x.f2.size : Int) ≤ n) ∧ ((x.f3.length : Int) ≤ n)
theorem laws_szEntry_ev (x : S177) (n : Int) (h0 : 0 ≤ n) (h1 : n ≤ 1048576) (hg : G177 x) : ∃ r, Ev (fun _ => laws_szEntry.f (x.f0) (x.f1) (x.f2) (x.f3) n) r ∧ (r < 0 ∨ (0 ≤ r ∧ r ≤ n ∧ B177 n x)) := by
  unfold laws_szEntry.f
  have hs2 := hg.2.2.1
  unfold maxLen at hs2
  have hw2 : wrap64 (n - (x.f2.size : Int)) = n - (x.f2.size : Int) := wrap_id (by omega) (by omega)
  by_cases c2 : wrap64 (n - (x.f2.size : Int)) < 0
  · exact ⟨-1, ev_pos c2 (Ev.now _), .inl (by decide)⟩
  · skip
    obtain ⟨r3, e3, h3⟩ := laws_szLineS_ev x.f3 (wrap64 (n - (x.f2.size : Int))) (by omega) (by omega) hg.2.2.2
    rcases h3 with h3 | ⟨p3, q3, b3⟩
    · exact ⟨-1, ev_neg c2 (Ev.bind e3 (ev_pos h3 (Ev.now _))), .inl (by decide)⟩
    · skip
      exact ⟨r3, ev_neg c2 (Ev.bind e3 (ev_neg (by omega) (Ev.now _))), .inr ⟨by omega, by omega, ⟨(by omega : (x.f2.size : Int) ≤ n), Int.le_trans b3 (by omega)⟩⟩⟩
theorem laws_szEntryS_ev (l : List (S177)) (n : Int) (h0 : 0 ≤ n) (h1 : n ≤ 1048576) (hg : l.length ≤ maxLen ∧ ∀ a_ ∈ l, G177 a_) : ∃ r, Ev (fun k => laws_szEntryS.f k l n) r ∧ (r < 0 ∨ (0 ≤ r ∧ r ≤ n ∧ (l.length : Int) ≤ n ∧ ∀ a_ ∈ l, B177 n a_)) := by
  have hl := hg.1
  unfold maxLen at hl
  have hw : wrap64 (n - (l.length : Int)) = n - (l.length : Int) := wrap_id (by omega) (by omega)
  unfold laws_szEntryS.f
  simp only [hw]
  by_cases c : n - (l.length : Int) < 0
  · exact ⟨-1, ev_pos c (Ev.now _), .inl (by decide)⟩
  · have tl := take_loop (fun k left i => laws_szEntryS.l0 k l left i) l (fun n a_ => B177 n a_) (fun _ _ _ h hb => B177_mono h hb) ?_ ?_ (n - (l.length : Int)) (by omega) (by omega)
    · obtain ⟨r, hr, h⟩ := tl
      refine ⟨r, ev_neg c hr, ?_⟩
      rcases h with h | ⟨a, b, c'⟩
      · exact .inl h
      · exact .inr ⟨a, by omega, by omega, fun x hx => B177_mono (by omega) (c' x hx)⟩
    · intro left i hi h0 h1
      have hrd : rd_T177 l (i : Int) = l[i] := getD_at hi _
      obtain ⟨r, hr, h⟩ := laws_szEntry_ev l[i] left h0 h1 (hg.2 _ (List.getElem_mem hi))
      refine ⟨r, ?_⟩
      rcases h with h | ⟨a, b, c'⟩
      · refine .inl ⟨h, Ev.step (fun k => by rw [laws_szEntryS.l0]) ?_⟩
        simp only [hrd]
        exact ev_pos (by omega) (ev_pos (by omega) (Ev.bind hr (ev_pos h (Ev.now _))))
      · refine .inr ⟨a, b, c', fun q hq => Ev.step (fun k => by rw [laws_szEntryS.l0]) ?_⟩
        simp only [hrd]
        refine ev_pos (by omega) (ev_pos (by omega) (Ev.bind hr (ev_neg (by omega) ?_)))
        rw [wrap_succ hi (by omega)]
        exact hq
    · intro left
      refine Ev.step (fun k => by rw [laws_szEntryS.l0]) ?_
      exact ev_neg (by omega) (Ev.now _)
/-- The law's own value as the program's. -/
def cv254 (x : S254) : S98 := ⟨x.f0, x.f1, x.f2, x.f3, x.f4⟩
theorem laws_toLine_ev (x : S254) : Ev (fun _ => laws_toLine.f (x.f0) (x.f1) (x.f2) (x.f3) (x.f4)) (x.f0, x.f1, x.f2, x.f3, x.f4) := by
  unfold laws_toLine.f
  exact Ev.now _
theorem laws_toLineS_ev (l : List (S254)) (hb : (l.length : Int) ≤ 1048576) : Ev (fun k => laws_toLineS.f k l) (l.map cv254) := by
  have hl := hb
  unfold laws_toLineS.f
  refine ev_pos (by omega) (ev_pos (by omega) ?_)
  have hfl := fill_loop (fun k ys i => laws_toLineS.l0 k l ys i) cv254 (z98) l ?_ ?_
  · simpa only [Int.toNat_natCast] using hfl
  · intro ys i hi r hy hq
    have hrd : rd_T254 l (i : Int) = l[i] := getD_at hi _
    refine Ev.step (fun k => by rw [laws_toLineS.l0]) ?_
    simp only [hrd]
    refine ev_pos (by omega) (ev_pos (by omega) (Ev.bind (laws_toLine_ev l[i]) (ev_pos (by omega) ?_)))
    rw [wrap_succ hi (by omega)]
    simp only [Int.toNat_natCast]
    exact hq
  · intro ys
    refine Ev.step (fun k => by rw [laws_toLineS.l0]) ?_
    exact ev_neg (by omega) (Ev.now _)
/-- The law's own value as the program's. -/
def cv177 (x : S177) : S96 := ⟨x.f0, x.f1, x.f2, x.f3.map cv254⟩
theorem cv177_B {n : Int} {x : S177} (hb : B177 n x) : B96 n (cv177 x) := ⟨hb.1, (by simp only [cv177, B96, List.length_map]; exact hb.2)⟩
theorem laws_toEntry_ev (x : S177) (hb : B177 1048576 x) : Ev (fun k => laws_toEntry.f k (x.f0) (x.f1) (x.f2) (x.f3)) (x.f0, x.f1, x.f2, x.f3.map cv254) := by
  unfold laws_toEntry.f
  exact Ev.bind (laws_toLineS_ev x.f3 hb.2) (Ev.now _)
theorem laws_toEntryS_ev (l : List (S177)) (hb : (l.length : Int) ≤ 1048576 ∧ ∀ a_ ∈ l, B177 1048576 a_) : Ev (fun k => laws_toEntryS.f k l) (l.map cv177) := by
  have hl := hb.1
  unfold laws_toEntryS.f
  refine ev_pos (by omega) (ev_pos (by omega) ?_)
  have hfl := fill_loop (fun k ys i => laws_toEntryS.l0 k l ys i) cv177 (z96) l ?_ ?_
  · simpa only [Int.toNat_natCast] using hfl
  · intro ys i hi r hy hq
    have hrd : rd_T177 l (i : Int) = l[i] := getD_at hi _
    refine Ev.step (fun k => by rw [laws_toEntryS.l0]) ?_
    simp only [hrd]
    refine ev_pos (by omega) (ev_pos (by omega) (Ev.bind (laws_toEntry_ev l[i] (hb.2 _ (List.getElem_mem hi))) (ev_pos (by omega) ?_)))
    rw [wrap_succ hi (by omega)]
    simp only [Int.toNat_natCast]
    exact hq
  · intro ys
    refine Ev.step (fun k => by rw [laws_toEntryS.l0]) ?_
    exact ev_neg (by omega) (Ev.now _)
theorem laws_eqLine_ev (x : S98) : Ev (fun _ => laws_eqLine.f (x.f0) (x.f1) (x.f2) (x.f3) (x.f4) (x.f0) (x.f1) (x.f2) (x.f3) (x.f4)) true := by
  unfold laws_eqLine.f
  refine ev_pos rfl ?_
  refine ev_pos rfl ?_
  refine ev_pos rfl ?_
  refine ev_pos rfl ?_
  refine ev_pos rfl ?_
  exact Ev.now _
theorem laws_eqLineS_ev (l : List (S98)) (hb : (l.length : Int) ≤ 1048576) : Ev (fun k => laws_eqLineS.f k l l) true := by
  have hl := hb
  unfold laws_eqLineS.f
  refine ev_pos rfl ?_
  refine all_loop (fun k i => laws_eqLineS.l0 k l l i) l.length ?_ ?_
  · intro i hi hq
    refine Ev.step (fun k => by rw [laws_eqLineS.l0]) ?_
    have hrd : rd_T98 l (i : Int) = l[i] := getD_at hi _
    simp only [hrd]
    refine ev_pos (by omega) (ev_pos (by omega) (ev_pos (by omega) (Ev.bind (laws_eqLine_ev l[i]) (ev_pos rfl ?_))))
    rw [wrap_succ hi (by omega)]
    exact hq
  · refine Ev.step (fun k => by rw [laws_eqLineS.l0]) ?_
    exact ev_neg (by omega) (Ev.now _)
theorem laws_eqEntry_ev (x : S96) (hb : B96 1048576 x) : Ev (fun k => laws_eqEntry.f k (x.f0) (x.f1) (x.f2) (x.f3) (x.f0) (x.f1) (x.f2) (x.f3)) true := by
  unfold laws_eqEntry.f
  refine ev_pos rfl ?_
  refine ev_pos rfl ?_
  refine ev_pos rfl ?_
  refine Ev.bind (laws_eqLineS_ev x.f3 hb.2) (ev_pos rfl ?_)
  exact Ev.now _
theorem laws_eqEntryS_ev (l : List (S96)) (hb : (l.length : Int) ≤ 1048576 ∧ ∀ a_ ∈ l, B96 1048576 a_) : Ev (fun k => laws_eqEntryS.f k l l) true := by
  have hl := hb.1
  unfold laws_eqEntryS.f
  refine ev_pos rfl ?_
  refine all_loop (fun k i => laws_eqEntryS.l0 k l l i) l.length ?_ ?_
  · intro i hi hq
    refine Ev.step (fun k => by rw [laws_eqEntryS.l0]) ?_
    have hrd : rd_T96 l (i : Int) = l[i] := getD_at hi _
    simp only [hrd]
    refine ev_pos (by omega) (ev_pos (by omega) (ev_pos (by omega) (Ev.bind (laws_eqEntry_ev l[i] (hb.2 _ (List.getElem_mem hi))) (ev_pos rfl ?_))))
    rw [wrap_succ hi (by omega)]
    exact hq
  · refine Ev.step (fun k => by rw [laws_eqEntryS.l0]) ?_
    exact ev_neg (by omega) (Ev.now _)
theorem spec_l1In_eq (a b c : Int) : spec_l1In.f a b c = some (decide (b ≤ a ∧ a ≤ c)) := by
  unfold spec_l1In.f
  by_cases h : a ≥ b
  · rw [if_pos h]; simp [show b ≤ a from h]
  · rw [if_neg h]; simp [show ¬ b ≤ a from h]
theorem impl_between_eq (a b c : Int) : impl_between.f a b c = some (decide (b ≤ a ∧ a ≤ c)) := by
  unfold impl_between.f
  by_cases h : a ≥ b
  · rw [if_pos h]; simp [show b ≤ a from h]
  · rw [if_neg h]; simp [show ¬ b ≤ a from h]
end Go.Proofs.Ytdnhpicgjkddbaa.PFnExactHeadOf
