/- What the law's helper functions answer: sizes, conversions, comparisons. By this repo's wip/tools/pg.py. -/
import Derived.Test.YtdnhpicgjkddbaaZPFnExactAllotx0
import Derived.Test.YtdnhpicgjkddbaaZPFnExactAllotx1
import Derived.Test.YtdnhpicgjkddbaaZPFnExactAllotx10
import Derived.Test.YtdnhpicgjkddbaaZPFnExactAllotx11
import Derived.Test.YtdnhpicgjkddbaaZPFnExactAllotx12
import Derived.Test.YtdnhpicgjkddbaaZPFnExactAllotx3
import Derived.Test.YtdnhpicgjkddbaaZPFnExactAllotx4
import Derived.Test.YtdnhpicgjkddbaaZPFnExactAllotx6
import Derived.Test.YtdnhpicgjkddbaaZEv
set_option maxHeartbeats 2000000
set_option linter.unusedVariables false
set_option linter.unusedSimpArgs false
namespace Go.Proofs.Ytdnhpicgjkddbaa.PFnExactAllot
open Go.RowKit Go.Proofs.YtdnhpicgjkddbaaW.PrintWords Go.Proofs.YtdnhpicgjkddbaaW.PrintLast Go.Proofs.Ytdnhpicgjkddbaa.XEv

theorem laws_szMarkS_ev (l : List (S248)) (n : Int) (h0 : 0 ≤ n) (h1 : n ≤ 1048576) (hg : l.length ≤ maxLen ∧ ∀ a_ ∈ l, G248 a_) : ∃ r, Ev (fun _ => laws_szMarkS.f l n) r ∧ (r < 0 ∨ (0 ≤ r ∧ r ≤ n ∧ (l.length : Int) ≤ n)) := by
  have hl := hg.1
  unfold maxLen at hl
  have hw : wrap64 (n - (l.length : Int)) = n - (l.length : Int) := wrap_id (by omega) (by omega)
  unfold laws_szMarkS.f
  simp only [hw]
  by_cases c : n - (l.length : Int) < 0
  · exact ⟨-1, ev_pos c (Ev.now _), .inl (by decide)⟩
  · exact ⟨n - (l.length : Int), ev_neg c (Ev.now _), .inr ⟨by omega, by omega, by omega⟩⟩
/-- What is counted of it is at most n. -/
def B139 (n : Int) (x : S139) : Prop := ((x.f3.length : Int) ≤ n)
theorem B139_mono {n m : Int} {x : S139} (h : n ≤ m) (hb : B139 n x) : B139 m x := Int.le_trans hb h
/-- What is counted of it is at most n. -/
def B143 (n : Int) (x : S143) : Prop := ((x.f3.length : Int) ≤ n)
theorem laws_szDuty_ev (x : S139) (n : Int) (h0 : 0 ≤ n) (h1 : n ≤ 1048576) (hg : G139 x) : ∃ r, Ev (fun _ => laws_szDuty.f (x.f0) (x.f1) (x.f2) (x.f3) n) r ∧ (r < 0 ∨ (0 ≤ r ∧ r ≤ n ∧ B139 n x)) := by
  unfold laws_szDuty.f
  obtain ⟨r3, e3, h3⟩ := laws_szMarkS_ev x.f3 n (by omega) (by omega) hg.2.2.2
  rcases h3 with h3 | ⟨p3, q3, b3⟩
  · exact ⟨-1, Ev.bind e3 (ev_pos h3 (Ev.now _)), .inl (by decide)⟩
  · skip
    exact ⟨r3, Ev.bind e3 (ev_neg (by omega) (Ev.now _)), .inr ⟨by omega, by omega, Int.le_trans b3 (by omega)⟩⟩
theorem laws_szDutyS_ev (l : List (S139)) (n : Int) (h0 : 0 ≤ n) (h1 : n ≤ 1048576) (hg : l.length ≤ maxLen ∧ ∀ a_ ∈ l, G139 a_) : ∃ r, Ev (fun k => laws_szDutyS.f k l n) r ∧ (r < 0 ∨ (0 ≤ r ∧ r ≤ n ∧ (l.length : Int) ≤ n ∧ ∀ a_ ∈ l, B139 n a_)) := by
  have hl := hg.1
  unfold maxLen at hl
  have hw : wrap64 (n - (l.length : Int)) = n - (l.length : Int) := wrap_id (by omega) (by omega)
  unfold laws_szDutyS.f
  simp only [hw]
  by_cases c : n - (l.length : Int) < 0
  · exact ⟨-1, ev_pos c (Ev.now _), .inl (by decide)⟩
  · have tl := take_loop (fun k left i => laws_szDutyS.l0 k l left i) l (fun n a_ => B139 n a_) (fun _ _ _ h hb => B139_mono h hb) ?_ ?_ (n - (l.length : Int)) (by omega) (by omega)
    · obtain ⟨r, hr, h⟩ := tl
      refine ⟨r, ev_neg c hr, ?_⟩
      rcases h with h | ⟨a, b, c'⟩
      · exact .inl h
      · exact .inr ⟨a, by omega, by omega, fun x hx => B139_mono (by omega) (c' x hx)⟩
    · intro left i hi h0 h1
      have hrd : rd_T139 l (i : Int) = l[i] := getD_at hi _
      obtain ⟨r, hr, h⟩ := laws_szDuty_ev l[i] left h0 h1 (hg.2 _ (List.getElem_mem hi))
      refine ⟨r, ?_⟩
      rcases h with h | ⟨a, b, c'⟩
      · refine .inl ⟨h, Ev.step (fun k => by rw [laws_szDutyS.l0]) ?_⟩
        simp only [hrd]
        exact ev_pos (by omega) (ev_pos (by omega) (Ev.bind hr (ev_pos h (Ev.now _))))
      · refine .inr ⟨a, b, c', fun q hq => Ev.step (fun k => by rw [laws_szDutyS.l0]) ?_⟩
        simp only [hrd]
        refine ev_pos (by omega) (ev_pos (by omega) (Ev.bind hr (ev_neg (by omega) ?_)))
        rw [wrap_succ hi (by omega)]
        exact hq
    · intro left
      refine Ev.step (fun k => by rw [laws_szDutyS.l0]) ?_
      exact ev_neg (by omega) (Ev.now _)
/-- The law's own value as the program's. -/
def cv248 (x : S248) : S218 := ⟨x.f0, x.f1⟩
theorem laws_toMark_ev (x : S248) : Ev (fun _ => laws_toMark.f (x.f0) (x.f1)) (x.f0, x.f1) := by
  unfold laws_toMark.f
  exact Ev.now _
theorem laws_toMarkS_ev (l : List (S248)) (hb : (l.length : Int) ≤ 1048576) : Ev (fun k => laws_toMarkS.f k l) (l.map cv248) := by
  have hl := hb
  unfold laws_toMarkS.f
  refine ev_pos (by omega) (ev_pos (by omega) ?_)
  have hfl := fill_loop (fun k ys i => laws_toMarkS.l0 k l ys i) cv248 (z218) l ?_ ?_
  · simpa only [Int.toNat_natCast] using hfl
  · intro ys i hi r hy hq
    have hrd : rd_T248 l (i : Int) = l[i] := getD_at hi _
    refine Ev.step (fun k => by rw [laws_toMarkS.l0]) ?_
    simp only [hrd]
    refine ev_pos (by omega) (ev_pos (by omega) (Ev.bind (laws_toMark_ev l[i]) (ev_pos (by omega) ?_)))
    rw [wrap_succ hi (by omega)]
    simp only [Int.toNat_natCast]
    exact hq
  · intro ys
    refine Ev.step (fun k => by rw [laws_toMarkS.l0]) ?_
    exact ev_neg (by omega) (Ev.now _)
/-- The law's own value as the program's. -/
def cv139 (x : S139) : S143 := ⟨x.f0, x.f1, x.f2, x.f3.map cv248⟩
theorem cv139_B {n : Int} {x : S139} (hb : B139 n x) : B143 n (cv139 x) := (by simp only [cv139, B143, List.length_map]; exact hb)
theorem laws_toDuty_ev (x : S139) (hb : B139 1048576 x) : Ev (fun k => laws_toDuty.f k (x.f0) (x.f1) (x.f2) (x.f3)) (x.f0, x.f1, x.f2, x.f3.map cv248) := by
  unfold laws_toDuty.f
  exact Ev.bind (laws_toMarkS_ev x.f3 hb) (Ev.now _)
theorem laws_toDutyS_ev (l : List (S139)) (hb : (l.length : Int) ≤ 1048576 ∧ ∀ a_ ∈ l, B139 1048576 a_) : Ev (fun k => laws_toDutyS.f k l) (l.map cv139) := by
  have hl := hb.1
  unfold laws_toDutyS.f
  refine ev_pos (by omega) (ev_pos (by omega) ?_)
  have hfl := fill_loop (fun k ys i => laws_toDutyS.l0 k l ys i) cv139 (z143) l ?_ ?_
  · simpa only [Int.toNat_natCast] using hfl
  · intro ys i hi r hy hq
    have hrd : rd_T139 l (i : Int) = l[i] := getD_at hi _
    refine Ev.step (fun k => by rw [laws_toDutyS.l0]) ?_
    simp only [hrd]
    refine ev_pos (by omega) (ev_pos (by omega) (Ev.bind (laws_toDuty_ev l[i] (hb.2 _ (List.getElem_mem hi))) (ev_pos (by omega) ?_)))
    rw [wrap_succ hi (by omega)]
    simp only [Int.toNat_natCast]
    exact hq
  · intro ys
    refine Ev.step (fun k => by rw [laws_toDutyS.l0]) ?_
    exact ev_neg (by omega) (Ev.now _)
theorem laws_eqIntS_ev (l : List (Int)) (hb : (l.length : Int) ≤ 1048576) : Ev (fun k => laws_eqIntS.f k l l) true := by
  have hl := hb
  unfold laws_eqIntS.f
  refine ev_pos rfl ?_
  refine all_loop (fun k i => laws_eqIntS.l0 k l l i) l.length ?_ ?_
  · intro i hi hq
    refine Ev.step (fun k => by rw [laws_eqIntS.l0]) ?_
    refine ev_pos (by omega) (ev_pos (by omega) (ev_pos (by omega) (ev_pos rfl ?_)))
    rw [wrap_succ hi (by omega)]
    exact hq
  · refine Ev.step (fun k => by rw [laws_eqIntS.l0]) ?_
    exact ev_neg (by omega) (Ev.now _)
theorem laws_eqMark_ev (x : S218) : Ev (fun _ => laws_eqMark.f (x.f0) (x.f1) (x.f0) (x.f1)) true := by
  unfold laws_eqMark.f
  refine ev_pos rfl ?_
  refine ev_pos rfl ?_
  exact Ev.now _
theorem laws_eqMarkS_ev (l : List (S218)) (hb : (l.length : Int) ≤ 1048576) : Ev (fun k => laws_eqMarkS.f k l l) true := by
  have hl := hb
  unfold laws_eqMarkS.f
  refine ev_pos rfl ?_
  refine all_loop (fun k i => laws_eqMarkS.l0 k l l i) l.length ?_ ?_
  · intro i hi hq
    refine Ev.step (fun k => by rw [laws_eqMarkS.l0]) ?_
    have hrd : rd_T218 l (i : Int) = l[i] := getD_at hi _
    simp only [hrd]
    refine ev_pos (by omega) (ev_pos (by omega) (ev_pos (by omega) (Ev.bind (laws_eqMark_ev l[i]) (ev_pos rfl ?_))))
    rw [wrap_succ hi (by omega)]
    exact hq
  · refine Ev.step (fun k => by rw [laws_eqMarkS.l0]) ?_
    exact ev_neg (by omega) (Ev.now _)
theorem laws_eqDuty_ev (x : S143) (hb : B143 1048576 x) : Ev (fun k => laws_eqDuty.f k (x.f0) (x.f1) (x.f2) (x.f3) (x.f0) (x.f1) (x.f2) (x.f3)) true := by
  unfold laws_eqDuty.f
  refine ev_pos rfl ?_
  refine ev_pos rfl ?_
  refine ev_pos rfl ?_
  refine Ev.bind (laws_eqMarkS_ev x.f3 hb) (ev_pos rfl ?_)
  exact Ev.now _
theorem laws_eqDutyS_ev (l : List (S143)) (hb : (l.length : Int) ≤ 1048576 ∧ ∀ a_ ∈ l, B143 1048576 a_) : Ev (fun k => laws_eqDutyS.f k l l) true := by
  have hl := hb.1
  unfold laws_eqDutyS.f
  refine ev_pos rfl ?_
  refine all_loop (fun k i => laws_eqDutyS.l0 k l l i) l.length ?_ ?_
  · intro i hi hq
    refine Ev.step (fun k => by rw [laws_eqDutyS.l0]) ?_
    have hrd : rd_T143 l (i : Int) = l[i] := getD_at hi _
    simp only [hrd]
    refine ev_pos (by omega) (ev_pos (by omega) (ev_pos (by omega) (Ev.bind (laws_eqDuty_ev l[i] (hb.2 _ (List.getElem_mem hi))) (ev_pos rfl ?_))))
    rw [wrap_succ hi (by omega)]
    exact hq
  · refine Ev.step (fun k => by rw [laws_eqDutyS.l0]) ?_
    exact ev_neg (by omega) (Ev.now _)
-- no lemma for laws_markDutyS
-- no lemma of the like for laws_markDutyS
theorem laws_markIntS_ev (l : List Int) (n : Int) (h0 : 0 ≤ n) (h1 : n ≤ 2305843009213693952) (hb : (l.length : Int) ≤ 1048576) : Ev (fun k => laws_markIntS.f k l n) (n + l.length, seqFrom n l.length) := by
  unfold laws_markIntS.f
  refine markInt_loop (fun k xs n i => laws_markIntS.l0 k xs n i) l.length ?_ ?_ l n rfl h0 (by omega)
  · intro xs n i hi hx r hr
    refine Ev.step (fun k => by rw [laws_markIntS.l0]) ?_
    refine ev_pos (by omega) (ev_pos (by omega) ?_)
    rw [wrap_succ hi (by omega)]
    simp only [Int.toNat_natCast]
    exact hr
  · intro xs n hx
    refine Ev.step (fun k => by rw [laws_markIntS.l0]) ?_
    exact ev_neg (by omega) (Ev.now _)
theorem laws_heldIntS_ev (n : Int) (m : Nat) (h0 : 0 ≤ n) (h1 : n ≤ 2305843009213693952) (hb : (m : Int) ≤ 1048576) : Ev (fun k => laws_heldIntS.f k (seqFrom n m) n) (n + m) := by
  unfold laws_heldIntS.f
  refine held_loop (fun k q i => laws_heldIntS.l0 k (seqFrom n m) q i) m n h0 (by omega) ?_ ?_
  · intro i hi r hr
    refine Ev.step (fun k => by rw [laws_heldIntS.l0]) ?_
    simp only [seqFrom_rd n hi, seqFrom_length]
    refine ev_pos (by omega) (ev_pos (by omega) (ev_pos (by first | rfl | trivial) ?_))
    rw [wrap_succ hi (by omega)]
    exact hr
  · refine Ev.step (fun k => by rw [laws_heldIntS.l0]) ?_
    exact ev_neg (by rw [seqFrom_length]; omega) (Ev.now _)
theorem spec_l1In_eq (a b c : Int) : spec_l1In.f a b c = some (decide (b ≤ a ∧ a ≤ c)) := by
  unfold spec_l1In.f
  by_cases h : a ≥ b
  · rw [if_pos h]; simp [show b ≤ a from h]
  · rw [if_neg h]; simp [show ¬ b ≤ a from h]
theorem impl_between_eq (a b c : Int) : impl_between.f a b c = some (decide (b ≤ a ∧ a ≤ c)) := by
  unfold impl_between.f
  by_cases h : a ≥ b
  · rw [if_pos h]; simp [show b ≤ a from h]
  · rw [if_neg h]; simp [show ¬ b ≤ a from h]
theorem spec_l1Amount_eq (a : Int) : spec_l1Amount.f a = some (decide (-100000000000 ≤ a ∧ a ≤ 100000000000)) := by
  unfold spec_l1Amount.f
  rw [spec_l1In_eq]
  rfl
theorem spec_l1Factor_eq (a : Int) : spec_l1Factor.f a = some (decide (0 ≤ a ∧ a ≤ 10000000)) := by
  unfold spec_l1Factor.f
  rw [spec_l1In_eq]
  rfl
theorem spec_l2Day_eq (a : Int) : spec_l2Day.f a = some (decide (0 ≤ a ∧ a ≤ 40000)) := by
  unfold spec_l2Day.f
  rw [spec_l1In_eq]
  rfl
theorem impl_amount_eq (a : Int) : impl_amount.f a = some (decide (-100000000000 ≤ a ∧ a ≤ 100000000000)) := by
  unfold impl_amount.f
  rw [impl_between_eq]
  rfl
theorem impl_factor_eq (a : Int) : impl_factor.f a = some (decide (0 ≤ a ∧ a ≤ 10000000)) := by
  unfold impl_factor.f
  rw [impl_between_eq]
  rfl
theorem impl_isDay_eq (a : Int) : impl_isDay.f a = some (decide (0 ≤ a ∧ a ≤ 40000)) := by
  unfold impl_isDay.f
  rw [impl_between_eq]
  rfl
end Go.Proofs.Ytdnhpicgjkddbaa.PFnExactAllot
