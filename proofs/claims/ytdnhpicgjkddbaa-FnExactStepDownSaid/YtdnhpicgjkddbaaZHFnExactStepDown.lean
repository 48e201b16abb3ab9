/- What the law's helper functions answer: sizes, conversions, comparisons. By this repo's wip/tools/pg.py. -/
import Derived.Test.YtdnhpicgjkddbaaZPFnExactStepDownx0
import Derived.Test.YtdnhpicgjkddbaaZPFnExactStepDownx1
import Derived.Test.YtdnhpicgjkddbaaZPFnExactStepDownx11
import Derived.Test.YtdnhpicgjkddbaaZPFnExactStepDownx5
import Derived.Test.YtdnhpicgjkddbaaZEv
set_option maxHeartbeats 2000000
set_option linter.unusedVariables false
set_option linter.unusedSimpArgs false
namespace Go.Proofs.Ytdnhpicgjkddbaa.PFnExactStepDown
open Go.RowKit Go.Proofs.YtdnhpicgjkddbaaW.PrintWords Go.Proofs.YtdnhpicgjkddbaaW.PrintLast Go.Proofs.Ytdnhpicgjkddbaa.XEv

theorem laws_eqIntS_ev (l : List (Int)) (hb : (l.length : Int) ≤ 1048576) : Ev (fun k => laws_eqIntS.f k l l) true := by
  have hl := hb
  unfold laws_eqIntS.f
  refine ev_pos rfl ?_
  refine all_loop (fun k i => laws_eqIntS.l0 k l l i) l.length ?_ ?_
  · intro i hi hq
    refine Ev.step (fun k => by rw [laws_eqIntS.l0]) ?_
    refine ev_pos (by omega) (ev_pos (by omega) (ev_pos (by omega) (ev_pos rfl ?_)))
    rw [wrap_succ hi (by omega)]
    exact hq
  · refine Ev.step (fun k => by rw [laws_eqIntS.l0]) ?_
    exact ev_neg (by omega) (Ev.now _)
theorem laws_markIntS_ev (l : List Int) (n : Int) (h0 : 0 ≤ n) (h1 : n ≤ 2305843009213693952) (hb : (l.length : Int) ≤ 1048576) : Ev (fun k => laws_markIntS.f k l n) (n + l.length, seqFrom n l.length) := by
  unfold laws_markIntS.f
  refine markInt_loop (fun k xs n i => laws_markIntS.l0 k xs n i) l.length ?_ ?_ l n rfl h0 (by omega)
  · intro xs n i hi hx r hr
    refine Ev.step (fun k => by rw [laws_markIntS.l0]) ?_
    refine ev_pos (by omega) (ev_pos (by omega) ?_)
    rw [wrap_succ hi (by omega)]
    simp only [Int.toNat_natCast]
    exact hr
  · intro xs n hx
    refine Ev.step (fun k => by rw [laws_markIntS.l0]) ?_
    exact ev_neg (by omega) (Ev.now _)
theorem laws_heldIntS_ev (n : Int) (m : Nat) (h0 : 0 ≤ n) (h1 : n ≤ 2305843009213693952) (hb : (m : Int) ≤ 1048576) : Ev (fun k => laws_heldIntS.f k (seqFrom n m) n) (n + m) := by
  unfold laws_heldIntS.f
  refine held_loop (fun k q i => laws_heldIntS.l0 k (seqFrom n m) q i) m n h0 (by omega) ?_ ?_
  · intro i hi r hr
    refine Ev.step (fun k => by rw [laws_heldIntS.l0]) ?_
    simp only [seqFrom_rd n hi, seqFrom_length]
    refine ev_pos (by omega) (ev_pos (by omega) (ev_pos (by first | rfl | trivial) ?_))
    rw [wrap_succ hi (by omega)]
    exact hr
  · refine Ev.step (fun k => by rw [laws_heldIntS.l0]) ?_
    exact ev_neg (by rw [seqFrom_length]; omega) (Ev.now _)
theorem laws_szIntS_ev (l : List (Int)) (n : Int) (h0 : 0 ≤ n) (h1 : n ≤ 1048576) (hg : l.length ≤ maxLen ∧ ∀ a_ ∈ l, (Lit.int .i64 a_).wf = true) : ∃ r, Ev (fun _ => laws_szIntS.f l n) r ∧ (r < 0 ∨ (0 ≤ r ∧ r ≤ n ∧ (l.length : Int) ≤ n)) := by
  have hl := hg.1
  unfold maxLen at hl
  have hw : wrap64 (n - (l.length : Int)) = n - (l.length : Int) := wrap_id (by omega) (by omega)
  unfold laws_szIntS.f
  simp only [hw]
  by_cases c : n - (l.length : Int) < 0
  · exact ⟨-1, ev_pos c (Ev.now _), .inl (by decide)⟩
  · exact ⟨n - (l.length : Int), ev_neg c (Ev.now _), .inr ⟨by omega, by omega, by omega⟩⟩
/-- What is counted of it is at most n. -/
def B150 (n : Int) (x : S150) : Prop := ((x.f1.length : Int) ≤ n) ∧ ((x.f2.length : Int) ≤ n)
theorem B150_mono {n m : Int} {x : S150} (h : n ≤ m) (hb : B150 n x) : B150 m x := ⟨Int.le_trans hb.1 h, Int.le_trans hb.2 h⟩
/-- What is counted of it is at most n. -/
def B152 (n : Int) (x : S152) : Prop := ((x.f1.length : Int) ≤ n) ∧ ((x.f2.length : Int) ≤ n)
theorem laws_szRule_ev (x : S150) (n : Int) (h0 : 0 ≤ n) (h1 : n ≤ 1048576) (hg : G150 x) : ∃ r, Ev (fun _ => laws_szRule.f (x.f0) (x.f1) (x.f2) n) r ∧ (r < 0 ∨ (0 ≤ r ∧ r ≤ n ∧ B150 n x)) := by
  unfold laws_szRule.f
  obtain ⟨r1, e1, h1⟩ := laws_szIntS_ev x.f1 n (by omega) (by omega) hg.2.1
  rcases h1 with h1 | ⟨p1, q1, b1⟩
  · exact ⟨-1, Ev.bind e1 (ev_pos h1 (Ev.now _)), .inl (by decide)⟩
  · skip
    obtain ⟨r2, e2, h2⟩ := laws_szIntS_ev x.f2 r1 (by omega) (by omega) hg.2.2
    rcases h2 with h2 | ⟨p2, q2, b2⟩
    · exact ⟨-1, Ev.bind e1 (ev_neg (by omega) (Ev.bind e2 (ev_pos h2 (Ev.now _)))), .inl (by decide)⟩
    · skip
      exact ⟨r2, Ev.bind e1 (ev_neg (by omega) (Ev.bind e2 (ev_neg (by omega) (Ev.now _)))), .inr ⟨by omega, by omega, ⟨Int.le_trans b1 (by omega), Int.le_trans b2 (by omega)⟩⟩⟩
theorem laws_szRuleS_ev (l : List (S150)) (n : Int) (h0 : 0 ≤ n) (h1 : n ≤ 1048576) (hg : l.length ≤ maxLen ∧ ∀ a_ ∈ l, G150 a_) : ∃ r, Ev (fun k => laws_szRuleS.f k l n) r ∧ (r < 0 ∨ (0 ≤ r ∧ r ≤ n ∧ (l.length : Int) ≤ n ∧ ∀ a_ ∈ l, B150 n a_)) := by
  have hl := hg.1
  unfold maxLen at hl
  have hw : wrap64 (n - (l.length : Int)) = n - (l.length : Int) := wrap_id (by omega) (by omega)
  unfold laws_szRuleS.f
  simp only [hw]
  by_cases c : n - (l.length : Int) < 0
  · exact ⟨-1, ev_pos c (Ev.now _), .inl (by decide)⟩
  · have tl := take_loop (fun k left i => laws_szRuleS.l0 k l left i) l (fun n a_ => B150 n a_) (fun _ _ _ h hb => B150_mono h hb) ?_ ?_ (n - (l.length : Int)) (by omega) (by omega)
    · obtain ⟨r, hr, h⟩ := tl
      refine ⟨r, ev_neg c hr, ?_⟩
      rcases h with h | ⟨a, b, c'⟩
      · exact .inl h
      · exact .inr ⟨a, by omega, by omega, fun x hx => B150_mono (by omega) (c' x hx)⟩
    · intro left i hi h0 h1
      have hrd : rd_T150 l (i : Int) = l[i] := getD_at hi _
      obtain ⟨r, hr, h⟩ := laws_szRule_ev l[i] left h0 h1 (hg.2 _ (List.getElem_mem hi))
      refine ⟨r, ?_⟩
      rcases h with h | ⟨a, b, c'⟩
      · refine .inl ⟨h, Ev.step (fun k => by rw [laws_szRuleS.l0]) ?_⟩
        simp only [hrd]
        exact ev_pos (by omega) (ev_pos (by omega) (Ev.bind hr (ev_pos h (Ev.now _))))
      · refine .inr ⟨a, b, c', fun q hq => Ev.step (fun k => by rw [laws_szRuleS.l0]) ?_⟩
        simp only [hrd]
        refine ev_pos (by omega) (ev_pos (by omega) (Ev.bind hr (ev_neg (by omega) ?_)))
        rw [wrap_succ hi (by omega)]
        exact hq
    · intro left
      refine Ev.step (fun k => by rw [laws_szRuleS.l0]) ?_
      exact ev_neg (by omega) (Ev.now _)
theorem laws_toIntS_ev (l : List (Int)) (hb : (l.length : Int) ≤ 1048576) : Ev (fun k => laws_toIntS.f k l) l := by
  have hl := hb
  unfold laws_toIntS.f
  refine ev_pos (by omega) (ev_pos (by omega) ?_)
  have hfl := fill_loop (fun k ys i => laws_toIntS.l0 k l ys i) (fun x_ => x_) (0) l ?_ ?_
  · simpa using hfl
  · intro ys i hi r hy hq
    have hrd : rd l (i : Int) = l[i] := rd_at hi
    refine Ev.step (fun k => by rw [laws_toIntS.l0]) ?_
    simp only [hrd]
    refine ev_pos (by omega) (ev_pos (by omega) (ev_pos (by omega) ?_))
    rw [wrap_succ hi (by omega)]
    simp only [Int.toNat_natCast]
    exact hq
  · intro ys
    refine Ev.step (fun k => by rw [laws_toIntS.l0]) ?_
    exact ev_neg (by omega) (Ev.now _)
/-- The law's own value as the program's. -/
def cv150 (x : S150) : S152 := ⟨x.f0, x.f1, x.f2⟩
theorem cv150_B {n : Int} {x : S150} (hb : B150 n x) : B152 n (cv150 x) := ⟨hb.1, hb.2⟩
theorem laws_toRule_ev (x : S150) (hb : B150 1048576 x) : Ev (fun k => laws_toRule.f k (x.f0) (x.f1) (x.f2)) (x.f0, x.f1, x.f2) := by
  unfold laws_toRule.f
  exact Ev.bind (laws_toIntS_ev x.f1 hb.1) (Ev.bind (laws_toIntS_ev x.f2 hb.2) (Ev.now _))
theorem laws_toRuleS_ev (l : List (S150)) (hb : (l.length : Int) ≤ 1048576 ∧ ∀ a_ ∈ l, B150 1048576 a_) : Ev (fun k => laws_toRuleS.f k l) (l.map cv150) := by
  have hl := hb.1
  unfold laws_toRuleS.f
  refine ev_pos (by omega) (ev_pos (by omega) ?_)
  have hfl := fill_loop (fun k ys i => laws_toRuleS.l0 k l ys i) cv150 (z152) l ?_ ?_
  · simpa only [Int.toNat_natCast] using hfl
  · intro ys i hi r hy hq
    have hrd : rd_T150 l (i : Int) = l[i] := getD_at hi _
    refine Ev.step (fun k => by rw [laws_toRuleS.l0]) ?_
    simp only [hrd]
    refine ev_pos (by omega) (ev_pos (by omega) (Ev.bind (laws_toRule_ev l[i] (hb.2 _ (List.getElem_mem hi))) (ev_pos (by omega) ?_)))
    rw [wrap_succ hi (by omega)]
    simp only [Int.toNat_natCast]
    exact hq
  · intro ys
    refine Ev.step (fun k => by rw [laws_toRuleS.l0]) ?_
    exact ev_neg (by omega) (Ev.now _)
theorem laws_eqRule_ev (x : S152) (hb : B152 1048576 x) : Ev (fun k => laws_eqRule.f k (x.f0) (x.f1) (x.f2) (x.f0) (x.f1) (x.f2)) true := by
  unfold laws_eqRule.f
  refine ev_pos rfl ?_
  refine Ev.bind (laws_eqIntS_ev x.f1 hb.1) (ev_pos rfl ?_)
  refine Ev.bind (laws_eqIntS_ev x.f2 hb.2) (ev_pos rfl ?_)
  exact Ev.now _
theorem laws_eqRuleS_ev (l : List (S152)) (hb : (l.length : Int) ≤ 1048576 ∧ ∀ a_ ∈ l, B152 1048576 a_) : Ev (fun k => laws_eqRuleS.f k l l) true := by
  have hl := hb.1
  unfold laws_eqRuleS.f
  refine ev_pos rfl ?_
  refine all_loop (fun k i => laws_eqRuleS.l0 k l l i) l.length ?_ ?_
  · intro i hi hq
    refine Ev.step (fun k => by rw [laws_eqRuleS.l0]) ?_
    have hrd : rd_T152 l (i : Int) = l[i] := getD_at hi _
    simp only [hrd]
    refine ev_pos (by omega) (ev_pos (by omega) (ev_pos (by omega) (Ev.bind (laws_eqRule_ev l[i] (hb.2 _ (List.getElem_mem hi))) (ev_pos rfl ?_))))
    rw [wrap_succ hi (by omega)]
    exact hq
  · refine Ev.step (fun k => by rw [laws_eqRuleS.l0]) ?_
    exact ev_neg (by omega) (Ev.now _)
-- no lemma for laws_markRuleS
-- no lemma of the like for laws_markRuleS
theorem spec_l1In_eq (a b c : Int) : spec_l1In.f a b c = some (decide (b ≤ a ∧ a ≤ c)) := by
  unfold spec_l1In.f
  by_cases h : a ≥ b
  · rw [if_pos h]; simp [show b ≤ a from h]
  · rw [if_neg h]; simp [show ¬ b ≤ a from h]
theorem impl_between_eq (a b c : Int) : impl_between.f a b c = some (decide (b ≤ a ∧ a ≤ c)) := by
  unfold impl_between.f
  by_cases h : a ≥ b
  · rw [if_pos h]; simp [show b ≤ a from h]
  · rw [if_neg h]; simp [show ¬ b ≤ a from h]
theorem spec_l1Amount_eq (a : Int) : spec_l1Amount.f a = some (decide (-100000000000 ≤ a ∧ a ≤ 100000000000)) := by
  unfold spec_l1Amount.f
  rw [spec_l1In_eq]
  rfl
theorem spec_l1Factor_eq (a : Int) : spec_l1Factor.f a = some (decide (0 ≤ a ∧ a ≤ 10000000)) := by
  unfold spec_l1Factor.f
  rw [spec_l1In_eq]
  rfl
theorem impl_amount_eq (a : Int) : impl_amount.f a = some (decide (-100000000000 ≤ a ∧ a ≤ 100000000000)) := by
  unfold impl_amount.f
  rw [impl_between_eq]
  rfl
theorem impl_factor_eq (a : Int) : impl_factor.f a = some (decide (0 ≤ a ∧ a ≤ 10000000)) := by
  unfold impl_factor.f
  rw [impl_between_eq]
  rfl
end Go.Proofs.Ytdnhpicgjkddbaa.PFnExactStepDown
