/- What the law's helper functions answer: sizes, conversions, comparisons. By this repo's wip/tools/pg.py. -/
import Derived.Test.YtdnhpicgjkddbaaZPFnExactRankx0
import Derived.Test.YtdnhpicgjkddbaaZPFnExactRankx1
import Derived.Test.YtdnhpicgjkddbaaZPFnExactRankx4
import Derived.Test.YtdnhpicgjkddbaaZPFnExactRankx7
import Derived.Test.YtdnhpicgjkddbaaZPFnExactRankx8
import Derived.Test.YtdnhpicgjkddbaaZEv
set_option maxHeartbeats 2000000
set_option linter.unusedVariables false
set_option linter.unusedSimpArgs false
namespace Go.Proofs.Ytdnhpicgjkddbaa.PFnExactRank
open Go.RowKit Go.Proofs.YtdnhpicgjkddbaaW.PrintWords Go.Proofs.YtdnhpicgjkddbaaW.PrintLast Go.Proofs.Ytdnhpicgjkddbaa.XEv

theorem laws_eqIntS_ev (l : List (Int)) (hb : (l.length : Int) ≤ 1048576) : Ev (fun k => laws_eqIntS.f k l l) true := by
  have hl := hb
  unfold laws_eqIntS.f
  refine ev_pos rfl ?_
  refine all_loop (fun k i => laws_eqIntS.l0 k l l i) l.length ?_ ?_
  · intro i hi hq
    refine Ev.step (fun k => by rw [laws_eqIntS.l0]) ?_
    refine ev_pos (by omega) (ev_pos (by omega) (ev_pos (by omega) (ev_pos rfl ?_)))
    rw [wrap_succ hi (by omega)]
    exact hq
  · refine Ev.step (fun k => by rw [laws_eqIntS.l0]) ?_
    exact ev_neg (by omega) (Ev.now _)
theorem laws_markIntS_ev (l : List Int) (n : Int) (h0 : 0 ≤ n) (h1 : n ≤ 2305843009213693952) (hb : (l.length : Int) ≤ 1048576) : Ev (fun k => laws_markIntS.f k l n) (n + l.length, seqFrom n l.length) := by
  unfold laws_markIntS.f
  refine markInt_loop (fun k xs n i => laws_markIntS.l0 k xs n i) l.length ?_ ?_ l n rfl h0 (by omega)
  · intro xs n i hi hx r hr
    refine Ev.step (fun k => by rw [laws_markIntS.l0]) ?_
    refine ev_pos (by omega) (ev_pos (by omega) ?_)
    rw [wrap_succ hi (by omega)]
    simp only [Int.toNat_natCast]
    exact hr
  · intro xs n hx
    refine Ev.step (fun k => by rw [laws_markIntS.l0]) ?_
    exact ev_neg (by omega) (Ev.now _)
theorem laws_heldIntS_ev (n : Int) (m : Nat) (h0 : 0 ≤ n) (h1 : n ≤ 2305843009213693952) (hb : (m : Int) ≤ 1048576) : Ev (fun k => laws_heldIntS.f k (seqFrom n m) n) (n + m) := by
  unfold laws_heldIntS.f
  refine held_loop (fun k q i => laws_heldIntS.l0 k (seqFrom n m) q i) m n h0 (by omega) ?_ ?_
  · intro i hi r hr
    refine Ev.step (fun k => by rw [laws_heldIntS.l0]) ?_
    simp only [seqFrom_rd n hi, seqFrom_length]
    refine ev_pos (by omega) (ev_pos (by omega) (ev_pos (by first | rfl | trivial) ?_))
    rw [wrap_succ hi (by omega)]
    exact hr
  · refine Ev.step (fun k => by rw [laws_heldIntS.l0]) ?_
    exact ev_neg (by rw [seqFrom_length]; omega) (Ev.now _)
theorem laws_szTaskS_ev (l : List (S251)) (n : Int) (h0 : 0 ≤ n) (h1 : n ≤ 1048576) (hg : l.length ≤ maxLen ∧ ∀ a_ ∈ l, G251 a_) : ∃ r, Ev (fun _ => laws_szTaskS.f l n) r ∧ (r < 0 ∨ (0 ≤ r ∧ r ≤ n ∧ (l.length : Int) ≤ n)) := by
  have hl := hg.1
  unfold maxLen at hl
  have hw : wrap64 (n - (l.length : Int)) = n - (l.length : Int) := wrap_id (by omega) (by omega)
  unfold laws_szTaskS.f
  simp only [hw]
  by_cases c : n - (l.length : Int) < 0
  · exact ⟨-1, ev_pos c (Ev.now _), .inl (by decide)⟩
  · exact ⟨n - (l.length : Int), ev_neg c (Ev.now _), .inr ⟨by omega, by omega, by omega⟩⟩
/-- What is counted of it is at most n. -/
def B160 (n : Int) (x : S160) : Prop := ((x.f3.length : Int) ≤ n)
theorem B160_mono {n m : Int} {x : S160} (h : n ≤ m) (hb : B160 n x) : B160 m x := Int.le_trans hb h
/-- What is counted of it is at most n. -/
def B165 (n : Int) (x : S165) : Prop := ((x.f3.length : Int) ≤ n)
theorem laws_szJob_ev (x : S160) (n : Int) (h0 : 0 ≤ n) (h1 : n ≤ 1048576) (hg : G160 x) : ∃ r, Ev (fun _ => laws_szJob.f (x.f0) (x.f1) (x.f2) (x.f3) n) r ∧ (r < 0 ∨ (0 ≤ r ∧ r ≤ n ∧ B160 n x)) := by
  unfold laws_szJob.f
  obtain ⟨r3, e3, h3⟩ := laws_szTaskS_ev x.f3 n (by omega) (by omega) hg.2.2.2
  rcases h3 with h3 | ⟨p3, q3, b3⟩
  · exact ⟨-1, Ev.bind e3 (ev_pos h3 (Ev.now _)), .inl (by decide)⟩
  · skip
    exact ⟨r3, Ev.bind e3 (ev_neg (by omega) (Ev.now _)), .inr ⟨by omega, by omega, Int.le_trans b3 (by omega)⟩⟩
theorem laws_szJobS_ev (l : List (S160)) (n : Int) (h0 : 0 ≤ n) (h1 : n ≤ 1048576) (hg : l.length ≤ maxLen ∧ ∀ a_ ∈ l, G160 a_) : ∃ r, Ev (fun k => laws_szJobS.f k l n) r ∧ (r < 0 ∨ (0 ≤ r ∧ r ≤ n ∧ (l.length : Int) ≤ n ∧ ∀ a_ ∈ l, B160 n a_)) := by
  have hl := hg.1
  unfold maxLen at hl
  have hw : wrap64 (n - (l.length : Int)) = n - (l.length : Int) := wrap_id (by omega) (by omega)
  unfold laws_szJobS.f
  simp only [hw]
  by_cases c : n - (l.length : Int) < 0
  · exact ⟨-1, ev_pos c (Ev.now _), .inl (by decide)⟩
  · have tl := take_loop (fun k left i => laws_szJobS.l0 k l left i) l (fun n a_ => B160 n a_) (fun _ _ _ h hb => B160_mono h hb) ?_ ?_ (n - (l.length : Int)) (by omega) (by omega)
    · obtain ⟨r, hr, h⟩ := tl
      refine ⟨r, ev_neg c hr, ?_⟩
      rcases h with h | ⟨a, b, c'⟩
      · exact .inl h
      · exact .inr ⟨a, by omega, by omega, fun x hx => B160_mono (by omega) (c' x hx)⟩
    · intro left i hi h0 h1
      have hrd : rd_T160 l (i : Int) = l[i] := getD_at hi _
      obtain ⟨r, hr, h⟩ := laws_szJob_ev l[i] left h0 h1 (hg.2 _ (List.getElem_mem hi))
      refine ⟨r, ?_⟩
      rcases h with h | ⟨a, b, c'⟩
      · refine .inl ⟨h, Ev.step (fun k => by rw [laws_szJobS.l0]) ?_⟩
        simp only [hrd]
        exact ev_pos (by omega) (ev_pos (by omega) (Ev.bind hr (ev_pos h (Ev.now _))))
      · refine .inr ⟨a, b, c', fun q hq => Ev.step (fun k => by rw [laws_szJobS.l0]) ?_⟩
        simp only [hrd]
        refine ev_pos (by omega) (ev_pos (by omega) (Ev.bind hr (ev_neg (by omega) ?_)))
        rw [wrap_succ hi (by omega)]
        exact hq
    · intro left
      refine Ev.step (fun k => by rw [laws_szJobS.l0]) ?_
      exact ev_neg (by omega) (Ev.now _)
/-- The law's own value as the program's. -/
def cv251 (x : S251) : S230 := ⟨x.f0, x.f1, x.f2⟩
theorem laws_toTask_ev (x : S251) : Ev (fun _ => laws_toTask.f (x.f0) (x.f1) (x.f2)) (x.f0, x.f1, x.f2) := by
  unfold laws_toTask.f
  exact Ev.now _
theorem laws_toTaskS_ev (l : List (S251)) (hb : (l.length : Int) ≤ 1048576) : Ev (fun k => laws_toTaskS.f k l) (l.map cv251) := by
  have hl := hb
  unfold laws_toTaskS.f
  refine ev_pos (by omega) (ev_pos (by omega) ?_)
  have hfl := fill_loop (fun k ys i => laws_toTaskS.l0 k l ys i) cv251 (z230) l ?_ ?_
  · simpa only [Int.toNat_natCast] using hfl
  · intro ys i hi r hy hq
    have hrd : rd_T251 l (i : Int) = l[i] := getD_at hi _
    refine Ev.step (fun k => by rw [laws_toTaskS.l0]) ?_
    simp only [hrd]
    refine ev_pos (by omega) (ev_pos (by omega) (Ev.bind (laws_toTask_ev l[i]) (ev_pos (by omega) ?_)))
    rw [wrap_succ hi (by omega)]
    simp only [Int.toNat_natCast]
    exact hq
  · intro ys
    refine Ev.step (fun k => by rw [laws_toTaskS.l0]) ?_
    exact ev_neg (by omega) (Ev.now _)
/-- The law's own value as the program's. -/
def cv160 (x : S160) : S165 := ⟨x.f0, x.f1, x.f2, x.f3.map cv251⟩
theorem cv160_B {n : Int} {x : S160} (hb : B160 n x) : B165 n (cv160 x) := (by simp only [cv160, B165, List.length_map]; exact hb)
theorem laws_toJob_ev (x : S160) (hb : B160 1048576 x) : Ev (fun k => laws_toJob.f k (x.f0) (x.f1) (x.f2) (x.f3)) (x.f0, x.f1, x.f2, x.f3.map cv251) := by
  unfold laws_toJob.f
  exact Ev.bind (laws_toTaskS_ev x.f3 hb) (Ev.now _)
theorem laws_toJobS_ev (l : List (S160)) (hb : (l.length : Int) ≤ 1048576 ∧ ∀ a_ ∈ l, B160 1048576 a_) : Ev (fun k => laws_toJobS.f k l) (l.map cv160) := by
  have hl := hb.1
  unfold laws_toJobS.f
  refine ev_pos (by omega) (ev_pos (by omega) ?_)
  have hfl := fill_loop (fun k ys i => laws_toJobS.l0 k l ys i) cv160 (z165) l ?_ ?_
  · simpa only [Int.toNat_natCast] using hfl
  · intro ys i hi r hy hq
    have hrd : rd_T160 l (i : Int) = l[i] := getD_at hi _
    refine Ev.step (fun k => by rw [laws_toJobS.l0]) ?_
    simp only [hrd]
    refine ev_pos (by omega) (ev_pos (by omega) (Ev.bind (laws_toJob_ev l[i] (hb.2 _ (List.getElem_mem hi))) (ev_pos (by omega) ?_)))
    rw [wrap_succ hi (by omega)]
    simp only [Int.toNat_natCast]
    exact hq
  · intro ys
    refine Ev.step (fun k => by rw [laws_toJobS.l0]) ?_
    exact ev_neg (by omega) (Ev.now _)
theorem laws_eqTask_ev (x : S230) : Ev (fun _ => laws_eqTask.f (x.f0) (x.f1) (x.f2) (x.f0) (x.f1) (x.f2)) true := by
  unfold laws_eqTask.f
  refine ev_pos rfl ?_
  refine ev_pos rfl ?_
  refine ev_pos rfl ?_
  exact Ev.now _
theorem laws_eqTaskS_ev (l : List (S230)) (hb : (l.length : Int) ≤ 1048576) : Ev (fun k => laws_eqTaskS.f k l l) true := by
  have hl := hb
  unfold laws_eqTaskS.f
  refine ev_pos rfl ?_
  refine all_loop (fun k i => laws_eqTaskS.l0 k l l i) l.length ?_ ?_
  · intro i hi hq
    refine Ev.step (fun k => by rw [laws_eqTaskS.l0]) ?_
    have hrd : rd_T230 l (i : Int) = l[i] := getD_at hi _
    simp only [hrd]
    refine ev_pos (by omega) (ev_pos (by omega) (ev_pos (by omega) (Ev.bind (laws_eqTask_ev l[i]) (ev_pos rfl ?_))))
    rw [wrap_succ hi (by omega)]
    exact hq
  · refine Ev.step (fun k => by rw [laws_eqTaskS.l0]) ?_
    exact ev_neg (by omega) (Ev.now _)
theorem laws_eqJob_ev (x : S165) (hb : B165 1048576 x) : Ev (fun k => laws_eqJob.f k (x.f0) (x.f1) (x.f2) (x.f3) (x.f0) (x.f1) (x.f2) (x.f3)) true := by
  unfold laws_eqJob.f
  refine ev_pos rfl ?_
  refine ev_pos rfl ?_
  refine ev_pos rfl ?_
  refine Ev.bind (laws_eqTaskS_ev x.f3 hb) (ev_pos rfl ?_)
  exact Ev.now _
theorem laws_eqJobS_ev (l : List (S165)) (hb : (l.length : Int) ≤ 1048576 ∧ ∀ a_ ∈ l, B165 1048576 a_) : Ev (fun k => laws_eqJobS.f k l l) true := by
  have hl := hb.1
  unfold laws_eqJobS.f
  refine ev_pos rfl ?_
  refine all_loop (fun k i => laws_eqJobS.l0 k l l i) l.length ?_ ?_
  · intro i hi hq
    refine Ev.step (fun k => by rw [laws_eqJobS.l0]) ?_
    have hrd : rd_T165 l (i : Int) = l[i] := getD_at hi _
    simp only [hrd]
    refine ev_pos (by omega) (ev_pos (by omega) (ev_pos (by omega) (Ev.bind (laws_eqJob_ev l[i] (hb.2 _ (List.getElem_mem hi))) (ev_pos rfl ?_))))
    rw [wrap_succ hi (by omega)]
    exact hq
  · refine Ev.step (fun k => by rw [laws_eqJobS.l0]) ?_
    exact ev_neg (by omega) (Ev.now _)
-- no lemma for laws_markJobS
-- no lemma of the like for laws_markJobS
theorem spec_l1In_eq (a b c : Int) : spec_l1In.f a b c = some (decide (b ≤ a ∧ a ≤ c)) := by
  unfold spec_l1In.f
  by_cases h : a ≥ b
  · rw [if_pos h]; simp [show b ≤ a from h]
  · rw [if_neg h]; simp [show ¬ b ≤ a from h]
theorem impl_between_eq (a b c : Int) : impl_between.f a b c = some (decide (b ≤ a ∧ a ≤ c)) := by
  unfold impl_between.f
  by_cases h : a ≥ b
  · rw [if_pos h]; simp [show b ≤ a from h]
  · rw [if_neg h]; simp [show ¬ b ≤ a from h]
theorem impl_hour_eq (a : Int) : impl_hour.f a = some (decide (0 ≤ a ∧ a ≤ 5000)) := by
  unfold impl_hour.f
  rw [impl_between_eq]
  rfl
end Go.Proofs.Ytdnhpicgjkddbaa.PFnExactRank
