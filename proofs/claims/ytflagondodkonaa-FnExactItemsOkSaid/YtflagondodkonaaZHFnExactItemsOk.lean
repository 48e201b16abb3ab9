/- What the law's helper functions answer: sizes, conversions, comparisons. By this repo's wip/tools/pg.py. -/
import Derived.Test.YtflagondodkonaaZPFnExactItemsOkx1
import Derived.Test.YtflagondodkonaaZPFnExactItemsOkx10
import Derived.Test.YtflagondodkonaaZPFnExactItemsOkx2
import Derived.Test.YtflagondodkonaaZPFnExactItemsOkx5
import Derived.Test.YtflagondodkonaaZPFnExactItemsOkx6
import Derived.Test.YtflagondodkonaaZPFnExactItemsOkx9
import Derived.Test.YtflagondodkonaaZEv
set_option linter.unusedVariables false
set_option linter.unusedSimpArgs false
namespace Go.Proofs.Ytflagondodkonaa.PFnExactItemsOk
open Go.RowKit Go.Proofs.YtflagondodkonaaW.PrintWords Go.Proofs.YtflagondodkonaaW.PrintLast Go.Proofs.Ytflagondodkonaa.XEv

theorem laws_szPartS_ev (l : List (S265)) (n : Int) (h0 : 0 ≤ n) (h1 : n ≤ 1048576) (hg : l.length ≤ maxLen ∧ ∀ a_ ∈ l, G265 a_) : ∃ r, Ev (fun _ => laws_szPartS.f l n) r ∧ (r < 0 ∨ (0 ≤ r ∧ r ≤ n ∧ (l.length : Int) ≤ n)) := by
  have hl := hg.1
  unfold maxLen at hl
  have hw : wrap64 (n - (l.length : Int)) = n - (l.length : Int) := wrap_id (by omega) (by omega)
  unfold laws_szPartS.f
  simp only [hw]
  by_cases c : n - (l.length : Int) < 0
  · exact ⟨-1, ev_pos c (Ev.now _), .inl (by decide)⟩
  · exact ⟨n - (l.length : Int), ev_neg c (Ev.now _), .inr ⟨by omega, by omega, by omega⟩⟩
/-- What is counted of it is at most n. -/
def B140 (n : Int) (x : S140) : Prop := ((x.f0.size : Int) ≤ n) ∧ ((x.f3.length : Int) ≤ n) ∧ ((x.f4.length : Int) ≤ n)
theorem B140_mono {n m : Int} {x : S140} (h : n ≤ m) (hb : B140 n x) : B140 m x := ⟨Int.le_trans hb.1 h, Int.le_trans hb.2.1 h, Int.le_trans hb.2.2 h⟩
/-- What is counted of it is at most n. -/
def B143 (n : Int) (x : S143) : Prop := ((x.f0.size : Int) ≤ n) ∧ ((x.f3.length : Int) ≤ n) ∧ ((x.f4.length : Int) ≤ n)
theorem laws_szItem_ev (x : S140) (n : Int) (h0 : 0 ≤ n) (h1 : n ≤ 1048576) (hg : G140 x) : ∃ r, Ev (fun _ => laws_szItem.f (x.f0) (x.f1) (x.f2) (x.f3) (x.f4) n) r ∧ (r < 0 ∨ (0 ≤ r ∧ r ≤ n ∧ B140 n x)) := by
  unfold laws_szItem.f
  have hs0 := hg.1
  unfold maxLen at hs0
  have hw0 : wrap64 (n - (x.f0.size : Int)) = n - (x.f0.size : Int) := wrap_id (by omega) (by omega)
  by_cases c0 : wrap64 (n - (x.f0.size : Int)) < 0
  · exact ⟨-1, ev_pos c0 (Ev.now _), .inl (by decide)⟩
  · skip
    obtain ⟨r3, e3, h3⟩ := laws_szPartS_ev x.f3 (wrap64 (n - (x.f0.size : Int))) (by omega) (by omega) hg.2.2.2.1
    rcases h3 with h3 | ⟨p3, q3, b3⟩
    · exact ⟨-1, ev_neg c0 (Ev.bind e3 (ev_pos h3 (Ev.now _))), .inl (by decide)⟩
    · skip
      obtain ⟨r4, e4, h4⟩ := laws_szPartS_ev x.f4 r3 (by omega) (by omega) hg.2.2.2.2
      rcases h4 with h4 | ⟨p4, q4, b4⟩
      · exact ⟨-1, ev_neg c0 (Ev.bind e3 (ev_neg (by omega) (Ev.bind e4 (ev_pos h4 (Ev.now _))))), .inl (by decide)⟩
      · skip
        exact ⟨r4, ev_neg c0 (Ev.bind e3 (ev_neg (by omega) (Ev.bind e4 (ev_neg (by omega) (Ev.now _))))), .inr ⟨by omega, by omega, ⟨(by omega : (x.f0.size : Int) ≤ n), Int.le_trans b3 (by omega), Int.le_trans b4 (by omega)⟩⟩⟩
theorem laws_szItemS_ev (l : List (S140)) (n : Int) (h0 : 0 ≤ n) (h1 : n ≤ 1048576) (hg : l.length ≤ maxLen ∧ ∀ a_ ∈ l, G140 a_) : ∃ r, Ev (fun k => laws_szItemS.f k l n) r ∧ (r < 0 ∨ (0 ≤ r ∧ r ≤ n ∧ (l.length : Int) ≤ n ∧ ∀ a_ ∈ l, B140 n a_)) := by
  have hl := hg.1
  unfold maxLen at hl
  have hw : wrap64 (n - (l.length : Int)) = n - (l.length : Int) := wrap_id (by omega) (by omega)
  unfold laws_szItemS.f
  simp only [hw]
  by_cases c : n - (l.length : Int) < 0
  · exact ⟨-1, ev_pos c (Ev.now _), .inl (by decide)⟩
  · have tl := take_loop (fun k left i => laws_szItemS.l0 k l left i) l (fun n a_ => B140 n a_) (fun _ _ _ h hb => B140_mono h hb) ?_ ?_ (n - (l.length : Int)) (by omega) (by omega)
    · obtain ⟨r, hr, h⟩ := tl
      refine ⟨r, ev_neg c hr, ?_⟩
      rcases h with h | ⟨a, b, c'⟩
      · exact .inl h
      · exact .inr ⟨a, by omega, by omega, fun x hx => B140_mono (by omega) (c' x hx)⟩
    · intro left i hi h0 h1
      have hrd : rd_T140 l (i : Int) = l[i] := getD_at hi _
      obtain ⟨r, hr, h⟩ := laws_szItem_ev l[i] left h0 h1 (hg.2 _ (List.getElem_mem hi))
      refine ⟨r, ?_⟩
      rcases h with h | ⟨a, b, c'⟩
      · refine .inl ⟨h, Ev.step (fun k => by rw [laws_szItemS.l0]) ?_⟩
        simp only [hrd]
        exact ev_pos (by omega) (ev_pos (by omega) (Ev.bind hr (ev_pos h (Ev.now _))))
      · refine .inr ⟨a, b, c', fun q hq => Ev.step (fun k => by rw [laws_szItemS.l0]) ?_⟩
        simp only [hrd]
        refine ev_pos (by omega) (ev_pos (by omega) (Ev.bind hr (ev_neg (by omega) ?_)))
        rw [wrap_succ hi (by omega)]
        exact hq
    · intro left
      refine Ev.step (fun k => by rw [laws_szItemS.l0]) ?_
      exact ev_neg (by omega) (Ev.now _)
/-- The law's own value as the program's. -/
def cv265 (x : S265) : S147 := ⟨x.f0, x.f1, x.f2, x.f3, x.f4, x.f5⟩
theorem laws_toPart_ev (x : S265) : Ev (fun _ => laws_toPart.f (x.f0) (x.f1) (x.f2) (x.f3) (x.f4) (x.f5)) (x.f0, x.f1, x.f2, x.f3, x.f4, x.f5) := by
  unfold laws_toPart.f
  exact Ev.now _
theorem laws_toPartS_ev (l : List (S265)) (hb : (l.length : Int) ≤ 1048576) : Ev (fun k => laws_toPartS.f k l) (l.map cv265) := by
  have hl := hb
  unfold laws_toPartS.f
  refine ev_pos (by omega) (ev_pos (by omega) ?_)
  have hfl := fill_loop (fun k ys i => laws_toPartS.l0 k l ys i) cv265 (z147) l ?_ ?_
  · simpa only [Int.toNat_natCast] using hfl
  · intro ys i hi r hy hq
    have hrd : rd_T265 l (i : Int) = l[i] := getD_at hi _
    refine Ev.step (fun k => by rw [laws_toPartS.l0]) ?_
    simp only [hrd]
    refine ev_pos (by omega) (ev_pos (by omega) (Ev.bind (laws_toPart_ev l[i]) (ev_pos (by omega) ?_)))
    rw [wrap_succ hi (by omega)]
    simp only [Int.toNat_natCast]
    exact hq
  · intro ys
    refine Ev.step (fun k => by rw [laws_toPartS.l0]) ?_
    exact ev_neg (by omega) (Ev.now _)
/-- The law's own value as the program's. -/
def cv140 (x : S140) : S143 := ⟨x.f0, x.f1, x.f2, x.f3.map cv265, x.f4.map cv265⟩
theorem cv140_B {n : Int} {x : S140} (hb : B140 n x) : B143 n (cv140 x) := ⟨hb.1, (by simp only [cv140, B143, List.length_map]; exact hb.2.1), (by simp only [cv140, B143, List.length_map]; exact hb.2.2)⟩
theorem laws_toItem_ev (x : S140) (hb : B140 1048576 x) : Ev (fun k => laws_toItem.f k (x.f0) (x.f1) (x.f2) (x.f3) (x.f4)) (x.f0, x.f1, x.f2, x.f3.map cv265, x.f4.map cv265) := by
  unfold laws_toItem.f
  exact Ev.bind (laws_toPartS_ev x.f3 hb.2.1) (Ev.bind (laws_toPartS_ev x.f4 hb.2.2) (Ev.now _))
theorem laws_toItemS_ev (l : List (S140)) (hb : (l.length : Int) ≤ 1048576 ∧ ∀ a_ ∈ l, B140 1048576 a_) : Ev (fun k => laws_toItemS.f k l) (l.map cv140) := by
  have hl := hb.1
  unfold laws_toItemS.f
  refine ev_pos (by omega) (ev_pos (by omega) ?_)
  have hfl := fill_loop (fun k ys i => laws_toItemS.l0 k l ys i) cv140 (z143) l ?_ ?_
  · simpa only [Int.toNat_natCast] using hfl
  · intro ys i hi r hy hq
    have hrd : rd_T140 l (i : Int) = l[i] := getD_at hi _
    refine Ev.step (fun k => by rw [laws_toItemS.l0]) ?_
    simp only [hrd]
    refine ev_pos (by omega) (ev_pos (by omega) (Ev.bind (laws_toItem_ev l[i] (hb.2 _ (List.getElem_mem hi))) (ev_pos (by omega) ?_)))
    rw [wrap_succ hi (by omega)]
    simp only [Int.toNat_natCast]
    exact hq
  · intro ys
    refine Ev.step (fun k => by rw [laws_toItemS.l0]) ?_
    exact ev_neg (by omega) (Ev.now _)
theorem laws_eqPart_ev (x : S147) : Ev (fun _ => laws_eqPart.f (x.f0) (x.f1) (x.f2) (x.f3) (x.f4) (x.f5) (x.f0) (x.f1) (x.f2) (x.f3) (x.f4) (x.f5)) true := by
  unfold laws_eqPart.f
  refine ev_pos rfl ?_
  refine ev_pos rfl ?_
  refine ev_pos rfl ?_
  refine ev_pos rfl ?_
  refine ev_pos rfl ?_
  refine ev_pos rfl ?_
  exact Ev.now _
theorem laws_eqPartS_ev (l : List (S147)) (hb : (l.length : Int) ≤ 1048576) : Ev (fun k => laws_eqPartS.f k l l) true := by
  have hl := hb
  unfold laws_eqPartS.f
  refine ev_pos rfl ?_
  refine all_loop (fun k i => laws_eqPartS.l0 k l l i) l.length ?_ ?_
  · intro i hi hq
    refine Ev.step (fun k => by rw [laws_eqPartS.l0]) ?_
    have hrd : rd_T147 l (i : Int) = l[i] := getD_at hi _
    simp only [hrd]
    refine ev_pos (by omega) (ev_pos (by omega) (ev_pos (by omega) (Ev.bind (laws_eqPart_ev l[i]) (ev_pos rfl ?_))))
    rw [wrap_succ hi (by omega)]
    exact hq
  · refine Ev.step (fun k => by rw [laws_eqPartS.l0]) ?_
    exact ev_neg (by omega) (Ev.now _)
theorem laws_eqItem_ev (x : S143) (hb : B143 1048576 x) : Ev (fun k => laws_eqItem.f k (x.f0) (x.f1) (x.f2) (x.f3) (x.f4) (x.f0) (x.f1) (x.f2) (x.f3) (x.f4)) true := by
  unfold laws_eqItem.f
  refine ev_pos rfl ?_
  refine ev_pos rfl ?_
  refine ev_neg (by simp) ?_
  refine Ev.bind (laws_eqPartS_ev x.f3 hb.2.1) (ev_pos rfl ?_)
  refine Ev.bind (laws_eqPartS_ev x.f4 hb.2.2) (ev_pos rfl ?_)
  exact Ev.now _
theorem laws_eqItemS_ev (l : List (S143)) (hb : (l.length : Int) ≤ 1048576 ∧ ∀ a_ ∈ l, B143 1048576 a_) : Ev (fun k => laws_eqItemS.f k l l) true := by
  have hl := hb.1
  unfold laws_eqItemS.f
  refine ev_pos rfl ?_
  refine all_loop (fun k i => laws_eqItemS.l0 k l l i) l.length ?_ ?_
  · intro i hi hq
    refine Ev.step (fun k => by rw [laws_eqItemS.l0]) ?_
    have hrd : rd_T143 l (i : Int) = l[i] := getD_at hi _
    simp only [hrd]
    refine ev_pos (by omega) (ev_pos (by omega) (ev_pos (by omega) (Ev.bind (laws_eqItem_ev l[i] (hb.2 _ (List.getElem_mem hi))) (ev_pos rfl ?_))))
    rw [wrap_succ hi (by omega)]
    exact hq
  · refine Ev.step (fun k => by rw [laws_eqItemS.l0]) ?_
    exact ev_neg (by omega) (Ev.now _)
theorem spec_l1In_eq (a b c : Int) : spec_l1In.f a b c = some (decide (b ≤ a ∧ a ≤ c)) := by
  unfold spec_l1In.f
  by_cases h : a ≥ b
  · rw [if_pos h]; simp [show b ≤ a from h]
  · rw [if_neg h]; simp [show ¬ b ≤ a from h]
theorem impl_between_eq (a b c : Int) : impl_between.f a b c = some (decide (b ≤ a ∧ a ≤ c)) := by
  unfold impl_between.f
  by_cases h : a ≥ b
  · rw [if_pos h]; simp [show b ≤ a from h]
  · rw [if_neg h]; simp [show ¬ b ≤ a from h]
theorem spec_l2Day_eq (a : Int) : spec_l2Day.f a = some (decide (0 ≤ a ∧ a ≤ 40000)) := by
  unfold spec_l2Day.f
  rw [spec_l1In_eq]
  rfl
theorem impl_isDay_eq (a : Int) : impl_isDay.f a = some (decide (0 ≤ a ∧ a ≤ 40000)) := by
  unfold impl_isDay.f
  rw [impl_between_eq]
  rfl
theorem impl_nameByte_eq (c : Int) : impl_nameByte.f c = some (nb c) := by
  unfold impl_nameByte.f nb
  repeat' split
  all_goals first | (congr 1; symm; simp only [decide_eq_true_eq]; omega) | (congr 1; rw [Bool.eq_iff_iff]; simp only [beq_iff_eq, decide_eq_true_eq]; omega)
theorem spec_NameOk_l0 (k : Nat) (s : ByteArray) (x : Int) : spec_NameOk.l0 (k + 1) s x = if x < (s.size : Int) then (if 0 ≤ x then (if nb (bt s x) = true then spec_NameOk.l0 k s (wrap64 (x + 1)) else some false) else none) else ((spec_l1In.f (s.size : Int) 1 20).bind fun t => some t) := by
  rw [spec_NameOk.l0]
  by_cases h : x < (s.size : Int)
  · rw [if_pos h, if_pos h]
    by_cases h0 : 0 ≤ x
    · rw [if_pos h0, if_pos h0]
      generalize bt s x = c
      generalize spec_NameOk.l0 k s (wrap64 (x + 1)) = L
      unfold nb
      simp only [decide_eq_true_eq]
      repeat' split
      all_goals first | rfl | omega
    · rw [if_neg h0, if_neg h0]
  · rw [if_neg h, if_neg h]
theorem spec_NameOk_ev (s : ByteArray) (hs : (s.size : Int) ≤ 1048576) : ∃ b, Ev (fun k => spec_NameOk.f k s) b ∧ (b = true ↔ NameIs s) := by
  have key : ∀ (d i : Nat), i + d = s.size → ∃ b, Ev (fun k => spec_NameOk.l0 k s (i : Int)) b ∧ (b = true ↔ (1 ≤ s.size ∧ s.size ≤ 20) ∧ ∀ j, i ≤ j → j < s.size → nb (bt s (j : Nat)) = true) := by
    intro d
    induction d with
    | zero =>
      intro i hi
      refine ⟨decide (1 ≤ (s.size : Int) ∧ (s.size : Int) ≤ 20), Ev.step (fun k => spec_NameOk_l0 ..) (ev_neg (by omega) (ev_bind0 (spec_l1In_eq ..) (Ev.now _))), ?_⟩
      rw [decide_eq_true_eq]
      exact ⟨fun h => ⟨by omega, fun j h1 h2 => absurd h2 (by omega)⟩, fun h => by omega⟩
    | succ d ih =>
      intro i hi
      by_cases c : nb (bt s (i : Int)) = true
      · obtain ⟨b, hb, hP⟩ := ih (i + 1) (by omega)
        refine ⟨b, Ev.step (fun k => spec_NameOk_l0 ..) (ev_pos (by omega) (ev_pos (by omega) (ev_pos c (by rw [wrap_succ (n := s.size) (i := i) (by omega) (by omega)]; exact hb)))), ?_⟩
        rw [hP]
        refine ⟨fun h => ⟨h.1, fun j h1 h2 => ?_⟩, fun h => ⟨h.1, fun j h1 h2 => h.2 j (by omega) h2⟩⟩
        rcases Nat.lt_or_ge i j with h3 | h3
        · exact h.2 j h3 h2
        · have : i = j := by omega
          subst this
          exact c
      · refine ⟨false, Ev.step (fun k => spec_NameOk_l0 ..) (ev_pos (by omega) (ev_pos (by omega) (ev_neg c (Ev.now _)))), ?_⟩
        exact ⟨fun h => (by cases h), fun h => absurd (h.2 i (Nat.le_refl _) (by omega)) c⟩
  obtain ⟨b, hb, hP⟩ := key s.size 0 (by omega)
  refine ⟨b, by unfold spec_NameOk.f; exact hb, hP.trans ⟨fun h => ⟨h.1.1, h.1.2, fun j hj => h.2 j (by omega) hj⟩, fun h => ⟨⟨h.1, h.2.1⟩, fun j _ hj => h.2.2 j hj⟩⟩⟩
theorem impl_NameOk_ev (s : ByteArray) : ∃ b, Ev (fun k => impl_NameOk.f k s) b ∧ (b = true ↔ NameIs s) := by
  have key : s.size ≤ 20 → ∀ (d i : Nat), i + d = s.size → ∃ b, Ev (fun k => impl_NameOk.l0 k s (i : Int)) b ∧ (b = true ↔ ∀ j, i ≤ j → j < s.size → nb (bt s (j : Nat)) = true) := by
    intro hs d
    induction d with
    | zero =>
      intro i hi
      refine ⟨true, Ev.step (fun k => by rw [impl_NameOk.l0]) (ev_neg (by omega) (Ev.now _)), ?_⟩
      exact ⟨fun _ j h1 h2 => absurd h2 (by omega), fun _ => rfl⟩
    | succ d ih =>
      intro i hi
      by_cases c : nb (bt s (i : Int)) = true
      · obtain ⟨b, hb, hP⟩ := ih (i + 1) (by omega)
        have hb' : Ev (fun k => impl_NameOk.l0 k s (i : Int)) b := by
          refine Ev.step (fun k => by rw [impl_NameOk.l0]) ?_
          refine ev_pos (by omega) (ev_pos (by omega) (ev_bind0 (impl_nameByte_eq ..) (ev_pos c ?_)))
          rw [wrap_succ (n := s.size) (i := i) (by omega) (by omega)]
          exact hb
        refine ⟨b, hb', ?_⟩
        rw [hP]
        refine ⟨fun h j h1 h2 => ?_, fun h j h1 h2 => h j (by omega) h2⟩
        rcases Nat.lt_or_ge i j with h3 | h3
        · exact h j h3 h2
        · have : i = j := by omega
          subst this
          exact c
      · refine ⟨false, Ev.step (fun k => by rw [impl_NameOk.l0]) (ev_pos (by omega) (ev_pos (by omega) (ev_bind0 (impl_nameByte_eq ..) (ev_neg c (Ev.now _))))), ?_⟩
        exact ⟨fun h => (by cases h), fun h => absurd (h i (Nat.le_refl _) (by omega)) c⟩
  unfold impl_NameOk.f
  by_cases c1 : (s.size : Int) < 1
  · refine ⟨false, ev_pos c1 (Ev.step (fun k => by rw [impl_NameOk.j0]) (ev_pos rfl (Ev.now _))), fun h => (by cases h), fun h => absurd h.1 (by omega)⟩
  · by_cases c2 : (s.size : Int) > 20
    · refine ⟨false, ev_neg c1 (Ev.step (fun k => by rw [impl_NameOk.j0]) (ev_pos (by simp [c2]) (Ev.now _))), fun h => (by cases h), fun h => absurd h.2.1 (by omega)⟩
    · obtain ⟨b, hb, hP⟩ := key (by omega) s.size 0 (by omega)
      have hb' : Ev (fun k => impl_NameOk.j0 k s (decide ((s.size : Int) > 20))) b := by
        refine Ev.step (fun k => by rw [impl_NameOk.j0]) ?_
        exact ev_neg (by simp; omega) hb
      refine ⟨b, ev_neg c1 hb', hP.trans ⟨fun h => ⟨by omega, by omega, fun j hj => h j (by omega) hj⟩, fun h j _ hj => h.2.2 j hj⟩⟩
end Go.Proofs.Ytflagondodkonaa.PFnExactItemsOk
