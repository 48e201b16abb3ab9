/- What the law's helper functions answer: sizes, conversions, comparisons. By this repo's wip/tools/pg.py. -/
import Derived.Test.YtdnhpicgjkddbaaZPFnExactFindPaperx0
import Derived.Test.YtdnhpicgjkddbaaZPFnExactFindPaperx1
import Derived.Test.YtdnhpicgjkddbaaZPFnExactFindPaperx2
import Derived.Test.YtdnhpicgjkddbaaZPFnExactFindPaperx3
import Derived.Test.YtdnhpicgjkddbaaZPFnExactFindPaperx4
import Derived.Test.YtdnhpicgjkddbaaZPFnExactFindPaperx6
import Derived.Test.YtdnhpicgjkddbaaZPFnExactFindPaperx7
import Derived.Test.YtdnhpicgjkddbaaZEv
set_option maxHeartbeats 2000000
set_option linter.unusedVariables false
set_option linter.unusedSimpArgs false
namespace Go.Proofs.Ytdnhpicgjkddbaa.PFnExactFindPaper
open Go.RowKit Go.Proofs.YtdnhpicgjkddbaaW.PrintWords Go.Proofs.YtdnhpicgjkddbaaW.PrintLast Go.Proofs.Ytdnhpicgjkddbaa.XEv

/-- What is counted of it is at most n. -/
def B207 (n : Int) (x : S207) : Prop := ((x.f0.size : Int) ≤ n)
theorem B207_mono {n m : Int} {x : S207} (h : n ≤ m) (hb : B207 n x) : B207 m x := Int.le_trans hb h
/-- What is counted of it is at most n. -/
def B122 (n : Int) (x : S122) : Prop := ((x.f0.size : Int) ≤ n)
theorem laws_szSeries_ev (x : S207) (n : Int) (h0 : 0 ≤ n) (h1 : n ≤ 1048576) (hg : G207 x) : ∃ r, Ev (fun _ => laws_szSeries.f (x.f0) (x.f1) n) r ∧ (r < 0 ∨ (0 ≤ r ∧ r ≤ n ∧ B207 n x)) := by
  unfold laws_szSeries.f
  have hs0 := hg.1
  unfold maxLen at hs0
  have hw0 : wrap64 (n - (x.f0.size : Int)) = n - (x.f0.size : Int) := wrap_id (by omega) (by omega)
  by_cases c0 : wrap64 (n - (x.f0.size : Int)) < 0
  · exact ⟨-1, ev_pos c0 (Ev.now _), .inl (by decide)⟩
  · skip
    exact ⟨(wrap64 (n - (x.f0.size : Int))), ev_neg c0 (Ev.now _), .inr ⟨by omega, by omega, (by omega : (x.f0.size : Int) ≤ n)⟩⟩
theorem laws_szSeriesS_ev (l : List (S207)) (n : Int) (h0 : 0 ≤ n) (h1 : n ≤ 1048576) (hg : l.length ≤ maxLen ∧ ∀ a_ ∈ l, G207 a_) : ∃ r, Ev (fun k => laws_szSeriesS.f k l n) r ∧ (r < 0 ∨ (0 ≤ r ∧ r ≤ n ∧ (l.length : Int) ≤ n ∧ ∀ a_ ∈ l, B207 n a_)) := by
  have hl := hg.1
  unfold maxLen at hl
  have hw : wrap64 (n - (l.length : Int)) = n - (l.length : Int) := wrap_id (by omega) (by omega)
  unfold laws_szSeriesS.f
  simp only [hw]
  by_cases c : n - (l.length : Int) < 0
  · exact ⟨-1, ev_pos c (Ev.now _), .inl (by decide)⟩
  · have tl := take_loop (fun k left i => laws_szSeriesS.l0 k l left i) l (fun n a_ => B207 n a_) (fun _ _ _ h hb => B207_mono h hb) ?_ ?_ (n - (l.length : Int)) (by omega) (by omega)
    · obtain ⟨r, hr, h⟩ := tl
      refine ⟨r, ev_neg c hr, ?_⟩
      rcases h with h | ⟨a, b, c'⟩
      · exact .inl h
      · exact .inr ⟨a, by omega, by omega, fun x hx => B207_mono (by omega) (c' x hx)⟩
    · intro left i hi h0 h1
      have hrd : rd_T207 l (i : Int) = l[i] := getD_at hi _
      obtain ⟨r, hr, h⟩ := laws_szSeries_ev l[i] left h0 h1 (hg.2 _ (List.getElem_mem hi))
      refine ⟨r, ?_⟩
      rcases h with h | ⟨a, b, c'⟩
      · refine .inl ⟨h, Ev.step (fun k => by rw [laws_szSeriesS.l0]) ?_⟩
        simp only [hrd]
        exact ev_pos (by omega) (ev_pos (by omega) (Ev.bind hr (ev_pos h (Ev.now _))))
      · refine .inr ⟨a, b, c', fun q hq => Ev.step (fun k => by rw [laws_szSeriesS.l0]) ?_⟩
        simp only [hrd]
        refine ev_pos (by omega) (ev_pos (by omega) (Ev.bind hr (ev_neg (by omega) ?_)))
        rw [wrap_succ hi (by omega)]
        exact hq
    · intro left
      refine Ev.step (fun k => by rw [laws_szSeriesS.l0]) ?_
      exact ev_neg (by omega) (Ev.now _)
theorem laws_szPaperS_ev (l : List (S210)) (n : Int) (h0 : 0 ≤ n) (h1 : n ≤ 1048576) (hg : l.length ≤ maxLen ∧ ∀ a_ ∈ l, G210 a_) : ∃ r, Ev (fun _ => laws_szPaperS.f l n) r ∧ (r < 0 ∨ (0 ≤ r ∧ r ≤ n ∧ (l.length : Int) ≤ n)) := by
  have hl := hg.1
  unfold maxLen at hl
  have hw : wrap64 (n - (l.length : Int)) = n - (l.length : Int) := wrap_id (by omega) (by omega)
  unfold laws_szPaperS.f
  simp only [hw]
  by_cases c : n - (l.length : Int) < 0
  · exact ⟨-1, ev_pos c (Ev.now _), .inl (by decide)⟩
  · exact ⟨n - (l.length : Int), ev_neg c (Ev.now _), .inr ⟨by omega, by omega, by omega⟩⟩
/-- What is counted of it is at most n. -/
def B36 (n : Int) (x : S36) : Prop := ((x.f0.length : Int) ≤ n ∧ ∀ a_ ∈ x.f0, B207 n a_) ∧ ((x.f1.length : Int) ≤ n)
/-- What is counted of it is at most n. -/
def B42 (n : Int) (x : S42) : Prop := ((x.f0.length : Int) ≤ n ∧ ∀ a_ ∈ x.f0, B122 n a_) ∧ ((x.f1.length : Int) ≤ n)
theorem laws_szRegister_ev (x : S36) (n : Int) (h0 : 0 ≤ n) (h1 : n ≤ 1048576) (hg : G36 x) : ∃ r, Ev (fun k => laws_szRegister.f k (x.f0) (x.f1) n) r ∧ (r < 0 ∨ (0 ≤ r ∧ r ≤ n ∧ B36 n x)) := by
  unfold laws_szRegister.f
  obtain ⟨r0, e0, h0⟩ := laws_szSeriesS_ev x.f0 n (by omega) (by omega) hg.1
  rcases h0 with h0 | ⟨p0, q0, b0⟩
  · exact ⟨-1, Ev.bind e0 (ev_pos h0 (Ev.now _)), .inl (by decide)⟩
  · skip
    obtain ⟨r1, e1, h1⟩ := laws_szPaperS_ev x.f1 r0 (by omega) (by omega) hg.2
    rcases h1 with h1 | ⟨p1, q1, b1⟩
    · exact ⟨-1, Ev.bind e0 (ev_neg (by omega) (Ev.bind e1 (ev_pos h1 (Ev.now _)))), .inl (by decide)⟩
    · skip
      exact ⟨r1, Ev.bind e0 (ev_neg (by omega) (Ev.bind e1 (ev_neg (by omega) (Ev.now _)))), .inr ⟨by omega, by omega, ⟨⟨Int.le_trans b0.1 (by omega), fun a_ ha_ => B207_mono (by omega) (b0.2 a_ ha_)⟩, Int.le_trans b1 (by omega)⟩⟩⟩
/-- The law's own value as the program's. -/
def cv207 (x : S207) : S122 := ⟨x.f0, x.f1⟩
theorem cv207_B {n : Int} {x : S207} (hb : B207 n x) : B122 n (cv207 x) := hb
theorem laws_toSeries_ev (x : S207) : Ev (fun _ => laws_toSeries.f (x.f0) (x.f1)) (x.f0, x.f1) := by
  unfold laws_toSeries.f
  exact Ev.now _
theorem laws_toSeriesS_ev (l : List (S207)) (hb : (l.length : Int) ≤ 1048576 ∧ ∀ a_ ∈ l, B207 1048576 a_) : Ev (fun k => laws_toSeriesS.f k l) (l.map cv207) := by
  have hl := hb.1
  unfold laws_toSeriesS.f
  refine ev_pos (by omega) (ev_pos (by omega) ?_)
  have hfl := fill_loop (fun k ys i => laws_toSeriesS.l0 k l ys i) cv207 (z122) l ?_ ?_
  · simpa only [Int.toNat_natCast] using hfl
  · intro ys i hi r hy hq
    have hrd : rd_T207 l (i : Int) = l[i] := getD_at hi _
    refine Ev.step (fun k => by rw [laws_toSeriesS.l0]) ?_
    simp only [hrd]
    refine ev_pos (by omega) (ev_pos (by omega) (Ev.bind (laws_toSeries_ev l[i]) (ev_pos (by omega) ?_)))
    rw [wrap_succ hi (by omega)]
    simp only [Int.toNat_natCast]
    exact hq
  · intro ys
    refine Ev.step (fun k => by rw [laws_toSeriesS.l0]) ?_
    exact ev_neg (by omega) (Ev.now _)
/-- The law's own value as the program's. -/
def cv210 (x : S210) : S53 := ⟨x.f0, x.f1, x.f2, x.f3⟩
theorem laws_toPaper_ev (x : S210) : Ev (fun _ => laws_toPaper.f (x.f0) (x.f1) (x.f2) (x.f3)) (x.f0, x.f1, x.f2, x.f3) := by
  unfold laws_toPaper.f
  exact Ev.now _
theorem laws_toPaperS_ev (l : List (S210)) (hb : (l.length : Int) ≤ 1048576) : Ev (fun k => laws_toPaperS.f k l) (l.map cv210) := by
  have hl := hb
  unfold laws_toPaperS.f
  refine ev_pos (by omega) (ev_pos (by omega) ?_)
  have hfl := fill_loop (fun k ys i => laws_toPaperS.l0 k l ys i) cv210 (z53) l ?_ ?_
  · simpa only [Int.toNat_natCast] using hfl
  · intro ys i hi r hy hq
    have hrd : rd_T210 l (i : Int) = l[i] := getD_at hi _
    refine Ev.step (fun k => by rw [laws_toPaperS.l0]) ?_
    simp only [hrd]
    refine ev_pos (by omega) (ev_pos (by omega) (Ev.bind (laws_toPaper_ev l[i]) (ev_pos (by omega) ?_)))
    rw [wrap_succ hi (by omega)]
    simp only [Int.toNat_natCast]
    exact hq
  · intro ys
    refine Ev.step (fun k => by rw [laws_toPaperS.l0]) ?_
    exact ev_neg (by omega) (Ev.now _)
/-- The law's own value as the program's. -/
def cv36 (x : S36) : S42 := ⟨x.f0.map cv207, x.f1.map cv210⟩
theorem cv36_B {n : Int} {x : S36} (hb : B36 n x) : B42 n (cv36 x) := ⟨⟨by simp only [cv36, B42, List.length_map]; exact hb.1.1, fun a_ ha_ => by obtain ⟨y_, hy_, rfl⟩ := List.mem_map.1 ha_; exact (cv207_B (hb.1.2 y_ hy_))⟩, (by simp only [cv36, B42, List.length_map]; exact hb.2)⟩
theorem laws_toRegister_ev (x : S36) (hb : B36 1048576 x) : Ev (fun k => laws_toRegister.f k (x.f0) (x.f1)) (x.f0.map cv207, x.f1.map cv210) := by
  unfold laws_toRegister.f
  exact Ev.bind (laws_toSeriesS_ev x.f0 hb.1) (Ev.bind (laws_toPaperS_ev x.f1 hb.2) (Ev.now _))
theorem laws_eqSeries_ev (x : S122) (hb : B122 1048576 x) : Ev (fun _ => laws_eqSeries.f (x.f0) (x.f1) (x.f0) (x.f1)) true := by
  unfold laws_eqSeries.f
  refine ev_pos rfl ?_
  refine ev_pos rfl ?_
  exact Ev.now _
theorem laws_eqSeriesS_ev (l : List (S122)) (hb : (l.length : Int) ≤ 1048576 ∧ ∀ a_ ∈ l, B122 1048576 a_) : Ev (fun k => laws_eqSeriesS.f k l l) true := by
  have hl := hb.1
  unfold laws_eqSeriesS.f
  refine ev_pos rfl ?_
  refine all_loop (fun k i => laws_eqSeriesS.l0 k l l i) l.length ?_ ?_
  · intro i hi hq
    refine Ev.step (fun k => by rw [laws_eqSeriesS.l0]) ?_
    have hrd : rd_T122 l (i : Int) = l[i] := getD_at hi _
    simp only [hrd]
    refine ev_pos (by omega) (ev_pos (by omega) (ev_pos (by omega) (Ev.bind (laws_eqSeries_ev l[i] (hb.2 _ (List.getElem_mem hi))) (ev_pos rfl ?_))))
    rw [wrap_succ hi (by omega)]
    exact hq
  · refine Ev.step (fun k => by rw [laws_eqSeriesS.l0]) ?_
    exact ev_neg (by omega) (Ev.now _)
theorem laws_eqPaper_ev (x : S53) : Ev (fun _ => laws_eqPaper.f (x.f0) (x.f1) (x.f2) (x.f3) (x.f0) (x.f1) (x.f2) (x.f3)) true := by
  unfold laws_eqPaper.f
  refine ev_pos rfl ?_
  refine ev_pos rfl ?_
  refine ev_pos rfl ?_
  refine ev_neg (by simp) ?_
  exact Ev.now _
theorem laws_eqPaperS_ev (l : List (S53)) (hb : (l.length : Int) ≤ 1048576) : Ev (fun k => laws_eqPaperS.f k l l) true := by
  have hl := hb
  unfold laws_eqPaperS.f
  refine ev_pos rfl ?_
  refine all_loop (fun k i => laws_eqPaperS.l0 k l l i) l.length ?_ ?_
  · intro i hi hq
    refine Ev.step (fun k => by rw [laws_eqPaperS.l0]) ?_
    have hrd : rd_T53 l (i : Int) = l[i] := getD_at hi _
    simp only [hrd]
    refine ev_pos (by omega) (ev_pos (by omega) (ev_pos (by omega) (Ev.bind (laws_eqPaper_ev l[i]) (ev_pos rfl ?_))))
    rw [wrap_succ hi (by omega)]
    exact hq
  · refine Ev.step (fun k => by rw [laws_eqPaperS.l0]) ?_
    exact ev_neg (by omega) (Ev.now _)
theorem laws_eqRegister_ev (x : S42) (hb : B42 1048576 x) : Ev (fun k => laws_eqRegister.f k (x.f0) (x.f1) (x.f0) (x.f1)) true := by
  unfold laws_eqRegister.f
  refine Ev.bind (laws_eqSeriesS_ev x.f0 hb.1) (ev_pos rfl ?_)
  refine Ev.bind (laws_eqPaperS_ev x.f1 hb.2) (ev_pos rfl ?_)
  exact Ev.now _
theorem spec_l1In_eq (a b c : Int) : spec_l1In.f a b c = some (decide (b ≤ a ∧ a ≤ c)) := by
  unfold spec_l1In.f
  by_cases h : a ≥ b
  · rw [if_pos h]; simp [show b ≤ a from h]
  · rw [if_neg h]; simp [show ¬ b ≤ a from h]
theorem impl_between_eq (a b c : Int) : impl_between.f a b c = some (decide (b ≤ a ∧ a ≤ c)) := by
  unfold impl_between.f
  by_cases h : a ≥ b
  · rw [if_pos h]; simp [show b ≤ a from h]
  · rw [if_neg h]; simp [show ¬ b ≤ a from h]
theorem spec_l2Day_eq (a : Int) : spec_l2Day.f a = some (decide (0 ≤ a ∧ a ≤ 40000)) := by
  unfold spec_l2Day.f
  rw [spec_l1In_eq]
  rfl
theorem impl_isDay_eq (a : Int) : impl_isDay.f a = some (decide (0 ≤ a ∧ a ≤ 40000)) := by
  unfold impl_isDay.f
  rw [impl_between_eq]
  rfl
theorem impl_nameByte_eq (c : Int) : impl_nameByte.f c = some (nb c) := by
  unfold impl_nameByte.f nb
  repeat' split
  all_goals first | (congr 1; symm; simp only [decide_eq_true_eq]; omega) | (congr 1; rw [Bool.eq_iff_iff]; simp only [beq_iff_eq, decide_eq_true_eq]; omega)
theorem spec_NameOk_l0 (k : Nat) (s : ByteArray) (x : Int) : spec_NameOk.l0 (k + 1) s x = if x < (s.size : Int) then (if 0 ≤ x then (if nb (bt s x) = true then spec_NameOk.l0 k s (wrap64 (x + 1)) else some false) else none) else ((spec_l1In.f (s.size : Int) 1 20).bind fun t => some t) := by
  rw [spec_NameOk.l0]
  by_cases h : x < (s.size : Int)
  · rw [if_pos h, if_pos h]
    by_cases h0 : 0 ≤ x
    · rw [if_pos h0, if_pos h0]
      generalize bt s x = c
      generalize spec_NameOk.l0 k s (wrap64 (x + 1)) = L
      unfold nb
      simp only [decide_eq_true_eq]
      repeat' split
      all_goals first | rfl | omega
    · rw [if_neg h0, if_neg h0]
  · rw [if_neg h, if_neg h]
theorem spec_NameOk_ev (s : ByteArray) (hs : (s.size : Int) ≤ 1048576) : ∃ b, Ev (fun k => spec_NameOk.f k s) b ∧ (b = true ↔ NameIs s) := by
  have key : ∀ (d i : Nat), i + d = s.size → ∃ b, Ev (fun k => spec_NameOk.l0 k s (i : Int)) b ∧ (b = true ↔ (1 ≤ s.size ∧ s.size ≤ 20) ∧ ∀ j, i ≤ j → j < s.size → nb (bt s (j : Nat)) = true) := by
    intro d
    induction d with
    | zero =>
      intro i hi
      refine ⟨decide (1 ≤ (s.size : Int) ∧ (s.size : Int) ≤ 20), Ev.step (fun k => spec_NameOk_l0 ..) (ev_neg (by omega) (ev_bind0 (spec_l1In_eq ..) (Ev.now _))), ?_⟩
      rw [decide_eq_true_eq]
      exact ⟨fun h => ⟨by omega, fun j h1 h2 => absurd h2 (by omega)⟩, fun h => by omega⟩
    | succ d ih =>
      intro i hi
      by_cases c : nb (bt s (i : Int)) = true
      · obtain ⟨b, hb, hP⟩ := ih (i + 1) (by omega)
        refine ⟨b, Ev.step (fun k => spec_NameOk_l0 ..) (ev_pos (by omega) (ev_pos (by omega) (ev_pos c (by rw [wrap_succ (n := s.size) (i := i) (by omega) (by omega)]; exact hb)))), ?_⟩
        rw [hP]
        refine ⟨fun h => ⟨h.1, fun j h1 h2 => ?_⟩, fun h => ⟨h.1, fun j h1 h2 => h.2 j (by omega) h2⟩⟩
        rcases Nat.lt_or_ge i j with h3 | h3
        · exact h.2 j h3 h2
        · have : i = j := by omega
          subst this
          exact c
      · refine ⟨false, Ev.step (fun k => spec_NameOk_l0 ..) (ev_pos (by omega) (ev_pos (by omega) (ev_neg c (Ev.now _)))), ?_⟩
        exact ⟨fun h => (by cases h), fun h => absurd (h.2 i (Nat.le_refl _) (by omega)) c⟩
  obtain ⟨b, hb, hP⟩ := key s.size 0 (by omega)
  refine ⟨b, by unfold spec_NameOk.f; exact hb, hP.trans ⟨fun h => ⟨h.1.1, h.1.2, fun j hj => h.2 j (by omega) hj⟩, fun h => ⟨⟨h.1, h.2.1⟩, fun j _ hj => h.2.2 j hj⟩⟩⟩
theorem impl_NameOk_ev (s : ByteArray) : ∃ b, Ev (fun k => impl_NameOk.f k s) b ∧ (b = true ↔ NameIs s) := by
  have key : s.size ≤ 20 → ∀ (d i : Nat), i + d = s.size → ∃ b, Ev (fun k => impl_NameOk.l0 k s (i : Int)) b ∧ (b = true ↔ ∀ j, i ≤ j → j < s.size → nb (bt s (j : Nat)) = true) := by
    intro hs d
    induction d with
    | zero =>
      intro i hi
      refine ⟨true, Ev.step (fun k => by rw [impl_NameOk.l0]) (ev_neg (by omega) (Ev.now _)), ?_⟩
      exact ⟨fun _ j h1 h2 => absurd h2 (by omega), fun _ => rfl⟩
    | succ d ih =>
      intro i hi
      by_cases c : nb (bt s (i : Int)) = true
      · obtain ⟨b, hb, hP⟩ := ih (i + 1) (by omega)
        have hb' : Ev (fun k => impl_NameOk.l0 k s (i : Int)) b := by
          refine Ev.step (fun k => by rw [impl_NameOk.l0]) ?_
          refine ev_pos (by omega) (ev_pos (by omega) (ev_bind0 (impl_nameByte_eq ..) (ev_pos c ?_)))
          rw [wrap_succ (n := s.size) (i := i) (by omega) (by omega)]
          exact hb
        refine ⟨b, hb', ?_⟩
        rw [hP]
        refine ⟨fun h j h1 h2 => ?_, fun h j h1 h2 => h j (by omega) h2⟩
        rcases Nat.lt_or_ge i j with h3 | h3
        · exact h j h3 h2
        · have : i = j := by omega
          subst this
          exact c
      · refine ⟨false, Ev.step (fun k => by rw [impl_NameOk.l0]) (ev_pos (by omega) (ev_pos (by omega) (ev_bind0 (impl_nameByte_eq ..) (ev_neg c (Ev.now _))))), ?_⟩
        exact ⟨fun h => (by cases h), fun h => absurd (h i (Nat.le_refl _) (by omega)) c⟩
  unfold impl_NameOk.f
  by_cases c1 : (s.size : Int) < 1
  · refine ⟨false, ev_pos c1 (Ev.step (fun k => by rw [impl_NameOk.j0]) (ev_pos rfl (Ev.now _))), fun h => (by cases h), fun h => absurd h.1 (by omega)⟩
  · by_cases c2 : (s.size : Int) > 20
    · refine ⟨false, ev_neg c1 (Ev.step (fun k => by rw [impl_NameOk.j0]) (ev_pos (by simp [c2]) (Ev.now _))), fun h => (by cases h), fun h => absurd h.2.1 (by omega)⟩
    · obtain ⟨b, hb, hP⟩ := key (by omega) s.size 0 (by omega)
      have hb' : Ev (fun k => impl_NameOk.j0 k s (decide ((s.size : Int) > 20))) b := by
        refine Ev.step (fun k => by rw [impl_NameOk.j0]) ?_
        exact ev_neg (by simp; omega) hb
      refine ⟨b, ev_neg c1 hb', hP.trans ⟨fun h => ⟨by omega, by omega, fun j hj => h j (by omega) hj⟩, fun h j _ hj => h.2.2 j hj⟩⟩
end Go.Proofs.Ytdnhpicgjkddbaa.PFnExactFindPaper
