/- What the law's helper functions answer: sizes, conversions, comparisons. By this repo's wip/tools/pg.py. -/
import Derived.Test.YtkkdmmefnicmaaaZPFnExactWriteBankx0
import Derived.Test.YtkkdmmefnicmaaaZPFnExactWriteBankx1
import Derived.Test.YtkkdmmefnicmaaaZPFnExactWriteBankx12
import Derived.Test.YtkkdmmefnicmaaaZPFnExactWriteBankx2
import Derived.Test.YtkkdmmefnicmaaaZPFnExactWriteBankx5
import Derived.Test.YtkkdmmefnicmaaaZPFnExactWriteBankx6
import Derived.Test.YtkkdmmefnicmaaaZPFnExactWriteBankx7
import Derived.Test.YtkkdmmefnicmaaaZPFnExactWriteBankx9
import Derived.Test.YtkkdmmefnicmaaaZEv
set_option maxHeartbeats 2000000
set_option linter.unusedVariables false
set_option linter.unusedSimpArgs false
namespace Go.Proofs.Ytkkdmmefnicmaaa.PFnExactWriteBank
open Go.RowKit Go.Proofs.YtkkdmmefnicmaaaW.PrintWords Go.Proofs.YtkkdmmefnicmaaaW.PrintLast Go.Proofs.Ytkkdmmefnicmaaa.XEv

/-- What is counted of it is at most n. -/
def B138 (n : Int) (x : S138) : Prop := ((x.f0.size : Int) ≤ n) ∧ ((x.f1.size : Int) ≤ n)
theorem B138_mono {n m : Int} {x : S138} (h : n ≤ m) (hb : B138 n x) : B138 m x := ⟨Int.le_trans hb.1 h, Int.le_trans hb.2 h⟩
/-- What is counted of it is at most n. -/
def B140 (n : Int) (x : S140) : Prop := ((x.f0.size : Int) ≤ n) ∧ ((x.f1.size : Int) ≤ n)
theorem laws_szPayment_ev (x : S138) (n : Int) (h0 : 0 ≤ n) (h1 : n ≤ 1048576) (hg : G138 x) : ∃ r, Ev (fun _ => laws_szPayment.f (x.f0) (x.f1) (x.f2) n) r ∧ (r < 0 ∨ (0 ≤ r ∧ r ≤ n ∧ B138 n x)) := by
  unfold laws_szPayment.f
  have hs0 := hg.1
  unfold maxLen at hs0
  have hw0 : wrap64 (n - (x.f0.size : Int)) = n - (x.f0.size : Int) := wrap_id (by omega) (by omega)
  by_cases c0 : wrap64 (n - (x.f0.size : Int)) < 0
  · exact ⟨-1, ev_pos c0 (Ev.now _), .inl (by decide)⟩
  · skip
    have hs1 := hg.2.1
    unfold maxLen at hs1
    have hw1 : wrap64 ((wrap64 (n - (x.f0.size : Int))) - (x.f1.size : Int)) = (wrap64 (n - (x.f0.size : Int))) - (x.f1.size : Int) := wrap_id (by omega) (by omega)
    by_cases c1 : wrap64 ((wrap64 (n - (x.f0.size : Int))) - (x.f1.size : Int)) < 0
    · exact ⟨-1, ev_neg c0 (ev_pos c1 (Ev.now _)), .inl (by decide)⟩
    · skip
      exact ⟨(wrap64 ((wrap64 (n - (x.f0.size : Int))) - (x.f1.size : Int))), ev_neg c0 (ev_neg c1 (Ev.now _)), .inr ⟨by omega, by omega, ⟨(by omega : (x.f0.size : Int) ≤ n), (by omega : (x.f1.size : Int) ≤ n)⟩⟩⟩
theorem laws_szPaymentS_ev (l : List (S138)) (n : Int) (h0 : 0 ≤ n) (h1 : n ≤ 1048576) (hg : l.length ≤ maxLen ∧ ∀ a_ ∈ l, G138 a_) : ∃ r, Ev (fun k => laws_szPaymentS.f k l n) r ∧ (r < 0 ∨ (0 ≤ r ∧ r ≤ n ∧ (l.length : Int) ≤ n ∧ ∀ a_ ∈ l, B138 n a_)) := by
  have hl := hg.1
  unfold maxLen at hl
  have hw : wrap64 (n - (l.length : Int)) = n - (l.length : Int) := wrap_id (by omega) (by omega)
  unfold laws_szPaymentS.f
  simp only [hw]
  by_cases c : n - (l.length : Int) < 0
  · exact ⟨-1, ev_pos c (Ev.now _), .inl (by decide)⟩
  · have tl := take_loop (fun k left i => laws_szPaymentS.l0 k l left i) l (fun n a_ => B138 n a_) (fun _ _ _ h hb => B138_mono h hb) ?_ ?_ (n - (l.length : Int)) (by omega) (by omega)
    · obtain ⟨r, hr, h⟩ := tl
      refine ⟨r, ev_neg c hr, ?_⟩
      rcases h with h | ⟨a, b, c'⟩
      · exact .inl h
      · exact .inr ⟨a, by omega, by omega, fun x hx => B138_mono (by omega) (c' x hx)⟩
    · intro left i hi h0 h1
      have hrd : rd_T138 l (i : Int) = l[i] := getD_at hi _
      obtain ⟨r, hr, h⟩ := laws_szPayment_ev l[i] left h0 h1 (hg.2 _ (List.getElem_mem hi))
      refine ⟨r, ?_⟩
      rcases h with h | ⟨a, b, c'⟩
      · refine .inl ⟨h, Ev.step (fun k => by rw [laws_szPaymentS.l0]) ?_⟩
        simp only [hrd]
        exact ev_pos (by omega) (ev_pos (by omega) (Ev.bind hr (ev_pos h (Ev.now _))))
      · refine .inr ⟨a, b, c', fun q hq => Ev.step (fun k => by rw [laws_szPaymentS.l0]) ?_⟩
        simp only [hrd]
        refine ev_pos (by omega) (ev_pos (by omega) (Ev.bind hr (ev_neg (by omega) ?_)))
        rw [wrap_succ hi (by omega)]
        exact hq
    · intro left
      refine Ev.step (fun k => by rw [laws_szPaymentS.l0]) ?_
      exact ev_neg (by omega) (Ev.now _)
/-- The law's own value as the program's. -/
def cv138 (x : S138) : S140 := ⟨x.f0, x.f1, x.f2⟩
theorem cv138_B {n : Int} {x : S138} (hb : B138 n x) : B140 n (cv138 x) := ⟨hb.1, hb.2⟩
theorem laws_toPayment_ev (x : S138) : Ev (fun _ => laws_toPayment.f (x.f0) (x.f1) (x.f2)) (x.f0, x.f1, x.f2) := by
  unfold laws_toPayment.f
  exact Ev.now _
theorem laws_toPaymentS_ev (l : List (S138)) (hb : (l.length : Int) ≤ 1048576 ∧ ∀ a_ ∈ l, B138 1048576 a_) : Ev (fun k => laws_toPaymentS.f k l) (l.map cv138) := by
  have hl := hb.1
  unfold laws_toPaymentS.f
  refine ev_pos (by omega) (ev_pos (by omega) ?_)
  have hfl := fill_loop (fun k ys i => laws_toPaymentS.l0 k l ys i) cv138 (z140) l ?_ ?_
  · simpa only [Int.toNat_natCast] using hfl
  · intro ys i hi r hy hq
    have hrd : rd_T138 l (i : Int) = l[i] := getD_at hi _
    refine Ev.step (fun k => by rw [laws_toPaymentS.l0]) ?_
    simp only [hrd]
    refine ev_pos (by omega) (ev_pos (by omega) (Ev.bind (laws_toPayment_ev l[i]) (ev_pos (by omega) ?_)))
    rw [wrap_succ hi (by omega)]
    simp only [Int.toNat_natCast]
    exact hq
  · intro ys
    refine Ev.step (fun k => by rw [laws_toPaymentS.l0]) ?_
    exact ev_neg (by omega) (Ev.now _)
theorem laws_eqPayment_ev (x : S140) (hb : B140 1048576 x) : Ev (fun _ => laws_eqPayment.f (x.f0) (x.f1) (x.f2) (x.f0) (x.f1) (x.f2)) true := by
  unfold laws_eqPayment.f
  refine ev_pos rfl ?_
  refine ev_pos rfl ?_
  refine ev_pos rfl ?_
  exact Ev.now _
theorem laws_eqPaymentS_ev (l : List (S140)) (hb : (l.length : Int) ≤ 1048576 ∧ ∀ a_ ∈ l, B140 1048576 a_) : Ev (fun k => laws_eqPaymentS.f k l l) true := by
  have hl := hb.1
  unfold laws_eqPaymentS.f
  refine ev_pos rfl ?_
  refine all_loop (fun k i => laws_eqPaymentS.l0 k l l i) l.length ?_ ?_
  · intro i hi hq
    refine Ev.step (fun k => by rw [laws_eqPaymentS.l0]) ?_
    have hrd : rd_T140 l (i : Int) = l[i] := getD_at hi _
    simp only [hrd]
    refine ev_pos (by omega) (ev_pos (by omega) (ev_pos (by omega) (Ev.bind (laws_eqPayment_ev l[i] (hb.2 _ (List.getElem_mem hi))) (ev_pos rfl ?_))))
    rw [wrap_succ hi (by omega)]
    exact hq
  · refine Ev.step (fun k => by rw [laws_eqPaymentS.l0]) ?_
    exact ev_neg (by omega) (Ev.now _)
theorem spec_l1In_eq (a b c : Int) : spec_l1In.f a b c = some (decide (b ≤ a ∧ a ≤ c)) := by
  unfold spec_l1In.f
  by_cases h : a ≥ b
  · rw [if_pos h]; simp [show b ≤ a from h]
  · rw [if_neg h]; simp [show ¬ b ≤ a from h]
theorem impl_between_eq (a b c : Int) : impl_between.f a b c = some (decide (b ≤ a ∧ a ≤ c)) := by
  unfold impl_between.f
  by_cases h : a ≥ b
  · rw [if_pos h]; simp [show b ≤ a from h]
  · rw [if_neg h]; simp [show ¬ b ≤ a from h]
theorem spec_l1Amount_eq (a : Int) : spec_l1Amount.f a = some (decide (-100000000000 ≤ a ∧ a ≤ 100000000000)) := by
  unfold spec_l1Amount.f
  rw [spec_l1In_eq]
  rfl
theorem spec_l2Day_eq (a : Int) : spec_l2Day.f a = some (decide (0 ≤ a ∧ a ≤ 40000)) := by
  unfold spec_l2Day.f
  rw [spec_l1In_eq]
  rfl
theorem impl_amount_eq (a : Int) : impl_amount.f a = some (decide (-100000000000 ≤ a ∧ a ≤ 100000000000)) := by
  unfold impl_amount.f
  rw [impl_between_eq]
  rfl
theorem impl_isDay_eq (a : Int) : impl_isDay.f a = some (decide (0 ≤ a ∧ a ≤ 40000)) := by
  unfold impl_isDay.f
  rw [impl_between_eq]
  rfl
theorem impl_nameByte_eq (c : Int) : impl_nameByte.f c = some (nb c) := by
  unfold impl_nameByte.f nb
  repeat' split
  all_goals first | (congr 1; symm; simp only [decide_eq_true_eq]; omega) | (congr 1; rw [Bool.eq_iff_iff]; simp only [beq_iff_eq, decide_eq_true_eq]; omega)
theorem spec_NameOk_l0 (k : Nat) (s : ByteArray) (x : Int) : spec_NameOk.l0 (k + 1) s x = if x < (s.size : Int) then (if 0 ≤ x then (if nb (bt s x) = true then spec_NameOk.l0 k s (wrap64 (x + 1)) else some false) else none) else ((spec_l1In.f (s.size : Int) 1 20).bind fun t => some t) := by
  rw [spec_NameOk.l0]
  by_cases h : x < (s.size : Int)
  · rw [if_pos h, if_pos h]
    by_cases h0 : 0 ≤ x
    · rw [if_pos h0, if_pos h0]
      generalize bt s x = c
      generalize spec_NameOk.l0 k s (wrap64 (x + 1)) = L
      unfold nb
      simp only [decide_eq_true_eq]
      repeat' split
      all_goals first | rfl | omega
    · rw [if_neg h0, if_neg h0]
  · rw [if_neg h, if_neg h]
theorem spec_NameOk_ev (s : ByteArray) (hs : (s.size : Int) ≤ 1048576) : ∃ b, Ev (fun k => spec_NameOk.f k s) b ∧ (b = true ↔ NameIs s) := by
  have key : ∀ (d i : Nat), i + d = s.size → ∃ b, Ev (fun k => spec_NameOk.l0 k s (i : Int)) b ∧ (b = true ↔ (1 ≤ s.size ∧ s.size ≤ 20) ∧ ∀ j, i ≤ j → j < s.size → nb (bt s (j : Nat)) = true) := by
    intro d
    induction d with
    | zero =>
      intro i hi
      refine ⟨decide (1 ≤ (s.size : Int) ∧ (s.size : Int) ≤ 20), Ev.step (fun k => spec_NameOk_l0 ..) (ev_neg (by omega) (ev_bind0 (spec_l1In_eq ..) (Ev.now _))), ?_⟩
      rw [decide_eq_true_eq]
      exact ⟨fun h => ⟨by omega, fun j h1 h2 => absurd h2 (by omega)⟩, fun h => by omega⟩
    | succ d ih =>
      intro i hi
      by_cases c : nb (bt s (i : Int)) = true
      · obtain ⟨b, hb, hP⟩ := ih (i + 1) (by omega)
        refine ⟨b, Ev.step (fun k => spec_NameOk_l0 ..) (ev_pos (by omega) (ev_pos (by omega) (ev_pos c (by rw [wrap_succ (n := s.size) (i := i) (by omega) (by omega)]; exact hb)))), ?_⟩
        rw [hP]
        refine ⟨fun h => ⟨h.1, fun j h1 h2 => ?_⟩, fun h => ⟨h.1, fun j h1 h2 => h.2 j (by omega) h2⟩⟩
        rcases Nat.lt_or_ge i j with h3 | h3
        · exact h.2 j h3 h2
        · have : i = j := by omega
          subst this
          exact c
      · refine ⟨false, Ev.step (fun k => spec_NameOk_l0 ..) (ev_pos (by omega) (ev_pos (by omega) (ev_neg c (Ev.now _)))), ?_⟩
        exact ⟨fun h => (by cases h), fun h => absurd (h.2 i (Nat.le_refl _) (by omega)) c⟩
  obtain ⟨b, hb, hP⟩ := key s.size 0 (by omega)
  refine ⟨b, by unfold spec_NameOk.f; exact hb, hP.trans ⟨fun h => ⟨h.1.1, h.1.2, fun j hj => h.2 j (by omega) hj⟩, fun h => ⟨⟨h.1, h.2.1⟩, fun j _ hj => h.2.2 j hj⟩⟩⟩
theorem impl_NameOk_ev (s : ByteArray) : ∃ b, Ev (fun k => impl_NameOk.f k s) b ∧ (b = true ↔ NameIs s) := by
  have key : s.size ≤ 20 → ∀ (d i : Nat), i + d = s.size → ∃ b, Ev (fun k => impl_NameOk.l0 k s (i : Int)) b ∧ (b = true ↔ ∀ j, i ≤ j → j < s.size → nb (bt s (j : Nat)) = true) := by
    intro hs d
    induction d with
    | zero =>
      intro i hi
      refine ⟨true, Ev.step (fun k => by rw [impl_NameOk.l0]) (ev_neg (by omega) (Ev.now _)), ?_⟩
      exact ⟨fun _ j h1 h2 => absurd h2 (by omega), fun _ => rfl⟩
    | succ d ih =>
      intro i hi
      by_cases c : nb (bt s (i : Int)) = true
      · obtain ⟨b, hb, hP⟩ := ih (i + 1) (by omega)
        have hb' : Ev (fun k => impl_NameOk.l0 k s (i : Int)) b := by
          refine Ev.step (fun k => by rw [impl_NameOk.l0]) ?_
          refine ev_pos (by omega) (ev_pos (by omega) (ev_bind0 (impl_nameByte_eq ..) (ev_pos c ?_)))
          rw [wrap_succ (n := s.size) (i := i) (by omega) (by omega)]
          exact hb
        refine ⟨b, hb', ?_⟩
        rw [hP]
        refine ⟨fun h j h1 h2 => ?_, fun h j h1 h2 => h j (by omega) h2⟩
        rcases Nat.lt_or_ge i j with h3 | h3
        · exact h j h3 h2
        · have : i = j := by omega
          subst this
          exact c
      · refine ⟨false, Ev.step (fun k => by rw [impl_NameOk.l0]) (ev_pos (by omega) (ev_pos (by omega) (ev_bind0 (impl_nameByte_eq ..) (ev_neg c (Ev.now _))))), ?_⟩
        exact ⟨fun h => (by cases h), fun h => absurd (h i (Nat.le_refl _) (by omega)) c⟩
  unfold impl_NameOk.f
  by_cases c1 : (s.size : Int) < 1
  · refine ⟨false, ev_pos c1 (Ev.step (fun k => by rw [impl_NameOk.j0]) (ev_pos rfl (Ev.now _))), fun h => (by cases h), fun h => absurd h.1 (by omega)⟩
  · by_cases c2 : (s.size : Int) > 20
    · refine ⟨false, ev_neg c1 (Ev.step (fun k => by rw [impl_NameOk.j0]) (ev_pos (by simp [c2]) (Ev.now _))), fun h => (by cases h), fun h => absurd h.2.1 (by omega)⟩
    · obtain ⟨b, hb, hP⟩ := key (by omega) s.size 0 (by omega)
      have hb' : Ev (fun k => impl_NameOk.j0 k s (decide ((s.size : Int) > 20))) b := by
        refine Ev.step (fun k => by rw [impl_NameOk.j0]) ?_
        exact ev_neg (by simp; omega) hb
      refine ⟨b, ev_neg c1 hb', hP.trans ⟨fun h => ⟨by omega, by omega, fun j hj => h j (by omega) hj⟩, fun h j _ hj => h.2.2 j hj⟩⟩
end Go.Proofs.Ytkkdmmefnicmaaa.PFnExactWriteBank
