/- What the law's helper functions answer: sizes, conversions, comparisons. By this repo's wip/tools/pg.py. -/
import Derived.Test.YtflagondodkonaaZPFnExactRollx1
import Derived.Test.YtflagondodkonaaZPFnExactRollx2
import Derived.Test.YtflagondodkonaaZPFnExactRollx4
import Derived.Test.YtflagondodkonaaZPFnExactRollx5
import Derived.Test.YtflagondodkonaaZPFnExactRollx7
import Derived.Test.YtflagondodkonaaZPFnExactRollx8
import Derived.Test.YtflagondodkonaaZEv
set_option maxHeartbeats 2000000
set_option linter.unusedVariables false
set_option linter.unusedSimpArgs false
namespace Go.Proofs.Ytflagondodkonaa.PFnExactRoll
open Go.RowKit Go.Proofs.YtflagondodkonaaW.PrintWords Go.Proofs.YtflagondodkonaaW.PrintLast Go.Proofs.Ytflagondodkonaa.XEv

/-- What is counted of it is at most n. -/
def B171 (n : Int) (x : S171) : Prop := ((x.f0.size : Int) ≤ n)
theorem B171_mono {n m : Int} {x : S171} (h : n ≤ m) (hb : B171 n x) : B171 m x := Int.le_trans hb h
/-- What is counted of it is at most n. -/
def B112 (n : Int) (x : S112) : Prop := ((x.f0.size : Int) ≤ n)
theorem laws_szAccount_ev (x : S171) (n : Int) (h0 : 0 ≤ n) (h1 : n ≤ 1048576) (hg : G171 x) : ∃ r, Ev (fun _ => laws_szAccount.f (x.f0) (x.f1) (x.f2) n) r ∧ (r < 0 ∨ (0 ≤ r ∧ r ≤ n ∧ B171 n x)) := by
  unfold laws_szAccount.f
  have hs0 := hg.1
  unfold maxLen at hs0
  have hw0 : wrap64 (n - (x.f0.size : Int)) = n - (x.f0.size : Int) := wrap_id (by omega) (by omega)
  by_cases c0 : wrap64 (n - (x.f0.size : Int)) < 0
  · exact ⟨-1, ev_pos c0 (Ev.now _), .inl (by decide)⟩
  · skip
    exact ⟨(wrap64 (n - (x.f0.size : Int))), ev_neg c0 (Ev.now _), .inr ⟨by omega, by omega, (by omega : (x.f0.size : Int) ≤ n)⟩⟩
theorem laws_szAccountS_ev (l : List (S171)) (n : Int) (h0 : 0 ≤ n) (h1 : n ≤ 1048576) (hg : l.length ≤ maxLen ∧ ∀ a_ ∈ l, G171 a_) : ∃ r, Ev (fun k => laws_szAccountS.f k l n) r ∧ (r < 0 ∨ (0 ≤ r ∧ r ≤ n ∧ (l.length : Int) ≤ n ∧ ∀ a_ ∈ l, B171 n a_)) := by
  have hl := hg.1
  unfold maxLen at hl
  have hw : wrap64 (n - (l.length : Int)) = n - (l.length : Int) := wrap_id (by omega) (by omega)
  unfold laws_szAccountS.f
  simp only [hw]
  by_cases c : n - (l.length : Int) < 0
  · exact ⟨-1, ev_pos c (Ev.now _), .inl (by decide)⟩
  · have tl := take_loop (fun k left i => laws_szAccountS.l0 k l left i) l (fun n a_ => B171 n a_) (fun _ _ _ h hb => B171_mono h hb) ?_ ?_ (n - (l.length : Int)) (by omega) (by omega)
    · obtain ⟨r, hr, h⟩ := tl
      refine ⟨r, ev_neg c hr, ?_⟩
      rcases h with h | ⟨a, b, c'⟩
      · exact .inl h
      · exact .inr ⟨a, by omega, by omega, fun x hx => B171_mono (by omega) (c' x hx)⟩
    · intro left i hi h0 h1
      have hrd : rd_T171 l (i : Int) = l[i] := getD_at hi _
      obtain ⟨r, hr, h⟩ := laws_szAccount_ev l[i] left h0 h1 (hg.2 _ (List.getElem_mem hi))
      refine ⟨r, ?_⟩
      rcases h with h | ⟨a, b, c'⟩
      · refine .inl ⟨h, Ev.step (fun k => by rw [laws_szAccountS.l0]) ?_⟩
        simp only [hrd]
        exact ev_pos (by omega) (ev_pos (by omega) (Ev.bind hr (ev_pos h (Ev.now _))))
      · refine .inr ⟨a, b, c', fun q hq => Ev.step (fun k => by rw [laws_szAccountS.l0]) ?_⟩
        simp only [hrd]
        refine ev_pos (by omega) (ev_pos (by omega) (Ev.bind hr (ev_neg (by omega) ?_)))
        rw [wrap_succ hi (by omega)]
        exact hq
    · intro left
      refine Ev.step (fun k => by rw [laws_szAccountS.l0]) ?_
      exact ev_neg (by omega) (Ev.now _)
/-- The law's own value as the program's. -/
def cv171 (x : S171) : S112 := ⟨x.f0, x.f1, x.f2⟩
theorem cv171_B {n : Int} {x : S171} (hb : B171 n x) : B112 n (cv171 x) := hb
theorem laws_toAccount_ev (x : S171) : Ev (fun _ => laws_toAccount.f (x.f0) (x.f1) (x.f2)) (x.f0, x.f1, x.f2) := by
  unfold laws_toAccount.f
  exact Ev.now _
theorem laws_toAccountS_ev (l : List (S171)) (hb : (l.length : Int) ≤ 1048576 ∧ ∀ a_ ∈ l, B171 1048576 a_) : Ev (fun k => laws_toAccountS.f k l) (l.map cv171) := by
  have hl := hb.1
  unfold laws_toAccountS.f
  refine ev_pos (by omega) (ev_pos (by omega) ?_)
  have hfl := fill_loop (fun k ys i => laws_toAccountS.l0 k l ys i) cv171 (z112) l ?_ ?_
  · simpa only [Int.toNat_natCast] using hfl
  · intro ys i hi r hy hq
    have hrd : rd_T171 l (i : Int) = l[i] := getD_at hi _
    refine Ev.step (fun k => by rw [laws_toAccountS.l0]) ?_
    simp only [hrd]
    refine ev_pos (by omega) (ev_pos (by omega) (Ev.bind (laws_toAccount_ev l[i]) (ev_pos (by omega) ?_)))
    rw [wrap_succ hi (by omega)]
    simp only [Int.toNat_natCast]
    exact hq
  · intro ys
    refine Ev.step (fun k => by rw [laws_toAccountS.l0]) ?_
    exact ev_neg (by omega) (Ev.now _)
theorem laws_toIntS_ev (l : List (Int)) (hb : (l.length : Int) ≤ 1048576) : Ev (fun k => laws_toIntS.f k l) l := by
  have hl := hb
  unfold laws_toIntS.f
  refine ev_pos (by omega) (ev_pos (by omega) ?_)
  have hfl := fill_loop (fun k ys i => laws_toIntS.l0 k l ys i) (fun x_ => x_) (0) l ?_ ?_
  · simpa using hfl
  · intro ys i hi r hy hq
    have hrd : rd l (i : Int) = l[i] := rd_at hi
    refine Ev.step (fun k => by rw [laws_toIntS.l0]) ?_
    simp only [hrd]
    refine ev_pos (by omega) (ev_pos (by omega) (ev_pos (by omega) ?_))
    rw [wrap_succ hi (by omega)]
    simp only [Int.toNat_natCast]
    exact hq
  · intro ys
    refine Ev.step (fun k => by rw [laws_toIntS.l0]) ?_
    exact ev_neg (by omega) (Ev.now _)
theorem laws_eqIntS_ev (l : List (Int)) (hb : (l.length : Int) ≤ 1048576) : Ev (fun k => laws_eqIntS.f k l l) true := by
  have hl := hb
  unfold laws_eqIntS.f
  refine ev_pos rfl ?_
  refine all_loop (fun k i => laws_eqIntS.l0 k l l i) l.length ?_ ?_
  · intro i hi hq
    refine Ev.step (fun k => by rw [laws_eqIntS.l0]) ?_
    refine ev_pos (by omega) (ev_pos (by omega) (ev_pos (by omega) (ev_pos rfl ?_)))
    rw [wrap_succ hi (by omega)]
    exact hq
  · refine Ev.step (fun k => by rw [laws_eqIntS.l0]) ?_
    exact ev_neg (by omega) (Ev.now _)
theorem laws_eqAccount_ev (x : S112) (hb : B112 1048576 x) : Ev (fun _ => laws_eqAccount.f (x.f0) (x.f1) (x.f2) (x.f0) (x.f1) (x.f2)) true := by
  unfold laws_eqAccount.f
  refine ev_pos rfl ?_
  refine ev_pos rfl ?_
  refine ev_pos rfl ?_
  exact Ev.now _
theorem laws_eqAccountS_ev (l : List (S112)) (hb : (l.length : Int) ≤ 1048576 ∧ ∀ a_ ∈ l, B112 1048576 a_) : Ev (fun k => laws_eqAccountS.f k l l) true := by
  have hl := hb.1
  unfold laws_eqAccountS.f
  refine ev_pos rfl ?_
  refine all_loop (fun k i => laws_eqAccountS.l0 k l l i) l.length ?_ ?_
  · intro i hi hq
    refine Ev.step (fun k => by rw [laws_eqAccountS.l0]) ?_
    have hrd : rd_T112 l (i : Int) = l[i] := getD_at hi _
    simp only [hrd]
    refine ev_pos (by omega) (ev_pos (by omega) (ev_pos (by omega) (Ev.bind (laws_eqAccount_ev l[i] (hb.2 _ (List.getElem_mem hi))) (ev_pos rfl ?_))))
    rw [wrap_succ hi (by omega)]
    exact hq
  · refine Ev.step (fun k => by rw [laws_eqAccountS.l0]) ?_
    exact ev_neg (by omega) (Ev.now _)
theorem laws_markText_ev (n : Int) (h : n ≤ 4611686018427387904) : ∃ r, Ev (fun k => laws_markText.f k n) r := by
  unfold laws_markText.f
  by_cases c : n ≤ 0
  · exact ⟨_, ev_pos c (Ev.now _)⟩
  · have key : ∀ (m : Nat) (s : ByteArray), m + s.size ≤ 4611686018427387905 → ∃ r, Ev (fun k => laws_markText.l0 k (m : Int) s) r := by
      intro m
      induction m using Nat.strongRecOn with
      | ind m ih =>
        intro s hs
        by_cases c0 : m = 0
        · subst c0
          have h1 : ¬ ((0 : Nat) : Int) > 0 := by omega
          refine ⟨(⟨#[109]⟩ : ByteArray) ++ s, ?_⟩
          refine Ev.step (fun k => by rw [laws_markText.l0]) ?_
          exact ev_neg h1 (ev_pos (by omega) (Ev.now _))
        · have hd : wrap64 (Int.tdiv (m : Int) 10) = ((m / 10 : Nat) : Int) := by
            have e : Int.tdiv (m : Int) 10 = ((m / 10 : Nat) : Int) := by rw [Int.tdiv_eq_ediv_of_nonneg (by omega)]; omega
            rw [e, wrap_id (by omega) (by omega)]
          obtain ⟨r, hr⟩ := ih (m / 10) (by omega) (strOfNums [(wrap64 (48 + (Int.tmod (m : Int) 10))) % 256] ++ s) (by rw [ByteArray.size_append, strOfNums_size]; simp only [List.length_cons, List.length_nil]; omega)
          refine ⟨r, ?_⟩
          refine Ev.step (fun k => by rw [laws_markText.l0]) ?_
          simp only [hd]
          exact ev_pos (by omega) (ev_bind0 rfl (ev_pos (by rw [strOfNums_size]; simp only [List.length_cons, List.length_nil]; omega) hr))
    obtain ⟨r, hr⟩ := key n.toNat (⟨#[]⟩ : ByteArray) (by have : (⟨#[]⟩ : ByteArray).size = 0 := rfl; omega)
    rw [show ((n.toNat : Nat) : Int) = n by omega] at hr
    exact ⟨r, ev_neg c hr⟩
theorem laws_markAccountS_ev (l : List (S112)) (n : Int) (h0 : 0 ≤ n) (h1 : n ≤ 1152921504606846976) (hb : (l.length : Int) ≤ 1048576) : ∃ r, Ev (fun k => laws_markAccountS.f k l n) r ∧ n ≤ r.1 ∧ r.1 ≤ n + l.length * 3 ∧ r.2.length = l.length := by
  unfold laws_markAccountS.f
  refine mark_loop (fun k xs n i => laws_markAccountS.l0 k xs n i) l.length 3 (by decide) ?_ ?_ l n rfl h0 (by omega)
  · intro xs n i hi hx h0 h1
    have hw0 : wrap64 (n + 1) = n + 1 := wrap_id (by omega) (by omega)
    have hw1 : wrap64 (n + 1 + 1) = n + 1 + 1 := wrap_id (by omega) (by omega)
    have hw2 : wrap64 (n + 1 + 1 + 1) = n + 1 + 1 + 1 := wrap_id (by omega) (by omega)
    obtain ⟨s0, e0⟩ := laws_markText_ev (n) (by omega)
    refine ⟨?n', ?x', ?b0, ?b1, ?b2, fun r hr => ?main⟩
    case main =>
      refine Ev.step (fun k => by rw [laws_markAccountS.l0]) ?_
      simp only [hw0, hw1, hw2, wrap_succ hi (show l.length ≤ 9223372036854775807 by omega)]
      refine ev_pos (by omega) ?_
      refine Ev.bind e0 ?_
      refine ev_pos (by omega) ?_
      refine ev_bind0 rfl ?_
      refine ev_bind0 rfl ?_
      exact hr
    all_goals first | omega | (simp [hx]; done)
  · intro xs n hx
    refine Ev.step (fun k => by rw [laws_markAccountS.l0]) ?_
    exact ev_neg (by omega) (Ev.now _)
theorem laws_markIntS_ev (l : List Int) (n : Int) (h0 : 0 ≤ n) (h1 : n ≤ 2305843009213693952) (hb : (l.length : Int) ≤ 1048576) : Ev (fun k => laws_markIntS.f k l n) (n + l.length, seqFrom n l.length) := by
  unfold laws_markIntS.f
  refine markInt_loop (fun k xs n i => laws_markIntS.l0 k xs n i) l.length ?_ ?_ l n rfl h0 (by omega)
  · intro xs n i hi hx r hr
    refine Ev.step (fun k => by rw [laws_markIntS.l0]) ?_
    refine ev_pos (by omega) (ev_pos (by omega) ?_)
    rw [wrap_succ hi (by omega)]
    simp only [Int.toNat_natCast]
    exact hr
  · intro xs n hx
    refine Ev.step (fun k => by rw [laws_markIntS.l0]) ?_
    exact ev_neg (by omega) (Ev.now _)
theorem laws_heldIntS_ev (n : Int) (m : Nat) (h0 : 0 ≤ n) (h1 : n ≤ 2305843009213693952) (hb : (m : Int) ≤ 1048576) : Ev (fun k => laws_heldIntS.f k (seqFrom n m) n) (n + m) := by
  unfold laws_heldIntS.f
  refine held_loop (fun k q i => laws_heldIntS.l0 k (seqFrom n m) q i) m n h0 (by omega) ?_ ?_
  · intro i hi r hr
    refine Ev.step (fun k => by rw [laws_heldIntS.l0]) ?_
    simp only [seqFrom_rd n hi, seqFrom_length]
    refine ev_pos (by omega) (ev_pos (by omega) (ev_pos (by first | rfl | trivial) ?_))
    rw [wrap_succ hi (by omega)]
    exact hr
  · refine Ev.step (fun k => by rw [laws_heldIntS.l0]) ?_
    exact ev_neg (by rw [seqFrom_length]; omega) (Ev.now _)
theorem spec_l1In_eq (a b c : Int) : spec_l1In.f a b c = some (decide (b ≤ a ∧ a ≤ c)) := by
  unfold spec_l1In.f
  by_cases h : a ≥ b
  · rw [if_pos h]; simp [show b ≤ a from h]
  · rw [if_neg h]; simp [show ¬ b ≤ a from h]
theorem impl_between_eq (a b c : Int) : impl_between.f a b c = some (decide (b ≤ a ∧ a ≤ c)) := by
  unfold impl_between.f
  by_cases h : a ≥ b
  · rw [if_pos h]; simp [show b ≤ a from h]
  · rw [if_neg h]; simp [show ¬ b ≤ a from h]
theorem impl_kindOk_eq (a : Int) : impl_kindOk.f a = some (decide (1 ≤ a ∧ a ≤ 5)) := by
  unfold impl_kindOk.f
  rw [impl_between_eq]
  rfl
theorem impl_nameByte_eq (c : Int) : impl_nameByte.f c = some (nb c) := by
  unfold impl_nameByte.f nb
  repeat' split
  all_goals first | (congr 1; symm; simp only [decide_eq_true_eq]; omega) | (congr 1; rw [Bool.eq_iff_iff]; simp only [beq_iff_eq, decide_eq_true_eq]; omega)
theorem spec_NameOk_l0 (k : Nat) (s : ByteArray) (x : Int) : spec_NameOk.l0 (k + 1) s x = if x < (s.size : Int) then (if 0 ≤ x then (if nb (bt s x) = true then spec_NameOk.l0 k s (wrap64 (x + 1)) else some false) else none) else ((spec_l1In.f (s.size : Int) 1 20).bind fun t => some t) := by
  rw [spec_NameOk.l0]
  by_cases h : x < (s.size : Int)
  · rw [if_pos h, if_pos h]
    by_cases h0 : 0 ≤ x
    · rw [if_pos h0, if_pos h0]
      generalize bt s x = c
      generalize spec_NameOk.l0 k s (wrap64 (x + 1)) = L
      unfold nb
      simp only [decide_eq_true_eq]
      repeat' split
      all_goals first | rfl | omega
    · rw [if_neg h0, if_neg h0]
  · rw [if_neg h, if_neg h]
theorem spec_NameOk_ev (s : ByteArray) (hs : (s.size : Int) ≤ 1048576) : ∃ b, Ev (fun k => spec_NameOk.f k s) b ∧ (b = true ↔ NameIs s) := by
  have key : ∀ (d i : Nat), i + d = s.size → ∃ b, Ev (fun k => spec_NameOk.l0 k s (i : Int)) b ∧ (b = true ↔ (1 ≤ s.size ∧ s.size ≤ 20) ∧ ∀ j, i ≤ j → j < s.size → nb (bt s (j : Nat)) = true) := by
    intro d
    induction d with
    | zero =>
      intro i hi
      refine ⟨decide (1 ≤ (s.size : Int) ∧ (s.size : Int) ≤ 20), Ev.step (fun k => spec_NameOk_l0 ..) (ev_neg (by omega) (ev_bind0 (spec_l1In_eq ..) (Ev.now _))), ?_⟩
      rw [decide_eq_true_eq]
      exact ⟨fun h => ⟨by omega, fun j h1 h2 => absurd h2 (by omega)⟩, fun h => by omega⟩
    | succ d ih =>
      intro i hi
      by_cases c : nb (bt s (i : Int)) = true
      · obtain ⟨b, hb, hP⟩ := ih (i + 1) (by omega)
        refine ⟨b, Ev.step (fun k => spec_NameOk_l0 ..) (ev_pos (by omega) (ev_pos (by omega) (ev_pos c (by rw [wrap_succ (n := s.size) (i := i) (by omega) (by omega)]; exact hb)))), ?_⟩
        rw [hP]
        refine ⟨fun h => ⟨h.1, fun j h1 h2 => ?_⟩, fun h => ⟨h.1, fun j h1 h2 => h.2 j (by omega) h2⟩⟩
        rcases Nat.lt_or_ge i j with h3 | h3
        · exact h.2 j h3 h2
        · have : i = j := by omega
          subst this
          exact c
      · refine ⟨false, Ev.step (fun k => spec_NameOk_l0 ..) (ev_pos (by omega) (ev_pos (by omega) (ev_neg c (Ev.now _)))), ?_⟩
        exact ⟨fun h => (by cases h), fun h => absurd (h.2 i (Nat.le_refl _) (by omega)) c⟩
  obtain ⟨b, hb, hP⟩ := key s.size 0 (by omega)
  refine ⟨b, by unfold spec_NameOk.f; exact hb, hP.trans ⟨fun h => ⟨h.1.1, h.1.2, fun j hj => h.2 j (by omega) hj⟩, fun h => ⟨⟨h.1, h.2.1⟩, fun j _ hj => h.2.2 j hj⟩⟩⟩
theorem impl_NameOk_ev (s : ByteArray) : ∃ b, Ev (fun k => impl_NameOk.f k s) b ∧ (b = true ↔ NameIs s) := by
  have key : s.size ≤ 20 → ∀ (d i : Nat), i + d = s.size → ∃ b, Ev (fun k => impl_NameOk.l0 k s (i : Int)) b ∧ (b = true ↔ ∀ j, i ≤ j → j < s.size → nb (bt s (j : Nat)) = true) := by
    intro hs d
    induction d with
    | zero =>
      intro i hi
      refine ⟨true, Ev.step (fun k => by rw [impl_NameOk.l0]) (ev_neg (by omega) (Ev.now _)), ?_⟩
      exact ⟨fun _ j h1 h2 => absurd h2 (by omega), fun _ => rfl⟩
    | succ d ih =>
      intro i hi
      by_cases c : nb (bt s (i : Int)) = true
      · obtain ⟨b, hb, hP⟩ := ih (i + 1) (by omega)
        have hb' : Ev (fun k => impl_NameOk.l0 k s (i : Int)) b := by
          refine Ev.step (fun k => by rw [impl_NameOk.l0]) ?_
          refine ev_pos (by omega) (ev_pos (by omega) (ev_bind0 (impl_nameByte_eq ..) (ev_pos c ?_)))
          rw [wrap_succ (n := s.size) (i := i) (by omega) (by omega)]
          exact hb
        refine ⟨b, hb', ?_⟩
        rw [hP]
        refine ⟨fun h j h1 h2 => ?_, fun h j h1 h2 => h j (by omega) h2⟩
        rcases Nat.lt_or_ge i j with h3 | h3
        · exact h j h3 h2
        · have : i = j := by omega
          subst this
          exact c
      · refine ⟨false, Ev.step (fun k => by rw [impl_NameOk.l0]) (ev_pos (by omega) (ev_pos (by omega) (ev_bind0 (impl_nameByte_eq ..) (ev_neg c (Ev.now _))))), ?_⟩
        exact ⟨fun h => (by cases h), fun h => absurd (h i (Nat.le_refl _) (by omega)) c⟩
  unfold impl_NameOk.f
  by_cases c1 : (s.size : Int) < 1
  · refine ⟨false, ev_pos c1 (Ev.step (fun k => by rw [impl_NameOk.j0]) (ev_pos rfl (Ev.now _))), fun h => (by cases h), fun h => absurd h.1 (by omega)⟩
  · by_cases c2 : (s.size : Int) > 20
    · refine ⟨false, ev_neg c1 (Ev.step (fun k => by rw [impl_NameOk.j0]) (ev_pos (by simp [c2]) (Ev.now _))), fun h => (by cases h), fun h => absurd h.2.1 (by omega)⟩
    · obtain ⟨b, hb, hP⟩ := key (by omega) s.size 0 (by omega)
      have hb' : Ev (fun k => impl_NameOk.j0 k s (decide ((s.size : Int) > 20))) b := by
        refine Ev.step (fun k => by rw [impl_NameOk.j0]) ?_
        exact ev_neg (by simp; omega) hb
      refine ⟨b, ev_neg c1 hb', hP.trans ⟨fun h => ⟨by omega, by omega, fun j hj => h j (by omega) hj⟩, fun h j _ hj => h.2.2 j hj⟩⟩
end Go.Proofs.Ytflagondodkonaa.PFnExactRoll
