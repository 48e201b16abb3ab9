/- Rank: the program's answer is the reference's, whatever the jobs and the rule. -/
import Derived.Test.YtdnhpicgjkddbaaZPFnExactRankx
import Derived.Test.YtdnhpicgjkddbaaZHFnExactRank
/- A stable sort by halves, and what it leaves: a permutation in which each stands ahead of the next; and that such a list is the only one. -/
set_option linter.unusedVariables false
namespace Go.Proofs.XSort

def merge {α : Type} (less : α → α → Bool) : List α → List α → List α
  | [], r => r
  | a :: l, [] => a :: l
  | a :: l, b :: r => if less b a = true then b :: merge less (a :: l) r else a :: merge less l (b :: r)
termination_by l r => l.length + r.length

def sortN {α : Type} (less : α → α → Bool) : Nat → List α → List α
  | 0, xs => xs
  | k + 1, xs => if xs.length < 2 then xs else merge less (sortN less k (xs.take (xs.length / 2))) (sortN less k (xs.drop (xs.length / 2)))
def sort {α : Type} (less : α → α → Bool) (xs : List α) : List α := sortN less xs.length xs

section
variable {α : Type} {less : α → α → Bool}
theorem merge_nil (r : List α) : merge less [] r = r := by rw [merge.eq_def]
theorem merge_nil2 (l : List α) : merge less l [] = l := by cases l <;> rw [merge.eq_def]
theorem merge_right {a b : α} {l r : List α} (h : less b a = true) : merge less (a :: l) (b :: r) = b :: merge less (a :: l) r := by rw [merge.eq_def]; simp only [h, if_true]
theorem merge_left {a b : α} {l r : List α} (h : ¬ less b a = true) : merge less (a :: l) (b :: r) = a :: merge less l (b :: r) := by rw [merge.eq_def]; simp only [if_neg h]

theorem merge_perm : ∀ (n : Nat) (l r : List α), l.length + r.length = n → (merge less l r).Perm (l ++ r) := by
  intro n
  induction n with
  | zero =>
    intro l r h
    have h1 : l = [] := List.eq_nil_of_length_eq_zero (by omega)
    subst h1
    rw [merge_nil]
    exact List.Perm.refl _
  | succ n ih =>
    intro l r h
    cases l with
    | nil => rw [merge_nil]; exact List.Perm.refl _
    | cons a l =>
      cases r with
      | nil => rw [merge_nil2, List.append_nil]
      | cons b r =>
        by_cases c : less b a = true
        · rw [merge_right c]
          have := ih (a :: l) r (by simp at h ⊢; omega)
          exact (List.Perm.cons b this).trans (List.perm_middle.symm)
        · rw [merge_left c]
          have := ih l (b :: r) (by simp at h ⊢; omega)
          exact List.Perm.cons a this
theorem sortN_perm : ∀ (k : Nat) (xs : List α), (sortN less k xs).Perm xs := by
  intro k
  induction k with
  | zero => intro xs; exact List.Perm.refl _
  | succ k ih =>
    intro xs
    unfold sortN
    by_cases c : xs.length < 2
    · rw [if_pos c]
    · rw [if_neg c]
      refine (merge_perm _ _ _ rfl).trans ?_
      have := List.Perm.append (ih (xs.take (xs.length / 2))) (ih (xs.drop (xs.length / 2)))
      rw [List.take_append_drop] at this
      exact this
theorem sort_perm (xs : List α) : (sort less xs).Perm xs := sortN_perm _ _
theorem sortN_length (k : Nat) (xs : List α) : (sortN less k xs).length = xs.length := (sortN_perm k xs).length_eq
/-- a stands ahead of b: it is less, or it is not more and came in ahead. -/
def Ahead (less : α → α → Bool) (P : α → α → Prop) (a b : α) : Prop := less a b = true ∨ (¬ less b a = true ∧ P a b)

theorem merge_ahead {P : α → α → Prop} : ∀ (n : Nat) (l r : List α), l.length + r.length = n → (∀ a ∈ l ++ r, ∀ b ∈ l ++ r, ∀ c ∈ l ++ r, Ahead less P a b → Ahead less P b c → Ahead less P a c) →
    l.Pairwise (Ahead less P) → r.Pairwise (Ahead less P) → (∀ a ∈ l, ∀ b ∈ r, P a b) → (merge less l r).Pairwise (Ahead less P) := by
  intro n
  induction n with
  | zero =>
    intro l r h _ _ hr _
    have h1 : l = [] := List.eq_nil_of_length_eq_zero (by omega)
    subst h1
    rw [merge_nil]
    exact hr
  | succ n ih =>
    intro l r h ht hl hr hP
    cases l with
    | nil => rw [merge_nil]; exact hr
    | cons a l =>
      cases r with
      | nil => rw [merge_nil2]; exact hl
      | cons b r =>
        rw [List.pairwise_cons] at hl hr
        by_cases c : less b a = true
        · rw [merge_right c, List.pairwise_cons]
          have hba : Ahead less P b a := .inl c
          refine ⟨fun x hx => ?_, ih (a :: l) r (by simp at h ⊢; omega) (fun x hx y hy z hz => ht x (by simp at hx ⊢; rcases hx with h | h | h <;> simp [h]) y (by simp at hy ⊢; rcases hy with h | h | h <;> simp [h]) z (by simp at hz ⊢; rcases hz with h | h | h <;> simp [h])) (List.pairwise_cons.2 hl) hr.2 (fun x hx y hy => hP x hx y (List.mem_cons_of_mem _ hy))⟩
          have hx' := (merge_perm _ (a :: l) r rfl).mem_iff.1 hx
          rcases List.mem_append.1 hx' with h1 | h1
          · rcases List.mem_cons.1 h1 with h2 | h2
            · rw [h2]; exact hba
            · exact ht b (by simp) a (by simp) x (by simp [h2]) hba (hl.1 x h2)
          · exact hr.1 x h1
        · rw [merge_left c, List.pairwise_cons]
          have hab : Ahead less P a b := .inr ⟨c, hP a (by simp) b (by simp)⟩
          refine ⟨fun x hx => ?_, ih l (b :: r) (by simp at h ⊢; omega) (fun x hx y hy z hz => ht x (by simp at hx ⊢; rcases hx with h | h | h <;> simp [h]) y (by simp at hy ⊢; rcases hy with h | h | h <;> simp [h]) z (by simp at hz ⊢; rcases hz with h | h | h <;> simp [h])) hl.2 (List.pairwise_cons.2 hr) (fun x hx y hy => hP x (List.mem_cons_of_mem _ hx) y hy)⟩
          have hx' := (merge_perm _ l (b :: r) rfl).mem_iff.1 hx
          rcases List.mem_append.1 hx' with h1 | h1
          · exact hl.1 x h1
          · rcases List.mem_cons.1 h1 with h2 | h2
            · rw [h2]; exact hab
            · exact ht a (by simp) b (by simp) x (by simp [h2]) hab (hr.1 x h2)

theorem sortN_ahead {P : α → α → Prop} : ∀ (k : Nat) (xs : List α), xs.length ≤ k → (∀ a ∈ xs, ∀ b ∈ xs, ∀ c ∈ xs, Ahead less P a b → Ahead less P b c → Ahead less P a c) → xs.Pairwise P → (sortN less k xs).Pairwise (Ahead less P) := by
  intro k
  induction k with
  | zero =>
    intro xs h _ _
    have : xs = [] := List.eq_nil_of_length_eq_zero (by omega)
    subst this
    exact List.Pairwise.nil
  | succ k ih =>
    intro xs h ht hP
    unfold sortN
    by_cases c : xs.length < 2
    · rw [if_pos c]
      match xs, c with
      | [], _ => exact List.Pairwise.nil
      | [x], _ => exact List.pairwise_singleton _ _
      | x :: y :: r, c => simp at c; omega
    · rw [if_neg c]
      have hs := List.take_append_drop (xs.length / 2) xs
      have hm : ∀ x, x ∈ sortN less k (xs.take (xs.length / 2)) ++ sortN less k (xs.drop (xs.length / 2)) → x ∈ xs := by
        intro x hx
        rcases List.mem_append.1 hx with h1 | h1
        · exact List.mem_of_mem_take ((sortN_perm _ _).mem_iff.1 h1)
        · exact List.mem_of_mem_drop ((sortN_perm _ _).mem_iff.1 h1)
      have hP' := hP
      rw [← hs, List.pairwise_append] at hP'
      refine merge_ahead _ _ _ rfl (fun a ha b hb d hd => ht a (hm a ha) b (hm b hb) d (hm d hd)) ?_ ?_ ?_
      · exact ih _ (by rw [List.length_take]; omega) (fun a ha b hb d hd => ht a (List.mem_of_mem_take ha) b (List.mem_of_mem_take hb) d (List.mem_of_mem_take hd)) hP'.1
      · exact ih _ (by rw [List.length_drop]; omega) (fun a ha b hb d hd => ht a (List.mem_of_mem_drop ha) b (List.mem_of_mem_drop hb) d (List.mem_of_mem_drop hd)) hP'.2.1
      · intro a ha b hb
        exact hP'.2.2 a ((sortN_perm _ _).mem_iff.1 ha) b ((sortN_perm _ _).mem_iff.1 hb)
theorem sort_ahead {P : α → α → Prop} (xs : List α) (ht : ∀ a ∈ xs, ∀ b ∈ xs, ∀ c ∈ xs, Ahead less P a b → Ahead less P b c → Ahead less P a c) (hP : xs.Pairwise P) : (sort less xs).Pairwise (Ahead less P) := sortN_ahead _ _ (Nat.le_refl _) ht hP
end

/-- By a number, from the least: what is alike in its order. -/
theorem sort_by_key {α : Type} (key : α → Int) (P : α → α → Prop) (hPt : ∀ a b c, P a b → P b c → P a c) (xs : List α) (hP : xs.Pairwise P) (less : α → α → Bool) (hless : ∀ a ∈ xs, ∀ b ∈ xs, (less a b = true ↔ key a < key b)) :
    (sort less xs).Pairwise (fun a b => key a < key b ∨ (key a = key b ∧ P a b)) := by
  have h := sort_ahead (less := less) (P := P) xs (by
    intro a ha b hb c hc h1 h2
    unfold Ahead at *
    rw [hless a ha b hb, hless b hb a ha] at h1
    rw [hless b hb c hc, hless c hc b hb] at h2
    rw [hless a ha c hc, hless c hc a ha]
    rcases h1 with h1 | ⟨h1, p1⟩
    · rcases h2 with h2 | ⟨h2, p2⟩
      · exact .inl (by omega)
      · exact .inl (by omega)
    · rcases h2 with h2 | ⟨h2, p2⟩
      · exact .inl (by omega)
      · exact .inr ⟨by omega, hPt _ _ _ p1 p2⟩) hP
  refine List.Pairwise.imp_of_mem ?_ h
  intro a b ha hb hab
  have ha' := (sort_perm xs).mem_iff.1 ha
  have hb' := (sort_perm xs).mem_iff.1 hb
  unfold Ahead at hab
  rw [hless a ha' b hb', hless b hb' a ha'] at hab
  rcases hab with h | ⟨h, p⟩
  · exact .inl h
  · by_cases c : key a < key b
    · exact .inl c
    · exact .inr ⟨by omega, p⟩

end Go.Proofs.XSort
set_option maxHeartbeats 4000000
set_option linter.unusedVariables false
set_option linter.unusedSimpArgs false
namespace Go.Proofs.Ytdnhpicgjkddbaa.Pure
open Go.RowKit Go.Proofs.Ytdnhpicgjkddbaa.PFnExactRank Go.Proofs.YtdnhpicgjkddbaaW.PrintWords Go.Proofs.YtdnhpicgjkddbaaW.PrintLast Go.Proofs.Ytdnhpicgjkddbaa.XEv
/-! The printed sort: impl_sortBy_int -/
theorem impl_sortBy_int_merge (lt : Int → Int → Option Bool) (less : Int → Int → Bool) (l r : List Int) (hl : l.length + r.length ≤ 1048576) (hlt : ∀ a ∈ l, ∀ b ∈ r, lt b a = some (less b a)) :
    ∀ (d i j : Nat) (x P : List Int), i ≤ l.length → j ≤ r.length → (l.length - i) + (r.length - j) = d → x.length = l.length + r.length → x.take (i + j) = P →
      Ev (fun k => impl_sortBy_int.l0 k x lt l r (i : Int) (j : Int) ((l.length + r.length : Nat) : Int) ((i + j : Nat) : Int)) (P ++ XSort.merge less (l.drop i) (r.drop j)) := by
  intro d
  induction d with
  | zero =>
    intro i j x P hi hj hd hx hP
    have e1 : i = l.length := by omega
    have e2 : j = r.length := by omega
    subst e1 e2
    rw [List.drop_length, List.drop_length, XSort.merge_nil, List.append_nil]
    have e3 : P = x := by rw [← hP, ← hx, List.take_length]
    subst e3
    refine Ev.step (fun k => by rw [impl_sortBy_int.l0]) ?_
    exact ev_neg (by omega) (Ev.now _)
  | succ d ih =>
    intro i j x P hi hj hd hx hP
    have hn : i + j < x.length := by omega
    have hlen : P.length = i + j := by rw [← hP, List.length_take]; omega
    have put : ∀ v : Int, (x.set (i + j) v).take (i + j + 1) = P ++ [v] := by
      intro v
      rw [List.take_add_one, List.getElem?_set_self hn, List.take_set, hP, List.set_eq_of_length_le (by omega)]
      rfl
    have goL : ∀ (h : i < l.length), Ev (fun k => impl_sortBy_int.l0 k (x.set (i + j) l[i]) lt l r ((i + 1 : Nat) : Int) (j : Int) ((l.length + r.length : Nat) : Int) ((i + j + 1 : Nat) : Int)) (P ++ l[i] :: XSort.merge less (l.drop (i + 1)) (r.drop j)) := by
      intro h
      have := ih (i + 1) j (x.set (i + j) l[i]) (P ++ [l[i]]) (by omega) hj (by omega) (by rw [List.length_set]; exact hx) (by rw [show i + 1 + j = i + j + 1 by omega]; exact put _)
      rw [show i + 1 + j = i + j + 1 by omega, List.append_assoc] at this
      exact this
    have goR : ∀ (h : j < r.length), Ev (fun k => impl_sortBy_int.l0 k (x.set (i + j) r[j]) lt l r (i : Int) ((j + 1 : Nat) : Int) ((l.length + r.length : Nat) : Int) ((i + j + 1 : Nat) : Int)) (P ++ r[j] :: XSort.merge less (l.drop i) (r.drop (j + 1))) := by
      intro h
      have := ih i (j + 1) (x.set (i + j) r[j]) (P ++ [r[j]]) hi (by omega) (by omega) (by rw [List.length_set]; exact hx) (by rw [show i + (j + 1) = i + j + 1 by omega]; exact put _)
      rw [show i + (j + 1) = i + j + 1 by omega, List.append_assoc] at this
      exact this
    have w1 : ∀ m : Nat, m ≤ 2097152 → wrap64 ((m : Int) + 1) = ((m + 1 : Nat) : Int) := fun m hm => wrap_succ (n := m + 1) (by omega) (by omega)
    have rdl : ∀ h : i < l.length, rd l (i : Int) = l[i] := fun h => by first | exact rd_at h | exact getD_at h _
    have rdr : ∀ h : j < r.length, rd r (j : Int) = r[j] := fun h => by first | exact rd_at h | exact getD_at h _
    by_cases cj : j = r.length
    · have hi' : i < l.length := by omega
      have hm : XSort.merge less (l.drop i) (r.drop j) = l[i] :: XSort.merge less (l.drop (i + 1)) (r.drop j) := by
        rw [List.drop_eq_getElem_cons hi', cj, List.drop_length, XSort.merge_nil2, XSort.merge_nil2]
      rw [hm]
      refine Ev.step (fun k => by rw [impl_sortBy_int.l0]) ?_
      refine ev_pos (by omega) (ev_pos (by omega) (ev_pos (by omega) (ev_pos (by omega) (ev_pos (by omega) (ev_pos (by omega) ?_)))))
      rw [w1 i (by omega), w1 (i + j) (by omega), Int.toNat_natCast]
      have := goL hi'
      rw [← rdl hi'] at this ⊢
      exact this
    · have hj' : j < r.length := by omega
      by_cases ci : i < l.length
      · have hl2 := hlt l[i] (List.getElem_mem ci) r[j] (List.getElem_mem hj')
        by_cases cc : less r[j] l[i] = true
        · have hm : XSort.merge less (l.drop i) (r.drop j) = r[j] :: XSort.merge less (l.drop i) (r.drop (j + 1)) := by
            rw [List.drop_eq_getElem_cons ci, List.drop_eq_getElem_cons hj', XSort.merge_right cc]
          rw [hm]
          have hg := goR hj'
          rw [← rdr hj'] at hg ⊢
          rw [← rdr hj', ← rdl ci] at hl2
          rw [← rdr hj', ← rdl ci] at cc
          refine Ev.step (fun k => by rw [impl_sortBy_int.l0]) ?_
          refine ev_pos (by omega) (ev_neg (by omega) (ev_pos (by omega) (ev_pos (by omega) (ev_pos (by omega) (ev_pos (by omega) (ev_bind0 hl2 (ev_pos cc (ev_pos (by omega) (ev_pos (by omega) ?_)))))))))
          rw [w1 j (by omega), w1 (i + j) (by omega), Int.toNat_natCast]
          exact hg
        · have hm : XSort.merge less (l.drop i) (r.drop j) = l[i] :: XSort.merge less (l.drop (i + 1)) (r.drop j) := by
            rw [List.drop_eq_getElem_cons ci, List.drop_eq_getElem_cons hj', XSort.merge_left cc]
          rw [hm]
          have hg := goL ci
          rw [← rdl ci] at hg ⊢
          rw [← rdr hj', ← rdl ci] at hl2
          rw [← rdr hj', ← rdl ci] at cc
          refine Ev.step (fun k => by rw [impl_sortBy_int.l0]) ?_
          refine ev_pos (by omega) (ev_neg (by omega) (ev_pos (by omega) (ev_pos (by omega) (ev_pos (by omega) (ev_pos (by omega) (ev_bind0 hl2 (ev_neg cc (ev_pos (by omega) (ev_pos (by omega) ?_)))))))))
          rw [w1 i (by omega), w1 (i + j) (by omega), Int.toNat_natCast]
          exact hg
      · have ei : i = l.length := by omega
        have hm : XSort.merge less (l.drop i) (r.drop j) = r[j] :: XSort.merge less (l.drop i) (r.drop (j + 1)) := by
          rw [ei, List.drop_length, List.drop_eq_getElem_cons hj', XSort.merge_nil, XSort.merge_nil]
        rw [hm]
        have hg := goR hj'
        rw [← rdr hj'] at hg ⊢
        refine Ev.step (fun k => by rw [impl_sortBy_int.l0]) ?_
        refine ev_pos (by omega) (ev_neg (by omega) (ev_neg (by omega) (ev_pos (by omega) (ev_pos (by omega) (ev_pos (by omega) (ev_pos (by omega) ?_))))))
        rw [w1 j (by omega), w1 (i + j) (by omega), Int.toNat_natCast]
        exact hg
theorem impl_sortBy_int_evN (lt : Int → Int → Option Bool) (less : Int → Int → Bool) : ∀ (n : Nat) (xs : List Int), xs.length ≤ n → xs.length ≤ 1048576 → (∀ a ∈ xs, ∀ b ∈ xs, lt a b = some (less a b)) → Ev (fun k => impl_sortBy_int.f k xs lt) (XSort.sortN less n xs) := by
  intro n
  induction n with
  | zero =>
    intro xs h0 h1 hlt
    refine Ev.step (fun k => by rw [impl_sortBy_int.f]) ?_
    exact ev_pos (by omega) (Ev.now _)
  | succ n ih =>
    intro xs h0 h1 hlt
    unfold XSort.sortN
    by_cases c : xs.length < 2
    · rw [if_pos c]
      refine Ev.step (fun k => by rw [impl_sortBy_int.f]) ?_
      exact ev_pos (by omega) (Ev.now _)
    · rw [if_neg c]
      have hw : wrap64 ((xs.length : Int) / 2) = ((xs.length / 2 : Nat) : Int) := by rw [wrap_id (by omega) (by omega)]; omega
      have t1 := ih (xs.take (xs.length / 2)) (by rw [List.length_take]; omega) (by rw [List.length_take]; omega) (fun a ha b hb => hlt a (List.mem_of_mem_take ha) b (List.mem_of_mem_take hb))
      have t2 := ih (xs.drop (xs.length / 2)) (by rw [List.length_drop]; omega) (by rw [List.length_drop]; omega) (fun a ha b hb => hlt a (List.mem_of_mem_drop ha) b (List.mem_of_mem_drop hb))
      have l1 : (XSort.sortN less n (xs.take (xs.length / 2))).length = xs.length / 2 := by rw [XSort.sortN_length, List.length_take]; omega
      have l2 : (XSort.sortN less n (xs.drop (xs.length / 2))).length = xs.length - xs.length / 2 := by rw [XSort.sortN_length, List.length_drop]
      have t3 := impl_sortBy_int_merge lt less (XSort.sortN less n (xs.take (xs.length / 2))) (XSort.sortN less n (xs.drop (xs.length / 2))) (by omega)
        (fun a ha b hb => hlt b (List.mem_of_mem_drop ((XSort.sortN_perm _ _).mem_iff.1 hb)) a (List.mem_of_mem_take ((XSort.sortN_perm _ _).mem_iff.1 ha))) _ 0 0 xs [] (by omega) (by omega) rfl (by omega) rfl
      rw [show ((0 : Nat) : Int) = 0 from rfl, show (XSort.sortN less n (xs.take (xs.length / 2))).length + (XSort.sortN less n (xs.drop (xs.length / 2))).length = xs.length by omega, List.drop_zero, List.drop_zero, List.nil_append] at t3
      refine Ev.step (fun k => by rw [impl_sortBy_int.f]) ?_
      rw [hw]
      simp only [Int.toNat_natCast, Option.bind_some, List.nil_append]
      have q1 : (xs.take (xs.length / 2)).length = xs.length / 2 := by rw [List.length_take]; omega
      have q2 : (xs.drop (xs.length / 2)).length = xs.length - xs.length / 2 := List.length_drop
      refine ev_neg (by omega) (ev_pos (by omega) (ev_pos (by omega) (ev_pos (by simp only [List.length_nil]; omega) (ev_pos (by simp only [List.length_nil]; omega) (Ev.bind t1 (Ev.bind t2 t3))))))
theorem impl_sortBy_int_ev (lt : Int → Int → Option Bool) (less : Int → Int → Bool) (xs : List Int) (h1 : xs.length ≤ 1048576) (hlt : ∀ a ∈ xs, ∀ b ∈ xs, lt a b = some (less a b)) : Ev (fun k => impl_sortBy_int.f k xs lt) (XSort.sort less xs) := impl_sortBy_int_evN lt less xs.length xs (Nat.le_refl _) h1 hlt
/-- The places of a list. -/
def idx (n : Nat) : List Int := (List.range n).map fun (i : Nat) => (i : Int)
theorem idx_length (n : Nat) : (idx n).length = n := by simp [idx]
theorem idx_succ (n : Nat) : idx (n + 1) = idx n ++ [(n : Int)] := by simp [idx, List.range_succ]
theorem idx_mem {n : Nat} {x : Int} : x ∈ idx n ↔ ∃ q : Nat, x = (q : Int) ∧ q < n := by
  simp only [idx, List.mem_map, List.mem_range]
  exact ⟨fun ⟨q, h, e⟩ => ⟨q, e.symm, h⟩, fun ⟨q, e, h⟩ => ⟨q, h, e.symm⟩⟩
theorem idx_lt (n : Nat) : (idx n).Pairwise (· < ·) := by
  induction n with
  | zero => exact List.Pairwise.nil
  | succ n ih =>
    rw [idx_succ, List.pairwise_append]
    refine ⟨ih, List.pairwise_singleton _ _, fun a ha b hb => ?_⟩
    obtain ⟨q, rfl, hq⟩ := idx_mem.1 ha
    rw [List.mem_singleton.1 hb]
    omega
theorem ord_ahead {F : Int → Int → Prop} {s : List Int} (h : s.Pairwise F) {t t' : Nat} (h1 : t < t') (h2 : t' < s.length) : F (s[t]'(by omega)) s[t'] := List.pairwise_iff_getElem.1 h t t' (by omega) h2 h1
theorem ord_inj {F : Int → Int → Prop} (hF : ∀ a, ¬ F a a) {s : List Int} (h : s.Pairwise F) {t t' : Nat} (h1 : t < s.length) (h2 : t' < s.length) (e : s[t] = s[t']) : t = t' := by
  rcases Nat.lt_trichotomy t t' with c | c | c
  · have := ord_ahead h c h2
    rw [e] at this
    exact absurd this (hF _)
  · exact c
  · have := ord_ahead h c h1
    rw [e] at this
    exact absurd this (hF _)
theorem has_ev (L : List Int) (x : Int) (hl : L.length ≤ 1048576) : Ev (fun k => spec_l7Has.f k L x) (decide (x ∈ L)) := by
  have key : ∀ (d i : Nat), i + d = L.length → Ev (fun k => spec_l7Has.l0 k L x (i : Int)) (decide (x ∈ L.drop i)) := by
    intro d
    induction d with
    | zero =>
      intro i hi
      have e : i = L.length := by omega
      subst e
      refine Ev.step (fun k => by rw [spec_l7Has.l0]) ?_
      rw [List.drop_length]
      exact ev_neg (Int.lt_irrefl _) (Ev.now _)
    | succ d ih =>
      intro i hi
      have hlt : i < L.length := by omega
      have g1 : (i : Int) < (L.length : Int) := Int.ofNat_lt.2 hlt
      refine Ev.step (fun k => by rw [spec_l7Has.l0]) ?_
      rw [List.drop_eq_getElem_cons hlt]
      refine ev_pos g1 (ev_pos (Int.natCast_nonneg _) ?_)
      by_cases c : rd L (i : Int) = x
      · rw [rd_at hlt] at c
        rw [decide_eq_true (by rw [← c]; exact List.mem_cons_self ..)]
        exact ev_pos (by rw [rd_at hlt]; exact c) (Ev.now _)
      · have e : decide (x ∈ L[i] :: L.drop (i + 1)) = decide (x ∈ L.drop (i + 1)) := by
          rw [Bool.eq_iff_iff, decide_eq_true_eq, decide_eq_true_eq, List.mem_cons]
          rw [rd_at hlt] at c
          exact ⟨fun h => h.resolve_left (fun e => c e.symm), .inr⟩
        rw [e]
        refine ev_neg c ?_
        rw [wrap_succ hlt (by omega)]
        exact ih (i + 1) (by omega)
  have := key L.length 0 (by omega)
  rw [List.drop_zero] at this
  unfold spec_l7Has.f
  exact this
abbrev JJ := S165
abbrev TT := S230
def TaskIs (x : TT) : Prop := (1 ≤ x.f1 ∧ x.f1 ≤ 500) ∧ (0 ≤ x.f2 ∧ x.f2 ≤ 9)
def JobIs (x : JJ) : Prop := ((0 ≤ x.f0 ∧ x.f0 ≤ 5000) ∧ (0 ≤ x.f1 ∧ x.f1 ≤ 5000) ∧ (0 ≤ x.f2 ∧ x.f2 ≤ 1000) ∧ (1 ≤ (x.f3.length : Int) ∧ (x.f3.length : Int) ≤ 8)) ∧ ∀ t ∈ x.f3, TaskIs t
theorem spec_tasks (x : JJ) (hb : B165 1048576 x) : ∃ b, Ev (fun k => spec_l19Job.l0 k 0 x.f0 x.f1 x.f2 x.f3) b ∧ (b = true ↔ (∀ t ∈ x.f3, TaskIs t) ∧ True) := by
  have hl : (x.f3.length : Int) ≤ 1048576 := hb
  refine each_mem x.f3 (fun k i => spec_l19Job.l0 k i x.f0 x.f1 x.f2 x.f3) TaskIs True ?_ ?_
  · intro i hi
    have hrd : rd_T230 x.f3 (i : Int) = x.f3[i] := getD_at hi _
    by_cases c1 : 1 ≤ x.f3[i].f1 ∧ x.f3[i].f1 ≤ 500
    · by_cases c2 : 0 ≤ x.f3[i].f2 ∧ x.f3[i].f2 ≤ 9
      · refine .inl ⟨⟨c1, c2⟩, fun r hr => ?_⟩
        refine Ev.step (fun k => by rw [spec_l19Job.l0]) ?_
        simp only [hrd]
        refine ev_pos (by omega) (ev_pos (by omega) (ev_bind0 (spec_l1In_eq ..) (ev_pos (by simpa using c1) (ev_bind0 (spec_l1In_eq ..) (ev_pos (by simpa using c2) ?_)))))
        rw [wrap_succ hi (by omega)]
        exact hr
      · refine .inr ⟨fun h => c2 h.2, ?_⟩
        refine Ev.step (fun k => by rw [spec_l19Job.l0]) ?_
        simp only [hrd]
        exact ev_pos (by omega) (ev_pos (by omega) (ev_bind0 (spec_l1In_eq ..) (ev_pos (by simpa using c1) (ev_bind0 (spec_l1In_eq ..) (ev_neg (by rw [decide_eq_true_eq]; exact c2) (Ev.now _))))))
    · refine .inr ⟨fun h => c1 h.1, ?_⟩
      refine Ev.step (fun k => by rw [spec_l19Job.l0]) ?_
      simp only [hrd]
      exact ev_pos (by omega) (ev_pos (by omega) (ev_bind0 (spec_l1In_eq ..) (ev_neg (by rw [decide_eq_true_eq]; exact c1) (Ev.now _))))
  · refine ⟨true, ?_, by simp⟩
    refine Ev.step (fun k => by rw [spec_l19Job.l0]) ?_
    exact ev_neg (by omega) (Ev.now _)

theorem spec_job (x : JJ) (hb : B165 1048576 x) : ∃ b, Ev (fun k => spec_l19Job.f k x.f0 x.f1 x.f2 x.f3) b ∧ (b = true ↔ JobIs x) := by
  obtain ⟨b, hbt, hP⟩ := spec_tasks x hb
  have hj : ∀ bad : Bool, ∃ b', Ev (fun k => spec_l19Job.j0 k bad x.f0 x.f1 x.f2 x.f3) b' ∧ (b' = true ↔ bad = false ∧ ∀ t ∈ x.f3, TaskIs t) := by
    intro bad
    cases bad with
    | true => exact ⟨false, Ev.step (fun k => by rw [spec_l19Job.j0]) (ev_pos rfl (Ev.now _)), fun h => (by cases h), fun h => (by cases h.1)⟩
    | false => exact ⟨b, Ev.step (fun k => by rw [spec_l19Job.j0]) (ev_neg (by simp) hbt), hP.trans ⟨fun h => ⟨rfl, h.1⟩, fun h => ⟨h.2, True.intro⟩⟩⟩
  have e1 : ∀ a, spec_l19Hour.f a = some (decide (0 ≤ a ∧ a ≤ 5000)) := fun a => by unfold spec_l19Hour.f; rw [spec_l1In_eq]; rfl
  obtain ⟨bt, ht, pt⟩ := hj true
  unfold spec_l19Job.f
  by_cases c0 : 0 ≤ x.f0 ∧ x.f0 ≤ 5000
  · by_cases c1 : 0 ≤ x.f1 ∧ x.f1 ≤ 5000
    · by_cases c2 : 0 ≤ x.f2 ∧ x.f2 ≤ 1000
      · obtain ⟨b', hb', hP'⟩ := hj (!decide (1 ≤ (x.f3.length : Int) ∧ (x.f3.length : Int) ≤ 8))
        refine ⟨b', ev_bind0 (e1 _) (ev_pos (by simpa using c0) (ev_bind0 (e1 _) (ev_pos (by simpa using c1) (ev_bind0 (spec_l1In_eq ..) (ev_pos (by simpa using c2) (ev_bind0 (spec_l1In_eq ..) hb')))))), ?_⟩
        rw [hP']
        simp only [Bool.not_eq_false', decide_eq_true_eq]
        exact ⟨fun h => ⟨⟨c0, c1, c2, h.1⟩, h.2⟩, fun h => ⟨h.1.2.2.2, h.2⟩⟩
      · refine ⟨bt, ev_bind0 (e1 _) (ev_pos (by simpa using c0) (ev_bind0 (e1 _) (ev_pos (by simpa using c1) (ev_bind0 (spec_l1In_eq ..) (ev_neg (by rw [decide_eq_true_eq]; exact c2) ht))))), ?_⟩
        rw [pt]
        exact ⟨fun h => (by cases h.1), fun h => absurd h.1.2.2.1 c2⟩
    · refine ⟨bt, ev_bind0 (e1 _) (ev_pos (by simpa using c0) (ev_bind0 (e1 _) (ev_neg (by rw [decide_eq_true_eq]; exact c1) ht))), ?_⟩
      rw [pt]
      exact ⟨fun h => (by cases h.1), fun h => absurd h.1.2.1 c1⟩
  · refine ⟨bt, ev_bind0 (e1 _) (ev_neg (by rw [decide_eq_true_eq]; exact c0) ht), ?_⟩
    rw [pt]
    exact ⟨fun h => (by cases h.1), fun h => absurd h.1.1 c0⟩

theorem impl_tasks (l : List TT) (hl : (l.length : Int) ≤ 1048576) : ∃ b, Ev (fun k => impl_jobOk.l0 k l (l.length : Int) 0) b ∧ (b = true ↔ (∀ t ∈ l, TaskIs t) ∧ True) := by
  refine each_mem l (fun k i => impl_jobOk.l0 k l (l.length : Int) i) TaskIs True ?_ ?_
  · intro i hi
    have hrd : rd_T230 l (i : Int) = l[i] := getD_at hi _
    by_cases c1 : 1 ≤ l[i].f1 ∧ l[i].f1 ≤ 500
    · by_cases c2 : 0 ≤ l[i].f2 ∧ l[i].f2 ≤ 9
      · refine .inl ⟨⟨c1, c2⟩, fun r hr => ?_⟩
        refine Ev.step (fun k => by rw [impl_jobOk.l0]) ?_
        simp only [hrd]
        refine ev_pos (by omega) (ev_pos (by omega) (ev_pos (by omega) (ev_bind0 (impl_between_eq ..) (ev_pos (by simpa using c1) (ev_bind0 (impl_between_eq ..) (ev_pos (by simpa using c2) ?_))))))
        rw [wrap_succ hi (by omega)]
        exact hr
      · refine .inr ⟨fun h => c2 h.2, ?_⟩
        refine Ev.step (fun k => by rw [impl_jobOk.l0]) ?_
        simp only [hrd]
        exact ev_pos (by omega) (ev_pos (by omega) (ev_pos (by omega) (ev_bind0 (impl_between_eq ..) (ev_pos (by simpa using c1) (ev_bind0 (impl_between_eq ..) (ev_neg (by rw [decide_eq_true_eq]; exact c2) (Ev.now _)))))))
    · refine .inr ⟨fun h => c1 h.1, ?_⟩
      refine Ev.step (fun k => by rw [impl_jobOk.l0]) ?_
      simp only [hrd]
      exact ev_pos (by omega) (ev_pos (by omega) (ev_pos (by omega) (ev_bind0 (impl_between_eq ..) (ev_neg (by rw [decide_eq_true_eq]; exact c1) (Ev.now _)))))
  · refine ⟨true, ?_, by simp⟩
    refine Ev.step (fun k => by rw [impl_jobOk.l0]) ?_
    exact ev_neg (by omega) (Ev.now _)

theorem impl_job (x : JJ) (hb : B165 1048576 x) : ∃ b, Ev (fun k => impl_jobOk.f k x.f0 x.f1 x.f2 x.f3) b ∧ (b = true ↔ JobIs x) := by
  obtain ⟨b, hbt, hP⟩ := impl_tasks x.f3 hb
  have hj : ∀ bad : Bool, ∃ b', Ev (fun k => impl_jobOk.j0 k bad x.f0 x.f1 x.f2 x.f3) b' ∧ (b' = true ↔ bad = false ∧ ∀ t ∈ x.f3, TaskIs t) := by
    intro bad
    cases bad with
    | true => exact ⟨false, Ev.step (fun k => by rw [impl_jobOk.j0]) (ev_pos rfl (Ev.now _)), fun h => (by cases h), fun h => (by cases h.1)⟩
    | false => exact ⟨b, Ev.step (fun k => by rw [impl_jobOk.j0]) (ev_neg (by simp) hbt), hP.trans ⟨fun h => ⟨rfl, h.1⟩, fun h => ⟨h.2, True.intro⟩⟩⟩
  obtain ⟨bt, ht, pt⟩ := hj true
  unfold impl_jobOk.f
  by_cases c0 : 0 ≤ x.f0 ∧ x.f0 ≤ 5000
  · by_cases c1 : 0 ≤ x.f1 ∧ x.f1 ≤ 5000
    · by_cases c2 : 0 ≤ x.f2 ∧ x.f2 ≤ 1000
      · by_cases c3 : (x.f3.length : Int) < 1
        · refine ⟨bt, ev_bind0 (impl_hour_eq _) (ev_pos (by simpa using c0) (ev_bind0 (impl_hour_eq _) (ev_pos (by simpa using c1) (ev_bind0 (impl_between_eq ..) (ev_pos (by simpa using c2) (ev_pos c3 ht)))))), ?_⟩
          rw [pt]
          exact ⟨fun h => (by cases h.1), fun h => absurd h.1.2.2.2.1 (by omega)⟩
        · obtain ⟨b', hb', hP'⟩ := hj (decide ((x.f3.length : Int) > 8))
          refine ⟨b', ev_bind0 (impl_hour_eq _) (ev_pos (by simpa using c0) (ev_bind0 (impl_hour_eq _) (ev_pos (by simpa using c1) (ev_bind0 (impl_between_eq ..) (ev_pos (by simpa using c2) (ev_neg c3 hb')))))), ?_⟩
          rw [hP']
          simp only [decide_eq_false_iff_not]
          exact ⟨fun h => ⟨⟨c0, c1, c2, by omega⟩, h.2⟩, fun h => ⟨by have := h.1.2.2.2; omega, h.2⟩⟩
      · refine ⟨bt, ev_bind0 (impl_hour_eq _) (ev_pos (by simpa using c0) (ev_bind0 (impl_hour_eq _) (ev_pos (by simpa using c1) (ev_bind0 (impl_between_eq ..) (ev_neg (by rw [decide_eq_true_eq]; exact c2) ht))))), ?_⟩
        rw [pt]
        exact ⟨fun h => (by cases h.1), fun h => absurd h.1.2.2.1 c2⟩
    · refine ⟨bt, ev_bind0 (impl_hour_eq _) (ev_pos (by simpa using c0) (ev_bind0 (impl_hour_eq _) (ev_neg (by rw [decide_eq_true_eq]; exact c1) ht))), ?_⟩
      rw [pt]
      exact ⟨fun h => (by cases h.1), fun h => absurd h.1.2.1 c1⟩
  · refine ⟨bt, ev_bind0 (impl_hour_eq _) (ev_neg (by rw [decide_eq_true_eq]; exact c0) ht), ?_⟩
    rw [pt]
    exact ⟨fun h => (by cases h.1), fun h => absurd h.1.1 c0⟩

def JobsIs (l : List JJ) : Prop := (l.length : Int) ≤ 40 ∧ ∀ x ∈ l, JobIs x
theorem spec_jobs (l : List JJ) (hl : (l.length : Int) ≤ 1048576 ∧ ∀ x ∈ l, B165 1048576 x) : ∃ b, Ev (fun k => spec_l19Jobs.f k l) b ∧ (b = true ↔ JobsIs l) := by
  have hl1 := hl.1
  unfold spec_l19Jobs.f
  by_cases c : (l.length : Int) > 40
  · exact ⟨false, ev_pos c (Ev.now _), fun h => (by cases h), fun h => absurd h.1 (by omega)⟩
  · obtain ⟨b, hb, hP⟩ := each_mem l (fun k i => spec_l19Jobs.l0 k l i) JobIs True (by
      intro i hi
      have hrd : rd_T165 l (i : Int) = l[i] := getD_at hi _
      obtain ⟨b, hb, hP⟩ := spec_job l[i] (hl.2 _ (List.getElem_mem hi))
      by_cases c1 : b = true
      · refine .inl ⟨hP.1 c1, fun r hr => ?_⟩
        refine Ev.step (fun k => by rw [spec_l19Jobs.l0]) ?_
        simp only [hrd]
        refine ev_pos (by omega) (ev_pos (by omega) (Ev.bind hb (ev_pos c1 ?_)))
        rw [wrap_succ hi (by omega)]
        exact hr
      · refine .inr ⟨fun h => c1 (hP.2 h), ?_⟩
        refine Ev.step (fun k => by rw [spec_l19Jobs.l0]) ?_
        simp only [hrd]
        exact ev_pos (by omega) (ev_pos (by omega) (Ev.bind hb (ev_neg c1 (Ev.now _))))) (by
      refine ⟨true, ?_, by simp⟩
      refine Ev.step (fun k => by rw [spec_l19Jobs.l0]) ?_
      exact ev_neg (by omega) (Ev.now _))
    exact ⟨b, ev_neg c hb, hP.trans ⟨fun h => ⟨by omega, h.1⟩, fun h => ⟨h.2, True.intro⟩⟩⟩
theorem impl_jobs (l : List JJ) (hl : (l.length : Int) ≤ 1048576 ∧ ∀ x ∈ l, B165 1048576 x) : ∃ b, Ev (fun k => impl_jobsOk.f k l) b ∧ (b = true ↔ JobsIs l) := by
  have hl1 := hl.1
  unfold impl_jobsOk.f
  by_cases c : (l.length : Int) > 40
  · exact ⟨false, ev_pos c (Ev.now _), fun h => (by cases h), fun h => absurd h.1 (by omega)⟩
  · obtain ⟨b, hb, hP⟩ := each_mem l (fun k i => impl_jobsOk.l0 k l (l.length : Int) i) JobIs True (by
      intro i hi
      have hrd : rd_T165 l (i : Int) = l[i] := getD_at hi _
      obtain ⟨b, hb, hP⟩ := impl_job l[i] (hl.2 _ (List.getElem_mem hi))
      by_cases c1 : b = true
      · refine .inl ⟨hP.1 c1, fun r hr => ?_⟩
        refine Ev.step (fun k => by rw [impl_jobsOk.l0]) ?_
        simp only [hrd]
        refine ev_pos (by omega) (ev_pos (by omega) (ev_pos (by omega) (Ev.bind hb (ev_pos c1 ?_))))
        rw [wrap_succ hi (by omega)]
        exact hr
      · refine .inr ⟨fun h => c1 (hP.2 h), ?_⟩
        refine Ev.step (fun k => by rw [impl_jobsOk.l0]) ?_
        simp only [hrd]
        exact ev_pos (by omega) (ev_pos (by omega) (ev_pos (by omega) (Ev.bind hb (ev_neg c1 (Ev.now _)))))) (by
      refine ⟨true, ?_, by simp⟩
      refine Ev.step (fun k => by rw [impl_jobsOk.l0]) ?_
      exact ev_neg (by omega) (Ev.now _))
    exact ⟨b, ev_neg c hb, hP.trans ⟨fun h => ⟨by omega, h.1⟩, fun h => ⟨h.2, True.intro⟩⟩⟩

theorem adv_eq (n : Nat) (a : Int) (h0 : 0 ≤ a) (h1 : a + n ≤ 4611686018427387904) : adv n a = a + n := by
  induction n with
  | zero => simp [adv]
  | succ n ih =>
    have := ih (by omega)
    unfold adv
    rw [this, wrap_id (by omega) (by omega)]
    omega
/-- A job's hours. -/
def hsum (ts : List TT) : Int := (ts.map fun t => t.f1).sum
def jhours (x : JJ) : Int := hsum x.f3
/-- What a job is put in order by. -/
def rkey (l : List JJ) (a1 : Int) (i : Int) : Int := if a1 = 1 then (rd_T165 l i).f1 else if a1 = 2 then jhours (rd_T165 l i) else if a1 = 3 then -(rd_T165 l i).f2 else (rd_T165 l i).f1 - jhours (rd_T165 l i)
def rless (l : List JJ) (a1 : Int) (a b : Int) : Bool := decide (rkey l a1 a < rkey l a1 b)
theorem hours_bound (ts : List TT) (h : ∀ t ∈ ts, TaskIs t) : 0 ≤ hsum ts ∧ hsum ts ≤ (ts.length : Int) * 500 := by
  unfold hsum
  induction ts with
  | nil => simp
  | cons t ts ih =>
    have h1 := ih (fun x hx => h x (List.mem_cons_of_mem _ hx))
    have h2 := (h t List.mem_cons_self).1
    simp only [List.map_cons, List.sum_cons, List.length_cons]
    omega
theorem sum_take_next {l : List TT} {i : Nat} (h : i < l.length) : hsum (l.take (i + 1)) = hsum (l.take i) + l[i].f1 := by
  unfold hsum
  rw [List.take_add_one, List.getElem?_eq_getElem h, List.map_append, List.sum_append]
  simp
section
variable (l : List JJ) (hJ : JobsIs l) (a1 : Int)
include hJ
theorem job_at {i : Nat} (hi : i < l.length) : rd_T165 l (i : Int) = l[i] ∧ JobIs l[i] := ⟨getD_at hi _, hJ.2 _ (List.getElem_mem hi)⟩
theorem jhours_at {i : Nat} (hi : i < l.length) : 0 ≤ jhours l[i] ∧ jhours l[i] ≤ 4000 := by
  have h := hJ.2 _ (List.getElem_mem hi)
  have h1 := hours_bound l[i].f3 h.2
  have h2 := h.1.2.2.2
  have h3 : jhours l[i] = hsum l[i].f3 := rfl
  rw [h3]
  have h4 : ((l[i].f3.length : Nat) : Int) ≤ 8 := h2.2
  exact ⟨h1.1, Int.le_trans h1.2 (by omega)⟩
theorem key_ev {i : Nat} (hi : i < l.length) : Ev (fun k => spec_l19Key.f k l[i].f0 l[i].f1 l[i].f2 l[i].f3 a1) (rkey l a1 (i : Int)) := by
  have h := (job_at l hJ hi).2
  have hk : rkey l a1 (i : Int) = if a1 = 1 then l[i].f1 else if a1 = 2 then jhours l[i] else if a1 = 3 then -l[i].f2 else l[i].f1 - jhours l[i] := by
    unfold rkey
    rw [(job_at l hJ hi).1]
  have hh := jhours_at l hJ hi
  generalize l[i] = x at h hk hh
  have key : ∀ (d j : Nat), j + d = x.f3.length → Ev (fun k => spec_l19Key.l0 k a1 (hsum (x.f3.take j)) (j : Int) x.f0 x.f1 x.f2 x.f3) (rkey l a1 (i : Int)) := by
    intro d
    induction d with
    | zero =>
      intro j hd
      have e : (hsum (x.f3.take j)) = jhours x := by rw [List.take_of_length_le (by omega)]; rfl
      rw [e]
      refine Ev.step (fun k => by rw [spec_l19Key.l0]) (ev_neg (by omega) ?_)
      have hx := h.1
      by_cases c1 : a1 = 1
      · rw [show rkey l a1 (i : Int) = x.f1 by rw [hk, if_pos c1]]
        exact ev_pos c1 (Ev.now _)
      · refine ev_neg c1 ?_
        by_cases c2 : a1 = 2
        · rw [show rkey l a1 (i : Int) = jhours x by rw [hk, if_neg c1, if_pos c2]]
          exact ev_pos c2 (Ev.now _)
        · refine ev_neg c2 ?_
          by_cases c3 : a1 = 3
          · rw [show rkey l a1 (i : Int) = wrap64 (-x.f2) by rw [hk, if_neg c1, if_neg c2, if_pos c3, wrap_id (by omega) (by omega)]]
            exact ev_pos c3 (Ev.now _)
          · rw [show rkey l a1 (i : Int) = wrap64 (x.f1 - jhours x) by rw [hk, if_neg c1, if_neg c2, if_neg c3, wrap_id (by omega) (by omega)]]
            exact ev_neg c3 (Ev.now _)
    | succ d ih =>
      intro j hd
      have hj : j < x.f3.length := by omega
      have hrd : rd_T230 x.f3 (j : Int) = x.f3[j] := getD_at hj _
      have hb := hours_bound (x.f3.take (j + 1)) (fun t ht => h.2 t (List.mem_of_mem_take ht))
      rw [List.length_take, sum_take_next hj] at hb
      have h8 := h.1.2.2.2
      have := ih (j + 1) (by omega)
      rw [sum_take_next hj] at this
      refine Ev.step (fun k => by rw [spec_l19Key.l0]) ?_
      simp only [hrd]
      refine ev_pos (by omega) (ev_pos (by omega) ?_)
      rw [wrap_succ hj (by omega), wrap_id (by omega) (by omega)]
      exact this
  have := key x.f3.length 0 (by omega)
  unfold spec_l19Key.f
  exact this
theorem hours_fuel {i : Nat} (hi : i < l.length) : impl_ranking_hours.f (rankFuel l) l (i : Int) = some (jhours l[i]) := by
  have hrd : rd_T165 l (i : Int) = l[i] := (job_at l hJ hi).1
  have h := (job_at l hJ hi).2
  have hlen : l[i].f3.length + 2 ≤ rankFuel l := by
    have : ∀ (ys : List JJ) (x : JJ), x ∈ ys → x.f3.length ≤ (ys.map fun x => x.f3.length).sum := by
      intro ys
      induction ys with
      | nil => intro x hx; cases hx
      | cons y ys ih =>
        intro x hx
        simp only [List.map_cons, List.sum_cons]
        rcases List.mem_cons.1 hx with rfl | hx
        · omega
        · have := ih x hx; omega
    exact Nat.add_le_add_right (this l _ (List.getElem_mem hi)) 2
  unfold impl_ranking_hours.f
  rw [hrd, if_pos (by omega), if_pos (by omega)]
  generalize l[i] = x at h hlen
  have key : ∀ (d j k : Nat), j + d = x.f3.length → d < k → impl_ranking_hours.l0 k (hsum (x.f3.take j)) x.f3 (x.f3.length : Int) (j : Int) = some (jhours x) := by
    intro d
    induction d with
    | zero =>
      intro j k hd hk
      obtain ⟨k, rfl⟩ : ∃ k', k = k' + 1 := ⟨k - 1, by omega⟩
      rw [impl_ranking_hours.l0, if_neg (by omega), List.take_of_length_le (by omega)]
      rfl
    | succ d ih =>
      intro j k hd hk
      obtain ⟨k, rfl⟩ : ∃ k', k = k' + 1 := ⟨k - 1, by omega⟩
      have hj : j < x.f3.length := by omega
      have hrd : rd_T230 x.f3 (j : Int) = x.f3[j] := getD_at hj _
      have hb := hours_bound (x.f3.take (j + 1)) (fun t ht => h.2 t (List.mem_of_mem_take ht))
      rw [List.length_take, sum_take_next hj] at hb
      have h8 := h.1.2.2.2
      rw [impl_ranking_hours.l0, if_pos (by omega), if_pos (by omega), if_pos (by omega), hrd, wrap_succ hj (by omega), wrap_id (by omega) (by omega), ← sum_take_next hj]
      exact ih (j + 1) k (by omega) (by omega)
  exact key x.f3.length 0 (rankFuel l) (by omega) (by omega)
theorem less_ev (ha1 : 1 ≤ a1 ∧ a1 ≤ 4) : ∀ a ∈ idxI l.length, ∀ b ∈ idxI l.length, rankLess l a1 a b = some (rless l a1 a b) := by
  intro a ha b hb
  obtain ⟨i, rfl, hi⟩ : ∃ q : Nat, a = (q : Int) ∧ q < l.length := by
    unfold idxI at ha
    obtain ⟨q, hq, rfl⟩ := List.mem_map.1 ha
    exact ⟨q, rfl, List.mem_range.1 hq⟩
  obtain ⟨j, rfl, hj⟩ : ∃ q : Nat, b = (q : Int) ∧ q < l.length := by
    unfold idxI at hb
    obtain ⟨q, hq, rfl⟩ := List.mem_map.1 hb
    exact ⟨q, rfl, List.mem_range.1 hq⟩
  have ri : rd_T165 l (i : Int) = l[i] := (job_at l hJ hi).1
  have rj : rd_T165 l (j : Int) = l[j] := (job_at l hJ hj).1
  have hi' := (job_at l hJ hi).2.1
  have hj' := (job_at l hJ hj).2.1
  have bi := jhours_at l hJ hi
  have bj := jhours_at l hJ hj
  unfold rankLess rless rkey
  by_cases c1 : a1 = 1
  · simp only [if_pos c1]
    unfold impl_ranking_byDue.f
    rw [if_pos (by omega), if_pos (by omega), if_pos (by omega), if_pos (by omega)]
  · simp only [if_neg c1]
    by_cases c2 : a1 = 2
    · simp only [if_pos c2]
      unfold impl_ranking_byHours.f
      rw [hours_fuel l hJ hi, hours_fuel l hJ hj, ri, rj]
      rfl
    · simp only [if_neg c2]
      by_cases c3 : a1 = 3
      · simp only [if_pos c3]
        unfold impl_ranking_byWeight.f
        rw [if_pos (by omega), if_pos (by omega), if_pos (by omega), if_pos (by omega)]
        congr 1
        rw [Bool.eq_iff_iff, decide_eq_true_eq, decide_eq_true_eq]
        omega
      · simp only [if_neg c3]
        unfold impl_ranking_byWait.f
        rw [if_pos (by omega), if_pos (by omega), hours_fuel l hJ hi, Option.bind_some, if_pos (by omega), if_pos (by omega), hours_fuel l hJ hj, Option.bind_some, ri, rj, wrap_id (by omega) (by omega), wrap_id (by omega) (by omega)]
end
/-- The places in order. -/
def rP (l : List JJ) (a1 : Int) : List Int := XSort.sort (rless l a1) (idx l.length)
def RF (l : List JJ) (a1 : Int) (a b : Int) : Prop := rkey l a1 a < rkey l a1 b ∨ (rkey l a1 a = rkey l a1 b ∧ a < b)
theorem rf_irr (l : List JJ) (a1 : Int) (a : Int) : ¬ RF l a1 a a := by unfold RF; omega
theorem rP_perm (l : List JJ) (a1 : Int) : (rP l a1).Perm (idx l.length) := XSort.sort_perm _
theorem rP_length (l : List JJ) (a1 : Int) : (rP l a1).length = l.length := by rw [(rP_perm l a1).length_eq, idx_length]
theorem rP_fore (l : List JJ) (a1 : Int) : (rP l a1).Pairwise (RF l a1) :=
  XSort.sort_by_key (rkey l a1) (fun a b => a < b) (fun a b c h1 h2 => by omega) (idx l.length) (idx_lt _) (rless l a1) (fun a _ b _ => by unfold rless; rw [decide_eq_true_eq])
theorem rP_at {l : List JJ} {a1 : Int} {t : Nat} (h : t < (rP l a1).length) : ∃ q : Nat, (rP l a1)[t] = (q : Int) ∧ q < l.length := idx_mem.1 ((rP_perm l a1).mem_iff.1 (List.getElem_mem h))
theorem rP_get {l : List JJ} {a1 : Int} {q : Nat} (h : q < l.length) : ∃ (t : Nat) (ht : t < (rP l a1).length), (rP l a1)[t] = (q : Int) := by
  obtain ⟨t, ht, e⟩ := List.getElem_of_mem ((rP_perm l a1).mem_iff.2 (idx_mem.2 ⟨q, rfl, h⟩))
  exact ⟨t, ht, e⟩
theorem rP_not_ahead {l : List JJ} {a1 : Int} {t s : Nat} (ht : t < (rP l a1).length) (hs : s < (rP l a1).length) : (rP l a1)[s] ∈ (rP l a1).take t ↔ s < t := by
  constructor
  · intro h
    obtain ⟨u, hu, e⟩ := List.getElem_of_mem h
    rw [List.length_take] at hu
    rw [List.getElem_take] at e
    have := ord_inj (rf_irr l a1) (rP_fore l a1) (show u < (rP l a1).length by omega) hs e
    omega
  · intro h
    exact List.mem_of_getElem (i := s) (h := by rw [List.length_take]; omega) (by rw [List.getElem_take])
section
variable (l : List JJ) (hJ : JobsIs l) (a1 : Int)
include hJ
/-- The reference's search of the next place. -/
theorem next_ev {t : Nat} (ht : t < (rP l a1).length) {r : List Int} (hr : Ev (fun k => spec_Rank.l0 k l a1 ((rP l a1).take (t + 1))) r) :
    ∀ (d i : Nat) (b : Int), i + d = l.length → ((b = -1 ∧ ∀ j : Nat, j < i → (j : Int) ∈ (rP l a1).take t) ∨ (∃ q : Nat, b = (q : Int) ∧ q < i ∧ (q : Int) ∉ (rP l a1).take t ∧ ∀ j : Nat, j < i → (j : Int) ∉ (rP l a1).take t → j = q ∨ RF l a1 (q : Int) (j : Int))) →
      Ev (fun k => spec_Rank.l1 k l a1 ((rP l a1).take t) b (i : Int)) r := by
  have h40 : (l.length : Int) ≤ 40 := hJ.1
  have hlen := rP_length l a1
  have htl : ((rP l a1).take t).length ≤ 1048576 := by rw [List.length_take]; omega
  intro d
  induction d with
  | zero =>
    intro i b hd hb
    refine Ev.step (fun k => by rw [spec_Rank.l1]) (ev_neg (by omega) (ev_pos (by omega) ?_))
    obtain ⟨p, hp, hpl⟩ := rP_at ht
    have hpn : (p : Int) ∉ (rP l a1).take t := by rw [← hp, rP_not_ahead ht ht]; omega
    rcases hb with ⟨_, h⟩ | ⟨q, rfl, hq, hqn, h⟩
    · exact absurd (h p (by omega)) hpn
    · have e : q = p := by
        rcases h p (by omega) hpn with e | hF
        · exact e.symm
        · obtain ⟨s, hs, es⟩ := rP_get (a1 := a1) (show q < l.length by omega)
          rw [← es, rP_not_ahead ht hs] at hqn
          rcases Nat.lt_or_eq_of_le (Nat.le_of_not_lt hqn) with c | c
          · have := ord_ahead (rP_fore l a1) c hs
            rw [hp, es] at this
            exact absurd hF (by unfold RF at *; omega)
          · subst c
            rw [hp] at es
            exact (Int.ofNat.inj es).symm
      subst e
      rw [List.take_add_one, List.getElem?_eq_getElem ht, hp] at hr
      exact hr
  | succ d ih =>
    intro i b hd hb
    have hi : i < l.length := by omega
    have hrd : rd_T165 l (i : Int) = l[i] := (job_at l hJ hi).1
    refine Ev.step (fun k => by rw [spec_Rank.l1]) (ev_pos (by omega) (Ev.bind (has_ev _ _ htl) ?_))
    by_cases c : (i : Int) ∈ (rP l a1).take t
    · refine ev_pos (decide_eq_true c) ?_
      rw [wrap_succ hi (by omega)]
      refine ih (i + 1) b (by omega) ?_
      rcases hb with ⟨hb, h⟩ | ⟨q, hb, hq, hqn, h⟩
      · exact .inl ⟨hb, fun j hj => by rcases Nat.lt_or_eq_of_le (Nat.le_of_lt_succ hj) with h_ | rfl; exact h j h_; exact c⟩
      · exact .inr ⟨q, hb, by omega, hqn, fun j hj hjn => by rcases Nat.lt_or_eq_of_le (Nat.le_of_lt_succ hj) with h_ | rfl; exact h j h_ hjn; exact absurd c hjn⟩
    · refine ev_neg (by rw [decide_eq_true_eq]; exact c) ?_
      rcases hb with ⟨rfl, h⟩ | ⟨q, rfl, hq, hqn, h⟩
      · refine ev_pos (by decide) ?_
        rw [wrap_succ hi (by omega)]
        exact ih (i + 1) (i : Int) (by omega) (.inr ⟨i, rfl, by omega, c, fun j hj hjn => by rcases Nat.lt_or_eq_of_le (Nat.le_of_lt_succ hj) with h_ | h_; exact absurd (h j h_) hjn; exact .inl h_⟩)
      · have hql : q < l.length := by omega
        have hrq : rd_T165 l (q : Int) = l[q] := (job_at l hJ hql).1
        refine ev_neg (by omega) (ev_pos (by omega) ?_)
        simp only [hrd, hrq]
        refine Ev.bind (key_ev l hJ a1 hi) (ev_pos (by omega) (ev_pos (by omega) (Ev.bind (key_ev l hJ a1 hql) ?_)))
        by_cases ck : rkey l a1 (i : Int) < rkey l a1 (q : Int)
        · refine ev_pos ck ?_
          rw [wrap_succ hi (by omega)]
          refine ih (i + 1) (i : Int) (by omega) (.inr ⟨i, rfl, by omega, c, fun j hj hjn => ?_⟩)
          rcases Nat.lt_or_eq_of_le (Nat.le_of_lt_succ hj) with h_ | h_
          · refine .inr ?_
            rcases h j h_ hjn with rfl | hF
            · exact .inl ck
            · exact .inl (by unfold RF at hF; omega)
          · exact .inl h_
        · refine ev_neg ck ?_
          rw [wrap_succ hi (by omega)]
          refine ih (i + 1) (q : Int) (by omega) (.inr ⟨q, rfl, by omega, hqn, fun j hj hjn => ?_⟩)
          rcases Nat.lt_or_eq_of_le (Nat.le_of_lt_succ hj) with h_ | rfl
          · exact h j h_ hjn
          · exact .inr (by unfold RF; omega)
theorem all_ev : ∀ (d t : Nat), t + d = l.length → Ev (fun k => spec_Rank.l0 k l a1 ((rP l a1).take t)) (rP l a1) := by
  have hlen := rP_length l a1
  intro d
  induction d with
  | zero =>
    intro t hd
    refine Ev.step (fun k => by rw [spec_Rank.l0]) (ev_neg (by rw [List.length_take]; omega) ?_)
    rw [List.take_of_length_le (by omega)]
    exact Ev.now _
  | succ d ih =>
    intro t hd
    have h := next_ev l hJ a1 (show t < (rP l a1).length by omega) (ih (t + 1) (by omega)) l.length 0 (-1) (by omega) (.inl ⟨rfl, fun j hj => absurd hj (by omega)⟩)
    have h' : Ev (fun k => spec_Rank.l1 k l a1 ((rP l a1).take t) (-1) 0) (rP l a1) := h
    exact Ev.step (fun k => by rw [spec_Rank.l0]) (ev_pos (by rw [List.length_take]; omega) h')
end
theorem rank_ev (l : List JJ) (hl : (l.length : Int) ≤ 1048576 ∧ ∀ x ∈ l, B165 1048576 x) (a1 : Int) : ∃ r, Ev (fun k => spec_Rank.f k l a1) r ∧ Ev (fun k => impl_Rank.f k l a1) r ∧ r.length ≤ l.length := by
  unfold spec_Rank.f impl_Rank.f
  have sT : Ev (fun k => spec_Rank.j0 k l a1 [] true) [] := Ev.step (fun k => by rw [spec_Rank.j0]) (ev_pos rfl (Ev.now _))
  by_cases c : 1 ≤ a1 ∧ a1 ≤ 4
  · obtain ⟨bs, hs, ps⟩ := spec_jobs l hl
    obtain ⟨bi, hi, pi⟩ := impl_jobs l hl
    by_cases cJ : JobsIs l
    · have es : bs = true := ps.2 cJ
      have ei : bi = true := pi.2 cJ
      subst es ei
      have h := all_ev l cJ a1 l.length 0 (by omega)
      have hS : Ev (fun k => spec_Rank.j0 k l a1 [] false) (rP l a1) := Ev.step (fun k => by rw [spec_Rank.j0]) (ev_neg (by decide) (show Ev (fun k => spec_Rank.l0 k l a1 []) (rP l a1) from h))
      have h40 : (l.length : Int) ≤ 40 := cJ.1
      have hI := impl_sortBy_int_ev (rankLess l a1) (rless l a1) (idxI l.length) (by unfold idxI; simp; omega) (less_ev l cJ a1 c)
      exact ⟨rP l a1, ev_bind0 rfl (ev_bind0 (spec_l1In_eq ..) (ev_pos (decide_eq_true c) (Ev.bind hs hS))), ev_bind0 (impl_between_eq ..) (ev_pos (decide_eq_true c) (Ev.bind hi (ev_pos rfl hI))), by rw [rP_length]; exact Nat.le_refl _⟩
    · have es : bs = false := by cases bs; rfl; exact absurd (ps.1 rfl) cJ
      have ei : bi = false := by cases bi; rfl; exact absurd (pi.1 rfl) cJ
      subst es ei
      exact ⟨[], ev_bind0 rfl (ev_bind0 (spec_l1In_eq ..) (ev_pos (decide_eq_true c) (Ev.bind hs sT))), ev_bind0 (impl_between_eq ..) (ev_pos (decide_eq_true c) (Ev.bind hi (ev_neg (by decide) (Ev.now _)))), by simp⟩
  · have nc : ¬ decide (1 ≤ a1 ∧ a1 ≤ 4) = true := by rw [decide_eq_true_eq]; exact c
    exact ⟨[], ev_bind0 rfl (ev_bind0 (spec_l1In_eq ..) (ev_neg nc sT)), ev_bind0 (impl_between_eq ..) (ev_neg nc (Ev.now _)), by simp⟩
theorem marksOf_bound (l : List JJ) : ∀ a : Int, 0 ≤ a → a + l.length * 4194304 ≤ 4611686018427387000 → (∀ x ∈ l, (x.f3.length : Int) ≤ 1048576) → 0 ≤ marksOf l a ∧ marksOf l a ≤ a + l.length * 4194304 := by
  induction l with
  | nil => intro a h0 _ _; simp [marksOf, h0]
  | cons x l ih =>
    intro a h0 h1 hx
    have hl : ((x :: l).length : Int) = l.length + 1 := by simp
    rw [hl] at h1 ⊢
    have hm := hx x List.mem_cons_self
    have es : marksOf (x :: l) a = marksOf l (a + 3 + ((x.f3.length * 3 : Nat) : Int)) := by
      show marksOf l (adv (x.f3.length * 3) (wrap64 (wrap64 (wrap64 (a + 1) + 1) + 1))) = _
      rw [wrap_id (x := a + 1) (by omega) (by omega), wrap_id (x := a + 1 + 1) (by omega) (by omega), wrap_id (x := a + 1 + 1 + 1) (by omega) (by omega), show a + 1 + 1 + 1 = a + 3 by omega, adv_eq _ _ (by omega) (by omega)]
    rw [es]
    have := ih (a + 3 + ((x.f3.length * 3 : Nat) : Int)) (by omega) (by omega) (fun y hy => hx y (List.mem_cons_of_mem _ hy))
    omega
theorem FnExactRank : laws_FnExactRank.Pure := by
  intro l0 a1 hg0 _
  apply Ev.rounds
  unfold laws_FnExactRank.f
  obtain ⟨s, hs, h⟩ := laws_szJobS_ev l0 1048576 (by omega) (by omega) hg0
  refine Ev.bind hs ?_
  rcases h with h | ⟨n0, n1, hB⟩
  · exact ev_pos h (Ev.now _)
  refine ev_neg (by omega) ?_
  have to1 := laws_toJobS_ev l0 hB
  have hB' : ((l0.map cv160).length : Int) ≤ 1048576 ∧ ∀ x ∈ l0.map cv160, B165 1048576 x := ⟨by rw [List.length_map]; exact hB.1, fun x hx => by
    obtain ⟨y, hy, rfl⟩ := List.mem_map.1 hx
    exact cv160_B (hB.2 y hy)⟩
  obtain ⟨r, h2, h3, hr⟩ := rank_ev (l0.map cv160) hB' a1
  have hr1 : (r.length : Int) ≤ 1048576 := by have := hB'.1; omega
  have er := laws_eqIntS_ev r hr1
  refine Ev.bind to1 (Ev.bind h2 (Ev.bind to1 (Ev.bind h3 (Ev.bind er (ev_pos rfl ?_)))))
  refine Ev.bind to1 (Ev.bind (laws_eqJobS_ev _ hB') (ev_pos rfl ?_))
  have hq := marksOf_bound (l0.map cv160) 1 (by omega) (by have := hB'.1; omega) (fun x hx => hB'.2 x hx)
  refine ev_bind0 (show laws_markJobS.f (l0.map cv160) 1 = some _ from rfl) (ev_neg (by omega) (Ev.bind er ?_))
  refine Ev.step (fun k => by rw [laws_FnExactRank.j0]) ?_
  have hm := laws_markIntS_ev r 1 (by omega) (by omega) hr1
  have hh := laws_heldIntS_ev 1 r.length (by omega) (by omega) hr1
  refine ev_neg (by decide) (Ev.bind hm (Ev.bind hh (ev_neg (by omega) (ev_pos rfl ?_))))
  refine Ev.bind to1 (Ev.bind h3 (Ev.bind er (ev_pos rfl ?_)))
  exact Ev.bind hh (ev_neg (by omega) (ev_pos rfl (Ev.now _)))
end Go.Proofs.Ytdnhpicgjkddbaa.Pure
