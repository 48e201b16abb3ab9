/- Settled: what is drawn is settled day by day, until one side is used up. -/
import Derived.Test.YtlodndejipjceaaZPFnSettledx
import Derived.Test.YtlodndejipjceaaZHFnSettled
/- A stable sort by halves, and what it leaves: a permutation in which each stands ahead of the next; and that such a list is the only one. -/
set_option linter.unusedVariables false
namespace Go.Proofs.XSort

def merge {α : Type} (less : α → α → Bool) : List α → List α → List α
  | [], r => r
  | a :: l, [] => a :: l
  | a :: l, b :: r => if less b a = true then b :: merge less (a :: l) r else a :: merge less l (b :: r)
termination_by l r => l.length + r.length

def sortN {α : Type} (less : α → α → Bool) : Nat → List α → List α
  | 0, xs => xs
  | k + 1, xs => if xs.length < 2 then xs else merge less (sortN less k (xs.take (xs.length / 2))) (sortN less k (xs.drop (xs.length / 2)))
def sort {α : Type} (less : α → α → Bool) (xs : List α) : List α := sortN less xs.length xs

section
variable {α : Type} {less : α → α → Bool}
theorem merge_nil (r : List α) : merge less [] r = r := by rw [merge.eq_def]
theorem merge_nil2 (l : List α) : merge less l [] = l := by cases l <;> rw [merge.eq_def]
theorem merge_right {a b : α} {l r : List α} (h : less b a = true) : merge less (a :: l) (b :: r) = b :: merge less (a :: l) r := by rw [merge.eq_def]; simp only [h, if_true]
theorem merge_left {a b : α} {l r : List α} (h : ¬ less b a = true) : merge less (a :: l) (b :: r) = a :: merge less l (b :: r) := by rw [merge.eq_def]; simp only [if_neg h]

theorem merge_perm : ∀ (n : Nat) (l r : List α), l.length + r.length = n → (merge less l r).Perm (l ++ r) := by
  intro n
  induction n with
  | zero =>
    intro l r h
    have h1 : l = [] := List.eq_nil_of_length_eq_zero (by omega)
    subst h1
    rw [merge_nil]
    exact List.Perm.refl _
  | succ n ih =>
    intro l r h
    cases l with
    | nil => rw [merge_nil]; exact List.Perm.refl _
    | cons a l =>
      cases r with
      | nil => rw [merge_nil2, List.append_nil]
      | cons b r =>
        by_cases c : less b a = true
        · rw [merge_right c]
          have := ih (a :: l) r (by simp at h ⊢; omega)
          exact (List.Perm.cons b this).trans (List.perm_middle.symm)
        · rw [merge_left c]
          have := ih l (b :: r) (by simp at h ⊢; omega)
          exact List.Perm.cons a this
theorem sortN_perm : ∀ (k : Nat) (xs : List α), (sortN less k xs).Perm xs := by
  intro k
  induction k with
  | zero => intro xs; exact List.Perm.refl _
  | succ k ih =>
    intro xs
    unfold sortN
    by_cases c : xs.length < 2
    · rw [if_pos c]
    · rw [if_neg c]
      refine (merge_perm _ _ _ rfl).trans ?_
      have := List.Perm.append (ih (xs.take (xs.length / 2))) (ih (xs.drop (xs.length / 2)))
      rw [List.take_append_drop] at this
      exact this
theorem sort_perm (xs : List α) : (sort less xs).Perm xs := sortN_perm _ _
theorem sortN_length (k : Nat) (xs : List α) : (sortN less k xs).length = xs.length := (sortN_perm k xs).length_eq
/-- a stands ahead of b: it is less, or it is not more and came in ahead. -/
def Ahead (less : α → α → Bool) (P : α → α → Prop) (a b : α) : Prop := less a b = true ∨ (¬ less b a = true ∧ P a b)

theorem merge_ahead {P : α → α → Prop} : ∀ (n : Nat) (l r : List α), l.length + r.length = n → (∀ a ∈ l ++ r, ∀ b ∈ l ++ r, ∀ c ∈ l ++ r, Ahead less P a b → Ahead less P b c → Ahead less P a c) →
    l.Pairwise (Ahead less P) → r.Pairwise (Ahead less P) → (∀ a ∈ l, ∀ b ∈ r, P a b) → (merge less l r).Pairwise (Ahead less P) := by
  intro n
  induction n with
  | zero =>
    intro l r h _ _ hr _
    have h1 : l = [] := List.eq_nil_of_length_eq_zero (by omega)
    subst h1
    rw [merge_nil]
    exact hr
  | succ n ih =>
    intro l r h ht hl hr hP
    cases l with
    | nil => rw [merge_nil]; exact hr
    | cons a l =>
      cases r with
      | nil => rw [merge_nil2]; exact hl
      | cons b r =>
        rw [List.pairwise_cons] at hl hr
        by_cases c : less b a = true
        · rw [merge_right c, List.pairwise_cons]
          have hba : Ahead less P b a := .inl c
          refine ⟨fun x hx => ?_, ih (a :: l) r (by simp at h ⊢; omega) (fun x hx y hy z hz => ht x (by simp at hx ⊢; rcases hx with h | h | h <;> simp [h]) y (by simp at hy ⊢; rcases hy with h | h | h <;> simp [h]) z (by simp at hz ⊢; rcases hz with h | h | h <;> simp [h])) (List.pairwise_cons.2 hl) hr.2 (fun x hx y hy => hP x hx y (List.mem_cons_of_mem _ hy))⟩
          have hx' := (merge_perm _ (a :: l) r rfl).mem_iff.1 hx
          rcases List.mem_append.1 hx' with h1 | h1
          · rcases List.mem_cons.1 h1 with h2 | h2
            · rw [h2]; exact hba
            · exact ht b (by simp) a (by simp) x (by simp [h2]) hba (hl.1 x h2)
          · exact hr.1 x h1
        · rw [merge_left c, List.pairwise_cons]
          have hab : Ahead less P a b := .inr ⟨c, hP a (by simp) b (by simp)⟩
          refine ⟨fun x hx => ?_, ih l (b :: r) (by simp at h ⊢; omega) (fun x hx y hy z hz => ht x (by simp at hx ⊢; rcases hx with h | h | h <;> simp [h]) y (by simp at hy ⊢; rcases hy with h | h | h <;> simp [h]) z (by simp at hz ⊢; rcases hz with h | h | h <;> simp [h])) hl.2 (List.pairwise_cons.2 hr) (fun x hx y hy => hP x (List.mem_cons_of_mem _ hx) y hy)⟩
          have hx' := (merge_perm _ l (b :: r) rfl).mem_iff.1 hx
          rcases List.mem_append.1 hx' with h1 | h1
          · exact hl.1 x h1
          · rcases List.mem_cons.1 h1 with h2 | h2
            · rw [h2]; exact hab
            · exact ht a (by simp) b (by simp) x (by simp [h2]) hab (hr.1 x h2)

theorem sortN_ahead {P : α → α → Prop} : ∀ (k : Nat) (xs : List α), xs.length ≤ k → (∀ a ∈ xs, ∀ b ∈ xs, ∀ c ∈ xs, Ahead less P a b → Ahead less P b c → Ahead less P a c) → xs.Pairwise P → (sortN less k xs).Pairwise (Ahead less P) := by
  intro k
  induction k with
  | zero =>
    intro xs h _ _
    have : xs = [] := List.eq_nil_of_length_eq_zero (by omega)
    subst this
    exact List.Pairwise.nil
  | succ k ih =>
    intro xs h ht hP
    unfold sortN
    by_cases c : xs.length < 2
    · rw [if_pos c]
      match xs, c with
      | [], _ => exact List.Pairwise.nil
      | [x], _ => exact List.pairwise_singleton _ _
      | x :: y :: r, c => simp at c; omega
    · rw [if_neg c]
      have hs := List.take_append_drop (xs.length / 2) xs
      have hm : ∀ x, x ∈ sortN less k (xs.take (xs.length / 2)) ++ sortN less k (xs.drop (xs.length / 2)) → x ∈ xs := by
        intro x hx
        rcases List.mem_append.1 hx with h1 | h1
        · exact List.mem_of_mem_take ((sortN_perm _ _).mem_iff.1 h1)
        · exact List.mem_of_mem_drop ((sortN_perm _ _).mem_iff.1 h1)
      have hP' := hP
      rw [← hs, List.pairwise_append] at hP'
      refine merge_ahead _ _ _ rfl (fun a ha b hb d hd => ht a (hm a ha) b (hm b hb) d (hm d hd)) ?_ ?_ ?_
      · exact ih _ (by rw [List.length_take]; omega) (fun a ha b hb d hd => ht a (List.mem_of_mem_take ha) b (List.mem_of_mem_take hb) d (List.mem_of_mem_take hd)) hP'.1
      · exact ih _ (by rw [List.length_drop]; omega) (fun a ha b hb d hd => ht a (List.mem_of_mem_drop ha) b (List.mem_of_mem_drop hb) d (List.mem_of_mem_drop hd)) hP'.2.1
      · intro a ha b hb
        exact hP'.2.2 a ((sortN_perm _ _).mem_iff.1 ha) b ((sortN_perm _ _).mem_iff.1 hb)
theorem sort_ahead {P : α → α → Prop} (xs : List α) (ht : ∀ a ∈ xs, ∀ b ∈ xs, ∀ c ∈ xs, Ahead less P a b → Ahead less P b c → Ahead less P a c) (hP : xs.Pairwise P) : (sort less xs).Pairwise (Ahead less P) := sortN_ahead _ _ (Nat.le_refl _) ht hP
end

/-- By a number, from the least: what is alike in its order. -/
theorem sort_by_key {α : Type} (key : α → Int) (P : α → α → Prop) (hPt : ∀ a b c, P a b → P b c → P a c) (xs : List α) (hP : xs.Pairwise P) (less : α → α → Bool) (hless : ∀ a ∈ xs, ∀ b ∈ xs, (less a b = true ↔ key a < key b)) :
    (sort less xs).Pairwise (fun a b => key a < key b ∨ (key a = key b ∧ P a b)) := by
  have h := sort_ahead (less := less) (P := P) xs (by
    intro a ha b hb c hc h1 h2
    unfold Ahead at *
    rw [hless a ha b hb, hless b hb a ha] at h1
    rw [hless b hb c hc, hless c hc b hb] at h2
    rw [hless a ha c hc, hless c hc a ha]
    rcases h1 with h1 | ⟨h1, p1⟩
    · rcases h2 with h2 | ⟨h2, p2⟩
      · exact .inl (by omega)
      · exact .inl (by omega)
    · rcases h2 with h2 | ⟨h2, p2⟩
      · exact .inl (by omega)
      · exact .inr ⟨by omega, hPt _ _ _ p1 p2⟩) hP
  refine List.Pairwise.imp_of_mem ?_ h
  intro a b ha hb hab
  have ha' := (sort_perm xs).mem_iff.1 ha
  have hb' := (sort_perm xs).mem_iff.1 hb
  unfold Ahead at hab
  rw [hless a ha' b hb', hless b hb' a ha'] at hab
  rcases hab with h | ⟨h, p⟩
  · exact .inl h
  · by_cases c : key a < key b
    · exact .inl c
    · exact .inr ⟨by omega, p⟩

end Go.Proofs.XSort
set_option maxHeartbeats 4000000
set_option linter.unusedVariables false
set_option linter.unusedSimpArgs false
namespace Go.Proofs.Ytlodndejipjceaa.Pure
open Go.RowKit Go.Proofs.Ytlodndejipjceaa.PFnSettled Go.Proofs.YtlodndejipjceaaW.PrintWords Go.Proofs.YtlodndejipjceaaW.PrintLast Go.Proofs.Ytlodndejipjceaa.XEv
/-! The printed sort: impl_sortBy_int -/
theorem impl_sortBy_int_merge (lt : Int → Int → Option Bool) (less : Int → Int → Bool) (l r : List Int) (hl : l.length + r.length ≤ 1048576) (hlt : ∀ a ∈ l, ∀ b ∈ r, lt b a = some (less b a)) :
    ∀ (d i j : Nat) (x P : List Int), i ≤ l.length → j ≤ r.length → (l.length - i) + (r.length - j) = d → x.length = l.length + r.length → x.take (i + j) = P →
      Ev (fun k => impl_sortBy_int.l0 k x lt l r (i : Int) (j : Int) ((l.length + r.length : Nat) : Int) ((i + j : Nat) : Int)) (P ++ XSort.merge less (l.drop i) (r.drop j)) := by
  intro d
  induction d with
  | zero =>
    intro i j x P hi hj hd hx hP
    have e1 : i = l.length := by omega
    have e2 : j = r.length := by omega
    subst e1 e2
    rw [List.drop_length, List.drop_length, XSort.merge_nil, List.append_nil]
    have e3 : P = x := by rw [← hP, ← hx, List.take_length]
    subst e3
    refine Ev.step (fun k => by rw [impl_sortBy_int.l0]) ?_
    exact ev_neg (by omega) (Ev.now _)
  | succ d ih =>
    intro i j x P hi hj hd hx hP
    have hn : i + j < x.length := by omega
    have hlen : P.length = i + j := by rw [← hP, List.length_take]; omega
    have put : ∀ v : Int, (x.set (i + j) v).take (i + j + 1) = P ++ [v] := by
      intro v
      rw [List.take_add_one, List.getElem?_set_self hn, List.take_set, hP, List.set_eq_of_length_le (by omega)]
      rfl
    have goL : ∀ (h : i < l.length), Ev (fun k => impl_sortBy_int.l0 k (x.set (i + j) l[i]) lt l r ((i + 1 : Nat) : Int) (j : Int) ((l.length + r.length : Nat) : Int) ((i + j + 1 : Nat) : Int)) (P ++ l[i] :: XSort.merge less (l.drop (i + 1)) (r.drop j)) := by
      intro h
      have := ih (i + 1) j (x.set (i + j) l[i]) (P ++ [l[i]]) (by omega) hj (by omega) (by rw [List.length_set]; exact hx) (by rw [show i + 1 + j = i + j + 1 by omega]; exact put _)
      rw [show i + 1 + j = i + j + 1 by omega, List.append_assoc] at this
      exact this
    have goR : ∀ (h : j < r.length), Ev (fun k => impl_sortBy_int.l0 k (x.set (i + j) r[j]) lt l r (i : Int) ((j + 1 : Nat) : Int) ((l.length + r.length : Nat) : Int) ((i + j + 1 : Nat) : Int)) (P ++ r[j] :: XSort.merge less (l.drop i) (r.drop (j + 1))) := by
      intro h
      have := ih i (j + 1) (x.set (i + j) r[j]) (P ++ [r[j]]) hi (by omega) (by omega) (by rw [List.length_set]; exact hx) (by rw [show i + (j + 1) = i + j + 1 by omega]; exact put _)
      rw [show i + (j + 1) = i + j + 1 by omega, List.append_assoc] at this
      exact this
    have w1 : ∀ m : Nat, m ≤ 2097152 → wrap64 ((m : Int) + 1) = ((m + 1 : Nat) : Int) := fun m hm => wrap_succ (n := m + 1) (by omega) (by omega)
    have rdl : ∀ h : i < l.length, rd l (i : Int) = l[i] := fun h => by first | exact rd_at h | exact getD_at h _
    have rdr : ∀ h : j < r.length, rd r (j : Int) = r[j] := fun h => by first | exact rd_at h | exact getD_at h _
    by_cases cj : j = r.length
    · have hi' : i < l.length := by omega
      have hm : XSort.merge less (l.drop i) (r.drop j) = l[i] :: XSort.merge less (l.drop (i + 1)) (r.drop j) := by
        rw [List.drop_eq_getElem_cons hi', cj, List.drop_length, XSort.merge_nil2, XSort.merge_nil2]
      rw [hm]
      refine Ev.step (fun k => by rw [impl_sortBy_int.l0]) ?_
      refine ev_pos (by omega) (ev_pos (by omega) (ev_pos (by omega) (ev_pos (by omega) (ev_pos (by omega) (ev_pos (by omega) ?_)))))
      rw [w1 i (by omega), w1 (i + j) (by omega), Int.toNat_natCast]
      have := goL hi'
      rw [← rdl hi'] at this ⊢
      exact this
    · have hj' : j < r.length := by omega
      by_cases ci : i < l.length
      · have hl2 := hlt l[i] (List.getElem_mem ci) r[j] (List.getElem_mem hj')
        by_cases cc : less r[j] l[i] = true
        · have hm : XSort.merge less (l.drop i) (r.drop j) = r[j] :: XSort.merge less (l.drop i) (r.drop (j + 1)) := by
            rw [List.drop_eq_getElem_cons ci, List.drop_eq_getElem_cons hj', XSort.merge_right cc]
          rw [hm]
          have hg := goR hj'
          rw [← rdr hj'] at hg ⊢
          rw [← rdr hj', ← rdl ci] at hl2
          rw [← rdr hj', ← rdl ci] at cc
          refine Ev.step (fun k => by rw [impl_sortBy_int.l0]) ?_
          refine ev_pos (by omega) (ev_neg (by omega) (ev_pos (by omega) (ev_pos (by omega) (ev_pos (by omega) (ev_pos (by omega) (ev_bind0 hl2 (ev_pos cc (ev_pos (by omega) (ev_pos (by omega) ?_)))))))))
          rw [w1 j (by omega), w1 (i + j) (by omega), Int.toNat_natCast]
          exact hg
        · have hm : XSort.merge less (l.drop i) (r.drop j) = l[i] :: XSort.merge less (l.drop (i + 1)) (r.drop j) := by
            rw [List.drop_eq_getElem_cons ci, List.drop_eq_getElem_cons hj', XSort.merge_left cc]
          rw [hm]
          have hg := goL ci
          rw [← rdl ci] at hg ⊢
          rw [← rdr hj', ← rdl ci] at hl2
          rw [← rdr hj', ← rdl ci] at cc
          refine Ev.step (fun k => by rw [impl_sortBy_int.l0]) ?_
          refine ev_pos (by omega) (ev_neg (by omega) (ev_pos (by omega) (ev_pos (by omega) (ev_pos (by omega) (ev_pos (by omega) (ev_bind0 hl2 (ev_neg cc (ev_pos (by omega) (ev_pos (by omega) ?_)))))))))
          rw [w1 i (by omega), w1 (i + j) (by omega), Int.toNat_natCast]
          exact hg
      · have ei : i = l.length := by omega
        have hm : XSort.merge less (l.drop i) (r.drop j) = r[j] :: XSort.merge less (l.drop i) (r.drop (j + 1)) := by
          rw [ei, List.drop_length, List.drop_eq_getElem_cons hj', XSort.merge_nil, XSort.merge_nil]
        rw [hm]
        have hg := goR hj'
        rw [← rdr hj'] at hg ⊢
        refine Ev.step (fun k => by rw [impl_sortBy_int.l0]) ?_
        refine ev_pos (by omega) (ev_neg (by omega) (ev_neg (by omega) (ev_pos (by omega) (ev_pos (by omega) (ev_pos (by omega) (ev_pos (by omega) ?_))))))
        rw [w1 j (by omega), w1 (i + j) (by omega), Int.toNat_natCast]
        exact hg
theorem impl_sortBy_int_evN (lt : Int → Int → Option Bool) (less : Int → Int → Bool) : ∀ (n : Nat) (xs : List Int), xs.length ≤ n → xs.length ≤ 1048576 → (∀ a ∈ xs, ∀ b ∈ xs, lt a b = some (less a b)) → Ev (fun k => impl_sortBy_int.f k xs lt) (XSort.sortN less n xs) := by
  intro n
  induction n with
  | zero =>
    intro xs h0 h1 hlt
    refine Ev.step (fun k => by rw [impl_sortBy_int.f]) ?_
    exact ev_pos (by omega) (Ev.now _)
  | succ n ih =>
    intro xs h0 h1 hlt
    unfold XSort.sortN
    by_cases c : xs.length < 2
    · rw [if_pos c]
      refine Ev.step (fun k => by rw [impl_sortBy_int.f]) ?_
      exact ev_pos (by omega) (Ev.now _)
    · rw [if_neg c]
      have hw : wrap64 ((xs.length : Int) / 2) = ((xs.length / 2 : Nat) : Int) := by rw [wrap_id (by omega) (by omega)]; omega
      have t1 := ih (xs.take (xs.length / 2)) (by rw [List.length_take]; omega) (by rw [List.length_take]; omega) (fun a ha b hb => hlt a (List.mem_of_mem_take ha) b (List.mem_of_mem_take hb))
      have t2 := ih (xs.drop (xs.length / 2)) (by rw [List.length_drop]; omega) (by rw [List.length_drop]; omega) (fun a ha b hb => hlt a (List.mem_of_mem_drop ha) b (List.mem_of_mem_drop hb))
      have l1 : (XSort.sortN less n (xs.take (xs.length / 2))).length = xs.length / 2 := by rw [XSort.sortN_length, List.length_take]; omega
      have l2 : (XSort.sortN less n (xs.drop (xs.length / 2))).length = xs.length - xs.length / 2 := by rw [XSort.sortN_length, List.length_drop]
      have t3 := impl_sortBy_int_merge lt less (XSort.sortN less n (xs.take (xs.length / 2))) (XSort.sortN less n (xs.drop (xs.length / 2))) (by omega)
        (fun a ha b hb => hlt b (List.mem_of_mem_drop ((XSort.sortN_perm _ _).mem_iff.1 hb)) a (List.mem_of_mem_take ((XSort.sortN_perm _ _).mem_iff.1 ha))) _ 0 0 xs [] (by omega) (by omega) rfl (by omega) rfl
      rw [show ((0 : Nat) : Int) = 0 from rfl, show (XSort.sortN less n (xs.take (xs.length / 2))).length + (XSort.sortN less n (xs.drop (xs.length / 2))).length = xs.length by omega, List.drop_zero, List.drop_zero, List.nil_append] at t3
      refine Ev.step (fun k => by rw [impl_sortBy_int.f]) ?_
      rw [hw]
      simp only [Int.toNat_natCast, Option.bind_some, List.nil_append]
      have q1 : (xs.take (xs.length / 2)).length = xs.length / 2 := by rw [List.length_take]; omega
      have q2 : (xs.drop (xs.length / 2)).length = xs.length - xs.length / 2 := List.length_drop
      refine ev_neg (by omega) (ev_pos (by omega) (ev_pos (by omega) (ev_pos (by simp only [List.length_nil]; omega) (ev_pos (by simp only [List.length_nil]; omega) (Ev.bind t1 (Ev.bind t2 t3))))))
theorem impl_sortBy_int_ev (lt : Int → Int → Option Bool) (less : Int → Int → Bool) (xs : List Int) (h1 : xs.length ≤ 1048576) (hlt : ∀ a ∈ xs, ∀ b ∈ xs, lt a b = some (less a b)) : Ev (fun k => impl_sortBy_int.f k xs lt) (XSort.sort less xs) := impl_sortBy_int_evN lt less xs.length xs (Nat.le_refl _) h1 hlt
/-- The places of a list. -/
def idx (n : Nat) : List Int := (List.range n).map fun (i : Nat) => (i : Int)
theorem idx_length (n : Nat) : (idx n).length = n := by simp [idx]
theorem idx_succ (n : Nat) : idx (n + 1) = idx n ++ [(n : Int)] := by simp [idx, List.range_succ]
theorem idx_mem {n : Nat} {x : Int} : x ∈ idx n ↔ ∃ q : Nat, x = (q : Int) ∧ q < n := by
  simp only [idx, List.mem_map, List.mem_range]
  exact ⟨fun ⟨q, h, e⟩ => ⟨q, e.symm, h⟩, fun ⟨q, e, h⟩ => ⟨q, h, e.symm⟩⟩
theorem idx_lt (n : Nat) : (idx n).Pairwise (· < ·) := by
  induction n with
  | zero => exact List.Pairwise.nil
  | succ n ih =>
    rw [idx_succ, List.pairwise_append]
    refine ⟨ih, List.pairwise_singleton _ _, fun a ha b hb => ?_⟩
    obtain ⟨q, rfl, hq⟩ := idx_mem.1 ha
    rw [List.mem_singleton.1 hb]
    omega
theorem rd_set {l : List Int} {q : Nat} (hq : q < l.length) (v : Int) (j : Nat) : rd (l.set q v) (j : Int) = if j = q then v else rd l (j : Int) := by
  unfold rd
  simp only [Int.toNat_natCast, List.getD_eq_getElem?_getD]
  by_cases h : j = q
  · subst h
    rw [if_pos rfl, List.getElem?_set_self hq]
    rfl
  · rw [if_neg h, List.getElem?_set_ne (fun e => h e.symm)]
theorem sum_bound (B : Int) (hB : 0 ≤ B) : ∀ {l : List Int}, (∀ x ∈ l, -B ≤ x ∧ x ≤ B) → -((l.length : Int) * B) ≤ l.sum ∧ l.sum ≤ (l.length : Int) * B := by
  intro l
  induction l with
  | nil => intro _; simp
  | cons a l ih =>
    intro h
    have h1 := h a (List.mem_cons_self ..)
    have h2 := ih (fun x hx => h x (List.mem_cons_of_mem _ hx))
    rw [List.sum_cons, List.length_cons]
    have e : ((l.length + 1 : Nat) : Int) * B = (l.length : Int) * B + B := by rw [Int.natCast_add, Int.add_mul]; simp
    rw [e]
    omega
theorem take_next {l : List Int} {i : Nat} (h : i < l.length) : (l.take (i + 1)).sum = (l.take i).sum + l[i] := by
  rw [List.take_add_one, List.getElem?_eq_getElem h, List.sum_append]
  simp
theorem laws_sum_ev (l : List Int) (B : Int) (hB : 0 ≤ B) (hB2 : B ≤ 10000000000000) (hn : l.length ≤ 200) (hl : ∀ x ∈ l, -B ≤ x ∧ x ≤ B) : Ev (fun k => laws_sum.f k l) l.sum := by
  have key : ∀ (d i : Nat), i + d = l.length → Ev (fun k => laws_sum.l0 k l (l.take i).sum (i : Int)) l.sum := by
    intro d
    induction d with
    | zero =>
      intro i hi
      have e : i = l.length := by omega
      subst e
      refine Ev.step (fun k => by rw [laws_sum.l0]) ?_
      rw [List.take_length]
      exact ev_neg (Int.lt_irrefl _) (Ev.now _)
    | succ d ih =>
      intro i hi
      have hlt : i < l.length := by omega
      have g1 : (i : Int) < (l.length : Int) := Int.ofNat_lt.2 hlt
      have e1 := take_next hlt
      have hb := sum_bound B hB (l := l.take (i + 1)) (fun x hx => hl x (List.mem_of_mem_take hx))
      have hlen : (l.take (i + 1)).length = i + 1 := by rw [List.length_take]; omega
      rw [hlen] at hb
      have hm := Int.mul_le_mul_of_nonneg_left hB2 (show (0 : Int) ≤ ((i + 1 : Nat) : Int) by omega)
      have ew := Aside0.mk (show wrap64 ((l.take i).sum + rd l (i : Int)) = (l.take (i + 1)).sum from by
        rw [rd_at hlt, e1]
        rw [e1] at hb
        exact wrap_id (by omega) (by omega))
      refine Ev.step (fun k => by rw [laws_sum.l0]) ?_
      refine ev_pos g1 (ev_pos (Int.natCast_nonneg _) ?_)
      rw [ew.out, wrap_succ hlt (by omega)]
      exact ih (i + 1) (by omega)
  have := key l.length 0 (by omega)
  unfold laws_sum.f
  rw [List.take_zero, List.sum_nil] at this
  exact this
/-- What a list of open items must be. -/
def OpenIs (L : List S27) : Prop := (L.length : Int) ≤ 100 ∧ ∀ x ∈ L, (0 ≤ x.f0 ∧ x.f0 ≤ 40000) ∧ (1 ≤ x.f1 ∧ x.f1 ≤ 100000000000)
theorem spec_open_ev (L : List S27) (hl : (L.length : Int) ≤ 1048576) : ∃ b, Ev (fun k => spec_l13Open.f k L) b ∧ (b = true ↔ OpenIs L) := by
  unfold spec_l13Open.f OpenIs
  by_cases c : (L.length : Int) > 100
  · exact ⟨false, ev_pos c (Ev.now _), fun h => (by cases h), fun h => absurd h.1 (by omega)⟩
  obtain ⟨b, hb, hP⟩ := each_mem L (fun k i => spec_l13Open.l0 k L i) (fun x => (0 ≤ x.f0 ∧ x.f0 ≤ 40000) ∧ (1 ≤ x.f1 ∧ x.f1 ≤ 100000000000)) True (by
    intro i hi
    have hrd : rd_T27 L (i : Int) = L[i] := getD_at hi _
    by_cases c0 : 0 ≤ L[i].f0 ∧ L[i].f0 ≤ 40000
    · by_cases c1 : 1 ≤ L[i].f1 ∧ L[i].f1 ≤ 100000000000
      · refine .inl ⟨⟨c0, c1⟩, fun r hr => ?_⟩
        refine Ev.step (fun k => by rw [spec_l13Open.l0]) ?_
        simp only [hrd]
        refine ev_pos (by omega) (ev_pos (by omega) (ev_bind0 (spec_l2Day_eq _) (ev_pos (decide_eq_true c0) (ev_bind0 (spec_l1In_eq ..) (ev_pos (decide_eq_true c1) ?_)))))
        rw [wrap_succ hi (by omega)]
        exact hr
      · refine .inr ⟨fun h => c1 h.2, ?_⟩
        refine Ev.step (fun k => by rw [spec_l13Open.l0]) ?_
        simp only [hrd]
        exact ev_pos (by omega) (ev_pos (by omega) (ev_bind0 (spec_l2Day_eq _) (ev_pos (decide_eq_true c0) (ev_bind0 (spec_l1In_eq ..) (ev_neg (by rw [decide_eq_true_eq]; exact c1) (Ev.now _))))))
    · refine .inr ⟨fun h => c0 h.1, ?_⟩
      refine Ev.step (fun k => by rw [spec_l13Open.l0]) ?_
      simp only [hrd]
      exact ev_pos (by omega) (ev_pos (by omega) (ev_bind0 (spec_l2Day_eq _) (ev_neg (by rw [decide_eq_true_eq]; exact c0) (Ev.now _))))) (by
    refine ⟨true, ?_, by simp⟩
    refine Ev.step (fun k => by rw [spec_l13Open.l0]) ?_
    exact ev_neg (by omega) (Ev.now _))
  exact ⟨b, ev_neg c hb, hP.trans ⟨fun h => ⟨by omega, h.1⟩, fun h => ⟨h.2, True.intro⟩⟩⟩
theorem impl_open_eq (x : S27) : impl_openOk.f x.f0 x.f1 = some (decide ((0 ≤ x.f0 ∧ x.f0 ≤ 40000) ∧ (1 ≤ x.f1 ∧ x.f1 ≤ 100000000000))) := by
  unfold impl_openOk.f
  rw [impl_isDay_eq, Option.bind_some]
  by_cases c0 : 0 ≤ x.f0 ∧ x.f0 ≤ 40000
  · rw [if_pos (decide_eq_true c0), impl_between_eq, Option.bind_some]
    congr 1
    rw [Bool.eq_iff_iff, decide_eq_true_eq, decide_eq_true_eq]
    exact ⟨fun h => ⟨c0, h⟩, fun h => h.2⟩
  · rw [if_neg (by rw [decide_eq_true_eq]; exact c0)]
    congr 1
    symm
    rw [decide_eq_false_iff_not]
    exact fun h => c0 h.1
/-- The day of the item at a place. -/
def dayAt (L : List S27) (a : Int) : Int := (rd_T27 L a).f0
def amtAt (L : List S27) (a : Int) : Int := (rd_T27 L a).f1
def srt (L : List S27) : List Int := XSort.sort (fun a b => decide (dayAt L a < dayAt L b)) (idx L.length)
theorem byDay_ev (L : List S27) (hl : (L.length : Int) ≤ 1048576) : (OpenIs L → Ev (fun k => impl_byDay.f k L) (srt L, true)) ∧ (¬ OpenIs L → ∃ s, Ev (fun k => impl_byDay.f k L) (s, false)) := by
  unfold impl_byDay.f
  by_cases c : (L.length : Int) > 100
  · exact ⟨fun h => absurd h.1 (by omega), fun _ => ⟨_, ev_pos c (Ev.now _)⟩⟩
  have key : ∀ (d i : Nat), i + d = L.length → (∀ j (hj : j < L.length), j < i → ((0 ≤ L[j].f0 ∧ L[j].f0 ≤ 40000) ∧ (1 ≤ L[j].f1 ∧ L[j].f1 ≤ 100000000000))) →
      (OpenIs L → Ev (fun k => impl_byDay.l0 k (idx i) L (L.length : Int) (i : Int) L) (srt L, true)) ∧ (¬ OpenIs L → ∃ s, Ev (fun k => impl_byDay.l0 k (idx i) L (L.length : Int) (i : Int) L) (s, false)) := by
    intro d
    induction d with
    | zero =>
      intro i hi hok
      have e : i = L.length := by omega
      subst e
      refine ⟨fun _ => ?_, fun h => absurd ⟨by omega, fun x hx => ?_⟩ h⟩
      · refine Ev.step (fun k => by rw [impl_byDay.l0]) ?_
        refine ev_neg (by omega) (Ev.bind (impl_sortBy_int_ev _ (fun a b => decide (dayAt L a < dayAt L b)) (idx L.length) (by rw [idx_length]; omega) ?_) (Ev.now _))
        intro a ha b hb
        obtain ⟨p, rfl, hp⟩ := idx_mem.1 ha
        obtain ⟨q, rfl, hq⟩ := idx_mem.1 hb
        show impl_byDay_1.f (p : Int) (q : Int) L = _
        unfold impl_byDay_1.f
        rw [if_pos (by omega), if_pos (by omega), if_pos (by omega), if_pos (by omega)]
        rfl
      · obtain ⟨j, hj, rfl⟩ := List.getElem_of_mem hx
        exact hok j hj hj
    | succ d ih =>
      intro i hi hok
      have hlt : i < L.length := by omega
      have hrd : rd_T27 L (i : Int) = L[i] := getD_at hlt _
      by_cases c0 : (0 ≤ L[i].f0 ∧ L[i].f0 ≤ 40000) ∧ (1 ≤ L[i].f1 ∧ L[i].f1 ≤ 100000000000)
      · have ih' := ih (i + 1) (by omega) (fun j hj h => by
          rcases Nat.lt_or_ge j i with h1 | h1
          · exact hok j hj h1
          · have : j = i := by omega
            subst this
            exact c0)
        have go : ∀ r, Ev (fun k => impl_byDay.l0 k (idx (i + 1)) L (L.length : Int) ((i + 1 : Nat) : Int) L) r → Ev (fun k => impl_byDay.l0 k (idx i) L (L.length : Int) (i : Int) L) r := by
          intro r hr
          refine Ev.step (fun k => by rw [impl_byDay.l0]) ?_
          simp only [hrd]
          refine ev_pos (by omega) (ev_pos (by omega) (ev_pos (by omega) (ev_bind0 (impl_open_eq _) (ev_pos (decide_eq_true c0) (ev_pos (by rw [idx_length]; omega) ?_)))))
          rw [wrap_succ hlt (by omega), ← idx_succ]
          exact hr
        exact ⟨fun h => go _ (ih'.1 h), fun h => by obtain ⟨s, hs⟩ := ih'.2 h; exact ⟨s, go _ hs⟩⟩
      · refine ⟨fun h => absurd (h.2 _ (List.getElem_mem hlt)) c0, fun _ => ⟨[], ?_⟩⟩
        refine Ev.step (fun k => by rw [impl_byDay.l0]) ?_
        simp only [hrd]
        exact ev_pos (by omega) (ev_pos (by omega) (ev_pos (by omega) (ev_bind0 (impl_open_eq _) (ev_neg (by rw [decide_eq_true_eq]; exact c0) (Ev.now _)))))
  have := key L.length 0 (by omega) (fun j _ h => absurd h (by omega))
  exact ⟨fun h => ev_neg c (this.1 h), fun h => by obtain ⟨s, hs⟩ := this.2 h; exact ⟨s, ev_neg c hs⟩⟩
/-- Which place comes ahead. -/
def Fore (L : List S27) (a b : Int) : Prop := dayAt L a < dayAt L b ∨ (dayAt L a = dayAt L b ∧ a < b)
theorem srt_perm (L : List S27) : (srt L).Perm (idx L.length) := XSort.sort_perm _
theorem srt_fore (L : List S27) : (srt L).Pairwise (Fore L) :=
  XSort.sort_by_key (dayAt L) (· < ·) (fun a b c h1 h2 => by omega) _ (idx_lt _) _ (fun a _ b _ => by rw [decide_eq_true_eq])
theorem srt_length (L : List S27) : (srt L).length = L.length := by rw [(srt_perm L).length_eq, idx_length]
theorem srt_at (L : List S27) {t : Nat} (h : t < (srt L).length) : ∃ q : Nat, (srt L)[t] = (q : Int) ∧ q < L.length := idx_mem.1 ((srt_perm L).mem_iff.1 (List.getElem_mem h))
theorem srt_get (L : List S27) {q : Nat} (h : q < L.length) : ∃ (t : Nat) (ht : t < (srt L).length), (srt L)[t] = (q : Int) := by
  have := (srt_perm L).mem_iff.2 (idx_mem.2 ⟨q, rfl, h⟩)
  obtain ⟨t, ht, e⟩ := List.getElem_of_mem this
  exact ⟨t, ht, e⟩
theorem srt_ahead (L : List S27) {t t' : Nat} (h : t < t') (h' : t' < (srt L).length) : Fore L ((srt L)[t]'(by omega)) (srt L)[t'] := List.pairwise_iff_getElem.1 (srt_fore L) t t' (by omega) h' h
theorem srt_inj (L : List S27) {t t' : Nat} (h : t < (srt L).length) (h' : t' < (srt L).length) (e : (srt L)[t] = (srt L)[t']) : t = t' := by
  rcases Nat.lt_trichotomy t t' with h1 | h1 | h1
  · have := srt_ahead L h1 h'
    rw [e] at this
    unfold Fore at this
    omega
  · exact h1
  · have := srt_ahead L h1 h
    rw [e] at this
    unfold Fore at this
    omega
/-- What is left of each item: the first i are used up, of the next one u is. -/
structure Rel (L : List S27) (i : Nat) (u : Int) (A : List Int) : Prop where
  len : A.length = L.length
  le : i ≤ (srt L).length
  u0 : 0 ≤ u
  gone : ∀ t (h : t < (srt L).length), t < i → rd A (srt L)[t] = 0
  cur : ∀ (h : i < (srt L).length), rd A (srt L)[i] = amtAt L (srt L)[i] - u ∧ u < amtAt L (srt L)[i]
  later : ∀ t (h : t < (srt L).length), i < t → rd A (srt L)[t] = amtAt L (srt L)[t]
theorem amt_pos {L : List S27} (hL : OpenIs L) {q : Nat} (h : q < L.length) : 1 ≤ amtAt L (q : Int) ∧ amtAt L (q : Int) ≤ 100000000000 := by
  have hrd : rd_T27 L (q : Int) = L[q] := getD_at h _
  unfold amtAt
  rw [hrd]
  exact (hL.2 _ (List.getElem_mem h)).2
theorem Rel.next {L : List S27} (hL : OpenIs L) {i : Nat} {u : Int} {A : List Int} (h : Rel L i u A) (hi : i < (srt L).length) : Rel L (i + 1) 0 (A.set ((srt L)[i]).toNat 0) := by
  obtain ⟨q, hq, hql⟩ := srt_at L hi
  have e : ((srt L)[i]).toNat = q := by rw [hq]; rfl
  rw [e]
  have hqa : q < A.length := by rw [h.len]; exact hql
  have at_ : ∀ t (ht : t < (srt L).length), rd (A.set q 0) (srt L)[t] = if t = i then 0 else rd A (srt L)[t] := by
    intro t ht
    obtain ⟨q', hq', _⟩ := srt_at L ht
    rw [hq', rd_set hqa]
    by_cases c : q' = q
    · have : t = i := srt_inj L ht hi (by rw [hq', hq, c])
      rw [if_pos c, if_pos this]
    · rw [if_neg c, if_neg]
      intro e2
      subst e2
      rw [hq] at hq'
      omega
  refine ⟨by rw [List.length_set]; exact h.len, hi, Int.le_refl _, fun t ht hlt => ?_, fun ht => ?_, fun t ht hlt => ?_⟩
  · rw [at_ t ht]
    by_cases c : t = i
    · rw [if_pos c]
    · rw [if_neg c]
      exact h.gone t ht (by omega)
  · rw [at_ _ ht, if_neg (by omega), h.later _ ht (by omega)]
    obtain ⟨q', hq', hl'⟩ := srt_at L ht
    rw [hq']
    have := amt_pos hL hl'
    omega
  · rw [at_ t ht, if_neg (by omega)]
    exact h.later t ht (by omega)
theorem Rel.some_ {L : List S27} {i : Nat} {u x v : Int} {A : List Int} (h : Rel L i u A) (hi : i < (srt L).length) (hx : 0 ≤ x) (hv : v = rd A (srt L)[i] - x) (h0 : 0 < v) : Rel L i (u + x) (A.set ((srt L)[i]).toNat v) := by
  obtain ⟨q, hq, hql⟩ := srt_at L hi
  have e : ((srt L)[i]).toNat = q := by rw [hq]; rfl
  rw [e]
  have hqa : q < A.length := by rw [h.len]; exact hql
  have at_ : ∀ t (ht : t < (srt L).length), rd (A.set q v) (srt L)[t] = if t = i then v else rd A (srt L)[t] := by
    intro t ht
    obtain ⟨q', hq', _⟩ := srt_at L ht
    rw [hq', rd_set hqa]
    by_cases c : q' = q
    · have : t = i := srt_inj L ht hi (by rw [hq', hq, c])
      rw [if_pos c, if_pos this]
    · rw [if_neg c, if_neg]
      intro e2
      subst e2
      rw [hq] at hq'
      omega
  have hc := h.cur hi
  have hu := h.u0
  refine ⟨by rw [List.length_set]; exact h.len, h.le, by omega, fun t ht hlt => ?_, fun ht => ?_, fun t ht hlt => ?_⟩
  · rw [at_ t ht, if_neg (by omega)]
    exact h.gone t ht hlt
  · rw [at_ _ ht, if_pos rfl]
    omega
  · rw [at_ t ht, if_neg (by omega)]
    exact h.later t ht hlt
theorem amounts_ev (L : List S27) (hL : OpenIs L) : ∃ A, Ev (fun k => spec_l13Amounts.f k L) A ∧ Rel L 0 0 A ∧ A = L.map (fun x : S27 => x.f1) := by
  have h100 := hL.1
  have key : ∀ (d i : Nat), i + d = L.length → Ev (fun k => spec_l13Amounts.l0 k L ((L.take i).map (fun x : S27 => x.f1)) (i : Int)) (L.map (fun x : S27 => x.f1)) := by
    intro d
    induction d with
    | zero =>
      intro i hi
      have e : i = L.length := by omega
      subst e
      refine Ev.step (fun k => by rw [spec_l13Amounts.l0]) ?_
      rw [List.take_length]
      exact ev_neg (by omega) (Ev.now _)
    | succ d ih =>
      intro i hi
      have hlt : i < L.length := by omega
      have hrd : rd_T27 L (i : Int) = L[i] := getD_at hlt _
      refine Ev.step (fun k => by rw [spec_l13Amounts.l0]) ?_
      refine ev_pos (by omega) (ev_pos (by omega) (ev_pos (by rw [List.length_map, List.length_take]; omega) ?_))
      rw [wrap_succ hlt (by omega), hrd]
      have := ih (i + 1) (by omega)
      rw [List.take_add_one, List.getElem?_eq_getElem hlt, List.map_append] at this
      exact this
  refine ⟨L.map (fun x : S27 => x.f1), by unfold spec_l13Amounts.f; exact key L.length 0 (by omega), ⟨by rw [List.length_map], Nat.zero_le _, Int.le_refl _, fun t _ h => absurd h (by omega), fun h => ?_, fun t ht _ => ?_⟩, rfl⟩
  · obtain ⟨q, hq, hql⟩ := srt_at L h
    have hrd : rd_T27 L (q : Int) = L[q] := getD_at hql _
    have := amt_pos hL hql
    rw [hq]
    have e : rd (L.map (fun x : S27 => x.f1)) (q : Int) = amtAt L (q : Int) := by
      unfold amtAt
      rw [rd_at (by rw [List.length_map]; exact hql), List.getElem_map, hrd]
    rw [e]
    omega
  · obtain ⟨q, hq, hql⟩ := srt_at L ht
    have hrd : rd_T27 L (q : Int) = L[q] := getD_at hql _
    rw [hq]
    unfold amtAt
    rw [rd_at (by rw [List.length_map]; exact hql), List.getElem_map, hrd]
theorem next_ev (L : List S27) (hL : OpenIs L) {i : Nat} {u : Int} {A : List Int} (h : Rel L i u A) : Ev (fun k => spec_l13Next.f k L A) (if hi : i < (srt L).length then (srt L)[i] else -1) := by
  have h100 := hL.1
  have hlen := h.len
  have key : ∀ (d m : Nat) (b : Int), m + d = L.length → ((b = -1 ∧ ∀ j : Nat, j < m → rd A (j : Int) ≤ 0) ∨ (∃ q : Nat, b = (q : Int) ∧ q < m ∧ 0 < rd A (q : Int) ∧ ∀ j : Nat, j < m → 0 < rd A (j : Int) → j = q ∨ Fore L (q : Int) (j : Int))) →
      ∃ r, Ev (fun k => spec_l13Next.l0 k L A b (m : Int)) r ∧ ((r = -1 ∧ ∀ j : Nat, j < L.length → rd A (j : Int) ≤ 0) ∨ (∃ q : Nat, r = (q : Int) ∧ q < L.length ∧ 0 < rd A (q : Int) ∧ ∀ j : Nat, j < L.length → 0 < rd A (j : Int) → j = q ∨ Fore L (q : Int) (j : Int))) := by
    intro d
    induction d with
    | zero =>
      intro m b hm hb
      have e : m = L.length := by omega
      subst e
      refine ⟨b, ?_, hb⟩
      refine Ev.step (fun k => by rw [spec_l13Next.l0]) ?_
      exact ev_neg (by omega) (Ev.now _)
    | succ d ih =>
      intro m b hm hb
      have hlt : m < L.length := by omega
      have hw : wrap64 ((m : Int) + 1) = ((m + 1 : Nat) : Int) := wrap_succ hlt (by omega)
      by_cases c0 : 0 < rd A (m : Int)
      · rcases hb with ⟨rfl, hb⟩ | ⟨q, rfl, hq, hq0, hb⟩
        · obtain ⟨r, hr, hp⟩ := ih (m + 1) (m : Int) (by omega) (.inr ⟨m, rfl, by omega, c0, fun j hj hj0 => by
            rcases Nat.lt_or_ge j m with h1 | h1
            · exact absurd hj0 (by have := hb j h1; omega)
            · exact .inl (by omega)⟩)
          refine ⟨r, ?_, hp⟩
          refine Ev.step (fun k => by rw [spec_l13Next.l0]) ?_
          refine ev_pos (by omega) (ev_pos (by omega) (ev_pos (by omega) (ev_pos c0 (ev_pos (by decide) ?_))))
          rw [hw]
          exact hr
        · by_cases c1 : dayAt L (m : Int) < dayAt L (q : Int)
          · obtain ⟨r, hr, hp⟩ := ih (m + 1) (m : Int) (by omega) (.inr ⟨m, rfl, by omega, c0, fun j hj hj0 => by
              rcases Nat.lt_or_ge j m with h1 | h1
              · refine .inr (.inl ?_)
                rcases hb j h1 hj0 with h2 | h2
                · rw [h2]; exact c1
                · unfold Fore at h2
                  omega
              · exact .inl (by omega)⟩)
            refine ⟨r, ?_, hp⟩
            refine Ev.step (fun k => by rw [spec_l13Next.l0]) ?_
            refine ev_pos (by omega) (ev_pos (by omega) (ev_pos (by omega) (ev_pos c0 (ev_neg (by omega) (ev_pos (by omega) (ev_pos (by omega) (ev_pos c1 ?_)))))))
            rw [hw]
            exact hr
          · obtain ⟨r, hr, hp⟩ := ih (m + 1) (q : Int) (by omega) (.inr ⟨q, rfl, by omega, hq0, fun j hj hj0 => by
              rcases Nat.lt_or_ge j m with h1 | h1
              · exact hb j h1 hj0
              · have e : j = m := by omega
                subst e
                refine .inr ?_
                unfold Fore
                omega⟩)
            refine ⟨r, ?_, hp⟩
            refine Ev.step (fun k => by rw [spec_l13Next.l0]) ?_
            refine ev_pos (by omega) (ev_pos (by omega) (ev_pos (by omega) (ev_pos c0 (ev_neg (by omega) (ev_pos (by omega) (ev_pos (by omega) (ev_neg c1 ?_)))))))
            rw [hw]
            exact hr
      · obtain ⟨r, hr, hp⟩ := ih (m + 1) b (by omega) (by
          rcases hb with ⟨rfl, hb⟩ | ⟨q, rfl, hq, hq0, hb⟩
          · refine .inl ⟨rfl, fun j hj => ?_⟩
            rcases Nat.lt_or_ge j m with h1 | h1
            · exact hb j h1
            · have : j = m := by omega
              subst this
              omega
          · refine .inr ⟨q, rfl, by omega, hq0, fun j hj hj0 => ?_⟩
            rcases Nat.lt_or_ge j m with h1 | h1
            · exact hb j h1 hj0
            · have : j = m := by omega
              subst this
              exact absurd hj0 c0)
        refine ⟨r, ?_, hp⟩
        refine Ev.step (fun k => by rw [spec_l13Next.l0]) ?_
        refine ev_pos (by omega) (ev_pos (by omega) (ev_pos (by omega) (ev_neg c0 ?_)))
        rw [hw]
        exact hr
  obtain ⟨r, hr, hp⟩ := key L.length 0 (-1) (by omega) (.inl ⟨rfl, fun j hj => absurd hj (by omega)⟩)
  have e : r = if hi : i < (srt L).length then (srt L)[i] else -1 := by
    by_cases hi : i < (srt L).length
    · rw [dif_pos hi]
      obtain ⟨p, hp1, hp2⟩ := srt_at L hi
      have hc := h.cur hi
      rcases hp with ⟨_, hp⟩ | ⟨q, rfl, hq, hq0, hp⟩
      · have := hp p hp2
        rw [← hp1] at this
        omega
      · obtain ⟨t, ht, et⟩ := srt_get L hq
        rcases Nat.lt_trichotomy t i with h1 | h1 | h1
        · have := h.gone t ht h1
          rw [et] at this
          omega
        · subst h1
          exact et.symm
        · have h3 := srt_ahead L h1 ht
          rw [et, hp1] at h3
          have h4 := hp p hp2 (by rw [← hp1]; omega)
          rcases h4 with h4 | h4
          · subst h4
            unfold Fore at h3
            omega
          · unfold Fore at h3 h4
            omega
    · rw [dif_neg hi]
      rcases hp with ⟨e, _⟩ | ⟨q, rfl, hq, hq0, hp⟩
      · exact e
      · obtain ⟨t, ht, et⟩ := srt_get L hq
        have := h.gone t ht (by have := h.le; omega)
        rw [et] at this
        omega
  rw [← e]
  exact hr
theorem settle_impl (L R : List S27) (out : List S30) {i j p q : Nat} {u v a b n : Int} {res : List S30} (ho : out.length ≤ 200) (ci : i < (srt L).length) (cj : j < (srt R).length) (rL : rd (srt L) (i : Int) = (p : Int)) (rR : rd (srt R) (j : Int) = (q : Int)) (hpl : p < L.length) (hql : q < R.length)
    (w1 : wrap64 ((i : Int) + 1) = ((i + 1 : Nat) : Int)) (w2 : wrap64 ((j : Int) + 1) = ((j + 1 : Nat) : Int)) (wA : wrap64 ((rd_T27 L (p : Int)).f1 - u) = a) (wB : wrap64 ((rd_T27 R (q : Int)).f1 - v) = b) (hn : (b < a ∧ n = b) ∨ (¬ b < a ∧ n = a))
    (he : Ev (fun k => if n = a then (if n = b then impl_Settle.l0 k L R (srt L) (srt R) (out ++ [(⟨(p : Int), (q : Int), n⟩ : S30)]) ((i + 1 : Nat) : Int) ((j + 1 : Nat) : Int) 0 0 else impl_Settle.l0 k L R (srt L) (srt R) (out ++ [(⟨(p : Int), (q : Int), n⟩ : S30)]) ((i + 1 : Nat) : Int) (j : Int) 0 (wrap64 (v + n))) else (if n = b then impl_Settle.l0 k L R (srt L) (srt R) (out ++ [(⟨(p : Int), (q : Int), n⟩ : S30)]) (i : Int) ((j + 1 : Nat) : Int) (wrap64 (u + n)) 0 else impl_Settle.l0 k L R (srt L) (srt R) (out ++ [(⟨(p : Int), (q : Int), n⟩ : S30)]) (i : Int) (j : Int) (wrap64 (u + n)) (wrap64 (v + n)))) res) :
    Ev (fun k => impl_Settle.l0 k L R (srt L) (srt R) out (i : Int) (j : Int) u v) res := by
  have g0 : (0 : Int) ≤ (i : Int) := Int.natCast_nonneg _
  have g1 : (i : Int) < ((srt L).length : Int) := Int.ofNat_lt.2 ci
  have g2 : (0 : Int) ≤ (j : Int) := Int.natCast_nonneg _
  have g3 : (j : Int) < ((srt R).length : Int) := Int.ofNat_lt.2 cj
  have g4 : out.length < 5864062014805 := Nat.lt_of_le_of_lt ho (by decide)
  have g5 : (0 : Int) ≤ (p : Int) := Int.natCast_nonneg _
  have g6 : (p : Int) < (L.length : Int) := Int.ofNat_lt.2 hpl
  have g7 : (0 : Int) ≤ (q : Int) := Int.natCast_nonneg _
  have g8 : (q : Int) < (R.length : Int) := Int.ofNat_lt.2 hql
  have j3 : Ev (fun k => impl_Settle.j3 k L R (srt L) (srt R) out (i : Int) (j : Int) u v a b n) res := by
    refine Ev.step (fun k => by rw [impl_Settle.j3]) ?_
    refine ev_pos g0 (ev_pos g1 (ev_pos g2 (ev_pos g3 (ev_pos g4 (ev_bind0 rfl ?_)))))
    rw [rL, rR, w1, w2]
    exact he
  refine Ev.step (fun k => by rw [impl_Settle.l0]) ?_
  refine ev_pos g1 ?_
  rw [decide_eq_true g3]
  refine Ev.step (fun k => by rw [impl_Settle.j2]) ?_
  rw [rL, rR, wA, wB]
  refine ev_pos rfl (ev_pos g0 (ev_pos g1 (ev_pos g5 (ev_pos g6 (ev_pos g2 (ev_pos g3 (ev_pos g7 (ev_pos g8 ?_))))))))
  rcases hn with ⟨c, rfl⟩ | ⟨c, rfl⟩
  · exact ev_pos c j3
  · exact ev_neg c j3
theorem settle_spec (L R : List S27) (out : List S30) {p q : Nat} {A B : List Int} {res : List S30} (ho : out.length ≤ 200) (hA : p < A.length) (hB : q < B.length) (n1 : Ev (fun k => spec_l13Next.f k L A) (p : Int)) (n2 : Ev (fun k => spec_l13Next.f k R B) (q : Int))
    (he : (rd B (q : Int) < rd A (p : Int) ∧ Ev (fun k => spec_Settle.l0 k L R (out ++ [(⟨(p : Int), (q : Int), rd B (q : Int)⟩ : S30)]) (A.set p (wrap64 (rd A (p : Int) - rd B (q : Int)))) (B.set q 0)) res) ∨ (¬ rd B (q : Int) < rd A (p : Int) ∧ Ev (fun k => spec_Settle.l0 k L R (out ++ [(⟨(p : Int), (q : Int), rd A (p : Int)⟩ : S30)]) (A.set p 0) (B.set q (wrap64 (rd B (q : Int) - rd A (p : Int))))) res)) :
    Ev (fun k => spec_Settle.l0 k L R out A B) res := by
  have g4 : out.length < 5864062014805 := Nat.lt_of_le_of_lt ho (by decide)
  have g5 : (0 : Int) ≤ (p : Int) := Int.natCast_nonneg _
  have g6 : (p : Int) < (A.length : Int) := Int.ofNat_lt.2 hA
  have g7 : (0 : Int) ≤ (q : Int) := Int.natCast_nonneg _
  have g8 : (q : Int) < (B.length : Int) := Int.ofNat_lt.2 hB
  refine Ev.step (fun k => by rw [spec_Settle.l0]) ?_
  refine Ev.bind n1 (Ev.bind n2 (ev_neg (Int.not_lt.2 g5) ?_))
  rw [decide_eq_false (Int.not_lt.2 g7)]
  refine Ev.step (fun k => by rw [spec_Settle.j2]) ?_
  refine ev_neg (by decide) (ev_pos g5 (ev_pos g6 (ev_pos g7 (ev_pos g8 ?_))))
  rcases he with ⟨c, he⟩ | ⟨c, he⟩
  · exact ev_pos c (ev_pos g4 he)
  · exact ev_neg c (ev_pos g4 he)
/-- The payments out of a state, as they are retraced. -/
def Pays (L R : List S27) : List S30 → Nat → Nat → List Int → List Int → Prop
  | [], i, j, A, B => (A.sum = 0 ∨ B.sum = 0) ∧ (∀ x ∈ A, -100000000000 ≤ x ∧ x ≤ 100000000000) ∧ (∀ x ∈ B, -100000000000 ≤ x ∧ x ≤ 100000000000)
  | x :: t, i, j, A, B => ∃ (p q i' j' : Nat) (a b n : Int), x = (⟨(p : Int), (q : Int), n⟩ : S30) ∧ (i < (srt L).length ∧ j < (srt R).length ∧ rd (srt L) (i : Int) = (p : Int) ∧ rd (srt R) (j : Int) = (q : Int) ∧ p < L.length ∧ q < R.length) ∧ (a = rd A (p : Int) ∧ b = rd B (q : Int) ∧ 0 < a ∧ a ≤ 100000000000 ∧ 0 < b ∧ b ≤ 100000000000) ∧ (0 < n ∧ n ≤ a ∧ n ≤ b ∧ i ≤ i' ∧ j ≤ j') ∧ Pays L R t i' j' (A.set p (a - n)) (B.set q (b - n))
theorem sum_zero : ∀ {A : List Int}, (∀ x ∈ A, x = 0) → A.sum = 0 := by
  intro A
  induction A with
  | nil => intro _; rfl
  | cons a A ih =>
    intro h
    rw [List.sum_cons, ih (fun x hx => h x (List.mem_cons_of_mem _ hx)), h a (List.mem_cons_self ..)]
    rfl
theorem Rel.at_ {L : List S27} {i : Nat} {u : Int} {A : List Int} (h : Rel L i u A) {x : Int} (hx : x ∈ A) : ∃ (t : Nat) (ht : t < (srt L).length), x = rd A (srt L)[t] := by
  obtain ⟨q, hq, rfl⟩ := List.getElem_of_mem hx
  obtain ⟨t, ht, e⟩ := srt_get L (q := q) (by rw [← h.len]; exact hq)
  exact ⟨t, ht, by rw [e, rd_at hq]⟩
theorem Rel.done {L : List S27} {i : Nat} {u : Int} {A : List Int} (h : Rel L i u A) (hi : ¬ i < (srt L).length) : A.sum = 0 := by
  refine sum_zero (fun x hx => ?_)
  obtain ⟨t, ht, rfl⟩ := h.at_ hx
  exact h.gone t ht (by omega)
theorem Rel.bound {L : List S27} (hL : OpenIs L) {i : Nat} {u : Int} {A : List Int} (h : Rel L i u A) : ∀ x ∈ A, -100000000000 ≤ x ∧ x ≤ 100000000000 := by
  intro x hx
  obtain ⟨t, ht, rfl⟩ := h.at_ hx
  obtain ⟨q, hq, hql⟩ := srt_at L ht
  have hp := amt_pos hL hql
  rw [← hq] at hp
  rcases Nat.lt_trichotomy t i with c | c | c
  · rw [h.gone t ht c]; omega
  · subst c
    have := h.cur ht
    have := h.u0
    omega
  · rw [h.later t ht c]; omega
theorem settle_loop (L R : List S27) (hL : OpenIs L) (hR : OpenIs R) : ∀ (d i j : Nat) (u v : Int) (A B : List Int) (out : List S30), ((srt L).length - i) + ((srt R).length - j) = d → out.length + d ≤ 200 → Rel L i u A → Rel R j v B →
    ∃ res, Ev (fun k => impl_Settle.l0 k L R (srt L) (srt R) out (i : Int) (j : Int) u v) res ∧ Ev (fun k => spec_Settle.l0 k L R out A B) res ∧ res.length ≤ 200 ∧ ∃ t, res = out ++ t ∧ Pays L R t i j A B := by
  intro d
  induction d using Nat.strongRecOn with
  | _ d ih =>
  intro i j u v A B out hd ho hA hB
  have hLl := srt_length L
  have hRl := srt_length R
  have hL1 := hL.1
  have hR1 := hR.1
  have n1 := next_ev L hL hA
  have n2 := next_ev R hR hB
  by_cases ci : i < (srt L).length
  case neg =>
    rw [dif_neg ci] at n1
    refine ⟨out, ?_, ?_, by omega, [], (List.append_nil _).symm, .inl (hA.done ci), hA.bound hL, hB.bound hR⟩
    · refine Ev.step (fun k => by rw [impl_Settle.l0]) ?_
      refine ev_neg (by omega) ?_
      refine Ev.step (fun k => by rw [impl_Settle.j2]) ?_
      exact ev_neg (by decide) (Ev.now _)
    · refine Ev.step (fun k => by rw [spec_Settle.l0]) ?_
      refine Ev.bind n1 (Ev.bind n2 (ev_pos (by decide) ?_))
      refine Ev.step (fun k => by rw [spec_Settle.j2]) ?_
      exact ev_pos rfl (Ev.now _)
  by_cases cj : j < (srt R).length
  case neg =>
    rw [dif_neg cj] at n2
    rw [dif_pos ci] at n1
    obtain ⟨p, hp, hpl⟩ := srt_at L ci
    refine ⟨out, ?_, ?_, by omega, [], (List.append_nil _).symm, .inr (hB.done cj), hA.bound hL, hB.bound hR⟩
    · refine Ev.step (fun k => by rw [impl_Settle.l0]) ?_
      refine ev_pos (by omega) ?_
      rw [decide_eq_false (by omega)]
      refine Ev.step (fun k => by rw [impl_Settle.j2]) ?_
      exact ev_neg (by decide) (Ev.now _)
    · refine Ev.step (fun k => by rw [spec_Settle.l0]) ?_
      refine Ev.bind n1 (Ev.bind n2 (ev_neg (by rw [hp]; omega) ?_))
      refine Ev.step (fun k => by rw [spec_Settle.j2]) ?_
      exact ev_pos rfl (Ev.now _)
  rw [dif_pos ci] at n1
  rw [dif_pos cj] at n2
  obtain ⟨p, hp, hpl⟩ := srt_at L ci
  obtain ⟨q, hq, hql⟩ := srt_at R cj
  have hcA := hA.cur ci
  have hcB := hB.cur cj
  have hu0 := hA.u0
  have hv0 := hB.u0
  have hap := amt_pos hL hpl
  have hbq := amt_pos hR hql
  have nA := hA.next hL ci
  have nB := hB.next hR cj
  have sA := fun (x w : Int) => hA.some_ (x := x) (v := w) ci
  have sB := fun (x w : Int) => hB.some_ (x := x) (v := w) cj
  have rL : rd (srt L) (i : Int) = (p : Int) := by rw [rd_at ci, hp]
  have rR : rd (srt R) (j : Int) = (q : Int) := by rw [rd_at cj, hq]
  rw [hp] at n1 hcA
  rw [hq] at n2 hcB
  simp only [hp, Int.toNat_natCast] at nA sA
  simp only [hq, Int.toNat_natCast] at nB sB
  obtain ⟨a, ha⟩ : ∃ a, a = rd A (p : Int) := ⟨_, rfl⟩
  obtain ⟨b, hb⟩ : ∃ b, b = rd B (q : Int) := ⟨_, rfl⟩
  have ho2 : out.length ≤ 200 := by omega
  have hpA : p < A.length := by rw [hA.len]; exact hpl
  have hqB : q < B.length := by rw [hB.len]; exact hql
  have goI := @settle_impl L R out i j p q u v a b
  have goS := @settle_spec L R out p q A B
  rw [← ha] at hcA sA
  rw [← hb] at hcB sB
  rw [← ha, ← hb] at goS
  have a1 : 0 < a ∧ a ≤ 100000000000 ∧ u + a = amtAt L (p : Int) := by omega
  have b1 : 0 < b ∧ b ≤ 100000000000 ∧ v + b = amtAt R (q : Int) := by omega
  have wA : wrap64 ((rd_T27 L (p : Int)).f1 - u) = a := by
    have e : (rd_T27 L (p : Int)).f1 - u = a := by have := a1.2.2; unfold amtAt at this; omega
    rw [e]
    exact wrap_id (by omega) (by omega)
  have wB : wrap64 ((rd_T27 R (q : Int)).f1 - v) = b := by
    have e : (rd_T27 R (q : Int)).f1 - v = b := by have := b1.2.2; unfold amtAt at this; omega
    rw [e]
    exact wrap_id (by omega) (by omega)
  have w1 : wrap64 ((i : Int) + 1) = ((i + 1 : Nat) : Int) := wrap_succ ci (by omega)
  have w2 : wrap64 ((j : Int) + 1) = ((j + 1 : Nat) : Int) := wrap_succ cj (by omega)
  have goI2 := fun (n : Int) (res : List S30) => @goI n res ho2 ci cj rL rR hpl hql w1 w2 wA wB
  have goS2 := fun (res : List S30) => @goS res ho2 hpA hqB n1 n2
  have hu2 : u ≤ 100000000000 ∧ v ≤ 100000000000 := by omega
  have goP : ∀ (n : Int) (i' j' : Nat) (t : List S30), 0 < n → n ≤ a → n ≤ b → i ≤ i' → j ≤ j' → Pays L R t i' j' (A.set p (a - n)) (B.set q (b - n)) → Pays L R ((⟨(p : Int), (q : Int), n⟩ : S30) :: t) i j A B := fun n i' j' t h0 h1 h2 h3 h4 h => ⟨p, q, i', j', a, b, n, rfl, ⟨ci, cj, rL, rR, hpl, hql⟩, ⟨ha, hb, a1.1, a1.2.1, b1.1, b1.2.1⟩, ⟨h0, h1, h2, h3, h4⟩, h⟩
  clear goI goS w1 w2 wA wB n1 n2 rL rR ha hb hcA hcB hp hq hA hB hL1 hR1 hap hbq
  have la : ∀ n : Int, (out ++ [(⟨(p : Int), (q : Int), n⟩ : S30)]).length = out.length + 1 := fun n => by rw [List.length_append, List.length_singleton]
  by_cases c : b < a
  · have wab : wrap64 (a - b) = a - b := wrap_id (by omega) (by omega)
    have wub : wrap64 (u + b) = u + b := wrap_id (by omega) (by omega)
    obtain ⟨res, h1, h2, h3, t, ht, h4⟩ := ih (((srt L).length - i) + ((srt R).length - (j + 1))) (by omega) i (j + 1) (u + b) 0 _ _ (out ++ [(⟨(p : Int), (q : Int), b⟩ : S30)]) rfl (by rw [la]; omega) (sA b (a - b) (by omega) rfl (by omega)) nB
    refine ⟨res, goI2 b res (.inl ⟨c, rfl⟩) ?_, goS2 res (.inl ⟨c, ?_⟩), h3, _, (by rw [ht, List.append_assoc]; rfl), goP b i (j + 1) t b1.1 (by omega) (Int.le_refl _) (Nat.le_refl _) (Nat.le_succ _) (by rw [Int.sub_self]; exact h4)⟩
    · refine ev_neg (by omega) (ev_pos rfl ?_)
      rw [wub]
      exact h1
    · rw [wab]
      exact h2
  · have wba : wrap64 (b - a) = b - a := wrap_id (by omega) (by omega)
    have wva : wrap64 (v + a) = v + a := wrap_id (by omega) (by omega)
    by_cases c2 : a = b
    · obtain ⟨res, h1, h2, h3, t, ht, h4⟩ := ih (((srt L).length - (i + 1)) + ((srt R).length - (j + 1))) (by omega) (i + 1) (j + 1) 0 0 _ _ (out ++ [(⟨(p : Int), (q : Int), a⟩ : S30)]) rfl (by rw [la]; omega) nA nB
      refine ⟨res, goI2 a res (.inr ⟨c, rfl⟩) (ev_pos rfl (ev_pos c2 h1)), goS2 res (.inr ⟨c, ?_⟩), h3, _, (by rw [ht, List.append_assoc]; rfl), goP a (i + 1) (j + 1) t a1.1 (Int.le_refl _) (by omega) (Nat.le_succ _) (Nat.le_succ _) (by rw [show b - a = 0 from by omega, Int.sub_self]; exact h4)⟩
      rw [wba, c2, Int.sub_self]
      rw [c2] at h2
      exact h2
    · obtain ⟨res, h1, h2, h3, t, ht, h4⟩ := ih (((srt L).length - (i + 1)) + ((srt R).length - j)) (by omega) (i + 1) j 0 (v + a) _ _ (out ++ [(⟨(p : Int), (q : Int), a⟩ : S30)]) rfl (by rw [la]; omega) nA (sB a (b - a) (by omega) rfl (by omega))
      refine ⟨res, goI2 a res (.inr ⟨c, rfl⟩) ?_, goS2 res (.inr ⟨c, ?_⟩), h3, _, (by rw [ht, List.append_assoc]; rfl), goP a (i + 1) j t a1.1 (Int.le_refl _) (by omega) (Nat.le_succ _) (Nat.le_refl _) (by rw [Int.sub_self]; exact h4)⟩
      · refine ev_pos rfl (ev_neg c2 ?_)
        rw [wva]
        exact h1
      · rw [wba]
        exact h2
theorem settle_ev (L R : List S27) (hL : (L.length : Int) ≤ 1048576) (hR : (R.length : Int) ≤ 1048576) : ∃ res, Ev (fun k => impl_Settle.f k L R) res ∧ Ev (fun k => spec_Settle.f k L R) res ∧ res.length ≤ 200 ∧ (res = [] ∨ (OpenIs L ∧ OpenIs R ∧ Pays L R res 0 0 (L.map (fun x : S27 => x.f1)) (R.map (fun x : S27 => x.f1)))) := by
  obtain ⟨b1, e1, p1⟩ := spec_open_ev L hL
  obtain ⟨b2, e2, p2⟩ := spec_open_ev R hR
  obtain ⟨g1, g1'⟩ := byDay_ev L hL
  obtain ⟨g2, g2'⟩ := byDay_ev R hR
  unfold impl_Settle.f spec_Settle.f
  by_cases c1 : OpenIs L
  · have c1' := p1.2 c1
    by_cases c2 : OpenIs R
    · have c2' := p2.2 c2
      obtain ⟨A, f1, r1, eA⟩ := amounts_ev L c1
      obtain ⟨B, f2, r2, eB⟩ := amounts_ev R c2
      have l1 := srt_length L
      have l2 := srt_length R
      have := c1.1
      have := c2.1
      obtain ⟨res, h1, h2, h3, t, ht, h4⟩ := settle_loop L R c1 c2 _ 0 0 0 0 A B [] rfl (by simp; omega) r1 r2
      rw [List.nil_append] at ht
      subst ht eA eB
      refine ⟨res, ?_, ?_, h3, .inr ⟨c1, c2, h4⟩⟩
      · refine Ev.bind (g1 c1) (Ev.bind (g2 c2) (ev_pos rfl ?_))
        refine Ev.step (fun k => by rw [impl_Settle.j0]) ?_
        exact ev_neg (by simp) h1
      · refine ev_bind0 rfl (Ev.bind e1 (ev_pos c1' (Ev.bind e2 ?_)))
        rw [c2']
        refine Ev.step (fun k => by rw [spec_Settle.j0]) ?_
        exact ev_neg (by simp) (Ev.bind f1 (Ev.bind f2 h2))
    · have c2' : b2 = false := Bool.eq_false_iff.2 (fun h => c2 (p2.1 h))
      obtain ⟨s, g⟩ := g2' c2
      refine ⟨[], ?_, ?_, by simp, .inl rfl⟩
      · refine Ev.bind (g1 c1) (Ev.bind g (ev_pos rfl ?_))
        refine Ev.step (fun k => by rw [impl_Settle.j0]) ?_
        exact ev_pos rfl (Ev.now _)
      · refine ev_bind0 rfl (Ev.bind e1 (ev_pos c1' (Ev.bind e2 ?_)))
        rw [c2']
        refine Ev.step (fun k => by rw [spec_Settle.j0]) ?_
        exact ev_pos rfl (Ev.now _)
  · have c1' : ¬ b1 = true := fun h => c1 (p1.1 h)
    obtain ⟨s, g⟩ := g1' c1
    have i0 : ∀ (x y : List Int), Ev (fun k => impl_Settle.j0 k L R x y true) [] := fun x y => by
      refine Ev.step (fun k => by rw [impl_Settle.j0]) ?_
      exact ev_pos rfl (Ev.now _)
    refine ⟨[], ?_, ?_, by simp, .inl rfl⟩
    · by_cases c2 : OpenIs R
      · exact Ev.bind g (Ev.bind (g2 c2) (ev_neg (by simp) (i0 _ _)))
      · obtain ⟨s2, h2⟩ := g2' c2
        exact Ev.bind g (Ev.bind h2 (ev_neg (by simp) (i0 _ _)))
    · refine ev_bind0 rfl (Ev.bind e1 (ev_neg c1' ?_))
      refine Ev.step (fun k => by rw [spec_Settle.j0]) ?_
      exact ev_pos rfl (Ev.now _)
theorem srt_le (L : List S27) {t t' p p' : Nat} (h : t ≤ t') (h' : t' < (srt L).length) (e : rd (srt L) (t : Int) = (p : Int)) (e' : rd (srt L) (t' : Int) = (p' : Int)) : (rd_T27 L (p : Int)).f0 ≤ (rd_T27 L (p' : Int)).f0 := by
  rcases Nat.lt_or_eq_of_le h with c | c
  · have := srt_ahead L c h'
    rw [rd_at h'] at e'
    rw [rd_at (by omega)] at e
    rw [e, e'] at this
    unfold Fore dayAt at this
    omega
  · subst c
    rw [e] at e'
    rw [show p' = p from by omega]
    exact Int.le_refl _
theorem retrace (L R : List S27) (res : List S30) (hL : L.length ≤ 100) (hR : R.length ≤ 100) (hr : res.length ≤ 200) : ∀ (t : List S30) (m i j : Nat) (A B : List Int), res.drop m = t → m ≤ res.length → Pays L R t i j A B → A.length = L.length → B.length = R.length →
    (m = 0 ∨ (0 < m ∧ ∃ i0 j0 p0 q0 : Nat, i0 ≤ i ∧ j0 ≤ j ∧ rd (srt L) (i0 : Int) = (p0 : Int) ∧ rd (srt R) (j0 : Int) = (q0 : Int) ∧ p0 < L.length ∧ q0 < R.length ∧ (rd_T30 res ((m - 1 : Nat) : Int)).f0 = (p0 : Int) ∧ (rd_T30 res ((m - 1 : Nat) : Int)).f1 = (q0 : Int))) → Ev (fun k => laws_FnSettled.l2 k L R res A B (m : Int)) true := by
  intro t
  induction t with
  | nil =>
    intro m i j A B hd hm hP lA lB _
    have e : m = res.length := by
      have := congrArg List.length hd
      rw [List.length_drop] at this
      simp at this
      omega
    subst e
    obtain ⟨h, hA, hB⟩ := hP
    have sA := laws_sum_ev A 100000000000 (by decide) (by decide) (by omega) hA
    have sB := laws_sum_ev B 100000000000 (by decide) (by decide) (by omega) hB
    refine Ev.step (fun k => by rw [laws_FnSettled.l2]) ?_
    refine ev_neg (Int.lt_irrefl _) (Ev.bind sA ?_)
    by_cases c : A.sum = 0
    · exact ev_pos c (Ev.now _)
    · have h2 : B.sum = 0 := by
        rcases h with h | h
        · exact absurd h c
        · exact h
      refine ev_neg c (Ev.bind sB ?_)
      rw [h2]
      exact Ev.now _
  | cons x t ih =>
    intro m i j A B hd hm hP lA lB hprev
    obtain ⟨p, q, i', j', a, b, n, rfl, ⟨hi, hj, rL, rR, hpl, hql⟩, ⟨ea, eb, a0, a1, b0, b1⟩, ⟨n0, n1, n2, ii, jj⟩, hP⟩ := hP
    have hml : m < res.length := by
      have := congrArg List.length hd
      rw [List.length_drop, List.length_cons] at this
      omega
    have hx : rd_T30 res (m : Int) = (⟨(p : Int), (q : Int), n⟩ : S30) := by
      have h1 : rd_T30 res (m : Int) = res[m] := getD_at hml _
      rw [h1]
      rw [List.drop_eq_getElem_cons hml] at hd
      exact (List.cons.inj hd).1
    have hd2 : res.drop (m + 1) = t := by
      rw [List.drop_eq_getElem_cons hml] at hd
      exact (List.cons.inj hd).2
    have hpA : p < A.length := by rw [lA]; exact hpl
    have hqB : q < B.length := by rw [lB]; exact hql
    have g0 : (0 : Int) ≤ (m : Int) := Int.natCast_nonneg _
    have g1 : (m : Int) < (res.length : Int) := Int.ofNat_lt.2 hml
    have g2 : (0 : Int) ≤ (p : Int) := Int.natCast_nonneg _
    have g3 : (p : Int) < (A.length : Int) := Int.ofNat_lt.2 hpA
    have g4 : (0 : Int) ≤ (q : Int) := Int.natCast_nonneg _
    have g5 : (q : Int) < (B.length : Int) := Int.ofNat_lt.2 hqB
    have g6 : (p : Int) < (L.length : Int) := Int.ofNat_lt.2 hpl
    have g7 : (q : Int) < (R.length : Int) := Int.ofNat_lt.2 hql
    have next := ih (m + 1) i' j' (A.set p (a - n)) (B.set q (b - n)) hd2 hml hP (by rw [List.length_set]; exact lA) (by rw [List.length_set]; exact lB) (.inr ⟨Nat.succ_pos _, i, j, p, q, ii, jj, rL, rR, hpl, hql, by rw [Nat.add_sub_cancel, hx], by rw [Nat.add_sub_cancel, hx]⟩)
    have wa := Aside0.mk (show wrap64 (a - n) = a - n from wrap_id (by omega) (by omega))
    have wb := Aside0.mk (show wrap64 (b - n) = b - n from wrap_id (by omega) (by omega))
    have j5 : Ev (fun k => laws_FnSettled.j5 k L R res A B (m : Int) false (p : Int) (q : Int) n) true := by
      refine Ev.step (fun k => by rw [laws_FnSettled.j5]) ?_
      refine ev_neg (by decide) (ev_pos g2 (ev_pos g3 (ev_bind0 rfl (ev_pos g4 (ev_pos g5 (ev_bind0 rfl ?_))))))
      rw [← ea, ← eb, wa.out, wb.out, Int.toNat_natCast, Int.toNat_natCast, rd_set hpA, if_pos rfl, decide_eq_false (show ¬ b - n < 0 by omega)]
      refine ev_neg (by omega) ?_
      refine Ev.step (fun k => by rw [laws_FnSettled.j6]) ?_
      refine ev_neg (by decide) ?_
      rw [wrap_succ hml (by omega)]
      exact next
    have j4 : Ev (fun k => laws_FnSettled.j4 k L R res A B (m : Int) false (p : Int) (q : Int) n) true := by
      refine Ev.step (fun k => by rw [laws_FnSettled.j4]) ?_
      refine ev_neg (by decide) ?_
      rcases hprev with hm0 | ⟨hm0, i0, j0, p0, q0, k1, k2, k3, k4, k5, k6, k7, k8⟩
      · exact ev_neg (by omega) j5
      · have wm := Aside0.mk (show wrap64 ((m : Int) - 1) = ((m - 1 : Nat) : Int) from by rw [wrap_id (by omega) (by omega)]; omega)
        have d1 := srt_le L k1 hi k3 rL
        have d2 := srt_le R k2 hj k4 rR
        refine ev_pos (by omega) (ev_pos g2 (ev_pos g6 ?_))
        rw [wm.out, k7, k8]
        refine ev_pos (Int.natCast_nonneg _) (ev_pos (by omega) (ev_pos (Int.natCast_nonneg _) (ev_pos (Int.ofNat_lt.2 k5) (ev_neg (Int.not_lt.2 d1) (ev_pos g4 (ev_pos g7 (ev_pos (Int.natCast_nonneg _) (ev_pos (Int.ofNat_lt.2 k6) ?_))))))))
        rw [decide_eq_false (Int.not_lt.2 d2)]
        exact j5
    refine Ev.step (fun k => by rw [laws_FnSettled.l2]) ?_
    refine ev_pos g1 (ev_pos g0 ?_)
    rw [hx]
    refine ev_neg (Int.not_lt.2 g2) (ev_neg (by show ¬ ((p : Int) ≥ (A.length : Int)); omega) (ev_neg (Int.not_lt.2 g4) (ev_neg (by show ¬ ((q : Int) ≥ (B.length : Int)); omega) ?_)))
    rw [decide_eq_false (show ¬ n ≤ 0 by omega)]
    exact j4
theorem set_fill (L : List S27) {i d : Nat} (h : i < L.length) (v : Int) (hv : v = (rd_T27 L (i : Int)).f1) : ((L.take i).map (fun x : S27 => x.f1) ++ List.replicate (d + 1) (0 : Int)).set i v = (L.take (i + 1)).map (fun x : S27 => x.f1) ++ List.replicate d 0 := by
  have hrd : rd_T27 L (i : Int) = L[i] := getD_at h _
  have hl : ((L.take i).map (fun x : S27 => x.f1)).length = i := by rw [List.length_map, List.length_take]; omega
  rw [List.set_append, if_neg (by rw [hl]; exact Nat.lt_irrefl _), hl, Nat.sub_self, List.replicate_succ, List.set_cons_zero, List.take_add_one, List.getElem?_eq_getElem h, List.map_append, List.append_assoc, hv, hrd]
  rfl
theorem fill0 (L R : List S27) (res : List S30) (hL : L.length ≤ 100) (B : List Int) (h : Ev (fun k => laws_FnSettled.l1 k L R res (L.map (fun x : S27 => x.f1)) B 0) true) : ∀ (d i : Nat), i + d = L.length → Ev (fun k => laws_FnSettled.l0 k L R res ((L.take i).map (fun x : S27 => x.f1) ++ List.replicate d (0 : Int)) B (i : Int)) true := by
  intro d
  induction d with
  | zero =>
    intro i hi
    have e : i = L.length := by omega
    subst e
    refine Ev.step (fun k => by rw [laws_FnSettled.l0]) ?_
    rw [List.take_length, List.replicate_zero, List.append_nil]
    exact ev_neg (Int.lt_irrefl _) h
  | succ d ih =>
    intro i hi
    have hlt : i < L.length := by omega
    refine Ev.step (fun k => by rw [laws_FnSettled.l0]) ?_
    refine ev_pos (Int.ofNat_lt.2 hlt) (ev_pos (Int.natCast_nonneg _) (ev_pos (by rw [List.length_append, List.length_map, List.length_take, List.length_replicate]; omega) ?_))
    rw [Int.toNat_natCast, set_fill L hlt _ rfl, wrap_succ hlt (by omega)]
    exact ih (i + 1) (by omega)
theorem fill1 (L R : List S27) (res : List S30) (hR : R.length ≤ 100) (A : List Int) (h : Ev (fun k => laws_FnSettled.l2 k L R res A (R.map (fun x : S27 => x.f1)) 0) true) : ∀ (d i : Nat), i + d = R.length → Ev (fun k => laws_FnSettled.l1 k L R res A ((R.take i).map (fun x : S27 => x.f1) ++ List.replicate d (0 : Int)) (i : Int)) true := by
  intro d
  induction d with
  | zero =>
    intro i hi
    have e : i = R.length := by omega
    subst e
    refine Ev.step (fun k => by rw [laws_FnSettled.l1]) ?_
    rw [List.take_length, List.replicate_zero, List.append_nil]
    exact ev_neg (Int.lt_irrefl _) h
  | succ d ih =>
    intro i hi
    have hlt : i < R.length := by omega
    refine Ev.step (fun k => by rw [laws_FnSettled.l1]) ?_
    refine ev_pos (Int.ofNat_lt.2 hlt) (ev_pos (Int.natCast_nonneg _) (ev_pos (by rw [List.length_append, List.length_map, List.length_take, List.length_replicate]; omega) ?_))
    rw [Int.toNat_natCast, set_fill R hlt _ rfl, wrap_succ hlt (by omega)]
    exact ih (i + 1) (by omega)
/-! ### Draws -/
theorem and255 (n : Int) : Go.bits .and .i64 n 255 = n % 256 := by
  have h255 : (BitVec.ofInt 64 255).toNat = 2 ^ 8 - 1 := by decide
  have key : (BitVec.ofInt 64 n &&& BitVec.ofInt 64 255).toNat = (n % ((2 ^ 64 : Nat) : Int)).toNat % 2 ^ 8 := by
    rw [BitVec.toNat_and, BitVec.toNat_ofInt, h255, Nat.and_two_pow_sub_one_eq_mod]
  show IntKind.i64.wrap ((BitVec.ofInt 64 n &&& BitVec.ofInt 64 255).toNat : Nat) = n % 256
  rw [key, IntKind.wrap_i64]
  omega
/-- A draw's state: where it stands in its bytes. -/
def Cu (b : List Int) (i : Int) : Prop := 0 ≤ i ∧ i ≤ (b.length : Int) ∧ (b.length : Int) ≤ 140737488351232
theorem byte_ok (b : List Int) (i h : Int) (hc : Cu b i) : ∃ x i' h', spec_l1Byte.f b i h = some (x, i', h') ∧ 0 ≤ x ∧ x ≤ 255 ∧ Cu b i' := by
  obtain ⟨h0, h1, h2⟩ := hc
  unfold spec_l1Byte.f
  simp only [and255]
  by_cases c : i < (b.length : Int)
  · rw [if_pos c, if_pos h0]
    refine ⟨_, _, _, rfl, Int.emod_nonneg _ (by decide), ?_, ?_⟩
    · have := Int.emod_lt_of_pos (wrap64 (Go.bits .xor .i64 ((wrap64 ((wrap64 (h * 6364136223846793005)) + 1442695040888963407)) / 8589934592) ((wrap64 ((wrap64 (h * 6364136223846793005)) + 1442695040888963407)) / 35184372088832) % 256 + (wrap64 (rd b i)))) (show (0 : Int) < 256 by decide)
      exact Int.le_of_lt_add_one this
    · rw [wrap_id (by omega) (by omega)]
      exact ⟨by omega, by omega, h2⟩
  · rw [if_neg c]
    refine ⟨_, _, _, rfl, Int.emod_nonneg _ (by decide), ?_, h0, h1, h2⟩
    exact Int.le_of_lt_add_one (Int.emod_lt_of_pos _ (show (0 : Int) < 256 by decide))
theorem below_ok (b : List Int) (i h n : Int) (hc : Cu b i) : ∃ x i' h', spec_l1Below.f b i h n = some (x, i', h') ∧ Cu b i' ∧ 0 ≤ x ∧ (0 < n → x < n) ∧ (n ≤ 0 → x = 0) := by
  unfold spec_l1Below.f
  by_cases c0 : n ≤ 0
  · exact ⟨0, i, h, if_pos c0, hc, by decide, fun h => by omega, fun _ => rfl⟩
  rw [if_neg c0]
  obtain ⟨x1, i1, h1, e1, a1, b1, c1⟩ := byte_ok b i h hc
  by_cases c : n ≤ 256
  · rw [if_pos c, e1, Option.bind_some, if_neg (by omega)]
    exact ⟨_, _, _, rfl, c1, Int.tmod_nonneg _ a1, fun _ => Int.tmod_lt_of_pos _ (by omega), fun h => absurd h c0⟩
  · obtain ⟨x2, i2, h2, e2, a2, b2, c2⟩ := byte_ok b i1 h1 c1
    obtain ⟨x3, i3, h3, e3, a3, b3, c3⟩ := byte_ok b i2 h2 c2
    obtain ⟨x4, i4, h4, e4, a4, b4, c4⟩ := byte_ok b i3 h3 c3
    rw [if_neg c, e1, Option.bind_some, e2, Option.bind_some, e3, Option.bind_some, e4, Option.bind_some, if_neg (by omega)]
    refine ⟨_, _, _, rfl, c4, Int.tmod_nonneg _ ?_, fun _ => Int.tmod_lt_of_pos _ (by omega), fun h => absurd h c0⟩
    rw [wrap_id (x := x1 * 16777216) (by omega) (by omega), wrap_id (x := x2 * 65536) (by omega) (by omega), wrap_id (x := x3 * 256) (by omega) (by omega), wrap_id (x := x1 * 16777216 + x2 * 65536) (by omega) (by omega), wrap_id (x := x1 * 16777216 + x2 * 65536 + x3 * 256) (by omega) (by omega), wrap_id (by omega) (by omega)]
    omega
theorem once_ok (b : List Int) (i h n : Int) (hc : Cu b i) : ∃ (v : Bool) (i' h' : Int), spec_l1Once.f b i h n = some (v, i', h') ∧ Cu b i' := by
  obtain ⟨x, i', h', e, c, _⟩ := below_ok b i h n hc
  unfold spec_l1Once.f
  rw [e]
  exact ⟨_, _, _, rfl, c⟩
theorem pickInt_ok (b : List Int) (i h : Int) (l : List Int) (hl : 0 < l.length) (hc : Cu b i) : ∃ s i' h', spec_l1PickInt.f b i h l = some (s, i', h') ∧ Cu b i' ∧ s ∈ l := by
  obtain ⟨x, i', h', e, c, x0, x1, _⟩ := below_ok b i h (l.length : Int) hc
  have := x1 (by omega)
  unfold spec_l1PickInt.f
  rw [e, Option.bind_some, if_pos x0, if_pos this]
  refine ⟨_, _, _, rfl, c, ?_⟩
  have hx : x.toNat < l.length := by omega
  have e2 := rd_at hx
  rw [show ((x.toNat : Nat) : Int) = x by omega] at e2
  show rd l x ∈ l
  rw [e2]
  exact List.getElem_mem hx
theorem new_ok (l : List Int) (hl : (l.length : Int) ≤ 140737488351232) : ∃ h, Ev (fun k => spec_l1New.f k l) (l, 0, h) := by
  have go : ∀ (d i : Nat) (h : Int), i + d = l.length → ∃ h', Ev (fun k => spec_l1New.l0 k l h (i : Int)) (l, 0, h') := by
    intro d
    induction d with
    | zero =>
      intro i h hd
      refine ⟨h, Ev.step (fun k => by rw [spec_l1New.l0]) ?_⟩
      exact ev_neg (by omega) (Ev.now _)
    | succ d ih =>
      intro i h hd
      have hw : wrap64 ((i : Int) + 1) = ((i + 1 : Nat) : Int) := wrap_id (by omega) (by omega)
      by_cases c : (i : Int) < 4000
      · obtain ⟨h', hh⟩ := ih (i + 1) (Go.bits .and .i64 (wrap64 ((wrap64 ((wrap64 (h * 131)) + (wrap64 (rd l (i : Int))))) + 7)) 1073741823) (by omega)
        refine ⟨h', Ev.step (fun k => by rw [spec_l1New.l0]) ?_⟩
        simp only [hw]
        exact ev_pos (by omega) (ev_pos c (ev_pos (by omega) hh))
      · refine ⟨h, Ev.step (fun k => by rw [spec_l1New.l0]) ?_⟩
        exact ev_pos (by omega) (ev_neg c (Ev.now _))
  obtain ⟨h, hh⟩ := go l.length 0 (wrap64 (71933 + (l.length : Int))) (by omega)
  exact ⟨h, by unfold spec_l1New.f; exact hh⟩
theorem size_ok (l : List Int) (a : Int) (ha : 2 ≤ a) (hl : (l.length : Int) ≤ 1048576) : ∃ s, spec_l1Size.f l a = some s ∧ 2 ≤ s ∧ s ≤ a := by
  have ew : wrap64 (2 + (wrap64 ((l.length : Int) / 20))) = 2 + (l.length : Int) / 20 := by
    rw [wrap_id (x := (l.length : Int) / 20) (by omega) (by omega), wrap_id (by omega) (by omega)]
  unfold spec_l1Size.f
  rw [ew]
  clear ew
  by_cases g : 2 + (l.length : Int) / 20 > a
  · rw [if_pos g]
    exact ⟨a, rfl, ha, Int.le_refl _⟩
  · rw [if_neg g]
    exact ⟨_, rfl, by omega, by omega⟩
theorem drawOpen_loop (b : List Int) : ∀ (n : Nat) (l : List S27) (i h : Int), n + l.length ≤ 1000 → Cu b i → ∃ l' i' h', Ev (fun k => spec_l13DrawOpen.l0 k (n : Int) l b i h) (l', i', h') ∧ Cu b i' ∧ l'.length ≤ 1000 := by
  have j1 : ∀ (l : List S27) (v : Bool) (i h : Int), l.length ≤ 1000 → (v = true → 0 < (l.length : Int)) → Cu b i → ∃ l' i' h', Ev (fun k => spec_l13DrawOpen.j1 k l v b i h) (l', i', h') ∧ Cu b i' ∧ l'.length ≤ 1000 := by
    intro l v i h hn hv hc
    by_cases g : v = true
    · obtain ⟨x1, i1, h1, e1, c1, p0, p1, _⟩ := below_ok b i h (l.length : Int) hc
      obtain ⟨w, i2, h2, e2, c2⟩ := once_ok b i1 h1 2 c1
      have hx := p1 (hv g)
      by_cases g2 : w = true
      · obtain ⟨x3, i3, h3, e3, c3, _⟩ := pickInt_ok b i2 h2 [(-1), 40001] (by decide) c2
        exact ⟨l.set (x1 : Int).toNat (⟨x3, (rd_T27 l x1).f1⟩ : S27), i3, h3, Ev.step (fun k => by rw [spec_l13DrawOpen.j1]) (ev_pos g (ev_bind0 e1 (ev_bind0 e2 (ev_pos g2 (ev_bind0 e3 (ev_pos p0 (ev_pos hx (Ev.now (l.set (x1 : Int).toNat (⟨x3, (rd_T27 l x1).f1⟩ : S27), i3, h3))))))))), c3, by rw [List.length_set]; exact hn⟩
      · obtain ⟨x3, i3, h3, e3, c3, _⟩ := pickInt_ok b i2 h2 [0, (-5), 100000000000, 100000000001] (by decide) c2
        exact ⟨l.set (x1 : Int).toNat (⟨(rd_T27 l x1).f0, x3⟩ : S27), i3, h3, Ev.step (fun k => by rw [spec_l13DrawOpen.j1]) (ev_pos g (ev_bind0 e1 (ev_bind0 e2 (ev_neg g2 (ev_bind0 e3 (ev_pos p0 (ev_pos hx (Ev.now (l.set (x1 : Int).toNat (⟨(rd_T27 l x1).f0, x3⟩ : S27), i3, h3))))))))), c3, by rw [List.length_set]; exact hn⟩
    · exact ⟨l, i, h, Ev.step (fun k => by rw [spec_l13DrawOpen.j1]) (ev_neg g (Ev.now (l, i, h))), hc, hn⟩
  intro n
  induction n with
  | zero =>
    intro l i h hn hc
    obtain ⟨v, i1, h1, e1, c1⟩ := once_ok b i h 20 hc
    by_cases g : v = true
    · obtain ⟨l', i', h', hr, hc', hl'⟩ := j1 l (decide ((l.length : Int) > 0)) i1 h1 (by omega) (fun q => of_decide_eq_true q) c1
      exact ⟨l', i', h', Ev.step (fun k => by rw [spec_l13DrawOpen.l0]) (ev_neg (by decide) (ev_bind0 e1 (ev_pos g hr))), hc', hl'⟩
    · obtain ⟨l', i', h', hr, hc', hl'⟩ := j1 l false i1 h1 (by omega) (fun q => absurd q (by decide)) c1
      exact ⟨l', i', h', Ev.step (fun k => by rw [spec_l13DrawOpen.l0]) (ev_neg (by decide) (ev_bind0 e1 (ev_neg g hr))), hc', hl'⟩
  | succ n ih =>
    intro l i h hn hc
    obtain ⟨x1, i1, h1, e1, c1, _⟩ := below_ok b i h 60 hc
    obtain ⟨x2, i2, h2, e2, c2, _⟩ := below_ok b i1 h1 5000 c1
    have g0 : ((n + 1 : Nat) : Int) > 0 := by omega
    have g1 : l.length < 8796093022208 := Nat.lt_of_le_of_lt (show l.length ≤ 1000 by omega) (by decide)
    obtain ⟨l', i', h', hr, hc', hl'⟩ := ih (l ++ [(⟨x1, wrap64 (1 + x2)⟩ : S27)]) i2 h2 (by rw [List.length_append, List.length_singleton]; omega) c2
    have ew := Aside0.mk (show wrap64 (((n + 1 : Nat) : Int) - 1) = (n : Int) from by rw [wrap_id (by omega) (by omega)]; omega)
    refine ⟨l', i', h', Ev.step (fun k => by rw [spec_l13DrawOpen.l0]) (ev_pos g0 (ev_bind0 e1 (ev_bind0 e2 (ev_pos g1 ?_)))), hc', hl'⟩
    simp only [ew.out]
    exact hr
theorem drawOpen_ok (b : List Int) (i h n : Int) (h0 : 0 ≤ n) (h1 : n ≤ 1000) (hc : Cu b i) : ∃ l' i' h', Ev (fun k => spec_l13DrawOpen.f k b i h n) (l', i', h') ∧ Cu b i' ∧ l'.length ≤ 1000 := by
  have := drawOpen_loop b n.toNat [] i h (by simp; omega) hc
  rw [Int.toNat_of_nonneg h0] at this
  exact this
theorem drawSettle_ok (l : List Int) (hl : (l.length : Int) ≤ 1048576) : ∃ L R, Ev (fun k => spec_DrawSettle.f k l) (L, R) ∧ L.length ≤ 1000 ∧ R.length ≤ 1000 := by
  obtain ⟨h, hn⟩ := new_ok l (by omega)
  have hc : Cu l 0 := ⟨Int.le_refl _, by omega, by omega⟩
  obtain ⟨s, es, s0, s1⟩ := size_ok l 12 (by decide) hl
  obtain ⟨x1, i1, h1, e1, c1, p0, p1, p2⟩ := below_ok l 0 h s hc
  have hx : x1 < s := p1 (by omega)
  obtain ⟨L, i2, h2, e2, c2, l2⟩ := drawOpen_ok l i1 h1 x1 p0 (by omega) c1
  obtain ⟨x3, i3, h3, e3, c3, q0, q1, q2⟩ := below_ok l i2 h2 s c2
  have hx3 : x3 < s := q1 (by omega)
  obtain ⟨R, i4, h4, e4, c4, l4⟩ := drawOpen_ok l i3 h3 x3 q0 (by omega) c3
  unfold spec_DrawSettle.f
  exact ⟨L, R, Ev.bind hn (ev_bind0 es (ev_bind0 e1 (Ev.bind e2 (ev_bind0 es (ev_bind0 e3 (Ev.bind e4 (Ev.now (L, R)))))))), l2, l4⟩
theorem fixed_ev : Ev (fun k => impl_Settle.f k [(⟨4, 5⟩ : S27)] [(⟨9, 2⟩ : S27), (⟨8, 4⟩ : S27)]) [(⟨0, 1, 4⟩ : S30), (⟨0, 0, 1⟩ : S30)] := by
  refine Ev.of (impl_Settle.mono _ _) (k := 64) ?_
  have h : (impl_Settle.f 64 [(⟨4, 5⟩ : S27)] [(⟨9, 2⟩ : S27), (⟨8, 4⟩ : S27)]).map (fun r => r.map fun x => (x.f0, x.f1, x.f2)) = some [(0, 1, 4), (0, 0, 1)] := by decide +kernel
  cases e : impl_Settle.f 64 [(⟨4, 5⟩ : S27)] [(⟨9, 2⟩ : S27), (⟨8, 4⟩ : S27)] with
  | none => rw [e] at h; exact absurd h (by simp)
  | some r =>
    rw [e, Option.map_some] at h
    have h1 := Option.some.inj h
    match r, h1 with
    | [⟨x0, x1, x2⟩, ⟨y0, y1, y2⟩], h1 =>
      simp at h1
      obtain ⟨⟨rfl, rfl, rfl⟩, rfl, rfl, rfl⟩ := h1
      rfl
theorem FnSettled : laws_FnSettled.Pure := by
  intro l0 hg0 _ _
  apply Ev.rounds
  unfold laws_FnSettled.f
  by_cases c : (l0.length : Int) > 1048576
  · exact ev_bind0 (by unfold laws_big.f; rfl) (ev_pos (decide_eq_true c) (Ev.now _))
  refine ev_bind0 (by unfold laws_big.f; rfl) (ev_neg (by rw [decide_eq_true_eq]; exact c) ?_)
  refine Ev.bind fixed_ev (ev_pos (by decide) (ev_pos (by decide) (ev_pos (by decide) (ev_pos (by decide) (ev_pos (by decide) ?_)))))
  refine Ev.step (fun k => by rw [laws_FnSettled.j0]) ?_
  refine ev_neg (by decide) ?_
  obtain ⟨L, R, hd, hL, hR⟩ := drawSettle_ok l0 (by omega)
  obtain ⟨res, h2, h3, hr, h⟩ := settle_ev L R (by omega) (by omega)
  refine Ev.bind hd (Ev.bind h3 (Ev.bind h2 (ev_pos rfl ?_)))
  rcases h with rfl | ⟨oL, oR, hP⟩
  · exact ev_pos rfl (Ev.now _)
  by_cases ce : (res.length : Int) = 0
  · exact ev_pos ce (Ev.now _)
  refine ev_neg ce ?_
  have nL : L.length ≤ 100 := by have := oL.1; omega
  have nR : R.length ≤ 100 := by have := oR.1; omega
  refine ev_pos (Int.natCast_nonneg _) (ev_pos (by rw [Int.toNat_natCast]; exact Nat.le_trans nL (by decide)) (ev_pos (Int.natCast_nonneg _) (ev_pos (by rw [Int.toNat_natCast]; exact Nat.le_trans nR (by decide)) ?_)))
  simp only [Int.toNat_natCast]
  have r2 := retrace L R res nL nR hr res 0 0 0 (L.map (fun x : S27 => x.f1)) (R.map (fun x : S27 => x.f1)) rfl (Nat.zero_le _) hP (by rw [List.length_map]) (by rw [List.length_map]) (.inl rfl)
  have r1 := fill1 L R res nR _ r2 R.length 0 (by omega)
  have r0 := fill0 L R res nL _ r1 L.length 0 (by omega)
  simpa using r0
end Go.Proofs.Ytlodndejipjceaa.Pure
