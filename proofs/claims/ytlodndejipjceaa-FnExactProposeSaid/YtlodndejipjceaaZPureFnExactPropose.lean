/- Propose: the program proposes what the reference proposes, whatever the bills. -/
import Derived.Test.YtlodndejipjceaaZPFnExactProposex
import Derived.Test.YtlodndejipjceaaZHFnExactPropose
/- A stable sort by halves, and what it leaves: a permutation in which each stands ahead of the next; and that such a list is the only one. -/
set_option linter.unusedVariables false
namespace Go.Proofs.XSort

def merge {α : Type} (less : α → α → Bool) : List α → List α → List α
  | [], r => r
  | a :: l, [] => a :: l
  | a :: l, b :: r => if less b a = true then b :: merge less (a :: l) r else a :: merge less l (b :: r)
termination_by l r => l.length + r.length

def sortN {α : Type} (less : α → α → Bool) : Nat → List α → List α
  | 0, xs => xs
  | k + 1, xs => if xs.length < 2 then xs else merge less (sortN less k (xs.take (xs.length / 2))) (sortN less k (xs.drop (xs.length / 2)))
def sort {α : Type} (less : α → α → Bool) (xs : List α) : List α := sortN less xs.length xs

section
variable {α : Type} {less : α → α → Bool}
theorem merge_nil (r : List α) : merge less [] r = r := by rw [merge.eq_def]
theorem merge_nil2 (l : List α) : merge less l [] = l := by cases l <;> rw [merge.eq_def]
theorem merge_right {a b : α} {l r : List α} (h : less b a = true) : merge less (a :: l) (b :: r) = b :: merge less (a :: l) r := by rw [merge.eq_def]; simp only [h, if_true]
theorem merge_left {a b : α} {l r : List α} (h : ¬ less b a = true) : merge less (a :: l) (b :: r) = a :: merge less l (b :: r) := by rw [merge.eq_def]; simp only [if_neg h]

theorem merge_perm : ∀ (n : Nat) (l r : List α), l.length + r.length = n → (merge less l r).Perm (l ++ r) := by
  intro n
  induction n with
  | zero =>
    intro l r h
    have h1 : l = [] := List.eq_nil_of_length_eq_zero (by omega)
    subst h1
    rw [merge_nil]
    exact List.Perm.refl _
  | succ n ih =>
    intro l r h
    cases l with
    | nil => rw [merge_nil]; exact List.Perm.refl _
    | cons a l =>
      cases r with
      | nil => rw [merge_nil2, List.append_nil]
      | cons b r =>
        by_cases c : less b a = true
        · rw [merge_right c]
          have := ih (a :: l) r (by simp at h ⊢; omega)
          exact (List.Perm.cons b this).trans (List.perm_middle.symm)
        · rw [merge_left c]
          have := ih l (b :: r) (by simp at h ⊢; omega)
          exact List.Perm.cons a this
theorem sortN_perm : ∀ (k : Nat) (xs : List α), (sortN less k xs).Perm xs := by
  intro k
  induction k with
  | zero => intro xs; exact List.Perm.refl _
  | succ k ih =>
    intro xs
    unfold sortN
    by_cases c : xs.length < 2
    · rw [if_pos c]
    · rw [if_neg c]
      refine (merge_perm _ _ _ rfl).trans ?_
      have := List.Perm.append (ih (xs.take (xs.length / 2))) (ih (xs.drop (xs.length / 2)))
      rw [List.take_append_drop] at this
      exact this
theorem sort_perm (xs : List α) : (sort less xs).Perm xs := sortN_perm _ _
theorem sortN_length (k : Nat) (xs : List α) : (sortN less k xs).length = xs.length := (sortN_perm k xs).length_eq
theorem sort_length (xs : List α) : (sort less xs).length = xs.length := (sort_perm xs).length_eq

/-- a stands ahead of b: it is less, or it is not more and came in ahead. -/
def Ahead (less : α → α → Bool) (P : α → α → Prop) (a b : α) : Prop := less a b = true ∨ (¬ less b a = true ∧ P a b)

theorem merge_ahead {P : α → α → Prop} : ∀ (n : Nat) (l r : List α), l.length + r.length = n → (∀ a ∈ l ++ r, ∀ b ∈ l ++ r, ∀ c ∈ l ++ r, Ahead less P a b → Ahead less P b c → Ahead less P a c) →
    l.Pairwise (Ahead less P) → r.Pairwise (Ahead less P) → (∀ a ∈ l, ∀ b ∈ r, P a b) → (merge less l r).Pairwise (Ahead less P) := by
  intro n
  induction n with
  | zero =>
    intro l r h _ _ hr _
    have h1 : l = [] := List.eq_nil_of_length_eq_zero (by omega)
    subst h1
    rw [merge_nil]
    exact hr
  | succ n ih =>
    intro l r h ht hl hr hP
    cases l with
    | nil => rw [merge_nil]; exact hr
    | cons a l =>
      cases r with
      | nil => rw [merge_nil2]; exact hl
      | cons b r =>
        rw [List.pairwise_cons] at hl hr
        by_cases c : less b a = true
        · rw [merge_right c, List.pairwise_cons]
          have hba : Ahead less P b a := .inl c
          refine ⟨fun x hx => ?_, ih (a :: l) r (by simp at h ⊢; omega) (fun x hx y hy z hz => ht x (by simp at hx ⊢; rcases hx with h | h | h <;> simp [h]) y (by simp at hy ⊢; rcases hy with h | h | h <;> simp [h]) z (by simp at hz ⊢; rcases hz with h | h | h <;> simp [h])) (List.pairwise_cons.2 hl) hr.2 (fun x hx y hy => hP x hx y (List.mem_cons_of_mem _ hy))⟩
          have hx' := (merge_perm _ (a :: l) r rfl).mem_iff.1 hx
          rcases List.mem_append.1 hx' with h1 | h1
          · rcases List.mem_cons.1 h1 with h2 | h2
            · rw [h2]; exact hba
            · exact ht b (by simp) a (by simp) x (by simp [h2]) hba (hl.1 x h2)
          · exact hr.1 x h1
        · rw [merge_left c, List.pairwise_cons]
          have hab : Ahead less P a b := .inr ⟨c, hP a (by simp) b (by simp)⟩
          refine ⟨fun x hx => ?_, ih l (b :: r) (by simp at h ⊢; omega) (fun x hx y hy z hz => ht x (by simp at hx ⊢; rcases hx with h | h | h <;> simp [h]) y (by simp at hy ⊢; rcases hy with h | h | h <;> simp [h]) z (by simp at hz ⊢; rcases hz with h | h | h <;> simp [h])) hl.2 (List.pairwise_cons.2 hr) (fun x hx y hy => hP x (List.mem_cons_of_mem _ hx) y hy)⟩
          have hx' := (merge_perm _ l (b :: r) rfl).mem_iff.1 hx
          rcases List.mem_append.1 hx' with h1 | h1
          · exact hl.1 x h1
          · rcases List.mem_cons.1 h1 with h2 | h2
            · rw [h2]; exact hab
            · exact ht a (by simp) b (by simp) x (by simp [h2]) hab (hr.1 x h2)

theorem sortN_ahead {P : α → α → Prop} : ∀ (k : Nat) (xs : List α), xs.length ≤ k → (∀ a ∈ xs, ∀ b ∈ xs, ∀ c ∈ xs, Ahead less P a b → Ahead less P b c → Ahead less P a c) → xs.Pairwise P → (sortN less k xs).Pairwise (Ahead less P) := by
  intro k
  induction k with
  | zero =>
    intro xs h _ _
    have : xs = [] := List.eq_nil_of_length_eq_zero (by omega)
    subst this
    exact List.Pairwise.nil
  | succ k ih =>
    intro xs h ht hP
    unfold sortN
    by_cases c : xs.length < 2
    · rw [if_pos c]
      match xs, c with
      | [], _ => exact List.Pairwise.nil
      | [x], _ => exact List.pairwise_singleton _ _
      | x :: y :: r, c => simp at c; omega
    · rw [if_neg c]
      have hs := List.take_append_drop (xs.length / 2) xs
      have hm : ∀ x, x ∈ sortN less k (xs.take (xs.length / 2)) ++ sortN less k (xs.drop (xs.length / 2)) → x ∈ xs := by
        intro x hx
        rcases List.mem_append.1 hx with h1 | h1
        · exact List.mem_of_mem_take ((sortN_perm _ _).mem_iff.1 h1)
        · exact List.mem_of_mem_drop ((sortN_perm _ _).mem_iff.1 h1)
      have hP' := hP
      rw [← hs, List.pairwise_append] at hP'
      refine merge_ahead _ _ _ rfl (fun a ha b hb d hd => ht a (hm a ha) b (hm b hb) d (hm d hd)) ?_ ?_ ?_
      · exact ih _ (by rw [List.length_take]; omega) (fun a ha b hb d hd => ht a (List.mem_of_mem_take ha) b (List.mem_of_mem_take hb) d (List.mem_of_mem_take hd)) hP'.1
      · exact ih _ (by rw [List.length_drop]; omega) (fun a ha b hb d hd => ht a (List.mem_of_mem_drop ha) b (List.mem_of_mem_drop hb) d (List.mem_of_mem_drop hd)) hP'.2.1
      · intro a ha b hb
        exact hP'.2.2 a ((sortN_perm _ _).mem_iff.1 ha) b ((sortN_perm _ _).mem_iff.1 hb)
theorem sort_ahead {P : α → α → Prop} (xs : List α) (ht : ∀ a ∈ xs, ∀ b ∈ xs, ∀ c ∈ xs, Ahead less P a b → Ahead less P b c → Ahead less P a c) (hP : xs.Pairwise P) : (sort less xs).Pairwise (Ahead less P) := sortN_ahead _ _ (Nat.le_refl _) ht hP
end

/-- By a number, from the least: what is alike in its order. -/
theorem sort_by_key {α : Type} (key : α → Int) (P : α → α → Prop) (hPt : ∀ a b c, P a b → P b c → P a c) (xs : List α) (hP : xs.Pairwise P) (less : α → α → Bool) (hless : ∀ a ∈ xs, ∀ b ∈ xs, (less a b = true ↔ key a < key b)) :
    (sort less xs).Pairwise (fun a b => key a < key b ∨ (key a = key b ∧ P a b)) := by
  have h := sort_ahead (less := less) (P := P) xs (by
    intro a ha b hb c hc h1 h2
    unfold Ahead at *
    rw [hless a ha b hb, hless b hb a ha] at h1
    rw [hless b hb c hc, hless c hc b hb] at h2
    rw [hless a ha c hc, hless c hc a ha]
    rcases h1 with h1 | ⟨h1, p1⟩
    · rcases h2 with h2 | ⟨h2, p2⟩
      · exact .inl (by omega)
      · exact .inl (by omega)
    · rcases h2 with h2 | ⟨h2, p2⟩
      · exact .inl (by omega)
      · exact .inr ⟨by omega, hPt _ _ _ p1 p2⟩) hP
  refine List.Pairwise.imp_of_mem ?_ h
  intro a b ha hb hab
  have ha' := (sort_perm xs).mem_iff.1 ha
  have hb' := (sort_perm xs).mem_iff.1 hb
  unfold Ahead at hab
  rw [hless a ha' b hb', hless b hb' a ha'] at hab
  rcases hab with h | ⟨h, p⟩
  · exact .inl h
  · by_cases c : key a < key b
    · exact .inl c
    · exact .inr ⟨by omega, p⟩

end Go.Proofs.XSort
set_option maxHeartbeats 4000000
set_option linter.unusedVariables false
set_option linter.unusedSimpArgs false
namespace Go.Proofs.Ytlodndejipjceaa.Pure
open Go.RowKit Go.Proofs.Ytlodndejipjceaa.PFnExactPropose Go.Proofs.YtlodndejipjceaaW.PrintWords Go.Proofs.YtlodndejipjceaaW.PrintLast Go.Proofs.Ytlodndejipjceaa.XEv
/-! The printed sort: impl_sortBy_int -/
theorem impl_sortBy_int_merge (lt : Int → Int → Option Bool) (less : Int → Int → Bool) (l r : List Int) (hl : l.length + r.length ≤ 1048576) (hlt : ∀ a ∈ l, ∀ b ∈ r, lt b a = some (less b a)) :
    ∀ (d i j : Nat) (x P : List Int), i ≤ l.length → j ≤ r.length → (l.length - i) + (r.length - j) = d → x.length = l.length + r.length → x.take (i + j) = P →
      Ev (fun k => impl_sortBy_int.l0 k x lt l r (i : Int) (j : Int) ((l.length + r.length : Nat) : Int) ((i + j : Nat) : Int)) (P ++ XSort.merge less (l.drop i) (r.drop j)) := by
  intro d
  induction d with
  | zero =>
    intro i j x P hi hj hd hx hP
    have e1 : i = l.length := by omega
    have e2 : j = r.length := by omega
    subst e1 e2
    rw [List.drop_length, List.drop_length, XSort.merge_nil, List.append_nil]
    have e3 : P = x := by rw [← hP, ← hx, List.take_length]
    subst e3
    refine Ev.step (fun k => by rw [impl_sortBy_int.l0]) ?_
    exact ev_neg (by omega) (Ev.now _)
  | succ d ih =>
    intro i j x P hi hj hd hx hP
    have hn : i + j < x.length := by omega
    have hlen : P.length = i + j := by rw [← hP, List.length_take]; omega
    have put : ∀ v : Int, (x.set (i + j) v).take (i + j + 1) = P ++ [v] := by
      intro v
      rw [List.take_add_one, List.getElem?_set_self hn, List.take_set, hP, List.set_eq_of_length_le (by omega)]
      rfl
    have goL : ∀ (h : i < l.length), Ev (fun k => impl_sortBy_int.l0 k (x.set (i + j) l[i]) lt l r ((i + 1 : Nat) : Int) (j : Int) ((l.length + r.length : Nat) : Int) ((i + j + 1 : Nat) : Int)) (P ++ l[i] :: XSort.merge less (l.drop (i + 1)) (r.drop j)) := by
      intro h
      have := ih (i + 1) j (x.set (i + j) l[i]) (P ++ [l[i]]) (by omega) hj (by omega) (by rw [List.length_set]; exact hx) (by rw [show i + 1 + j = i + j + 1 by omega]; exact put _)
      rw [show i + 1 + j = i + j + 1 by omega, List.append_assoc] at this
      exact this
    have goR : ∀ (h : j < r.length), Ev (fun k => impl_sortBy_int.l0 k (x.set (i + j) r[j]) lt l r (i : Int) ((j + 1 : Nat) : Int) ((l.length + r.length : Nat) : Int) ((i + j + 1 : Nat) : Int)) (P ++ r[j] :: XSort.merge less (l.drop i) (r.drop (j + 1))) := by
      intro h
      have := ih i (j + 1) (x.set (i + j) r[j]) (P ++ [r[j]]) hi (by omega) (by omega) (by rw [List.length_set]; exact hx) (by rw [show i + (j + 1) = i + j + 1 by omega]; exact put _)
      rw [show i + (j + 1) = i + j + 1 by omega, List.append_assoc] at this
      exact this
    have w1 : ∀ m : Nat, m ≤ 2097152 → wrap64 ((m : Int) + 1) = ((m + 1 : Nat) : Int) := fun m hm => wrap_succ (n := m + 1) (by omega) (by omega)
    have rdl : ∀ h : i < l.length, rd l (i : Int) = l[i] := fun h => by first | exact rd_at h | exact getD_at h _
    have rdr : ∀ h : j < r.length, rd r (j : Int) = r[j] := fun h => by first | exact rd_at h | exact getD_at h _
    by_cases cj : j = r.length
    · have hi' : i < l.length := by omega
      have hm : XSort.merge less (l.drop i) (r.drop j) = l[i] :: XSort.merge less (l.drop (i + 1)) (r.drop j) := by
        rw [List.drop_eq_getElem_cons hi', cj, List.drop_length, XSort.merge_nil2, XSort.merge_nil2]
      rw [hm]
      refine Ev.step (fun k => by rw [impl_sortBy_int.l0]) ?_
      refine ev_pos (by omega) (ev_pos (by omega) (ev_pos (by omega) (ev_pos (by omega) (ev_pos (by omega) (ev_pos (by omega) ?_)))))
      rw [w1 i (by omega), w1 (i + j) (by omega), Int.toNat_natCast]
      have := goL hi'
      rw [← rdl hi'] at this ⊢
      exact this
    · have hj' : j < r.length := by omega
      by_cases ci : i < l.length
      · have hl2 := hlt l[i] (List.getElem_mem ci) r[j] (List.getElem_mem hj')
        by_cases cc : less r[j] l[i] = true
        · have hm : XSort.merge less (l.drop i) (r.drop j) = r[j] :: XSort.merge less (l.drop i) (r.drop (j + 1)) := by
            rw [List.drop_eq_getElem_cons ci, List.drop_eq_getElem_cons hj', XSort.merge_right cc]
          rw [hm]
          have hg := goR hj'
          rw [← rdr hj'] at hg ⊢
          rw [← rdr hj', ← rdl ci] at hl2
          rw [← rdr hj', ← rdl ci] at cc
          refine Ev.step (fun k => by rw [impl_sortBy_int.l0]) ?_
          refine ev_pos (by omega) (ev_neg (by omega) (ev_pos (by omega) (ev_pos (by omega) (ev_pos (by omega) (ev_pos (by omega) (ev_bind0 hl2 (ev_pos cc (ev_pos (by omega) (ev_pos (by omega) ?_)))))))))
          rw [w1 j (by omega), w1 (i + j) (by omega), Int.toNat_natCast]
          exact hg
        · have hm : XSort.merge less (l.drop i) (r.drop j) = l[i] :: XSort.merge less (l.drop (i + 1)) (r.drop j) := by
            rw [List.drop_eq_getElem_cons ci, List.drop_eq_getElem_cons hj', XSort.merge_left cc]
          rw [hm]
          have hg := goL ci
          rw [← rdl ci] at hg ⊢
          rw [← rdr hj', ← rdl ci] at hl2
          rw [← rdr hj', ← rdl ci] at cc
          refine Ev.step (fun k => by rw [impl_sortBy_int.l0]) ?_
          refine ev_pos (by omega) (ev_neg (by omega) (ev_pos (by omega) (ev_pos (by omega) (ev_pos (by omega) (ev_pos (by omega) (ev_bind0 hl2 (ev_neg cc (ev_pos (by omega) (ev_pos (by omega) ?_)))))))))
          rw [w1 i (by omega), w1 (i + j) (by omega), Int.toNat_natCast]
          exact hg
      · have ei : i = l.length := by omega
        have hm : XSort.merge less (l.drop i) (r.drop j) = r[j] :: XSort.merge less (l.drop i) (r.drop (j + 1)) := by
          rw [ei, List.drop_length, List.drop_eq_getElem_cons hj', XSort.merge_nil, XSort.merge_nil]
        rw [hm]
        have hg := goR hj'
        rw [← rdr hj'] at hg ⊢
        refine Ev.step (fun k => by rw [impl_sortBy_int.l0]) ?_
        refine ev_pos (by omega) (ev_neg (by omega) (ev_neg (by omega) (ev_pos (by omega) (ev_pos (by omega) (ev_pos (by omega) (ev_pos (by omega) ?_))))))
        rw [w1 j (by omega), w1 (i + j) (by omega), Int.toNat_natCast]
        exact hg
theorem impl_sortBy_int_evN (lt : Int → Int → Option Bool) (less : Int → Int → Bool) : ∀ (n : Nat) (xs : List Int), xs.length ≤ n → xs.length ≤ 1048576 → (∀ a ∈ xs, ∀ b ∈ xs, lt a b = some (less a b)) → Ev (fun k => impl_sortBy_int.f k xs lt) (XSort.sortN less n xs) := by
  intro n
  induction n with
  | zero =>
    intro xs h0 h1 hlt
    refine Ev.step (fun k => by rw [impl_sortBy_int.f]) ?_
    exact ev_pos (by omega) (Ev.now _)
  | succ n ih =>
    intro xs h0 h1 hlt
    unfold XSort.sortN
    by_cases c : xs.length < 2
    · rw [if_pos c]
      refine Ev.step (fun k => by rw [impl_sortBy_int.f]) ?_
      exact ev_pos (by omega) (Ev.now _)
    · rw [if_neg c]
      have hw : wrap64 ((xs.length : Int) / 2) = ((xs.length / 2 : Nat) : Int) := by rw [wrap_id (by omega) (by omega)]; omega
      have t1 := ih (xs.take (xs.length / 2)) (by rw [List.length_take]; omega) (by rw [List.length_take]; omega) (fun a ha b hb => hlt a (List.mem_of_mem_take ha) b (List.mem_of_mem_take hb))
      have t2 := ih (xs.drop (xs.length / 2)) (by rw [List.length_drop]; omega) (by rw [List.length_drop]; omega) (fun a ha b hb => hlt a (List.mem_of_mem_drop ha) b (List.mem_of_mem_drop hb))
      have l1 : (XSort.sortN less n (xs.take (xs.length / 2))).length = xs.length / 2 := by rw [XSort.sortN_length, List.length_take]; omega
      have l2 : (XSort.sortN less n (xs.drop (xs.length / 2))).length = xs.length - xs.length / 2 := by rw [XSort.sortN_length, List.length_drop]
      have t3 := impl_sortBy_int_merge lt less (XSort.sortN less n (xs.take (xs.length / 2))) (XSort.sortN less n (xs.drop (xs.length / 2))) (by omega)
        (fun a ha b hb => hlt b (List.mem_of_mem_drop ((XSort.sortN_perm _ _).mem_iff.1 hb)) a (List.mem_of_mem_take ((XSort.sortN_perm _ _).mem_iff.1 ha))) _ 0 0 xs [] (by omega) (by omega) rfl (by omega) rfl
      rw [show ((0 : Nat) : Int) = 0 from rfl, show (XSort.sortN less n (xs.take (xs.length / 2))).length + (XSort.sortN less n (xs.drop (xs.length / 2))).length = xs.length by omega, List.drop_zero, List.drop_zero, List.nil_append] at t3
      refine Ev.step (fun k => by rw [impl_sortBy_int.f]) ?_
      rw [hw]
      simp only [Int.toNat_natCast, Option.bind_some, List.nil_append]
      have q1 : (xs.take (xs.length / 2)).length = xs.length / 2 := by rw [List.length_take]; omega
      have q2 : (xs.drop (xs.length / 2)).length = xs.length - xs.length / 2 := List.length_drop
      refine ev_neg (by omega) (ev_pos (by omega) (ev_pos (by omega) (ev_pos (by simp only [List.length_nil]; omega) (ev_pos (by simp only [List.length_nil]; omega) (Ev.bind t1 (Ev.bind t2 t3))))))
theorem impl_sortBy_int_ev (lt : Int → Int → Option Bool) (less : Int → Int → Bool) (xs : List Int) (h1 : xs.length ≤ 1048576) (hlt : ∀ a ∈ xs, ∀ b ∈ xs, lt a b = some (less a b)) : Ev (fun k => impl_sortBy_int.f k xs lt) (XSort.sort less xs) := impl_sortBy_int_evN lt less xs.length xs (Nat.le_refl _) h1 hlt
/-- The places of a list. -/
def idx (n : Nat) : List Int := (List.range n).map fun (i : Nat) => (i : Int)
theorem idx_length (n : Nat) : (idx n).length = n := by simp [idx]
theorem idx_succ (n : Nat) : idx (n + 1) = idx n ++ [(n : Int)] := by simp [idx, List.range_succ]
theorem idx_mem {n : Nat} {x : Int} : x ∈ idx n ↔ ∃ q : Nat, x = (q : Int) ∧ q < n := by
  simp only [idx, List.mem_map, List.mem_range]
  exact ⟨fun ⟨q, h, e⟩ => ⟨q, e.symm, h⟩, fun ⟨q, e, h⟩ => ⟨q, h, e.symm⟩⟩
theorem idx_lt (n : Nat) : (idx n).Pairwise (· < ·) := by
  induction n with
  | zero => exact List.Pairwise.nil
  | succ n ih =>
    rw [idx_succ, List.pairwise_append]
    refine ⟨ih, List.pairwise_singleton _ _, fun a ha b hb => ?_⟩
    obtain ⟨q, rfl, hq⟩ := idx_mem.1 ha
    rw [List.mem_singleton.1 hb]
    omega
theorem ord_ahead {F : Int → Int → Prop} {s : List Int} (h : s.Pairwise F) {t t' : Nat} (h1 : t < t') (h2 : t' < s.length) : F (s[t]'(by omega)) s[t'] := List.pairwise_iff_getElem.1 h t t' (by omega) h2 h1
theorem ord_inj {F : Int → Int → Prop} (hF : ∀ a, ¬ F a a) {s : List Int} (h : s.Pairwise F) {t t' : Nat} (h1 : t < s.length) (h2 : t' < s.length) (e : s[t] = s[t']) : t = t' := by
  rcases Nat.lt_trichotomy t t' with c | c | c
  · have := ord_ahead h c h2
    rw [e] at this
    exact absurd this (hF _)
  · exact c
  · have := ord_ahead h c h1
    rw [e] at this
    exact absurd this (hF _)
theorem has_ev (L : List Int) (x : Int) (hl : L.length ≤ 1048576) : Ev (fun k => spec_l7Has.f k L x) (decide (x ∈ L)) := by
  have key : ∀ (d i : Nat), i + d = L.length → Ev (fun k => spec_l7Has.l0 k L x (i : Int)) (decide (x ∈ L.drop i)) := by
    intro d
    induction d with
    | zero =>
      intro i hi
      have e : i = L.length := by omega
      subst e
      refine Ev.step (fun k => by rw [spec_l7Has.l0]) ?_
      rw [List.drop_length]
      exact ev_neg (Int.lt_irrefl _) (Ev.now _)
    | succ d ih =>
      intro i hi
      have hlt : i < L.length := by omega
      have g1 : (i : Int) < (L.length : Int) := Int.ofNat_lt.2 hlt
      refine Ev.step (fun k => by rw [spec_l7Has.l0]) ?_
      rw [List.drop_eq_getElem_cons hlt]
      refine ev_pos g1 (ev_pos (Int.natCast_nonneg _) ?_)
      by_cases c : rd L (i : Int) = x
      · rw [rd_at hlt] at c
        rw [decide_eq_true (by rw [← c]; exact List.mem_cons_self ..)]
        exact ev_pos (by rw [rd_at hlt]; exact c) (Ev.now _)
      · have e : decide (x ∈ L[i] :: L.drop (i + 1)) = decide (x ∈ L.drop (i + 1)) := by
          rw [Bool.eq_iff_iff, decide_eq_true_eq, decide_eq_true_eq, List.mem_cons]
          rw [rd_at hlt] at c
          exact ⟨fun h => h.resolve_left (fun e => c e.symm), .inr⟩
        rw [e]
        refine ev_neg c ?_
        rw [wrap_succ hlt (by omega)]
        exact ih (i + 1) (by omega)
  have := key L.length 0 (by omega)
  rw [List.drop_zero] at this
  unfold spec_l7Has.f
  exact this
theorem rate_eq (a : Int) : spec_l13Rate.f a = some (decide (0 ≤ a ∧ a ≤ 100000)) := by
  unfold spec_l13Rate.f
  rw [spec_l1In_eq]
  rfl
/-- What a bill must be. -/
def BillIs (x : S129) : Prop := (0 ≤ x.f0 ∧ x.f0 ≤ 40000) ∧ (0 ≤ x.f1 ∧ x.f1 ≤ 40000) ∧ (0 ≤ x.f2 ∧ x.f2 ≤ 100000) ∧ (1 ≤ x.f3 ∧ x.f3 ≤ 100000000000)
def du (l : List S129) (a : Int) : Int := (rd_T129 l a).f0
def un (l : List S129) (a : Int) : Int := (rd_T129 l a).f1
def ra (l : List S129) (a : Int) : Int := (rd_T129 l a).f2
def am (l : List S129) (a : Int) : Int := (rd_T129 l a).f3
/-- Which one is paid ahead. -/
def Fo (l : List S129) (a2 a b : Int) : Prop := (du l a ≤ a2 ∧ a2 < du l b) ∨ (du l a ≤ a2 ∧ du l b ≤ a2 ∧ (du l a < du l b ∨ (du l a = du l b ∧ (am l b < am l a ∨ (am l a = am l b ∧ a < b))))) ∨ (a2 < du l a ∧ a2 < du l b ∧ (ra l b < ra l a ∨ (ra l a = ra l b ∧ a < b)))
theorem fo_irr (l : List S129) (a2 a : Int) : ¬ Fo l a2 a a := by unfold Fo; omega
theorem fo_asym (l : List S129) (a2 a b : Int) (h : Fo l a2 a b) (h' : Fo l a2 b a) : False := by unfold Fo at h h'; omega
/-- Must it be paid; can it be paid early. -/
def mustB (l : List S129) (a2 a : Int) : Bool := decide (du l a ≤ a2)
def canB (l : List S129) (a1 a2 a : Int) : Bool := decide (a2 < du l a ∧ a1 ≤ un l a ∧ un l a ≤ a2 ∧ 0 < ra l a)
def less1 (l : List S129) (a b : Int) : Bool := decide (du l a < du l b ∨ (du l a = du l b ∧ am l b < am l a))
def less2 (l : List S129) (a b : Int) : Bool := decide (ra l b < ra l a)
def mustL (l : List S129) (a2 : Int) (i : Nat) : List Int := (idx i).filter (mustB l a2)
def canL (l : List S129) (a1 a2 : Int) (i : Nat) : List Int := (idx i).filter (canB l a1 a2)
def srtP (l : List S129) (a1 a2 : Int) : List Int := XSort.sort (less1 l) (mustL l a2 l.length) ++ XSort.sort (less2 l) (canL l a1 a2 l.length)
theorem bill_at {l : List S129} (h : ∀ x ∈ l, BillIs x) {q : Nat} (hq : q < l.length) : (0 ≤ du l (q : Int) ∧ du l (q : Int) ≤ 40000) ∧ (0 ≤ un l (q : Int) ∧ un l (q : Int) ≤ 40000) ∧ (0 ≤ ra l (q : Int) ∧ ra l (q : Int) ≤ 100000) ∧ (1 ≤ am l (q : Int) ∧ am l (q : Int) ≤ 100000000000) := by
  have hrd : rd_T129 l (q : Int) = l[q] := getD_at hq _
  unfold du un ra am
  rw [hrd]
  exact h _ (List.getElem_mem hq)
theorem srtP_mem (l : List S129) (a1 a2 x : Int) : x ∈ srtP l a1 a2 ↔ ∃ q : Nat, x = (q : Int) ∧ q < l.length ∧ (du l x ≤ a2 ∨ (a2 < du l x ∧ a1 ≤ un l x ∧ un l x ≤ a2 ∧ 0 < ra l x)) := by
  unfold srtP
  rw [List.mem_append, (XSort.sort_perm _).mem_iff, (XSort.sort_perm _).mem_iff]
  unfold mustL canL mustB canB
  rw [List.mem_filter, List.mem_filter, decide_eq_true_eq, decide_eq_true_eq, idx_mem]
  constructor
  · rintro (⟨⟨q, e, h⟩, h2⟩ | ⟨⟨q, e, h⟩, h2⟩)
    · exact ⟨q, e, h, .inl h2⟩
    · exact ⟨q, e, h, .inr h2⟩
  · rintro ⟨q, e, h, h2 | h2⟩
    · exact .inl ⟨⟨q, e, h⟩, h2⟩
    · exact .inr ⟨⟨q, e, h⟩, h2⟩
theorem srtP_fore {l : List S129} (h : ∀ x ∈ l, BillIs x) (a1 a2 : Int) : (srtP l a1 a2).Pairwise (Fo l a2) := by
  have inM : ∀ x ∈ mustL l a2 l.length, (∃ q : Nat, x = (q : Int) ∧ q < l.length) ∧ du l x ≤ a2 := by
    intro x hx
    unfold mustL mustB at hx
    rw [List.mem_filter, decide_eq_true_eq] at hx
    exact ⟨idx_mem.1 hx.1, hx.2⟩
  have inC : ∀ x ∈ canL l a1 a2 l.length, (∃ q : Nat, x = (q : Int) ∧ q < l.length) ∧ a2 < du l x := by
    intro x hx
    unfold canL canB at hx
    rw [List.mem_filter, decide_eq_true_eq] at hx
    exact ⟨idx_mem.1 hx.1, hx.2.1⟩
  unfold srtP
  rw [List.pairwise_append]
  refine ⟨?_, ?_, ?_⟩
  · have := XSort.sort_by_key (fun a => du l a * 1000000000000 - am l a) (· < ·) (fun a b c h1 h2 => by omega) (mustL l a2 l.length) ((idx_lt _).filter _) (less1 l) (fun a ha b hb => by
      obtain ⟨⟨p, rfl, hp⟩, _⟩ := inM a ha
      obtain ⟨⟨q, rfl, hq⟩, _⟩ := inM b hb
      have h1 := bill_at h hp
      have h2 := bill_at h hq
      unfold less1
      rw [decide_eq_true_eq]
      omega)
    refine List.Pairwise.imp_of_mem ?_ this
    intro a b ha hb hab
    obtain ⟨⟨p, rfl, hp⟩, m1⟩ := inM a ((XSort.sort_perm _).mem_iff.1 ha)
    obtain ⟨⟨q, rfl, hq⟩, m2⟩ := inM b ((XSort.sort_perm _).mem_iff.1 hb)
    have h1 := bill_at h hp
    have h2 := bill_at h hq
    unfold Fo
    omega
  · have := XSort.sort_by_key (fun a => -ra l a) (· < ·) (fun a b c h1 h2 => by omega) (canL l a1 a2 l.length) ((idx_lt _).filter _) (less2 l) (fun a ha b hb => by
      unfold less2
      rw [decide_eq_true_eq]
      omega)
    refine List.Pairwise.imp_of_mem ?_ this
    intro a b ha hb hab
    obtain ⟨⟨p, rfl, hp⟩, m1⟩ := inC a ((XSort.sort_perm _).mem_iff.1 ha)
    obtain ⟨⟨q, rfl, hq⟩, m2⟩ := inC b ((XSort.sort_perm _).mem_iff.1 hb)
    unfold Fo
    omega
  · intro a ha b hb
    obtain ⟨_, m1⟩ := inM a ((XSort.sort_perm _).mem_iff.1 ha)
    obtain ⟨_, m2⟩ := inC b ((XSort.sort_perm _).mem_iff.1 hb)
    exact .inl ⟨m1, m2⟩
theorem filter_le {p : Int → Bool} (n : Nat) : ((idx n).filter p).length ≤ n := by have := List.length_filter_le p (idx n); rw [idx_length] at this; exact this
theorem srtP_length (l : List S129) (a1 a2 : Int) : (srtP l a1 a2).length ≤ l.length + l.length := by
  unfold srtP
  rw [List.length_append, XSort.sort_length, XSort.sort_length]
  have h1 := filter_le (p := mustB l a2) l.length
  have h2 := filter_le (p := canB l a1 a2) l.length
  unfold mustL canL
  omega
/-- The reference finds the next one. -/
theorem pick_ev {l : List S129} (hb : ∀ x ∈ l, BillIs x) (hn : l.length ≤ 100) {a1 a2 c : Int} {out : List Int} {t : Nat} (ht : t ≤ (srtP l a1 a2).length) {res : List Int}
    (hend : (t = (srtP l a1 a2).length ∧ res = out) ∨ (∃ h : t < (srtP l a1 a2).length, Ev (fun k => if am l (srtP l a1 a2)[t] ≤ c then (if out.length < 17592186044416 then spec_Propose.l1 k l a1 a2 (wrap64 (c - am l (srtP l a1 a2)[t])) (out ++ [(srtP l a1 a2)[t]]) ((srtP l a1 a2).take t ++ [(srtP l a1 a2)[t]]) else none) else spec_Propose.l1 k l a1 a2 c out ((srtP l a1 a2).take t ++ [(srtP l a1 a2)[t]])) res)) :
    Ev (fun k => spec_Propose.l2 k l a1 a2 c out ((srtP l a1 a2).take t) (-1) 0) res := by
  obtain ⟨s, hs⟩ : ∃ s, s = srtP l a1 a2 := ⟨_, rfl⟩
  have hfo := srtP_fore hb a1 a2
  have hmem := srtP_mem l a1 a2
  have hsl := srtP_length l a1 a2
  rw [← hs] at ht hend hfo hmem hsl ⊢
  have hseen : (s.take t).length = t := by rw [List.length_take]; omega
  have final : ∀ b : Int, ((b = -1 ∧ ∀ j : Nat, j < l.length → (j : Int) ∈ s → (j : Int) ∈ s.take t) ∨ (∃ q : Nat, b = (q : Int) ∧ q < l.length ∧ b ∈ s ∧ b ∉ s.take t ∧ ∀ j : Nat, j < l.length → (j : Int) ∈ s → (j : Int) ∉ s.take t → (j : Int) = b ∨ Fo l a2 b (j : Int))) → (b = -1 ∧ t = s.length) ∨ (∃ h : t < s.length, b = s[t]) := by
    rintro b (⟨rfl, h⟩ | ⟨q, rfl, hq, h1, h2, h3⟩)
    · refine .inl ⟨rfl, ?_⟩
      rcases Nat.lt_or_ge t s.length with g | g
      · exfalso
        obtain ⟨j, ej, hj, _⟩ := (hmem _).1 (List.getElem_mem g)
        have := h j hj (by rw [← ej]; exact List.getElem_mem g)
        obtain ⟨u, hu, eu⟩ := List.getElem_of_mem this
        rw [List.getElem_take] at eu
        have := ord_inj (fo_irr l a2) hfo (t := u) (t' := t) (by rw [hseen] at hu; omega) g (by rw [eu, ej])
        rw [hseen] at hu
        omega
      · omega
    · obtain ⟨u, hu, eu⟩ := List.getElem_of_mem h1
      have hut : t ≤ u := by
        rcases Nat.lt_or_ge u t with g | g
        · exfalso
          refine h2 ?_
          rw [← eu]
          exact List.mem_take_iff_getElem.2 ⟨u, by omega, rfl⟩
        · exact g
      have g : t < s.length := by omega
      refine .inr ⟨g, ?_⟩
      obtain ⟨j, ej, hj, _⟩ := (hmem _).1 (List.getElem_mem g)
      have hnt : s[t] ∉ s.take t := by
        intro hx
        obtain ⟨v, hv, ev⟩ := List.getElem_of_mem hx
        rw [List.getElem_take] at ev
        have := ord_inj (fo_irr l a2) hfo (t := v) (t' := t) (by rw [hseen] at hv; omega) g ev
        rw [hseen] at hv
        omega
      rcases h3 j hj (by rw [← ej]; exact List.getElem_mem g) (by rw [← ej]; exact hnt) with e | e
      · rw [ej, e]
      · rcases Nat.lt_or_ge t u with g2 | g2
        · have := ord_ahead hfo g2 hu
          rw [eu, ej] at this
          exact (fo_asym _ _ _ _ e this).elim
        · have : u = t := by omega
          subst this
          exact eu.symm
  have key : ∀ (d m : Nat) (b : Int), m + d = l.length → ((b = -1 ∧ ∀ j : Nat, j < m → (j : Int) ∈ s → (j : Int) ∈ s.take t) ∨ (∃ q : Nat, b = (q : Int) ∧ q < m ∧ b ∈ s ∧ b ∉ s.take t ∧ ∀ j : Nat, j < m → (j : Int) ∈ s → (j : Int) ∉ s.take t → (j : Int) = b ∨ Fo l a2 b (j : Int))) → Ev (fun k => spec_Propose.l2 k l a1 a2 c out (s.take t) b (m : Int)) res := by
    intro d
    induction d with
    | zero =>
      intro m b hm hbm
      have e : m = l.length := by omega
      subst e
      refine Ev.step (fun k => by rw [spec_Propose.l2]) ?_
      refine ev_neg (Int.lt_irrefl _) ?_
      rcases final b hbm with ⟨rfl, e⟩ | ⟨g, e⟩
      · rcases hend with ⟨_, rfl⟩ | ⟨g, _⟩
        · exact ev_pos (by decide) (Ev.now _)
        · omega
      · rcases hend with ⟨g2, _⟩ | ⟨_, he⟩
        · omega
        · obtain ⟨j, ej, hj, _⟩ := (hmem _).1 (List.getElem_mem g)
          have e0 : b = (j : Int) := by rw [e, ej]
          rw [← e] at he
          have g1 : (s.take t).length < 17592186044416 := by rw [hseen]; exact Nat.lt_of_le_of_lt (show t ≤ 200 by omega) (by decide)
          refine ev_neg (by omega) (ev_pos g1 (ev_bind0 rfl (ev_pos (by omega) (ev_pos (by omega) ?_))))
          exact he
    | succ d ih =>
      intro m b hm hbm
      have hlt : m < l.length := by omega
      have g1 : (m : Int) < (l.length : Int) := Int.ofNat_lt.2 hlt
      have hw := Aside0.mk (wrap_succ hlt (by omega))
      have hrd : rd_T129 l (m : Int) = l[m] := getD_at hlt _
      -- it is left aside
      have skip : ((m : Int) ∈ s → (m : Int) ∈ s.take t) → Ev (fun k => spec_Propose.l2 k l a1 a2 c out (s.take t) b ((m + 1 : Nat) : Int)) res := fun hno => ih (m + 1) b (by omega) (by
        rcases hbm with ⟨e, h⟩ | ⟨q, e, hq, h1, h2, h3⟩
        · refine .inl ⟨e, fun j hj hjs => ?_⟩
          rcases Nat.lt_or_ge j m with g | g
          · exact h j g hjs
          · have : j = m := by omega
            subst this
            exact hno hjs
        · refine .inr ⟨q, e, by omega, h1, h2, fun j hj hjs hjn => ?_⟩
          rcases Nat.lt_or_ge j m with g | g
          · exact h3 j g hjs hjn
          · have : j = m := by omega
            subst this
            exact absurd (hno hjs) hjn)
      -- it stays behind
      have stay : (m : Int) ∈ s → b ≠ -1 → Fo l a2 b (m : Int) → Ev (fun k => spec_Propose.l2 k l a1 a2 c out (s.take t) b ((m + 1 : Nat) : Int)) res := fun hms hb0 hf => ih (m + 1) b (by omega) (by
        rcases hbm with ⟨e, h⟩ | ⟨q, e, hq, h1, h2, h3⟩
        · exact absurd e hb0
        · refine .inr ⟨q, e, by omega, h1, h2, fun j hj hjs hjn => ?_⟩
          rcases Nat.lt_or_ge j m with g | g
          · exact h3 j g hjs hjn
          · have : j = m := by omega
            subst this
            exact .inr hf)
      -- it comes ahead
      have take_ : (m : Int) ∈ s → (m : Int) ∉ s.take t → (b = -1 ∨ ∀ j : Int, j = b ∨ Fo l a2 b j → Fo l a2 (m : Int) j) → Ev (fun k => spec_Propose.l2 k l a1 a2 c out (s.take t) (m : Int) ((m + 1 : Nat) : Int)) res := fun hms hmn hf => ih (m + 1) (m : Int) (by omega) (by
        refine .inr ⟨m, rfl, by omega, hms, hmn, fun j hj hjs hjn => ?_⟩
        rcases Nat.lt_or_ge j m with g | g
        · rcases hbm with ⟨e, h⟩ | ⟨q, e, hq, h1, h2, h3⟩
          · exact absurd (h j g hjs) hjn
          · rcases hf with e2 | hf
            · omega
            · exact .inr (hf _ (h3 j g hjs hjn))
        · exact .inl (by omega))
      have jn : ∀ (mu : Bool), mu = mustB l a2 (m : Int) → Ev (fun k => spec_Propose.j5 k l a1 a2 c out (s.take t) b (m : Int) mu true) res ∨ True := fun _ _ => .inr trivial
      have j5skip : ∀ (mu : Bool), ((m : Int) ∈ s → (m : Int) ∈ s.take t) → Ev (fun k => spec_Propose.j5 k l a1 a2 c out (s.take t) b (m : Int) mu true) res := by
        intro mu hno
        refine Ev.step (fun k => by rw [spec_Propose.j5]) ?_
        refine ev_pos rfl ?_
        rw [hw.out]
        exact skip hno
      have j5go : ∀ (mu : Bool), mu = decide (du l (m : Int) ≤ a2) → (m : Int) ∈ s → (m : Int) ∉ s.take t → Ev (fun k => spec_Propose.j5 k l a1 a2 c out (s.take t) b (m : Int) mu false) res := by
        intro mu hmu hms hmn
        refine Ev.step (fun k => by rw [spec_Propose.j5]) ?_
        refine ev_neg (by decide) ?_
        rw [hw.out]
        by_cases cb : b < 0
        · refine ev_pos cb (take_ hms hmn (.inl ?_))
          rcases hbm with ⟨e, _⟩ | ⟨q, e, _⟩
          · exact e
          · omega
        refine ev_neg cb ?_
        have hq : ∃ q : Nat, b = (q : Int) ∧ q < m ∧ b ∈ s := by
          rcases hbm with ⟨e, _⟩ | ⟨q, e, hq, h1, _⟩
          · omega
          · exact ⟨q, e, hq, h1⟩
        obtain ⟨q, eq, hqm, hqs⟩ := hq
        have hq0 : (0 : Int) ≤ b := by omega
        have hq1 : b < (l.length : Int) := by omega
        have hqlt : b < (m : Int) := by omega
        refine ev_pos hq0 (ev_pos hq1 ?_)
        have e0 : (rd_T129 l b).f0 = du l b := rfl
        have e3 : (rd_T129 l b).f3 = am l b := rfl
        have e2 : (rd_T129 l b).f2 = ra l b := rfl
        have f0 : (rd_T129 l (m : Int)).f0 = du l (m : Int) := rfl
        have f3 : (rd_T129 l (m : Int)).f3 = am l (m : Int) := rfl
        have f2 : (rd_T129 l (m : Int)).f2 = ra l (m : Int) := rfl
        have hb0 : b ≠ -1 := by omega
        have ahead : (∀ j : Int, j = b ∨ Fo l a2 b j → Fo l a2 (m : Int) j) → Ev (fun k => spec_Propose.l2 k l a1 a2 c out (s.take t) (m : Int) ((m + 1 : Nat) : Int)) res := fun h => take_ hms hmn (.inr h)
        have behind : Fo l a2 b (m : Int) → Ev (fun k => spec_Propose.l2 k l a1 a2 c out (s.take t) b ((m + 1 : Nat) : Int)) res := stay hms hb0
        clear skip stay take_ jn j5skip hbm final hend ih
        simp only [e0, e3, e2, f0, f3, f2]
        by_cases cm : du l (m : Int) ≤ a2
        · have hmu1 : mu = true := by rw [hmu]; exact decide_eq_true cm
          subst hmu1
          by_cases cq : du l b ≤ a2
          · rw [decide_eq_true cq]
            have j6t : Ev (fun k => spec_Propose.j6 k l a1 a2 c out (s.take t) b (m : Int) true true (du l b) (rd_T129 l b).f1 (ra l b) (am l b)) res ∨ ¬ (du l (m : Int) < du l b ∨ (du l (m : Int) = du l b ∧ am l b < am l (m : Int))) := by
              by_cases cc : du l (m : Int) < du l b ∨ (du l (m : Int) = du l b ∧ am l b < am l (m : Int))
              · refine .inl ?_
                refine Ev.step (fun k => by rw [spec_Propose.j6]) ?_
                refine ev_pos rfl ?_
                rw [hw.out]
                exact ahead (fun j hj => by
                  rcases hj with rfl | hj
                  · unfold Fo; omega
                  · unfold Fo at hj ⊢; omega)
              · exact .inr cc
            have j6f : ¬ (du l (m : Int) < du l b ∨ (du l (m : Int) = du l b ∧ am l b < am l (m : Int))) → Ev (fun k => spec_Propose.j6 k l a1 a2 c out (s.take t) b (m : Int) true false (du l b) (rd_T129 l b).f1 (ra l b) (am l b)) res := by
              intro cc
              refine Ev.step (fun k => by rw [spec_Propose.j6]) ?_
              refine ev_neg (by decide) (ev_pos rfl ?_)
              rw [hw.out]
              exact behind (by unfold Fo; omega)
            refine ev_neg (by decide) (ev_pos rfl (ev_pos (Int.natCast_nonneg _) (ev_pos g1 ?_)))
            by_cases c1 : du l (m : Int) < du l b
            · refine ev_pos c1 ?_
              rcases j6t with h | h
              · exact h
              · exact absurd (.inl c1) h
            · refine ev_neg c1 ?_
              by_cases c2 : du l (m : Int) = du l b
              · refine ev_pos c2 ?_
                by_cases c3 : am l (m : Int) > am l b
                · rw [decide_eq_true c3]
                  rcases j6t with h | h
                  · exact h
                  · exact absurd (.inr ⟨c2, c3⟩) h
                · rw [decide_eq_false c3]
                  exact j6f (fun h => by omega)
              · refine ev_neg c2 (j6f (fun h => by omega))
          · rw [decide_eq_false cq]
            refine ev_pos rfl (ev_pos rfl (ahead (fun j hj => by
              rcases hj with rfl | hj
              · unfold Fo; omega
              · unfold Fo at hj ⊢; omega)))
        · have hmu1 : mu = false := by rw [hmu]; exact decide_eq_false cm
          subst hmu1
          by_cases cq : du l b ≤ a2
          · rw [decide_eq_true cq]
            exact ev_pos rfl (ev_neg (by decide) (behind (by unfold Fo; omega)))
          · rw [decide_eq_false cq]
            refine ev_neg (by decide) (ev_neg (by decide) ?_)
            refine Ev.step (fun k => by rw [spec_Propose.j6]) ?_
            refine ev_neg (by decide) (ev_neg (by decide) (ev_pos (Int.natCast_nonneg _) (ev_pos g1 ?_)))
            rw [hw.out]
            simp only [f2]
            by_cases c3 : ra l (m : Int) > ra l b
            · refine ev_pos c3 (ahead (fun j hj => by
                rcases hj with rfl | hj
                · unfold Fo; omega
                · unfold Fo at hj ⊢; omega))
            · exact ev_neg c3 (behind (by unfold Fo; omega))
      have hh := has_ev (s.take t) (m : Int) (by omega)
      have inS : (m : Int) ∈ s ↔ (du l (m : Int) ≤ a2 ∨ (a2 < du l (m : Int) ∧ a1 ≤ un l (m : Int) ∧ un l (m : Int) ≤ a2 ∧ 0 < ra l (m : Int))) := by
        rw [hmem]
        exact ⟨fun ⟨q, _, _, h⟩ => h, fun h => ⟨m, rfl, hlt, h⟩⟩
      have j4 : ∀ (mu ea : Bool), mu = decide (du l (m : Int) ≤ a2) → ((mu = true ∨ ea = true) ↔ (m : Int) ∈ s) → Ev (fun k => spec_Propose.j4 k l a1 a2 c out (s.take t) b (m : Int) mu ea) res := by
        intro mu ea hmu hin
        refine Ev.step (fun k => by rw [spec_Propose.j4]) ?_
        refine Ev.bind hh ?_
        by_cases ct : (m : Int) ∈ s.take t
        · exact ev_pos (decide_eq_true ct) (j5skip mu (fun _ => ct))
        · refine ev_neg (by rw [decide_eq_true_eq]; exact ct) ?_
          by_cases cm : mu = true
          · exact ev_pos cm (j5go mu hmu (hin.1 (.inl cm)) ct)
          · refine ev_neg cm ?_
            by_cases ce : ea = true
            · rw [ce]
              exact j5go mu hmu (hin.1 (.inr ce)) ct
            · rw [Bool.eq_false_iff.2 ce]
              exact j5skip mu (fun h => by
                rcases hin.2 h with h | h
                · exact absurd h cm
                · exact absurd h ce)
      have f0 : (rd_T129 l (m : Int)).f0 = du l (m : Int) := rfl
      have f1 : (rd_T129 l (m : Int)).f1 = un l (m : Int) := rfl
      have f2 : (rd_T129 l (m : Int)).f2 = ra l (m : Int) := rfl
      refine Ev.step (fun k => by rw [spec_Propose.l2]) ?_
      simp only [f0, f1, f2]
      refine ev_pos g1 (ev_pos (Int.natCast_nonneg _) ?_)
      clear skip stay take_ jn j5skip j5go hbm final hend ih
      by_cases cm : du l (m : Int) ≤ a2
      · refine ev_pos cm (j4 true false (by rw [decide_eq_true cm]) ⟨fun _ => inS.2 (.inl cm), fun _ => .inl rfl⟩)
      · refine ev_neg cm (ev_bind0 (spec_l1In_eq ..) ?_)
        by_cases cu : a1 ≤ un l (m : Int) ∧ un l (m : Int) ≤ a2
        · refine ev_pos (decide_eq_true cu) ?_
          by_cases cr : ra l (m : Int) > 0
          · rw [decide_eq_true cr]
            exact j4 false true (by rw [decide_eq_false cm]) ⟨fun _ => inS.2 (.inr ⟨by omega, cu.1, cu.2, cr⟩), fun _ => .inr rfl⟩
          · rw [decide_eq_false cr]
            exact j4 false false (by rw [decide_eq_false cm]) ⟨fun h => by simp at h, fun h => by have := inS.1 h; omega⟩
        · refine ev_neg (by rw [decide_eq_true_eq]; exact cu) ?_
          exact j4 false false (by rw [decide_eq_false cm]) ⟨fun h => by simp at h, fun h => by have := inS.1 h; omega⟩
  exact key l.length 0 (-1) (by omega) (.inl ⟨rfl, fun j hj => absurd hj (Nat.not_lt_zero _)⟩)
theorem pay_ev {l : List S129} (hb : ∀ x ∈ l, BillIs x) (hn : l.length ≤ 100) (a1 a2 : Int) : ∀ (d t : Nat) (c : Int) (out : List Int), t + d = (srtP l a1 a2).length → out.length ≤ t → 0 ≤ c → c ≤ 100000000000 →
    ∃ res, Ev (fun k => impl_Propose.l1 k c out (srtP l a1 a2) ((srtP l a1 a2).length : Int) (t : Int) l) res ∧ Ev (fun k => spec_Propose.l1 k l a1 a2 c out ((srtP l a1 a2).take t)) res ∧ res.length ≤ 200 := by
  have hsl := srtP_length l a1 a2
  intro d
  induction d with
  | zero =>
    intro t c out ht ho h0 h1
    refine ⟨out, ?_, ?_, by omega⟩
    · refine Ev.step (fun k => by rw [impl_Propose.l1]) ?_
      exact ev_neg (by omega) (Ev.now _)
    · refine Ev.step (fun k => by rw [spec_Propose.l1]) ?_
      exact pick_ev hb hn (by omega) (.inl ⟨by omega, rfl⟩)
  | succ d ih =>
    intro t c out ht ho h0 h1
    have hlt : t < (srtP l a1 a2).length := by omega
    obtain ⟨q, eq, hq, _⟩ := (srtP_mem l a1 a2 _).1 (List.getElem_mem hlt)
    have hbq := (bill_at hb hq).2.2.2
    have g1 : (t : Int) < ((srtP l a1 a2).length : Int) := Int.ofNat_lt.2 hlt
    have g2 : (q : Int) < (l.length : Int) := Int.ofNat_lt.2 hq
    have g3 : out.length < 17592186044416 := Nat.lt_of_le_of_lt (show out.length ≤ 200 by omega) (by decide)
    have hrd : rd (srtP l a1 a2) (t : Int) = (q : Int) := by rw [rd_at hlt, eq]
    have htk : (srtP l a1 a2).take t ++ [(q : Int)] = (srtP l a1 a2).take (t + 1) := by rw [List.take_add_one, List.getElem?_eq_getElem hlt, eq]; rfl
    have e3 : (rd_T129 l (q : Int)).f3 = am l (q : Int) := rfl
    by_cases cc : am l (q : Int) ≤ c
    · obtain ⟨res, r1, r2, r3⟩ := ih (t + 1) (c - am l (q : Int)) (out ++ [(q : Int)]) (by omega) (by rw [List.length_append, List.length_singleton]; omega) (by omega) (by omega)
      have ew := Aside0.mk (show wrap64 (c - am l (q : Int)) = c - am l (q : Int) from wrap_id (by omega) (by omega))
      refine ⟨res, ?_, ?_, r3⟩
      · refine Ev.step (fun k => by rw [impl_Propose.l1]) ?_
        simp only [hrd, e3]
        refine ev_pos g1 (ev_pos (Int.natCast_nonneg _) (ev_pos g1 (ev_pos (Int.natCast_nonneg _) (ev_pos g2 (ev_pos cc (ev_pos g3 ?_))))))
        rw [ew.out, wrap_succ hlt (by omega)]
        exact r1
      · refine Ev.step (fun k => by rw [spec_Propose.l1]) ?_
        refine pick_ev hb hn (by omega) (.inr ⟨hlt, ?_⟩)
        rw [eq]
        refine ev_pos cc (ev_pos g3 ?_)
        rw [ew.out, htk]
        exact r2
    · obtain ⟨res, r1, r2, r3⟩ := ih (t + 1) c out (by omega) (by omega) h0 h1
      refine ⟨res, ?_, ?_, r3⟩
      · refine Ev.step (fun k => by rw [impl_Propose.l1]) ?_
        simp only [hrd, e3]
        refine ev_pos g1 (ev_pos (Int.natCast_nonneg _) (ev_pos g1 (ev_pos (Int.natCast_nonneg _) (ev_pos g2 (ev_neg cc ?_)))))
        rw [wrap_succ hlt (by omega)]
        exact r1
      · refine Ev.step (fun k => by rw [spec_Propose.l1]) ?_
        refine pick_ev hb hn (by omega) (.inr ⟨hlt, ?_⟩)
        rw [eq]
        refine ev_neg cc ?_
        rw [htk]
        exact r2
theorem mustL_succ (l : List S129) (a2 : Int) (i : Nat) : mustL l a2 (i + 1) = if du l (i : Int) ≤ a2 then mustL l a2 i ++ [(i : Int)] else mustL l a2 i := by
  unfold mustL
  rw [idx_succ, List.filter_append]
  by_cases c : du l (i : Int) ≤ a2
  · rw [if_pos c, List.filter_cons, if_pos (show mustB l a2 (i : Int) = true from decide_eq_true c)]
    rfl
  · rw [if_neg c, List.filter_cons, if_neg (show ¬ mustB l a2 (i : Int) = true by unfold mustB; rw [decide_eq_true_eq]; exact c)]
    simp
theorem canL_succ (l : List S129) (a1 a2 : Int) (i : Nat) : canL l a1 a2 (i + 1) = if a2 < du l (i : Int) ∧ a1 ≤ un l (i : Int) ∧ un l (i : Int) ≤ a2 ∧ 0 < ra l (i : Int) then canL l a1 a2 i ++ [(i : Int)] else canL l a1 a2 i := by
  unfold canL
  rw [idx_succ, List.filter_append]
  by_cases c : a2 < du l (i : Int) ∧ a1 ≤ un l (i : Int) ∧ un l (i : Int) ≤ a2 ∧ 0 < ra l (i : Int)
  · rw [if_pos c, List.filter_cons, if_pos (show canB l a1 a2 (i : Int) = true from decide_eq_true c)]
    rfl
  · rw [if_neg c, List.filter_cons, if_neg (show ¬ canB l a1 a2 (i : Int) = true by unfold canB; rw [decide_eq_true_eq]; exact c)]
    simp
theorem implP_ev (l : List S129) (hn : l.length ≤ 100) (a1 a2 a3 : Int) : ((∀ x ∈ l, BillIs x) ∧ ∀ r, Ev (fun k => impl_Propose.l1 k a3 [] (srtP l a1 a2) ((srtP l a1 a2).length : Int) 0 l) r → Ev (fun k => impl_Propose.l0 k a1 a2 a3 [] [] l (l.length : Int) 0 l) r) ∨ (¬ (∀ x ∈ l, BillIs x) ∧ Ev (fun k => impl_Propose.l0 k a1 a2 a3 [] [] l (l.length : Int) 0 l) []) := by
  have key : ∀ (d i : Nat), i + d = l.length → (∀ j (hj : j < l.length), j < i → BillIs l[j]) → ((∀ x ∈ l, BillIs x) ∧ ∀ r, Ev (fun k => impl_Propose.l1 k a3 [] (srtP l a1 a2) ((srtP l a1 a2).length : Int) 0 l) r → Ev (fun k => impl_Propose.l0 k a1 a2 a3 (mustL l a2 i) (canL l a1 a2 i) l (l.length : Int) (i : Int) l) r) ∨ (¬ (∀ x ∈ l, BillIs x) ∧ Ev (fun k => impl_Propose.l0 k a1 a2 a3 (mustL l a2 i) (canL l a1 a2 i) l (l.length : Int) (i : Int) l) []) := by
    intro d
    induction d with
    | zero =>
      intro i hi hj
      have e : i = l.length := by omega
      subst e
      have hall : ∀ x ∈ l, BillIs x := fun x hx => by
        obtain ⟨j, hj2, rfl⟩ := List.getElem_of_mem hx
        exact hj j hj2 hj2
      refine .inl ⟨hall, fun r hr => ?_⟩
      have l1 := filter_le (p := mustB l a2) l.length
      have l2 := filter_le (p := canB l a1 a2) l.length
      have s1 := impl_sortBy_int_ev (fun a_ b_ => impl_Propose_1.f a_ b_ l) (less1 l) (mustL l a2 l.length) (by unfold mustL; omega) (fun a ha b hb => by
        unfold mustL at ha hb
        obtain ⟨p, rfl, hp⟩ := idx_mem.1 (List.mem_filter.1 ha).1
        obtain ⟨q, rfl, hq⟩ := idx_mem.1 (List.mem_filter.1 hb).1
        unfold impl_Propose_1.f less1
        rw [if_pos (by omega), if_pos (by omega), if_pos (by omega), if_pos (by omega)]
        show (if du l (p : Int) < du l (q : Int) then some true else if du l (p : Int) = du l (q : Int) then some (decide (am l (p : Int) > am l (q : Int))) else some false) = _
        by_cases c1 : du l (p : Int) < du l (q : Int)
        · rw [if_pos c1, decide_eq_true (.inl c1)]
        · rw [if_neg c1]
          by_cases c2 : du l (p : Int) = du l (q : Int)
          · rw [if_pos c2]
            congr 1
            rw [Bool.eq_iff_iff, decide_eq_true_eq, decide_eq_true_eq]
            exact ⟨fun h => .inr ⟨c2, h⟩, fun h => by omega⟩
          · rw [if_neg c2, decide_eq_false (by omega)])
      have s2 := impl_sortBy_int_ev (fun a_ b_ => impl_Propose_2.f a_ b_ l) (less2 l) (canL l a1 a2 l.length) (by unfold canL; omega) (fun a ha b hb => by
        unfold canL at ha hb
        obtain ⟨p, rfl, hp⟩ := idx_mem.1 (List.mem_filter.1 ha).1
        obtain ⟨q, rfl, hq⟩ := idx_mem.1 (List.mem_filter.1 hb).1
        unfold impl_Propose_2.f less2
        rw [if_pos (by omega), if_pos (by omega), if_pos (by omega), if_pos (by omega)]
        rfl)
      have g4 : (XSort.sort (less1 l) (mustL l a2 l.length)).length + (XSort.sort (less2 l) (canL l a1 a2 l.length)).length < 17592186044416 := by
        rw [XSort.sort_length, XSort.sort_length]
        exact Nat.lt_of_le_of_lt (show _ ≤ 200 by unfold mustL canL; omega) (by decide)
      refine Ev.step (fun k => by rw [impl_Propose.l0]) ?_
      refine ev_neg (Int.lt_irrefl _) (Ev.bind s1 (Ev.bind s2 (ev_pos g4 (ev_bind0 rfl ?_))))
      exact hr
    | succ d ih =>
      intro i hi hj
      have hlt : i < l.length := by omega
      have g1 : (i : Int) < (l.length : Int) := Int.ofNat_lt.2 hlt
      have hrd : rd_T129 l (i : Int) = l[i] := getD_at hlt _
      have lm := filter_le (p := mustB l a2) i
      have lc := filter_le (p := canB l a1 a2) i
      have gm : (mustL l a2 i).length < 17592186044416 := Nat.lt_of_le_of_lt (show _ ≤ 200 by unfold mustL; omega) (by decide)
      have gc : (canL l a1 a2 i).length < 17592186044416 := Nat.lt_of_le_of_lt (show _ ≤ 200 by unfold canL; omega) (by decide)
      have bad : ∀ (x0 x1 x2 x3 : Int), Ev (fun k => impl_Propose.j2 k a1 a2 a3 (mustL l a2 i) (canL l a1 a2 i) (i : Int) l (l.length : Int) (i : Int) true l x0 x1 x2 x3) [] := fun x0 x1 x2 x3 => by
        refine Ev.step (fun k => by rw [impl_Propose.j2]) ?_
        exact ev_pos rfl (Ev.now _)
      by_cases c0 : 0 ≤ l[i].f0 ∧ l[i].f0 ≤ 40000
      case neg =>
        refine .inr ⟨fun h => c0 (h _ (List.getElem_mem hlt)).1, ?_⟩
        refine Ev.step (fun k => by rw [impl_Propose.l0]) ?_
        simp only [hrd]
        exact ev_pos g1 (ev_pos (Int.natCast_nonneg _) (ev_pos g1 (ev_bind0 (impl_isDay_eq _) (ev_neg (by rw [decide_eq_true_eq]; exact c0) (bad ..)))))
      by_cases c1 : 0 ≤ l[i].f1 ∧ l[i].f1 ≤ 40000
      case neg =>
        refine .inr ⟨fun h => c1 (h _ (List.getElem_mem hlt)).2.1, ?_⟩
        refine Ev.step (fun k => by rw [impl_Propose.l0]) ?_
        simp only [hrd]
        exact ev_pos g1 (ev_pos (Int.natCast_nonneg _) (ev_pos g1 (ev_bind0 (impl_isDay_eq _) (ev_pos (decide_eq_true c0) (ev_bind0 (impl_isDay_eq _) (ev_neg (by rw [decide_eq_true_eq]; exact c1) (bad ..)))))))
      by_cases c2 : 0 ≤ l[i].f2 ∧ l[i].f2 ≤ 100000
      case neg =>
        refine .inr ⟨fun h => c2 (h _ (List.getElem_mem hlt)).2.2.1, ?_⟩
        refine Ev.step (fun k => by rw [impl_Propose.l0]) ?_
        simp only [hrd]
        exact ev_pos g1 (ev_pos (Int.natCast_nonneg _) (ev_pos g1 (ev_bind0 (impl_isDay_eq _) (ev_pos (decide_eq_true c0) (ev_bind0 (impl_isDay_eq _) (ev_pos (decide_eq_true c1) (ev_bind0 (impl_rateOk_eq _) (ev_neg (by rw [decide_eq_true_eq]; exact c2) (bad ..)))))))))
      have head : ∀ r, Ev (fun k => impl_Propose.j2 k a1 a2 a3 (mustL l a2 i) (canL l a1 a2 i) (i : Int) l (l.length : Int) (i : Int) (!decide (1 ≤ l[i].f3 ∧ l[i].f3 ≤ 100000000000)) l l[i].f0 l[i].f1 l[i].f2 l[i].f3) r → Ev (fun k => impl_Propose.l0 k a1 a2 a3 (mustL l a2 i) (canL l a1 a2 i) l (l.length : Int) (i : Int) l) r := by
        intro r hr
        refine Ev.step (fun k => by rw [impl_Propose.l0]) ?_
        simp only [hrd]
        exact ev_pos g1 (ev_pos (Int.natCast_nonneg _) (ev_pos g1 (ev_bind0 (impl_isDay_eq _) (ev_pos (decide_eq_true c0) (ev_bind0 (impl_isDay_eq _) (ev_pos (decide_eq_true c1) (ev_bind0 (impl_rateOk_eq _) (ev_pos (decide_eq_true c2) (ev_bind0 (impl_between_eq ..) hr)))))))))
      by_cases c3 : 1 ≤ l[i].f3 ∧ l[i].f3 ≤ 100000000000
      case neg =>
        refine .inr ⟨fun h => c3 (h _ (List.getElem_mem hlt)).2.2.2, head _ ?_⟩
        rw [decide_eq_false c3]
        exact bad ..
      have ih' := ih (i + 1) (by omega) (fun j hj2 h => by
        rcases Nat.lt_or_ge j i with h1 | h1
        · exact hj j hj2 h1
        · have : j = i := by omega
          subst this
          exact ⟨c0, c1, c2, c3⟩)
      have e0 : l[i].f0 = du l (i : Int) := by unfold du; rw [hrd]
      have e1 : l[i].f1 = un l (i : Int) := by unfold un; rw [hrd]
      have e2 : l[i].f2 = ra l (i : Int) := by unfold ra; rw [hrd]
      rw [mustL_succ, canL_succ] at ih'
      have go : ∀ r, Ev (fun k => impl_Propose.l0 k a1 a2 a3 (if du l (i : Int) ≤ a2 then mustL l a2 i ++ [(i : Int)] else mustL l a2 i) (if a2 < du l (i : Int) ∧ a1 ≤ un l (i : Int) ∧ un l (i : Int) ≤ a2 ∧ 0 < ra l (i : Int) then canL l a1 a2 i ++ [(i : Int)] else canL l a1 a2 i) l (l.length : Int) ((i + 1 : Nat) : Int) l) r → Ev (fun k => impl_Propose.l0 k a1 a2 a3 (mustL l a2 i) (canL l a1 a2 i) l (l.length : Int) (i : Int) l) r := by
        intro r hr
        refine head r ?_
        rw [decide_eq_true c3]
        refine Ev.step (fun k => by rw [impl_Propose.j2]) ?_
        refine ev_neg (by decide) ?_
        rw [wrap_succ hlt (by omega), e0, e1, e2]
        by_cases m0 : du l (i : Int) ≤ a2
        · rw [if_pos m0, if_neg (by omega)] at hr
          exact ev_pos m0 (ev_pos gm hr)
        · rw [if_neg m0] at hr
          refine ev_neg m0 ?_
          by_cases m1 : un l (i : Int) ≥ a1
          · refine ev_pos m1 ?_
            by_cases m2 : un l (i : Int) ≤ a2
            · refine ev_pos m2 ?_
              by_cases m3 : ra l (i : Int) > 0
              · rw [if_pos (by omega)] at hr
                exact ev_pos m3 (ev_pos gc hr)
              · rw [if_neg (by omega)] at hr
                exact ev_neg m3 hr
            · rw [if_neg (by omega)] at hr
              exact ev_neg m2 hr
          · rw [if_neg (by omega)] at hr
            exact ev_neg m1 hr
      rcases ih' with ⟨h1, h2⟩ | ⟨h1, h2⟩
      · exact .inl ⟨h1, fun r hr => go r (h2 r hr)⟩
      · exact .inr ⟨h1, go _ h2⟩
  exact key l.length 0 (by omega) (fun j _ h => absurd h (Nat.not_lt_zero _))
theorem specP_ev (l : List S129) (hn : l.length ≤ 100) (a1 a2 a3 : Int) : ((∀ x ∈ l, BillIs x) ∧ ∀ r, Ev (fun k => spec_Propose.l1 k l a1 a2 a3 [] []) r → Ev (fun k => spec_Propose.l0 k l a1 a2 a3 [] 0) r) ∨ (¬ (∀ x ∈ l, BillIs x) ∧ Ev (fun k => spec_Propose.l0 k l a1 a2 a3 [] 0) []) := by
  refine each_mem_go l (fun k i => spec_Propose.l0 k l a1 a2 a3 [] i) BillIs (fun k => spec_Propose.l1 k l a1 a2 a3 [] []) [] ?_ ?_
  · intro i hlt
    have g1 : (i : Int) < (l.length : Int) := Int.ofNat_lt.2 hlt
    have hrd : rd_T129 l (i : Int) = l[i] := getD_at hlt _
    by_cases c0 : 0 ≤ l[i].f0 ∧ l[i].f0 ≤ 40000
    case neg =>
      refine .inr ⟨fun h => c0 h.1, ?_⟩
      refine Ev.step (fun k => by rw [spec_Propose.l0]) ?_
      simp only [hrd]
      exact ev_pos g1 (ev_pos (Int.natCast_nonneg _) (ev_bind0 (spec_l2Day_eq _) (ev_neg (by rw [decide_eq_true_eq]; exact c0) (Ev.now _))))
    by_cases c1 : 0 ≤ l[i].f1 ∧ l[i].f1 ≤ 40000
    case neg =>
      refine .inr ⟨fun h => c1 h.2.1, ?_⟩
      refine Ev.step (fun k => by rw [spec_Propose.l0]) ?_
      simp only [hrd]
      exact ev_pos g1 (ev_pos (Int.natCast_nonneg _) (ev_bind0 (spec_l2Day_eq _) (ev_pos (decide_eq_true c0) (ev_bind0 (spec_l2Day_eq _) (ev_neg (by rw [decide_eq_true_eq]; exact c1) (Ev.now _))))))
    by_cases c2 : 0 ≤ l[i].f2 ∧ l[i].f2 ≤ 100000
    case neg =>
      refine .inr ⟨fun h => c2 h.2.2.1, ?_⟩
      refine Ev.step (fun k => by rw [spec_Propose.l0]) ?_
      simp only [hrd]
      exact ev_pos g1 (ev_pos (Int.natCast_nonneg _) (ev_bind0 (spec_l2Day_eq _) (ev_pos (decide_eq_true c0) (ev_bind0 (spec_l2Day_eq _) (ev_pos (decide_eq_true c1) (ev_bind0 (rate_eq _) (ev_neg (by rw [decide_eq_true_eq]; exact c2) (Ev.now _))))))))
    by_cases c3 : 1 ≤ l[i].f3 ∧ l[i].f3 ≤ 100000000000
    case neg =>
      refine .inr ⟨fun h => c3 h.2.2.2, ?_⟩
      refine Ev.step (fun k => by rw [spec_Propose.l0]) ?_
      simp only [hrd]
      exact ev_pos g1 (ev_pos (Int.natCast_nonneg _) (ev_bind0 (spec_l2Day_eq _) (ev_pos (decide_eq_true c0) (ev_bind0 (spec_l2Day_eq _) (ev_pos (decide_eq_true c1) (ev_bind0 (rate_eq _) (ev_pos (decide_eq_true c2) (ev_bind0 (spec_l1In_eq ..) (ev_neg (by rw [decide_eq_true_eq]; exact c3) (Ev.now _))))))))))
    refine .inl ⟨⟨c0, c1, c2, c3⟩, fun r hr => ?_⟩
    refine Ev.step (fun k => by rw [spec_Propose.l0]) ?_
    simp only [hrd]
    refine ev_pos g1 (ev_pos (Int.natCast_nonneg _) (ev_bind0 (spec_l2Day_eq _) (ev_pos (decide_eq_true c0) (ev_bind0 (spec_l2Day_eq _) (ev_pos (decide_eq_true c1) (ev_bind0 (rate_eq _) (ev_pos (decide_eq_true c2) (ev_bind0 (spec_l1In_eq ..) (ev_pos (decide_eq_true c3) ?_))))))))) 
    rw [wrap_succ hlt (by omega)]
    exact hr
  · intro r hr
    refine Ev.step (fun k => by rw [spec_Propose.l0]) ?_
    exact ev_neg (Int.lt_irrefl _) hr
theorem propose_ev (l : List S129) (a1 a2 a3 : Int) : ∃ res, Ev (fun k => impl_Propose.f k l a1 a2 a3) res ∧ Ev (fun k => spec_Propose.f k l a1 a2 a3) res ∧ res.length ≤ 200 := by
  have iT : Ev (fun k => impl_Propose.j0 k a1 a2 a3 true l) [] := by
    refine Ev.step (fun k => by rw [impl_Propose.j0]) ?_
    exact ev_pos rfl (Ev.now _)
  have sT : Ev (fun k => spec_Propose.j0 k l a1 a2 a3 [] true) [] := by
    refine Ev.step (fun k => by rw [spec_Propose.j0]) ?_
    exact ev_pos rfl (Ev.now _)
  unfold impl_Propose.f spec_Propose.f
  by_cases c0 : (l.length : Int) > 100
  · exact ⟨[], ev_pos c0 iT, ev_bind0 rfl (ev_pos c0 sT), by simp⟩
  by_cases c1 : 0 ≤ a1 ∧ a1 ≤ 40000
  case neg => exact ⟨[], ev_neg c0 (ev_bind0 (impl_isDay_eq _) (ev_neg (by rw [decide_eq_true_eq]; exact c1) iT)), ev_bind0 rfl (ev_neg c0 (ev_bind0 (spec_l2Day_eq _) (ev_neg (by rw [decide_eq_true_eq]; exact c1) sT))), by simp⟩
  by_cases c2 : 0 ≤ a2 ∧ a2 ≤ 40000
  case neg => exact ⟨[], ev_neg c0 (ev_bind0 (impl_isDay_eq _) (ev_pos (decide_eq_true c1) (ev_bind0 (impl_isDay_eq _) (ev_neg (by rw [decide_eq_true_eq]; exact c2) iT)))), ev_bind0 rfl (ev_neg c0 (ev_bind0 (spec_l2Day_eq _) (ev_pos (decide_eq_true c1) (ev_bind0 (spec_l2Day_eq _) (ev_neg (by rw [decide_eq_true_eq]; exact c2) sT))))), by simp⟩
  by_cases c3 : a2 ≤ a1
  · exact ⟨[], ev_neg c0 (ev_bind0 (impl_isDay_eq _) (ev_pos (decide_eq_true c1) (ev_bind0 (impl_isDay_eq _) (ev_pos (decide_eq_true c2) (ev_pos c3 iT))))), ev_bind0 rfl (ev_neg c0 (ev_bind0 (spec_l2Day_eq _) (ev_pos (decide_eq_true c1) (ev_bind0 (spec_l2Day_eq _) (ev_pos (decide_eq_true c2) (ev_pos c3 sT)))))), by simp⟩
  have hn : l.length ≤ 100 := by omega
  have hi : ∀ r, Ev (fun k => impl_Propose.j0 k a1 a2 a3 (!decide (0 ≤ a3 ∧ a3 ≤ 100000000000)) l) r → Ev (fun k => if (l.length : Int) > 100 then (impl_Propose.j0 k a1 a2 a3 true l) else ((impl_isDay.f a1).bind fun t195 => (if t195 = true then ((impl_isDay.f a2).bind fun t196 => (if t196 = true then (if a2 ≤ a1 then (impl_Propose.j0 k a1 a2 a3 true l) else ((impl_money.f a3).bind fun t197 => (impl_Propose.j0 k a1 a2 a3 (!t197) l))) else (impl_Propose.j0 k a1 a2 a3 true l))) else (impl_Propose.j0 k a1 a2 a3 true l)))) r :=
    fun r hr => ev_neg c0 (ev_bind0 (impl_isDay_eq _) (ev_pos (decide_eq_true c1) (ev_bind0 (impl_isDay_eq _) (ev_pos (decide_eq_true c2) (ev_neg c3 (ev_bind0 (impl_money_eq _) hr))))))
  have hs : ∀ r, Ev (fun k => spec_Propose.j0 k l a1 a2 a3 [] (!decide (0 ≤ a3 ∧ a3 ≤ 100000000000))) r → Ev (fun k => (some (([] : List Int) : List Int)).bind fun y104 => (if (l.length : Int) > 100 then (spec_Propose.j0 k l a1 a2 a3 y104 true) else ((spec_l2Day.f a1).bind fun t107 => (if t107 = true then ((spec_l2Day.f a2).bind fun t108 => (if t108 = true then (if a2 ≤ a1 then (spec_Propose.j0 k l a1 a2 a3 y104 true) else ((spec_l1In.f a3 0 100000000000).bind fun t109 => (spec_Propose.j0 k l a1 a2 a3 y104 (!t109)))) else (spec_Propose.j0 k l a1 a2 a3 y104 true))) else (spec_Propose.j0 k l a1 a2 a3 y104 true))))) r :=
    fun r hr => ev_bind0 rfl (ev_neg c0 (ev_bind0 (spec_l2Day_eq _) (ev_pos (decide_eq_true c1) (ev_bind0 (spec_l2Day_eq _) (ev_pos (decide_eq_true c2) (ev_neg c3 (ev_bind0 (spec_l1In_eq ..) hr)))))))
  by_cases c4 : 0 ≤ a3 ∧ a3 ≤ 100000000000
  case neg =>
    refine ⟨[], hi _ ?_, hs _ ?_, by simp⟩
    · rw [decide_eq_false c4]; exact iT
    · rw [decide_eq_false c4]; exact sT
  have hi2 : ∀ r, Ev (fun k => impl_Propose.l0 k a1 a2 a3 [] [] l (l.length : Int) 0 l) r → Ev (fun k => impl_Propose.j0 k a1 a2 a3 (!decide (0 ≤ a3 ∧ a3 ≤ 100000000000)) l) r := by
    intro r hr
    rw [decide_eq_true c4]
    refine Ev.step (fun k => by rw [impl_Propose.j0]) ?_
    exact ev_neg (by decide) hr
  have hs2 : ∀ r, Ev (fun k => spec_Propose.l0 k l a1 a2 a3 [] 0) r → Ev (fun k => spec_Propose.j0 k l a1 a2 a3 [] (!decide (0 ≤ a3 ∧ a3 ≤ 100000000000))) r := by
    intro r hr
    rw [decide_eq_true c4]
    refine Ev.step (fun k => by rw [spec_Propose.j0]) ?_
    exact ev_neg (by decide) hr
  rcases implP_ev l hn a1 a2 a3 with ⟨hb, h1⟩ | ⟨hb, h1⟩
  · rcases specP_ev l hn a1 a2 a3 with ⟨_, h2⟩ | ⟨hb2, _⟩
    · obtain ⟨res, r1, r2, r3⟩ := pay_ev hb hn a1 a2 (srtP l a1 a2).length 0 a3 [] (by omega) (by simp) c4.1 c4.2
      exact ⟨res, hi _ (hi2 _ (h1 _ r1)), hs _ (hs2 _ (h2 _ r2)), r3⟩
    · exact absurd hb hb2
  · rcases specP_ev l hn a1 a2 a3 with ⟨hb2, _⟩ | ⟨_, h2⟩
    · exact absurd hb2 hb
    · exact ⟨[], hi _ (hi2 _ h1), hs _ (hs2 _ h2), by simp⟩
theorem FnExactPropose : laws_FnExactPropose.Pure := by
  intro l0 a1 a2 a3 hg0 _ _ _
  apply Ev.rounds
  unfold laws_FnExactPropose.f
  obtain ⟨s, hs, h⟩ := laws_szBillS_ev l0 1048576 (by omega) (by omega) hg0
  refine Ev.bind hs ?_
  rcases h with h | ⟨n0, n1, hB0⟩
  · exact ev_pos h (Ev.now _)
  refine ev_neg (by omega) ?_
  have to0 := laws_toBillS_ev l0 hB0
  have hm0 : ((l0.map cv132).length : Int) ≤ 1048576 := by rw [List.length_map]; exact hB0
  obtain ⟨r, h2, h3, hr⟩ := propose_ev (l0.map cv132) a1 a2 a3
  have hr1 : (r.length : Int) ≤ 1048576 := by omega
  have er := laws_eqIntS_ev r hr1
  refine Ev.bind to0 (Ev.bind h3 (Ev.bind to0 (Ev.bind h2 (Ev.bind er (ev_pos rfl ?_)))))
  refine Ev.bind to0 (Ev.bind (laws_eqBillS_ev _ hm0) (ev_pos rfl ?_))
  obtain ⟨q, hq, q0, q1, _⟩ := laws_markBillS_ev (l0.map cv132) 1 (by omega) (by omega) hm0
  refine Ev.bind hq (ev_neg (by omega) (Ev.bind er ?_))
  refine Ev.step (fun k => by rw [laws_FnExactPropose.j0]) ?_
  have hm := laws_markIntS_ev r 1 (by omega) (by omega) hr1
  have hh := laws_heldIntS_ev 1 r.length (by omega) (by omega) hr1
  refine ev_neg (by simp) (Ev.bind hm (Ev.bind hh (ev_neg (by omega) (ev_pos rfl ?_))))
  refine Ev.bind to0 (Ev.bind h2 (Ev.bind er (ev_pos rfl ?_)))
  exact Ev.bind hh (ev_neg (by omega) (ev_pos rfl (Ev.now _)))
end Go.Proofs.Ytlodndejipjceaa.Pure
