/- Picks: the program picks what the reference picks, whatever the stock. -/
import Derived.Test.YtlodndejipjceaaZPFnExactPicksx
import Derived.Test.YtlodndejipjceaaZHFnExactPicks
/- A stable sort by halves, and what it leaves: a permutation in which each stands ahead of the next; and that such a list is the only one. -/
set_option linter.unusedVariables false
namespace Go.Proofs.XSort

def merge {α : Type} (less : α → α → Bool) : List α → List α → List α
  | [], r => r
  | a :: l, [] => a :: l
  | a :: l, b :: r => if less b a = true then b :: merge less (a :: l) r else a :: merge less l (b :: r)
termination_by l r => l.length + r.length

def sortN {α : Type} (less : α → α → Bool) : Nat → List α → List α
  | 0, xs => xs
  | k + 1, xs => if xs.length < 2 then xs else merge less (sortN less k (xs.take (xs.length / 2))) (sortN less k (xs.drop (xs.length / 2)))
def sort {α : Type} (less : α → α → Bool) (xs : List α) : List α := sortN less xs.length xs

section
variable {α : Type} {less : α → α → Bool}
theorem merge_nil (r : List α) : merge less [] r = r := by rw [merge.eq_def]
theorem merge_nil2 (l : List α) : merge less l [] = l := by cases l <;> rw [merge.eq_def]
theorem merge_right {a b : α} {l r : List α} (h : less b a = true) : merge less (a :: l) (b :: r) = b :: merge less (a :: l) r := by rw [merge.eq_def]; simp only [h, if_true]
theorem merge_left {a b : α} {l r : List α} (h : ¬ less b a = true) : merge less (a :: l) (b :: r) = a :: merge less l (b :: r) := by rw [merge.eq_def]; simp only [if_neg h]

theorem merge_perm : ∀ (n : Nat) (l r : List α), l.length + r.length = n → (merge less l r).Perm (l ++ r) := by
  intro n
  induction n with
  | zero =>
    intro l r h
    have h1 : l = [] := List.eq_nil_of_length_eq_zero (by omega)
    subst h1
    rw [merge_nil]
    exact List.Perm.refl _
  | succ n ih =>
    intro l r h
    cases l with
    | nil => rw [merge_nil]; exact List.Perm.refl _
    | cons a l =>
      cases r with
      | nil => rw [merge_nil2, List.append_nil]
      | cons b r =>
        by_cases c : less b a = true
        · rw [merge_right c]
          have := ih (a :: l) r (by simp at h ⊢; omega)
          exact (List.Perm.cons b this).trans (List.perm_middle.symm)
        · rw [merge_left c]
          have := ih l (b :: r) (by simp at h ⊢; omega)
          exact List.Perm.cons a this
theorem sortN_perm : ∀ (k : Nat) (xs : List α), (sortN less k xs).Perm xs := by
  intro k
  induction k with
  | zero => intro xs; exact List.Perm.refl _
  | succ k ih =>
    intro xs
    unfold sortN
    by_cases c : xs.length < 2
    · rw [if_pos c]
    · rw [if_neg c]
      refine (merge_perm _ _ _ rfl).trans ?_
      have := List.Perm.append (ih (xs.take (xs.length / 2))) (ih (xs.drop (xs.length / 2)))
      rw [List.take_append_drop] at this
      exact this
theorem sort_perm (xs : List α) : (sort less xs).Perm xs := sortN_perm _ _
theorem sortN_length (k : Nat) (xs : List α) : (sortN less k xs).length = xs.length := (sortN_perm k xs).length_eq
theorem sort_length (xs : List α) : (sort less xs).length = xs.length := (sort_perm xs).length_eq

/-- a stands ahead of b: it is less, or it is not more and came in ahead. -/
def Ahead (less : α → α → Bool) (P : α → α → Prop) (a b : α) : Prop := less a b = true ∨ (¬ less b a = true ∧ P a b)

theorem merge_ahead {P : α → α → Prop} : ∀ (n : Nat) (l r : List α), l.length + r.length = n → (∀ a ∈ l ++ r, ∀ b ∈ l ++ r, ∀ c ∈ l ++ r, Ahead less P a b → Ahead less P b c → Ahead less P a c) →
    l.Pairwise (Ahead less P) → r.Pairwise (Ahead less P) → (∀ a ∈ l, ∀ b ∈ r, P a b) → (merge less l r).Pairwise (Ahead less P) := by
  intro n
  induction n with
  | zero =>
    intro l r h _ _ hr _
    have h1 : l = [] := List.eq_nil_of_length_eq_zero (by omega)
    subst h1
    rw [merge_nil]
    exact hr
  | succ n ih =>
    intro l r h ht hl hr hP
    cases l with
    | nil => rw [merge_nil]; exact hr
    | cons a l =>
      cases r with
      | nil => rw [merge_nil2]; exact hl
      | cons b r =>
        rw [List.pairwise_cons] at hl hr
        by_cases c : less b a = true
        · rw [merge_right c, List.pairwise_cons]
          have hba : Ahead less P b a := .inl c
          refine ⟨fun x hx => ?_, ih (a :: l) r (by simp at h ⊢; omega) (fun x hx y hy z hz => ht x (by simp at hx ⊢; rcases hx with h | h | h <;> simp [h]) y (by simp at hy ⊢; rcases hy with h | h | h <;> simp [h]) z (by simp at hz ⊢; rcases hz with h | h | h <;> simp [h])) (List.pairwise_cons.2 hl) hr.2 (fun x hx y hy => hP x hx y (List.mem_cons_of_mem _ hy))⟩
          have hx' := (merge_perm _ (a :: l) r rfl).mem_iff.1 hx
          rcases List.mem_append.1 hx' with h1 | h1
          · rcases List.mem_cons.1 h1 with h2 | h2
            · rw [h2]; exact hba
            · exact ht b (by simp) a (by simp) x (by simp [h2]) hba (hl.1 x h2)
          · exact hr.1 x h1
        · rw [merge_left c, List.pairwise_cons]
          have hab : Ahead less P a b := .inr ⟨c, hP a (by simp) b (by simp)⟩
          refine ⟨fun x hx => ?_, ih l (b :: r) (by simp at h ⊢; omega) (fun x hx y hy z hz => ht x (by simp at hx ⊢; rcases hx with h | h | h <;> simp [h]) y (by simp at hy ⊢; rcases hy with h | h | h <;> simp [h]) z (by simp at hz ⊢; rcases hz with h | h | h <;> simp [h])) hl.2 (List.pairwise_cons.2 hr) (fun x hx y hy => hP x (List.mem_cons_of_mem _ hx) y hy)⟩
          have hx' := (merge_perm _ l (b :: r) rfl).mem_iff.1 hx
          rcases List.mem_append.1 hx' with h1 | h1
          · exact hl.1 x h1
          · rcases List.mem_cons.1 h1 with h2 | h2
            · rw [h2]; exact hab
            · exact ht a (by simp) b (by simp) x (by simp [h2]) hab (hr.1 x h2)

theorem sortN_ahead {P : α → α → Prop} : ∀ (k : Nat) (xs : List α), xs.length ≤ k → (∀ a ∈ xs, ∀ b ∈ xs, ∀ c ∈ xs, Ahead less P a b → Ahead less P b c → Ahead less P a c) → xs.Pairwise P → (sortN less k xs).Pairwise (Ahead less P) := by
  intro k
  induction k with
  | zero =>
    intro xs h _ _
    have : xs = [] := List.eq_nil_of_length_eq_zero (by omega)
    subst this
    exact List.Pairwise.nil
  | succ k ih =>
    intro xs h ht hP
    unfold sortN
    by_cases c : xs.length < 2
    · rw [if_pos c]
      match xs, c with
      | [], _ => exact List.Pairwise.nil
      | [x], _ => exact List.pairwise_singleton _ _
      | x :: y :: r, c => simp at c; omega
    · rw [if_neg c]
      have hs := List.take_append_drop (xs.length / 2) xs
      have hm : ∀ x, x ∈ sortN less k (xs.take (xs.length / 2)) ++ sortN less k (xs.drop (xs.length / 2)) → x ∈ xs := by
        intro x hx
        rcases List.mem_append.1 hx with h1 | h1
        · exact List.mem_of_mem_take ((sortN_perm _ _).mem_iff.1 h1)
        · exact List.mem_of_mem_drop ((sortN_perm _ _).mem_iff.1 h1)
      have hP' := hP
      rw [← hs, List.pairwise_append] at hP'
      refine merge_ahead _ _ _ rfl (fun a ha b hb d hd => ht a (hm a ha) b (hm b hb) d (hm d hd)) ?_ ?_ ?_
      · exact ih _ (by rw [List.length_take]; omega) (fun a ha b hb d hd => ht a (List.mem_of_mem_take ha) b (List.mem_of_mem_take hb) d (List.mem_of_mem_take hd)) hP'.1
      · exact ih _ (by rw [List.length_drop]; omega) (fun a ha b hb d hd => ht a (List.mem_of_mem_drop ha) b (List.mem_of_mem_drop hb) d (List.mem_of_mem_drop hd)) hP'.2.1
      · intro a ha b hb
        exact hP'.2.2 a ((sortN_perm _ _).mem_iff.1 ha) b ((sortN_perm _ _).mem_iff.1 hb)
theorem sort_ahead {P : α → α → Prop} (xs : List α) (ht : ∀ a ∈ xs, ∀ b ∈ xs, ∀ c ∈ xs, Ahead less P a b → Ahead less P b c → Ahead less P a c) (hP : xs.Pairwise P) : (sort less xs).Pairwise (Ahead less P) := sortN_ahead _ _ (Nat.le_refl _) ht hP
end

/-- By a number, from the least: what is alike in its order. -/
theorem sort_by_key {α : Type} (key : α → Int) (P : α → α → Prop) (hPt : ∀ a b c, P a b → P b c → P a c) (xs : List α) (hP : xs.Pairwise P) (less : α → α → Bool) (hless : ∀ a ∈ xs, ∀ b ∈ xs, (less a b = true ↔ key a < key b)) :
    (sort less xs).Pairwise (fun a b => key a < key b ∨ (key a = key b ∧ P a b)) := by
  have h := sort_ahead (less := less) (P := P) xs (by
    intro a ha b hb c hc h1 h2
    unfold Ahead at *
    rw [hless a ha b hb, hless b hb a ha] at h1
    rw [hless b hb c hc, hless c hc b hb] at h2
    rw [hless a ha c hc, hless c hc a ha]
    rcases h1 with h1 | ⟨h1, p1⟩
    · rcases h2 with h2 | ⟨h2, p2⟩
      · exact .inl (by omega)
      · exact .inl (by omega)
    · rcases h2 with h2 | ⟨h2, p2⟩
      · exact .inl (by omega)
      · exact .inr ⟨by omega, hPt _ _ _ p1 p2⟩) hP
  refine List.Pairwise.imp_of_mem ?_ h
  intro a b ha hb hab
  have ha' := (sort_perm xs).mem_iff.1 ha
  have hb' := (sort_perm xs).mem_iff.1 hb
  unfold Ahead at hab
  rw [hless a ha' b hb', hless b hb' a ha'] at hab
  rcases hab with h | ⟨h, p⟩
  · exact .inl h
  · by_cases c : key a < key b
    · exact .inl c
    · exact .inr ⟨by omega, p⟩

end Go.Proofs.XSort
set_option maxHeartbeats 4000000
set_option linter.unusedVariables false
set_option linter.unusedSimpArgs false
namespace Go.Proofs.Ytlodndejipjceaa.Pure
open Go.RowKit Go.Proofs.Ytlodndejipjceaa.PFnExactPicks Go.Proofs.YtlodndejipjceaaW.PrintWords Go.Proofs.YtlodndejipjceaaW.PrintLast Go.Proofs.Ytlodndejipjceaa.XEv
/-! The printed sort: impl_sortBy_int -/
theorem impl_sortBy_int_merge (lt : Int → Int → Option Bool) (less : Int → Int → Bool) (l r : List Int) (hl : l.length + r.length ≤ 1048576) (hlt : ∀ a ∈ l, ∀ b ∈ r, lt b a = some (less b a)) :
    ∀ (d i j : Nat) (x P : List Int), i ≤ l.length → j ≤ r.length → (l.length - i) + (r.length - j) = d → x.length = l.length + r.length → x.take (i + j) = P →
      Ev (fun k => impl_sortBy_int.l0 k x lt l r (i : Int) (j : Int) ((l.length + r.length : Nat) : Int) ((i + j : Nat) : Int)) (P ++ XSort.merge less (l.drop i) (r.drop j)) := by
  intro d
  induction d with
  | zero =>
    intro i j x P hi hj hd hx hP
    have e1 : i = l.length := by omega
    have e2 : j = r.length := by omega
    subst e1 e2
    rw [List.drop_length, List.drop_length, XSort.merge_nil, List.append_nil]
    have e3 : P = x := by rw [← hP, ← hx, List.take_length]
    subst e3
    refine Ev.step (fun k => by rw [impl_sortBy_int.l0]) ?_
    exact ev_neg (by omega) (Ev.now _)
  | succ d ih =>
    intro i j x P hi hj hd hx hP
    have hn : i + j < x.length := by omega
    have hlen : P.length = i + j := by rw [← hP, List.length_take]; omega
    have put : ∀ v : Int, (x.set (i + j) v).take (i + j + 1) = P ++ [v] := by
      intro v
      rw [List.take_add_one, List.getElem?_set_self hn, List.take_set, hP, List.set_eq_of_length_le (by omega)]
      rfl
    have goL : ∀ (h : i < l.length), Ev (fun k => impl_sortBy_int.l0 k (x.set (i + j) l[i]) lt l r ((i + 1 : Nat) : Int) (j : Int) ((l.length + r.length : Nat) : Int) ((i + j + 1 : Nat) : Int)) (P ++ l[i] :: XSort.merge less (l.drop (i + 1)) (r.drop j)) := by
      intro h
      have := ih (i + 1) j (x.set (i + j) l[i]) (P ++ [l[i]]) (by omega) hj (by omega) (by rw [List.length_set]; exact hx) (by rw [show i + 1 + j = i + j + 1 by omega]; exact put _)
      rw [show i + 1 + j = i + j + 1 by omega, List.append_assoc] at this
      exact this
    have goR : ∀ (h : j < r.length), Ev (fun k => impl_sortBy_int.l0 k (x.set (i + j) r[j]) lt l r (i : Int) ((j + 1 : Nat) : Int) ((l.length + r.length : Nat) : Int) ((i + j + 1 : Nat) : Int)) (P ++ r[j] :: XSort.merge less (l.drop i) (r.drop (j + 1))) := by
      intro h
      have := ih i (j + 1) (x.set (i + j) r[j]) (P ++ [r[j]]) hi (by omega) (by omega) (by rw [List.length_set]; exact hx) (by rw [show i + (j + 1) = i + j + 1 by omega]; exact put _)
      rw [show i + (j + 1) = i + j + 1 by omega, List.append_assoc] at this
      exact this
    have w1 : ∀ m : Nat, m ≤ 2097152 → wrap64 ((m : Int) + 1) = ((m + 1 : Nat) : Int) := fun m hm => wrap_succ (n := m + 1) (by omega) (by omega)
    have rdl : ∀ h : i < l.length, rd l (i : Int) = l[i] := fun h => by first | exact rd_at h | exact getD_at h _
    have rdr : ∀ h : j < r.length, rd r (j : Int) = r[j] := fun h => by first | exact rd_at h | exact getD_at h _
    by_cases cj : j = r.length
    · have hi' : i < l.length := by omega
      have hm : XSort.merge less (l.drop i) (r.drop j) = l[i] :: XSort.merge less (l.drop (i + 1)) (r.drop j) := by
        rw [List.drop_eq_getElem_cons hi', cj, List.drop_length, XSort.merge_nil2, XSort.merge_nil2]
      rw [hm]
      refine Ev.step (fun k => by rw [impl_sortBy_int.l0]) ?_
      refine ev_pos (by omega) (ev_pos (by omega) (ev_pos (by omega) (ev_pos (by omega) (ev_pos (by omega) (ev_pos (by omega) ?_)))))
      rw [w1 i (by omega), w1 (i + j) (by omega), Int.toNat_natCast]
      have := goL hi'
      rw [← rdl hi'] at this ⊢
      exact this
    · have hj' : j < r.length := by omega
      by_cases ci : i < l.length
      · have hl2 := hlt l[i] (List.getElem_mem ci) r[j] (List.getElem_mem hj')
        by_cases cc : less r[j] l[i] = true
        · have hm : XSort.merge less (l.drop i) (r.drop j) = r[j] :: XSort.merge less (l.drop i) (r.drop (j + 1)) := by
            rw [List.drop_eq_getElem_cons ci, List.drop_eq_getElem_cons hj', XSort.merge_right cc]
          rw [hm]
          have hg := goR hj'
          rw [← rdr hj'] at hg ⊢
          rw [← rdr hj', ← rdl ci] at hl2
          rw [← rdr hj', ← rdl ci] at cc
          refine Ev.step (fun k => by rw [impl_sortBy_int.l0]) ?_
          refine ev_pos (by omega) (ev_neg (by omega) (ev_pos (by omega) (ev_pos (by omega) (ev_pos (by omega) (ev_pos (by omega) (ev_bind0 hl2 (ev_pos cc (ev_pos (by omega) (ev_pos (by omega) ?_)))))))))
          rw [w1 j (by omega), w1 (i + j) (by omega), Int.toNat_natCast]
          exact hg
        · have hm : XSort.merge less (l.drop i) (r.drop j) = l[i] :: XSort.merge less (l.drop (i + 1)) (r.drop j) := by
            rw [List.drop_eq_getElem_cons ci, List.drop_eq_getElem_cons hj', XSort.merge_left cc]
          rw [hm]
          have hg := goL ci
          rw [← rdl ci] at hg ⊢
          rw [← rdr hj', ← rdl ci] at hl2
          rw [← rdr hj', ← rdl ci] at cc
          refine Ev.step (fun k => by rw [impl_sortBy_int.l0]) ?_
          refine ev_pos (by omega) (ev_neg (by omega) (ev_pos (by omega) (ev_pos (by omega) (ev_pos (by omega) (ev_pos (by omega) (ev_bind0 hl2 (ev_neg cc (ev_pos (by omega) (ev_pos (by omega) ?_)))))))))
          rw [w1 i (by omega), w1 (i + j) (by omega), Int.toNat_natCast]
          exact hg
      · have ei : i = l.length := by omega
        have hm : XSort.merge less (l.drop i) (r.drop j) = r[j] :: XSort.merge less (l.drop i) (r.drop (j + 1)) := by
          rw [ei, List.drop_length, List.drop_eq_getElem_cons hj', XSort.merge_nil, XSort.merge_nil]
        rw [hm]
        have hg := goR hj'
        rw [← rdr hj'] at hg ⊢
        refine Ev.step (fun k => by rw [impl_sortBy_int.l0]) ?_
        refine ev_pos (by omega) (ev_neg (by omega) (ev_neg (by omega) (ev_pos (by omega) (ev_pos (by omega) (ev_pos (by omega) (ev_pos (by omega) ?_))))))
        rw [w1 j (by omega), w1 (i + j) (by omega), Int.toNat_natCast]
        exact hg
theorem impl_sortBy_int_evN (lt : Int → Int → Option Bool) (less : Int → Int → Bool) : ∀ (n : Nat) (xs : List Int), xs.length ≤ n → xs.length ≤ 1048576 → (∀ a ∈ xs, ∀ b ∈ xs, lt a b = some (less a b)) → Ev (fun k => impl_sortBy_int.f k xs lt) (XSort.sortN less n xs) := by
  intro n
  induction n with
  | zero =>
    intro xs h0 h1 hlt
    refine Ev.step (fun k => by rw [impl_sortBy_int.f]) ?_
    exact ev_pos (by omega) (Ev.now _)
  | succ n ih =>
    intro xs h0 h1 hlt
    unfold XSort.sortN
    by_cases c : xs.length < 2
    · rw [if_pos c]
      refine Ev.step (fun k => by rw [impl_sortBy_int.f]) ?_
      exact ev_pos (by omega) (Ev.now _)
    · rw [if_neg c]
      have hw : wrap64 ((xs.length : Int) / 2) = ((xs.length / 2 : Nat) : Int) := by rw [wrap_id (by omega) (by omega)]; omega
      have t1 := ih (xs.take (xs.length / 2)) (by rw [List.length_take]; omega) (by rw [List.length_take]; omega) (fun a ha b hb => hlt a (List.mem_of_mem_take ha) b (List.mem_of_mem_take hb))
      have t2 := ih (xs.drop (xs.length / 2)) (by rw [List.length_drop]; omega) (by rw [List.length_drop]; omega) (fun a ha b hb => hlt a (List.mem_of_mem_drop ha) b (List.mem_of_mem_drop hb))
      have l1 : (XSort.sortN less n (xs.take (xs.length / 2))).length = xs.length / 2 := by rw [XSort.sortN_length, List.length_take]; omega
      have l2 : (XSort.sortN less n (xs.drop (xs.length / 2))).length = xs.length - xs.length / 2 := by rw [XSort.sortN_length, List.length_drop]
      have t3 := impl_sortBy_int_merge lt less (XSort.sortN less n (xs.take (xs.length / 2))) (XSort.sortN less n (xs.drop (xs.length / 2))) (by omega)
        (fun a ha b hb => hlt b (List.mem_of_mem_drop ((XSort.sortN_perm _ _).mem_iff.1 hb)) a (List.mem_of_mem_take ((XSort.sortN_perm _ _).mem_iff.1 ha))) _ 0 0 xs [] (by omega) (by omega) rfl (by omega) rfl
      rw [show ((0 : Nat) : Int) = 0 from rfl, show (XSort.sortN less n (xs.take (xs.length / 2))).length + (XSort.sortN less n (xs.drop (xs.length / 2))).length = xs.length by omega, List.drop_zero, List.drop_zero, List.nil_append] at t3
      refine Ev.step (fun k => by rw [impl_sortBy_int.f]) ?_
      rw [hw]
      simp only [Int.toNat_natCast, Option.bind_some, List.nil_append]
      have q1 : (xs.take (xs.length / 2)).length = xs.length / 2 := by rw [List.length_take]; omega
      have q2 : (xs.drop (xs.length / 2)).length = xs.length - xs.length / 2 := List.length_drop
      refine ev_neg (by omega) (ev_pos (by omega) (ev_pos (by omega) (ev_pos (by simp only [List.length_nil]; omega) (ev_pos (by simp only [List.length_nil]; omega) (Ev.bind t1 (Ev.bind t2 t3))))))
theorem impl_sortBy_int_ev (lt : Int → Int → Option Bool) (less : Int → Int → Bool) (xs : List Int) (h1 : xs.length ≤ 1048576) (hlt : ∀ a ∈ xs, ∀ b ∈ xs, lt a b = some (less a b)) : Ev (fun k => impl_sortBy_int.f k xs lt) (XSort.sort less xs) := impl_sortBy_int_evN lt less xs.length xs (Nat.le_refl _) h1 hlt
/-- The places of a list. -/
def idx (n : Nat) : List Int := (List.range n).map fun (i : Nat) => (i : Int)
theorem idx_length (n : Nat) : (idx n).length = n := by simp [idx]
theorem idx_succ (n : Nat) : idx (n + 1) = idx n ++ [(n : Int)] := by simp [idx, List.range_succ]
theorem idx_mem {n : Nat} {x : Int} : x ∈ idx n ↔ ∃ q : Nat, x = (q : Int) ∧ q < n := by
  simp only [idx, List.mem_map, List.mem_range]
  exact ⟨fun ⟨q, h, e⟩ => ⟨q, e.symm, h⟩, fun ⟨q, e, h⟩ => ⟨q, h, e.symm⟩⟩
theorem idx_lt (n : Nat) : (idx n).Pairwise (· < ·) := by
  induction n with
  | zero => exact List.Pairwise.nil
  | succ n ih =>
    rw [idx_succ, List.pairwise_append]
    refine ⟨ih, List.pairwise_singleton _ _, fun a ha b hb => ?_⟩
    obtain ⟨q, rfl, hq⟩ := idx_mem.1 ha
    rw [List.mem_singleton.1 hb]
    omega
theorem ord_ahead {F : Int → Int → Prop} {s : List Int} (h : s.Pairwise F) {t t' : Nat} (h1 : t < t') (h2 : t' < s.length) : F (s[t]'(by omega)) s[t'] := List.pairwise_iff_getElem.1 h t t' (by omega) h2 h1
theorem ord_inj {F : Int → Int → Prop} (hF : ∀ a, ¬ F a a) {s : List Int} (h : s.Pairwise F) {t t' : Nat} (h1 : t < s.length) (h2 : t' < s.length) (e : s[t] = s[t']) : t = t' := by
  rcases Nat.lt_trichotomy t t' with c | c | c
  · have := ord_ahead h c h2
    rw [e] at this
    exact absurd this (hF _)
  · exact c
  · have := ord_ahead h c h1
    rw [e] at this
    exact absurd this (hF _)
theorem has_ev (L : List Int) (x : Int) (hl : L.length ≤ 1048576) : Ev (fun k => spec_l7Has.f k L x) (decide (x ∈ L)) := by
  have key : ∀ (d i : Nat), i + d = L.length → Ev (fun k => spec_l7Has.l0 k L x (i : Int)) (decide (x ∈ L.drop i)) := by
    intro d
    induction d with
    | zero =>
      intro i hi
      have e : i = L.length := by omega
      subst e
      refine Ev.step (fun k => by rw [spec_l7Has.l0]) ?_
      rw [List.drop_length]
      exact ev_neg (Int.lt_irrefl _) (Ev.now _)
    | succ d ih =>
      intro i hi
      have hlt : i < L.length := by omega
      have g1 : (i : Int) < (L.length : Int) := Int.ofNat_lt.2 hlt
      refine Ev.step (fun k => by rw [spec_l7Has.l0]) ?_
      rw [List.drop_eq_getElem_cons hlt]
      refine ev_pos g1 (ev_pos (Int.natCast_nonneg _) ?_)
      by_cases c : rd L (i : Int) = x
      · rw [rd_at hlt] at c
        rw [decide_eq_true (by rw [← c]; exact List.mem_cons_self ..)]
        exact ev_pos (by rw [rd_at hlt]; exact c) (Ev.now _)
      · have e : decide (x ∈ L[i] :: L.drop (i + 1)) = decide (x ∈ L.drop (i + 1)) := by
          rw [Bool.eq_iff_iff, decide_eq_true_eq, decide_eq_true_eq, List.mem_cons]
          rw [rd_at hlt] at c
          exact ⟨fun h => h.resolve_left (fun e => c e.symm), .inr⟩
        rw [e]
        refine ev_neg c ?_
        rw [wrap_succ hlt (by omega)]
        exact ih (i + 1) (by omega)
  have := key L.length 0 (by omega)
  rw [List.drop_zero] at this
  unfold spec_l7Has.f
  exact this
/-- May it be picked from; when it goes off; what is free of it. -/
def isC (l : List S160) (nm : ByteArray) (d : Int) (a : Int) : Bool := decide ((rd_T160 l a).f0.toList = nm.toList ∧ d ≤ (rd_T160 l a).f3 ∧ (rd_T160 l a).f5 < (rd_T160 l a).f4)
def ex (l : List S160) (a : Int) : Int := (rd_T160 l a).f3
def fr (l : List S160) (a : Int) : Int := (rd_T160 l a).f4 - (rd_T160 l a).f5
def lessC (l : List S160) (a b : Int) : Bool := decide (ex l a < ex l b)
def candL (l : List S160) (nm : ByteArray) (d : Int) (i : Nat) : List Int := (idx i).filter (isC l nm d)
def srtC (l : List S160) (nm : ByteArray) (d : Int) : List Int := XSort.sort (lessC l) (candL l nm d l.length)
def FoC (l : List S160) (a b : Int) : Prop := ex l a < ex l b ∨ (ex l a = ex l b ∧ a < b)
theorem foC_irr (l : List S160) (a : Int) : ¬ FoC l a a := by unfold FoC; omega
theorem foC_asym (l : List S160) (a b : Int) (h : FoC l a b) (h' : FoC l b a) : False := by unfold FoC at h h'; omega
theorem srtC_mem (l : List S160) (nm : ByteArray) (d x : Int) : x ∈ srtC l nm d ↔ ∃ q : Nat, x = (q : Int) ∧ q < l.length ∧ ((rd_T160 l x).f0.toList = nm.toList ∧ d ≤ (rd_T160 l x).f3 ∧ (rd_T160 l x).f5 < (rd_T160 l x).f4) := by
  unfold srtC
  rw [(XSort.sort_perm _).mem_iff]
  unfold candL isC
  rw [List.mem_filter, decide_eq_true_eq, idx_mem]
  constructor
  · rintro ⟨⟨q, e, h⟩, h2⟩
    exact ⟨q, e, h, h2⟩
  · rintro ⟨q, e, h, h2⟩
    exact ⟨⟨q, e, h⟩, h2⟩
theorem srtC_fore (l : List S160) (nm : ByteArray) (d : Int) : (srtC l nm d).Pairwise (FoC l) :=
  XSort.sort_by_key (ex l) (· < ·) (fun a b c h1 h2 => by omega) (candL l nm d l.length) ((idx_lt _).filter _) (lessC l) (fun a ha b hb => by unfold lessC; rw [decide_eq_true_eq])
theorem filter_le {p : Int → Bool} (n : Nat) : ((idx n).filter p).length ≤ n := by have := List.length_filter_le p (idx n); rw [idx_length] at this; exact this
theorem srtC_length (l : List S160) (nm : ByteArray) (d : Int) : (srtC l nm d).length ≤ l.length := by
  unfold srtC
  rw [XSort.sort_length]
  exact filter_le _
theorem pickC_ev {l : List S160} (hn : l.length ≤ 100) {nm : ByteArray} {c d : Int} {out : List S162} {t : Nat} (ho : out.length ≤ t) (ht : t ≤ (srtC l nm d).length) {res : List S162}
    (hend : (t = (srtC l nm d).length ∧ res = []) ∨ (∃ (h : t < (srtC l nm d).length) (q : Nat), (srtC l nm d)[t] = (q : Int) ∧ q < l.length ∧ ((wrap64 (((rd_T160 l (q : Int)).f4) - ((rd_T160 l (q : Int)).f5)) > c ∧ Ev (fun k => spec_Picks.l0 k l nm 0 d (out ++ [(⟨(q : Int), c⟩ : S162)]) ((srtC l nm d).take t ++ [(q : Int)])) res) ∨ (¬ wrap64 (((rd_T160 l (q : Int)).f4) - ((rd_T160 l (q : Int)).f5)) > c ∧ Ev (fun k => spec_Picks.l0 k l nm (wrap64 (c - (wrap64 (((rd_T160 l (q : Int)).f4) - ((rd_T160 l (q : Int)).f5))))) d (out ++ [(⟨(q : Int), wrap64 (((rd_T160 l (q : Int)).f4) - ((rd_T160 l (q : Int)).f5))⟩ : S162)]) ((srtC l nm d).take t ++ [(q : Int)])) res)))) :
    Ev (fun k => spec_Picks.l1 k l nm c d out ((srtC l nm d).take t) (-1) 0) res := by
  obtain ⟨s, hs⟩ : ∃ s, s = srtC l nm d := ⟨_, rfl⟩
  have hfo := srtC_fore l nm d
  have hmem := srtC_mem l nm d
  have hsl := srtC_length l nm d
  rw [← hs] at ht hend hfo hmem hsl ⊢
  have hseen : (s.take t).length = t := by rw [List.length_take]; omega
  have final : ∀ b : Int, ((b = -1 ∧ ∀ j : Nat, j < l.length → (j : Int) ∈ s → (j : Int) ∈ s.take t) ∨ (∃ q : Nat, b = (q : Int) ∧ q < l.length ∧ b ∈ s ∧ b ∉ s.take t ∧ ∀ j : Nat, j < l.length → (j : Int) ∈ s → (j : Int) ∉ s.take t → (j : Int) = b ∨ FoC l b (j : Int))) → (b = -1 ∧ t = s.length) ∨ (∃ h : t < s.length, b = s[t]) := by
    rintro b (⟨rfl, h⟩ | ⟨q, rfl, hq, h1, h2, h3⟩)
    · refine .inl ⟨rfl, ?_⟩
      rcases Nat.lt_or_ge t s.length with g | g
      · exfalso
        obtain ⟨j, ej, hj, _⟩ := (hmem _).1 (List.getElem_mem g)
        have := h j hj (by rw [← ej]; exact List.getElem_mem g)
        obtain ⟨u, hu, eu⟩ := List.getElem_of_mem this
        rw [List.getElem_take] at eu
        have := ord_inj (foC_irr l) hfo (t := u) (t' := t) (by rw [hseen] at hu; omega) g (by rw [eu, ej])
        rw [hseen] at hu
        omega
      · omega
    · obtain ⟨u, hu, eu⟩ := List.getElem_of_mem h1
      have hut : t ≤ u := by
        rcases Nat.lt_or_ge u t with g | g
        · exfalso
          refine h2 ?_
          rw [← eu]
          exact List.mem_take_iff_getElem.2 ⟨u, by omega, rfl⟩
        · exact g
      have g : t < s.length := by omega
      refine .inr ⟨g, ?_⟩
      obtain ⟨j, ej, hj, _⟩ := (hmem _).1 (List.getElem_mem g)
      have hnt : s[t] ∉ s.take t := by
        intro hx
        obtain ⟨v, hv, ev⟩ := List.getElem_of_mem hx
        rw [List.getElem_take] at ev
        have := ord_inj (foC_irr l) hfo (t := v) (t' := t) (by rw [hseen] at hv; omega) g ev
        rw [hseen] at hv
        omega
      rcases h3 j hj (by rw [← ej]; exact List.getElem_mem g) (by rw [← ej]; exact hnt) with e | e
      · rw [ej, e]
      · rcases Nat.lt_or_ge t u with g2 | g2
        · have := ord_ahead hfo g2 hu
          rw [eu, ej] at this
          exact (foC_asym _ _ _ e this).elim
        · have : u = t := by omega
          subst this
          exact eu.symm
  have key : ∀ (e m : Nat) (b : Int), m + e = l.length → ((b = -1 ∧ ∀ j : Nat, j < m → (j : Int) ∈ s → (j : Int) ∈ s.take t) ∨ (∃ q : Nat, b = (q : Int) ∧ q < m ∧ b ∈ s ∧ b ∉ s.take t ∧ ∀ j : Nat, j < m → (j : Int) ∈ s → (j : Int) ∉ s.take t → (j : Int) = b ∨ FoC l b (j : Int))) → Ev (fun k => spec_Picks.l1 k l nm c d out (s.take t) b (m : Int)) res := by
    intro e
    induction e with
    | zero =>
      intro m b hm hbm
      have e : m = l.length := by omega
      subst e
      refine Ev.step (fun k => by rw [spec_Picks.l1]) ?_
      refine ev_neg (Int.lt_irrefl _) ?_
      rcases final b hbm with ⟨rfl, e⟩ | ⟨g, e⟩
      · rcases hend with ⟨_, rfl⟩ | ⟨g, _⟩
        · exact ev_pos (by decide) (Ev.now _)
        · omega
      · rcases hend with ⟨g2, _⟩ | ⟨_, j, ej, hj, he⟩
        · omega
        · have e0 : b = (j : Int) := by rw [e, ej]
          subst e0
          have g1 : (s.take t).length < 17592186044416 := by rw [hseen]; exact Nat.lt_of_le_of_lt (show t ≤ 200 by omega) (by decide)
          have g2 : out.length < 8796093022208 := Nat.lt_of_le_of_lt (show out.length ≤ 200 by omega) (by decide)
          refine ev_neg (by omega) (ev_pos (by omega) (ev_pos (by omega) ?_))
          rcases he with ⟨h1, h2⟩ | ⟨h1, h2⟩
          · exact ev_pos h1 (ev_pos g1 (ev_pos g2 h2))
          · exact ev_neg h1 (ev_pos g1 (ev_pos g2 h2))
    | succ e ih =>
      intro m b hm hbm
      have hlt : m < l.length := by omega
      have g1 : (m : Int) < (l.length : Int) := Int.ofNat_lt.2 hlt
      have hw := Aside0.mk (wrap_succ hlt (by omega))
      -- it is left aside
      have skip : ((m : Int) ∈ s → (m : Int) ∈ s.take t) → Ev (fun k => spec_Picks.l1 k l nm c d out (s.take t) b ((m + 1 : Nat) : Int)) res := fun hno => ih (m + 1) b (by omega) (by
        rcases hbm with ⟨e, h⟩ | ⟨q, e, hq, h1, h2, h3⟩
        · refine .inl ⟨e, fun j hj hjs => ?_⟩
          rcases Nat.lt_or_ge j m with g | g
          · exact h j g hjs
          · have : j = m := by omega
            subst this
            exact hno hjs
        · refine .inr ⟨q, e, by omega, h1, h2, fun j hj hjs hjn => ?_⟩
          rcases Nat.lt_or_ge j m with g | g
          · exact h3 j g hjs hjn
          · have : j = m := by omega
            subst this
            exact absurd (hno hjs) hjn)
      -- it stays behind
      have stay : (m : Int) ∈ s → b ≠ -1 → FoC l b (m : Int) → Ev (fun k => spec_Picks.l1 k l nm c d out (s.take t) b ((m + 1 : Nat) : Int)) res := fun hms hb0 hf => ih (m + 1) b (by omega) (by
        rcases hbm with ⟨e, h⟩ | ⟨q, e, hq, h1, h2, h3⟩
        · exact absurd e hb0
        · refine .inr ⟨q, e, by omega, h1, h2, fun j hj hjs hjn => ?_⟩
          rcases Nat.lt_or_ge j m with g | g
          · exact h3 j g hjs hjn
          · have : j = m := by omega
            subst this
            exact .inr hf)
      -- it comes ahead
      have take_ : (m : Int) ∈ s → (m : Int) ∉ s.take t → (b = -1 ∨ ∀ j : Int, j = b ∨ FoC l b j → FoC l (m : Int) j) → Ev (fun k => spec_Picks.l1 k l nm c d out (s.take t) (m : Int) ((m + 1 : Nat) : Int)) res := fun hms hmn hf => ih (m + 1) (m : Int) (by omega) (by
        refine .inr ⟨m, rfl, by omega, hms, hmn, fun j hj hjs hjn => ?_⟩
        rcases Nat.lt_or_ge j m with g | g
        · rcases hbm with ⟨e, h⟩ | ⟨q, e, hq, h1, h2, h3⟩
          · exact absurd (h j g hjs) hjn
          · rcases hf with e2 | hf
            · omega
            · exact .inr (hf _ (h3 j g hjs hjn))
        · exact .inl (by omega))
      have hh := has_ev (s.take t) (m : Int) (by omega)
      have inS : (m : Int) ∈ s ↔ ((rd_T160 l (m : Int)).f0.toList = nm.toList ∧ d ≤ (rd_T160 l (m : Int)).f3 ∧ (rd_T160 l (m : Int)).f5 < (rd_T160 l (m : Int)).f4) := by
        rw [hmem]
        exact ⟨fun ⟨q, _, _, h⟩ => h, fun h => ⟨m, rfl, hlt, h⟩⟩
      refine Ev.step (fun k => by rw [spec_Picks.l1]) ?_
      rw [hw.out]
      refine ev_pos g1 (ev_pos (Int.natCast_nonneg _) ?_)
      by_cases q0 : (rd_T160 l (m : Int)).f0.toList = nm.toList
      case neg => exact ev_neg q0 (skip (fun h => absurd (inS.1 h).1 q0))
      refine ev_pos q0 ?_
      by_cases q1 : (rd_T160 l (m : Int)).f3 ≥ d
      case neg => exact ev_neg q1 (skip (fun h => absurd (inS.1 h).2.1 q1))
      refine ev_pos q1 ?_
      by_cases q2 : (rd_T160 l (m : Int)).f4 > (rd_T160 l (m : Int)).f5
      case neg => exact ev_neg q2 (skip (fun h => absurd (inS.1 h).2.2 q2))
      refine ev_pos q2 (Ev.bind hh ?_)
      have hms : (m : Int) ∈ s := inS.2 ⟨q0, q1, q2⟩
      by_cases ct : (m : Int) ∈ s.take t
      · exact ev_pos (decide_eq_true ct) (skip (fun _ => ct))
      refine ev_neg (by rw [decide_eq_true_eq]; exact ct) ?_
      by_cases cb : b < 0
      · refine ev_pos cb (take_ hms ct (.inl ?_))
        rcases hbm with ⟨e, _⟩ | ⟨q, e, _⟩
        · exact e
        · omega
      refine ev_neg cb ?_
      have hq : ∃ q : Nat, b = (q : Int) ∧ q < m := by
        rcases hbm with ⟨e, _⟩ | ⟨q, e, hq, h1, _⟩
        · omega
        · exact ⟨q, e, hq⟩
      obtain ⟨q, eq, hqm⟩ := hq
      refine ev_pos (by omega) (ev_pos (by omega) ?_)
      have e0 : (rd_T160 l b).f3 = ex l b := rfl
      have f0 : (rd_T160 l (m : Int)).f3 = ex l (m : Int) := rfl
      by_cases c3 : (rd_T160 l (m : Int)).f3 < (rd_T160 l b).f3
      · refine ev_pos c3 (take_ hms ct (.inr (fun j hj => ?_)))
        rw [e0, f0] at c3
        rcases hj with rfl | hj
        · exact .inl c3
        · unfold FoC at hj ⊢; omega
      · refine ev_neg c3 (stay hms (by omega) ?_)
        rw [e0, f0] at c3
        unfold FoC; omega
  exact key l.length 0 (-1) (by omega) (.inl ⟨rfl, fun j hj => absurd hj (Nat.not_lt_zero _)⟩)
theorem idleC_ev (l : List S160) (s : List Int) (out : List S162) (hs : ∀ x ∈ s, ∃ q : Nat, x = (q : Int) ∧ q < l.length ∧ 1 ≤ fr l x ∧ fr l x ≤ 1000000) (hn : s.length ≤ 100) : ∀ (e t : Nat), t + e = s.length → Ev (fun k => impl_Picks.l1 k 0 out s (s.length : Int) (t : Int) l) out := by
  intro e
  induction e with
  | zero =>
    intro t ht
    refine Ev.step (fun k => by rw [impl_Picks.l1]) ?_
    exact ev_neg (by omega) (ev_neg (by decide) (Ev.now _))
  | succ e ih =>
    intro t ht
    have hlt : t < s.length := by omega
    have g1 : (t : Int) < (s.length : Int) := Int.ofNat_lt.2 hlt
    obtain ⟨q, eq, hq, f1, f2⟩ := hs _ (List.getElem_mem hlt)
    rw [eq] at f1 f2
    have hrd : rd s (t : Int) = (q : Int) := by rw [rd_at hlt, eq]
    have ew := Aside0.mk (show wrap64 (((rd_T160 l (q : Int)).f4) - ((rd_T160 l (q : Int)).f5)) = fr l (q : Int) from by unfold fr at f1 f2 ⊢; exact wrap_id (by omega) (by omega))
    refine Ev.step (fun k => by rw [impl_Picks.l1]) ?_
    simp only [hrd, ew.out]
    refine ev_pos g1 (ev_pos (Int.natCast_nonneg _) (ev_pos g1 (ev_pos (Int.natCast_nonneg _) (ev_pos (Int.ofNat_lt.2 hq) (ev_pos (by omega) (ev_neg (by decide) ?_))))))
    rw [wrap_succ hlt (by omega)]
    exact ih (t + 1) (by omega)
theorem payC_ev {l : List S160} (hn : l.length ≤ 100) (hl : ∀ x ∈ l, (0 ≤ x.f4 ∧ x.f4 ≤ 1000000) ∧ 0 ≤ x.f5) (nm : ByteArray) (d : Int) : ∀ (e t : Nat) (c : Int) (out : List S162), t + e = (srtC l nm d).length → out.length ≤ t → 0 ≤ c → c ≤ 1000000 →
    ∃ res, Ev (fun k => impl_Picks.l1 k c out (srtC l nm d) ((srtC l nm d).length : Int) (t : Int) l) res ∧ Ev (fun k => spec_Picks.l0 k l nm c d out ((srtC l nm d).take t)) res ∧ res.length ≤ 200 := by
  have hsl := srtC_length l nm d
  have hin : ∀ x ∈ srtC l nm d, ∃ q : Nat, x = (q : Int) ∧ q < l.length ∧ 1 ≤ fr l x ∧ fr l x ≤ 1000000 := by
    intro x hx
    obtain ⟨q, rfl, hq, _, _, h⟩ := (srtC_mem l nm d x).1 hx
    have hrd : rd_T160 l (q : Int) = l[q] := getD_at hq _
    have := hl _ (List.getElem_mem hq)
    rw [← hrd] at this
    refine ⟨q, rfl, hq, ?_, ?_⟩
    · unfold fr; omega
    · unfold fr; omega
  intro e
  induction e with
  | zero =>
    intro t c out ht ho h0 h1
    by_cases c0 : c > 0
    · refine ⟨[], ?_, ?_, by simp⟩
      · refine Ev.step (fun k => by rw [impl_Picks.l1]) ?_
        exact ev_neg (by omega) (ev_pos c0 (Ev.now _))
      · refine Ev.step (fun k => by rw [spec_Picks.l0]) ?_
        exact ev_pos c0 (pickC_ev hn ho (by omega) (.inl ⟨by omega, rfl⟩))
    · refine ⟨out, ?_, ?_, by omega⟩
      · refine Ev.step (fun k => by rw [impl_Picks.l1]) ?_
        exact ev_neg (by omega) (ev_neg c0 (Ev.now _))
      · refine Ev.step (fun k => by rw [spec_Picks.l0]) ?_
        exact ev_neg c0 (Ev.now _)
  | succ e ih =>
    intro t c out ht ho h0 h1
    have hlt : t < (srtC l nm d).length := by omega
    by_cases c0 : c > 0
    case neg =>
      have e0 : c = 0 := by omega
      subst e0
      refine ⟨out, idleC_ev l _ out hin (by omega) (e + 1) t (by omega), ?_, by omega⟩
      refine Ev.step (fun k => by rw [spec_Picks.l0]) ?_
      exact ev_neg c0 (Ev.now _)
    obtain ⟨q, eq, hq, f1, f2⟩ := hin _ (List.getElem_mem hlt)
    rw [eq] at f1 f2
    have g1 : (t : Int) < ((srtC l nm d).length : Int) := Int.ofNat_lt.2 hlt
    have g2 : (q : Int) < (l.length : Int) := Int.ofNat_lt.2 hq
    have g3 : out.length < 8796093022208 := Nat.lt_of_le_of_lt (show out.length ≤ 200 by omega) (by decide)
    have hrd : rd (srtC l nm d) (t : Int) = (q : Int) := by rw [rd_at hlt, eq]
    have htk : (srtC l nm d).take t ++ [(q : Int)] = (srtC l nm d).take (t + 1) := by rw [List.take_add_one, List.getElem?_eq_getElem hlt, eq]; rfl
    have ew := Aside0.mk (show wrap64 (((rd_T160 l (q : Int)).f4) - ((rd_T160 l (q : Int)).f5)) = fr l (q : Int) from by unfold fr at f1 f2 ⊢; exact wrap_id (by omega) (by omega))
    have ew2 := Aside0.mk (show fr l (q : Int) ≤ c → wrap64 (c - fr l (q : Int)) = c - fr l (q : Int) from fun h => wrap_id (by omega) (by omega))
    by_cases cc : fr l (q : Int) > c
    · obtain ⟨res, r1, r2, r3⟩ := ih (t + 1) 0 (out ++ [(⟨(q : Int), c⟩ : S162)]) (by omega) (by rw [List.length_append, List.length_singleton]; omega) (by omega) (by omega)
      refine ⟨res, ?_, ?_, r3⟩
      · refine Ev.step (fun k => by rw [impl_Picks.l1]) ?_
        simp only [hrd, ew.out]
        refine ev_pos g1 (ev_pos (Int.natCast_nonneg _) (ev_pos g1 (ev_pos (Int.natCast_nonneg _) (ev_pos g2 (ev_pos cc (ev_pos c0 (ev_pos g3 ?_)))))))
        rw [wrap_succ hlt (by omega)]
        exact r1
      · refine Ev.step (fun k => by rw [spec_Picks.l0]) ?_
        refine ev_pos c0 (pickC_ev hn ho (by omega) (.inr ⟨hlt, q, eq, hq, .inl ⟨by rw [ew.out]; exact cc, ?_⟩⟩))
        rw [htk]
        exact r2
    · obtain ⟨res, r1, r2, r3⟩ := ih (t + 1) (c - fr l (q : Int)) (out ++ [(⟨(q : Int), fr l (q : Int)⟩ : S162)]) (by omega) (by rw [List.length_append, List.length_singleton]; omega) (by omega) (by omega)
      refine ⟨res, ?_, ?_, r3⟩
      · refine Ev.step (fun k => by rw [impl_Picks.l1]) ?_
        simp only [hrd, ew.out, ew2.out (by omega)]
        refine ev_pos g1 (ev_pos (Int.natCast_nonneg _) (ev_pos g1 (ev_pos (Int.natCast_nonneg _) (ev_pos g2 (ev_neg cc (ev_pos (by omega) (ev_pos g3 ?_)))))))
        rw [wrap_succ hlt (by omega)]
        exact r1
      · refine Ev.step (fun k => by rw [spec_Picks.l0]) ?_
        refine ev_pos c0 (pickC_ev hn ho (by omega) (.inr ⟨hlt, q, eq, hq, .inr ⟨by rw [ew.out]; exact cc, ?_⟩⟩))
        rw [htk, ew.out, ew2.out (by omega)]
        exact r2
theorem candL_succ (l : List S160) (nm : ByteArray) (d : Int) (i : Nat) : candL l nm d (i + 1) = if isC l nm d (i : Int) = true then candL l nm d i ++ [(i : Int)] else candL l nm d i := by
  unfold candL
  rw [idx_succ, List.filter_append]
  by_cases c : isC l nm d (i : Int) = true
  · rw [if_pos c, List.filter_cons, if_pos c]
    rfl
  · rw [if_neg c, List.filter_cons, if_neg c]
    simp
theorem implC_ev (l : List S160) (hn : l.length ≤ 100) (nm : ByteArray) (c d : Int) {r : List S162} (hr : Ev (fun k => impl_Picks.l1 k c [] (srtC l nm d) ((srtC l nm d).length : Int) 0 l) r) : ∀ (e i : Nat), i + e = l.length → Ev (fun k => impl_Picks.l0 k nm c d (candL l nm d i) l (l.length : Int) (i : Int) l) r := by
  intro e
  induction e with
  | zero =>
    intro i hi
    have e : i = l.length := by omega
    subst e
    have l1 := filter_le (p := isC l nm d) l.length
    have s1 := impl_sortBy_int_ev (fun a_ b_ => impl_Picks_1.f a_ b_ l) (lessC l) (candL l nm d l.length) (by unfold candL; omega) (fun a ha b hb => by
      unfold candL at ha hb
      obtain ⟨p, rfl, hp⟩ := idx_mem.1 (List.mem_filter.1 ha).1
      obtain ⟨q, rfl, hq⟩ := idx_mem.1 (List.mem_filter.1 hb).1
      unfold impl_Picks_1.f lessC
      rw [if_pos (by omega), if_pos (by omega), if_pos (by omega), if_pos (by omega)]
      rfl)
    refine Ev.step (fun k => by rw [impl_Picks.l0]) ?_
    refine ev_neg (Int.lt_irrefl _) (Ev.bind s1 ?_)
    have el : (candL l nm d l.length).length = (srtC l nm d).length := by unfold srtC; rw [XSort.sort_length]
    rw [el]
    exact hr
  | succ e ih =>
    intro i hi
    have hlt : i < l.length := by omega
    have g1 : (i : Int) < (l.length : Int) := Int.ofNat_lt.2 hlt
    have lm := filter_le (p := isC l nm d) i
    have gm : (candL l nm d i).length < 17592186044416 := Nat.lt_of_le_of_lt (show _ ≤ 200 by unfold candL; omega) (by decide)
    have ih' := ih (i + 1) (by omega)
    rw [candL_succ] at ih'
    refine Ev.step (fun k => by rw [impl_Picks.l0]) ?_
    rw [wrap_succ hlt (by omega)]
    refine ev_pos g1 (ev_pos (Int.natCast_nonneg _) (ev_pos g1 ?_))
    have off : ¬ ((rd_T160 l (i : Int)).f0.toList = nm.toList ∧ d ≤ (rd_T160 l (i : Int)).f3 ∧ (rd_T160 l (i : Int)).f5 < (rd_T160 l (i : Int)).f4) → Ev (fun k => impl_Picks.l0 k nm c d (candL l nm d i) l (l.length : Int) ((i + 1 : Nat) : Int) l) r := by
      intro h
      rw [if_neg (by unfold isC; rw [decide_eq_true_eq]; exact h)] at ih'
      exact ih'
    by_cases q0 : (rd_T160 l (i : Int)).f0.toList = nm.toList
    case neg => exact ev_neg q0 (off (fun h => q0 h.1))
    refine ev_pos q0 ?_
    by_cases q1 : (rd_T160 l (i : Int)).f3 ≥ d
    case neg => exact ev_neg q1 (off (fun h => q1 h.2.1))
    refine ev_pos q1 ?_
    by_cases q2 : (rd_T160 l (i : Int)).f4 > (rd_T160 l (i : Int)).f5
    case neg => exact ev_neg q2 (off (fun h => q2 h.2.2))
    refine ev_pos q2 (ev_pos gm ?_)
    rw [if_pos (by unfold isC; exact decide_eq_true ⟨q0, q1, q2⟩)] at ih'
    exact ih'
theorem picks_ev (l : List S160) (hl : (l.length : Int) ≤ 1048576 ∧ ∀ x ∈ l, B160 1048576 x) (nm : ByteArray) (c d : Int) : ∃ res, Ev (fun k => impl_Picks.f k l nm c d) res ∧ Ev (fun k => spec_Picks.f k l nm c d) res ∧ res.length ≤ 200 := by
  have iT : Ev (fun k => impl_Picks.j0 k nm c d true l) [] := by
    refine Ev.step (fun k => by rw [impl_Picks.j0]) ?_
    exact ev_pos rfl (Ev.now _)
  have sT : Ev (fun k => spec_Picks.j0 k l nm c d [] true) [] := by
    refine Ev.step (fun k => by rw [spec_Picks.j0]) ?_
    exact ev_pos rfl (Ev.now _)
  obtain ⟨b1, h1, p1⟩ := spec_stock_ev l hl
  obtain ⟨b2, h2, p2⟩ := impl_stock_ev l hl
  have : b1 = b2 := bool_of_iff p1 p2
  subst this
  unfold impl_Picks.f spec_Picks.f
  by_cases cs : b1 = true
  case neg => exact ⟨[], Ev.bind h2 (ev_neg cs iT), ev_bind0 rfl (Ev.bind h1 (ev_neg cs sT)), by simp⟩
  have hS := p1.1 cs
  have hn : l.length ≤ 100 := by have := hS.1; omega
  by_cases cq : 1 ≤ c ∧ c ≤ 1000000
  case neg => exact ⟨[], Ev.bind h2 (ev_pos cs (ev_bind0 (impl_between_eq ..) (ev_neg (by rw [decide_eq_true_eq]; exact cq) iT))), ev_bind0 rfl (Ev.bind h1 (ev_pos cs (ev_bind0 (spec_l1In_eq ..) (ev_neg (by rw [decide_eq_true_eq]; exact cq) sT)))), by simp⟩
  by_cases cd : 0 ≤ d ∧ d ≤ 40000
  case neg =>
    refine ⟨[], Ev.bind h2 (ev_pos cs (ev_bind0 (impl_between_eq ..) (ev_pos (decide_eq_true cq) (ev_bind0 (impl_isDay_eq _) ?_)))), ev_bind0 rfl (Ev.bind h1 (ev_pos cs (ev_bind0 (spec_l1In_eq ..) (ev_pos (decide_eq_true cq) (ev_bind0 (spec_l2Day_eq _) ?_))))), by simp⟩
    · rw [decide_eq_false cd]; exact iT
    · rw [decide_eq_false cd]; exact sT
  have hx : ∀ x ∈ l, (0 ≤ x.f4 ∧ x.f4 ≤ 1000000) ∧ 0 ≤ x.f5 := by
    intro x hx
    obtain ⟨i, hi, rfl⟩ := List.getElem_of_mem hx
    obtain ⟨_, _, _, _, h4, h5⟩ := (hS.2 i hi).1
    exact ⟨h4, h5.1⟩
  obtain ⟨res, r1, r2, r3⟩ := payC_ev hn hx nm d (srtC l nm d).length 0 c [] (by omega) (by simp) (by omega) cq.2
  refine ⟨res, Ev.bind h2 (ev_pos cs (ev_bind0 (impl_between_eq ..) (ev_pos (decide_eq_true cq) (ev_bind0 (impl_isDay_eq _) ?_)))), ev_bind0 rfl (Ev.bind h1 (ev_pos cs (ev_bind0 (spec_l1In_eq ..) (ev_pos (decide_eq_true cq) (ev_bind0 (spec_l2Day_eq _) ?_))))), r3⟩
  · rw [decide_eq_true cd]
    refine Ev.step (fun k => by rw [impl_Picks.j0]) ?_
    exact ev_neg (by decide) (implC_ev l hn nm c d r1 l.length 0 (by omega))
  · rw [decide_eq_true cd]
    refine Ev.step (fun k => by rw [spec_Picks.j0]) ?_
    exact ev_neg (by decide) r2
theorem FnExactPicks : laws_FnExactPicks.Pure := by
  intro l0 a1 a2 a3 hg0 hg1 _ _
  apply Ev.rounds
  unfold laws_FnExactPicks.f
  by_cases cl : (a1.size : Int) > 1048576
  · exact ev_pos cl (Ev.now _)
  refine ev_neg cl ?_
  obtain ⟨s, hs, h⟩ := laws_szCellS_ev l0 1048576 (by omega) (by omega) hg0
  refine Ev.bind hs ?_
  rcases h with h | ⟨_, _, hB⟩
  · exact ev_pos h (Ev.now _)
  refine ev_neg (by omega) ?_
  have to0 := laws_toCellS_ev l0 hB
  have hB' : ((l0.map cv158).length : Int) ≤ 1048576 ∧ ∀ x ∈ l0.map cv158, B160 1048576 x := ⟨by rw [List.length_map]; exact hB.1, fun x hx => by
    obtain ⟨y, hy, rfl⟩ := List.mem_map.1 hx
    exact cv158_B (hB.2 y hy)⟩
  obtain ⟨r, h2, h3, hr⟩ := picks_ev (l0.map cv158) hB' a1 a2 a3
  have hr1 : (r.length : Int) ≤ 1048576 := by omega
  have er := laws_eqPickS_ev r hr1
  refine Ev.bind to0 (Ev.bind h3 (Ev.bind to0 (Ev.bind h2 (Ev.bind er (ev_pos rfl ?_)))))
  refine Ev.bind to0 (Ev.bind (laws_eqCellS_ev _ hB') (ev_pos rfl ?_))
  obtain ⟨q, hq, q0, q1, _⟩ := laws_markCellS_ev (l0.map cv158) 1 (by omega) (by omega) hB'.1
  refine Ev.bind hq (ev_neg (by omega) (Ev.bind er ?_))
  refine Ev.step (fun k => by rw [laws_FnExactPicks.j0]) ?_
  have hm := laws_markPickS_eq r 1 (by omega) (by omega) hr1
  have hh := laws_heldPickS_eq 1 r.length (by omega) (by omega) hr1
  refine ev_neg (by simp) (Ev.bind hm (Ev.bind hh (ev_neg (by omega) (ev_pos rfl ?_))))
  refine Ev.bind to0 (Ev.bind h2 (Ev.bind er (ev_pos rfl ?_)))
  exact Ev.bind hh (ev_neg (by omega) (ev_pos rfl (Ev.now _)))
end Go.Proofs.Ytlodndejipjceaa.Pure
