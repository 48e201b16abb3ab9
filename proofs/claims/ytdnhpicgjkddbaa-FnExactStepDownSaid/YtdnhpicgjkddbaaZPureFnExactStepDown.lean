/- StepDown: the program's answer is the reference's, whatever the costs and the rules. -/
import Derived.Test.YtdnhpicgjkddbaaZPFnExactStepDownx
import Derived.Test.YtdnhpicgjkddbaaZHFnExactStepDown
/- A stable sort by halves, and what it leaves: a permutation in which each stands ahead of the next; and that such a list is the only one. -/
set_option linter.unusedVariables false
namespace Go.Proofs.XSort

def merge {α : Type} (less : α → α → Bool) : List α → List α → List α
  | [], r => r
  | a :: l, [] => a :: l
  | a :: l, b :: r => if less b a = true then b :: merge less (a :: l) r else a :: merge less l (b :: r)
termination_by l r => l.length + r.length

def sortN {α : Type} (less : α → α → Bool) : Nat → List α → List α
  | 0, xs => xs
  | k + 1, xs => if xs.length < 2 then xs else merge less (sortN less k (xs.take (xs.length / 2))) (sortN less k (xs.drop (xs.length / 2)))
def sort {α : Type} (less : α → α → Bool) (xs : List α) : List α := sortN less xs.length xs

section
variable {α : Type} {less : α → α → Bool}
theorem merge_nil (r : List α) : merge less [] r = r := by rw [merge.eq_def]
theorem merge_nil2 (l : List α) : merge less l [] = l := by cases l <;> rw [merge.eq_def]
theorem merge_right {a b : α} {l r : List α} (h : less b a = true) : merge less (a :: l) (b :: r) = b :: merge less (a :: l) r := by rw [merge.eq_def]; simp only [h, if_true]
theorem merge_left {a b : α} {l r : List α} (h : ¬ less b a = true) : merge less (a :: l) (b :: r) = a :: merge less l (b :: r) := by rw [merge.eq_def]; simp only [if_neg h]

theorem merge_perm : ∀ (n : Nat) (l r : List α), l.length + r.length = n → (merge less l r).Perm (l ++ r) := by
  intro n
  induction n with
  | zero =>
    intro l r h
    have h1 : l = [] := List.eq_nil_of_length_eq_zero (by omega)
    subst h1
    rw [merge_nil]
    exact List.Perm.refl _
  | succ n ih =>
    intro l r h
    cases l with
    | nil => rw [merge_nil]; exact List.Perm.refl _
    | cons a l =>
      cases r with
      | nil => rw [merge_nil2, List.append_nil]
      | cons b r =>
        by_cases c : less b a = true
        · rw [merge_right c]
          have := ih (a :: l) r (by simp at h ⊢; omega)
          exact (List.Perm.cons b this).trans (List.perm_middle.symm)
        · rw [merge_left c]
          have := ih l (b :: r) (by simp at h ⊢; omega)
          exact List.Perm.cons a this
theorem sortN_perm : ∀ (k : Nat) (xs : List α), (sortN less k xs).Perm xs := by
  intro k
  induction k with
  | zero => intro xs; exact List.Perm.refl _
  | succ k ih =>
    intro xs
    unfold sortN
    by_cases c : xs.length < 2
    · rw [if_pos c]
    · rw [if_neg c]
      refine (merge_perm _ _ _ rfl).trans ?_
      have := List.Perm.append (ih (xs.take (xs.length / 2))) (ih (xs.drop (xs.length / 2)))
      rw [List.take_append_drop] at this
      exact this
theorem sort_perm (xs : List α) : (sort less xs).Perm xs := sortN_perm _ _
theorem sortN_length (k : Nat) (xs : List α) : (sortN less k xs).length = xs.length := (sortN_perm k xs).length_eq
/-- a stands ahead of b: it is less, or it is not more and came in ahead. -/
def Ahead (less : α → α → Bool) (P : α → α → Prop) (a b : α) : Prop := less a b = true ∨ (¬ less b a = true ∧ P a b)

theorem merge_ahead {P : α → α → Prop} : ∀ (n : Nat) (l r : List α), l.length + r.length = n → (∀ a ∈ l ++ r, ∀ b ∈ l ++ r, ∀ c ∈ l ++ r, Ahead less P a b → Ahead less P b c → Ahead less P a c) →
    l.Pairwise (Ahead less P) → r.Pairwise (Ahead less P) → (∀ a ∈ l, ∀ b ∈ r, P a b) → (merge less l r).Pairwise (Ahead less P) := by
  intro n
  induction n with
  | zero =>
    intro l r h _ _ hr _
    have h1 : l = [] := List.eq_nil_of_length_eq_zero (by omega)
    subst h1
    rw [merge_nil]
    exact hr
  | succ n ih =>
    intro l r h ht hl hr hP
    cases l with
    | nil => rw [merge_nil]; exact hr
    | cons a l =>
      cases r with
      | nil => rw [merge_nil2]; exact hl
      | cons b r =>
        rw [List.pairwise_cons] at hl hr
        by_cases c : less b a = true
        · rw [merge_right c, List.pairwise_cons]
          have hba : Ahead less P b a := .inl c
          refine ⟨fun x hx => ?_, ih (a :: l) r (by simp at h ⊢; omega) (fun x hx y hy z hz => ht x (by simp at hx ⊢; rcases hx with h | h | h <;> simp [h]) y (by simp at hy ⊢; rcases hy with h | h | h <;> simp [h]) z (by simp at hz ⊢; rcases hz with h | h | h <;> simp [h])) (List.pairwise_cons.2 hl) hr.2 (fun x hx y hy => hP x hx y (List.mem_cons_of_mem _ hy))⟩
          have hx' := (merge_perm _ (a :: l) r rfl).mem_iff.1 hx
          rcases List.mem_append.1 hx' with h1 | h1
          · rcases List.mem_cons.1 h1 with h2 | h2
            · rw [h2]; exact hba
            · exact ht b (by simp) a (by simp) x (by simp [h2]) hba (hl.1 x h2)
          · exact hr.1 x h1
        · rw [merge_left c, List.pairwise_cons]
          have hab : Ahead less P a b := .inr ⟨c, hP a (by simp) b (by simp)⟩
          refine ⟨fun x hx => ?_, ih l (b :: r) (by simp at h ⊢; omega) (fun x hx y hy z hz => ht x (by simp at hx ⊢; rcases hx with h | h | h <;> simp [h]) y (by simp at hy ⊢; rcases hy with h | h | h <;> simp [h]) z (by simp at hz ⊢; rcases hz with h | h | h <;> simp [h])) hl.2 (List.pairwise_cons.2 hr) (fun x hx y hy => hP x (List.mem_cons_of_mem _ hx) y hy)⟩
          have hx' := (merge_perm _ l (b :: r) rfl).mem_iff.1 hx
          rcases List.mem_append.1 hx' with h1 | h1
          · exact hl.1 x h1
          · rcases List.mem_cons.1 h1 with h2 | h2
            · rw [h2]; exact hab
            · exact ht a (by simp) b (by simp) x (by simp [h2]) hab (hr.1 x h2)

theorem sortN_ahead {P : α → α → Prop} : ∀ (k : Nat) (xs : List α), xs.length ≤ k → (∀ a ∈ xs, ∀ b ∈ xs, ∀ c ∈ xs, Ahead less P a b → Ahead less P b c → Ahead less P a c) → xs.Pairwise P → (sortN less k xs).Pairwise (Ahead less P) := by
  intro k
  induction k with
  | zero =>
    intro xs h _ _
    have : xs = [] := List.eq_nil_of_length_eq_zero (by omega)
    subst this
    exact List.Pairwise.nil
  | succ k ih =>
    intro xs h ht hP
    unfold sortN
    by_cases c : xs.length < 2
    · rw [if_pos c]
      match xs, c with
      | [], _ => exact List.Pairwise.nil
      | [x], _ => exact List.pairwise_singleton _ _
      | x :: y :: r, c => simp at c; omega
    · rw [if_neg c]
      have hs := List.take_append_drop (xs.length / 2) xs
      have hm : ∀ x, x ∈ sortN less k (xs.take (xs.length / 2)) ++ sortN less k (xs.drop (xs.length / 2)) → x ∈ xs := by
        intro x hx
        rcases List.mem_append.1 hx with h1 | h1
        · exact List.mem_of_mem_take ((sortN_perm _ _).mem_iff.1 h1)
        · exact List.mem_of_mem_drop ((sortN_perm _ _).mem_iff.1 h1)
      have hP' := hP
      rw [← hs, List.pairwise_append] at hP'
      refine merge_ahead _ _ _ rfl (fun a ha b hb d hd => ht a (hm a ha) b (hm b hb) d (hm d hd)) ?_ ?_ ?_
      · exact ih _ (by rw [List.length_take]; omega) (fun a ha b hb d hd => ht a (List.mem_of_mem_take ha) b (List.mem_of_mem_take hb) d (List.mem_of_mem_take hd)) hP'.1
      · exact ih _ (by rw [List.length_drop]; omega) (fun a ha b hb d hd => ht a (List.mem_of_mem_drop ha) b (List.mem_of_mem_drop hb) d (List.mem_of_mem_drop hd)) hP'.2.1
      · intro a ha b hb
        exact hP'.2.2 a ((sortN_perm _ _).mem_iff.1 ha) b ((sortN_perm _ _).mem_iff.1 hb)
theorem sort_ahead {P : α → α → Prop} (xs : List α) (ht : ∀ a ∈ xs, ∀ b ∈ xs, ∀ c ∈ xs, Ahead less P a b → Ahead less P b c → Ahead less P a c) (hP : xs.Pairwise P) : (sort less xs).Pairwise (Ahead less P) := sortN_ahead _ _ (Nat.le_refl _) ht hP
end

/-- By a number, from the least: what is alike in its order. -/
theorem sort_by_key {α : Type} (key : α → Int) (P : α → α → Prop) (hPt : ∀ a b c, P a b → P b c → P a c) (xs : List α) (hP : xs.Pairwise P) (less : α → α → Bool) (hless : ∀ a ∈ xs, ∀ b ∈ xs, (less a b = true ↔ key a < key b)) :
    (sort less xs).Pairwise (fun a b => key a < key b ∨ (key a = key b ∧ P a b)) := by
  have h := sort_ahead (less := less) (P := P) xs (by
    intro a ha b hb c hc h1 h2
    unfold Ahead at *
    rw [hless a ha b hb, hless b hb a ha] at h1
    rw [hless b hb c hc, hless c hc b hb] at h2
    rw [hless a ha c hc, hless c hc a ha]
    rcases h1 with h1 | ⟨h1, p1⟩
    · rcases h2 with h2 | ⟨h2, p2⟩
      · exact .inl (by omega)
      · exact .inl (by omega)
    · rcases h2 with h2 | ⟨h2, p2⟩
      · exact .inl (by omega)
      · exact .inr ⟨by omega, hPt _ _ _ p1 p2⟩) hP
  refine List.Pairwise.imp_of_mem ?_ h
  intro a b ha hb hab
  have ha' := (sort_perm xs).mem_iff.1 ha
  have hb' := (sort_perm xs).mem_iff.1 hb
  unfold Ahead at hab
  rw [hless a ha' b hb', hless b hb' a ha'] at hab
  rcases hab with h | ⟨h, p⟩
  · exact .inl h
  · by_cases c : key a < key b
    · exact .inl c
    · exact .inr ⟨by omega, p⟩

end Go.Proofs.XSort
set_option maxHeartbeats 4000000
set_option linter.unusedVariables false
set_option linter.unusedSimpArgs false
namespace Go.Proofs.Ytdnhpicgjkddbaa.Pure
open Go.RowKit Go.Proofs.Ytdnhpicgjkddbaa.PFnExactStepDown Go.Proofs.YtdnhpicgjkddbaaW.PrintWords Go.Proofs.YtdnhpicgjkddbaaW.PrintLast Go.Proofs.Ytdnhpicgjkddbaa.XEv
/-! The printed sort: impl_cutOff -/
theorem impl_cutOff_merge (lt : S223 → S223 → Option Bool) (less : S223 → S223 → Bool) (l r : List S223) (hl : l.length + r.length ≤ 1048576) (hlt : ∀ a ∈ l, ∀ b ∈ r, lt b a = some (less b a)) :
    ∀ (d i j : Nat) (x P : List S223), i ≤ l.length → j ≤ r.length → (l.length - i) + (r.length - j) = d → x.length = l.length + r.length → x.take (i + j) = P →
      Ev (fun k => impl_cutOff.l0 k x lt l r (i : Int) (j : Int) ((l.length + r.length : Nat) : Int) ((i + j : Nat) : Int)) (P ++ XSort.merge less (l.drop i) (r.drop j)) := by
  intro d
  induction d with
  | zero =>
    intro i j x P hi hj hd hx hP
    have e1 : i = l.length := by omega
    have e2 : j = r.length := by omega
    subst e1 e2
    rw [List.drop_length, List.drop_length, XSort.merge_nil, List.append_nil]
    have e3 : P = x := by rw [← hP, ← hx, List.take_length]
    subst e3
    refine Ev.step (fun k => by rw [impl_cutOff.l0]) ?_
    exact ev_neg (by omega) (Ev.now _)
  | succ d ih =>
    intro i j x P hi hj hd hx hP
    have hn : i + j < x.length := by omega
    have hlen : P.length = i + j := by rw [← hP, List.length_take]; omega
    have put : ∀ v : S223, (x.set (i + j) v).take (i + j + 1) = P ++ [v] := by
      intro v
      rw [List.take_add_one, List.getElem?_set_self hn, List.take_set, hP, List.set_eq_of_length_le (by omega)]
      rfl
    have goL : ∀ (h : i < l.length), Ev (fun k => impl_cutOff.l0 k (x.set (i + j) l[i]) lt l r ((i + 1 : Nat) : Int) (j : Int) ((l.length + r.length : Nat) : Int) ((i + j + 1 : Nat) : Int)) (P ++ l[i] :: XSort.merge less (l.drop (i + 1)) (r.drop j)) := by
      intro h
      have := ih (i + 1) j (x.set (i + j) l[i]) (P ++ [l[i]]) (by omega) hj (by omega) (by rw [List.length_set]; exact hx) (by rw [show i + 1 + j = i + j + 1 by omega]; exact put _)
      rw [show i + 1 + j = i + j + 1 by omega, List.append_assoc] at this
      exact this
    have goR : ∀ (h : j < r.length), Ev (fun k => impl_cutOff.l0 k (x.set (i + j) r[j]) lt l r (i : Int) ((j + 1 : Nat) : Int) ((l.length + r.length : Nat) : Int) ((i + j + 1 : Nat) : Int)) (P ++ r[j] :: XSort.merge less (l.drop i) (r.drop (j + 1))) := by
      intro h
      have := ih i (j + 1) (x.set (i + j) r[j]) (P ++ [r[j]]) hi (by omega) (by omega) (by rw [List.length_set]; exact hx) (by rw [show i + (j + 1) = i + j + 1 by omega]; exact put _)
      rw [show i + (j + 1) = i + j + 1 by omega, List.append_assoc] at this
      exact this
    have w1 : ∀ m : Nat, m ≤ 2097152 → wrap64 ((m : Int) + 1) = ((m + 1 : Nat) : Int) := fun m hm => wrap_succ (n := m + 1) (by omega) (by omega)
    have rdl : ∀ h : i < l.length, rd_T223 l (i : Int) = l[i] := fun h => by first | exact rd_at h | exact getD_at h _
    have rdr : ∀ h : j < r.length, rd_T223 r (j : Int) = r[j] := fun h => by first | exact rd_at h | exact getD_at h _
    by_cases cj : j = r.length
    · have hi' : i < l.length := by omega
      have hm : XSort.merge less (l.drop i) (r.drop j) = l[i] :: XSort.merge less (l.drop (i + 1)) (r.drop j) := by
        rw [List.drop_eq_getElem_cons hi', cj, List.drop_length, XSort.merge_nil2, XSort.merge_nil2]
      rw [hm]
      refine Ev.step (fun k => by rw [impl_cutOff.l0]) ?_
      refine ev_pos (by omega) (ev_pos (by omega) (ev_pos (by omega) (ev_pos (by omega) (ev_pos (by omega) (ev_pos (by omega) ?_)))))
      rw [w1 i (by omega), w1 (i + j) (by omega), Int.toNat_natCast]
      have := goL hi'
      rw [← rdl hi'] at this ⊢
      exact this
    · have hj' : j < r.length := by omega
      by_cases ci : i < l.length
      · have hl2 := hlt l[i] (List.getElem_mem ci) r[j] (List.getElem_mem hj')
        by_cases cc : less r[j] l[i] = true
        · have hm : XSort.merge less (l.drop i) (r.drop j) = r[j] :: XSort.merge less (l.drop i) (r.drop (j + 1)) := by
            rw [List.drop_eq_getElem_cons ci, List.drop_eq_getElem_cons hj', XSort.merge_right cc]
          rw [hm]
          have hg := goR hj'
          rw [← rdr hj'] at hg ⊢
          rw [← rdr hj', ← rdl ci] at hl2
          rw [← rdr hj', ← rdl ci] at cc
          refine Ev.step (fun k => by rw [impl_cutOff.l0]) ?_
          refine ev_pos (by omega) (ev_neg (by omega) (ev_pos (by omega) (ev_pos (by omega) (ev_pos (by omega) (ev_pos (by omega) (ev_bind0 hl2 (ev_pos cc (ev_pos (by omega) (ev_pos (by omega) ?_)))))))))
          rw [w1 j (by omega), w1 (i + j) (by omega), Int.toNat_natCast]
          exact hg
        · have hm : XSort.merge less (l.drop i) (r.drop j) = l[i] :: XSort.merge less (l.drop (i + 1)) (r.drop j) := by
            rw [List.drop_eq_getElem_cons ci, List.drop_eq_getElem_cons hj', XSort.merge_left cc]
          rw [hm]
          have hg := goL ci
          rw [← rdl ci] at hg ⊢
          rw [← rdr hj', ← rdl ci] at hl2
          rw [← rdr hj', ← rdl ci] at cc
          refine Ev.step (fun k => by rw [impl_cutOff.l0]) ?_
          refine ev_pos (by omega) (ev_neg (by omega) (ev_pos (by omega) (ev_pos (by omega) (ev_pos (by omega) (ev_pos (by omega) (ev_bind0 hl2 (ev_neg cc (ev_pos (by omega) (ev_pos (by omega) ?_)))))))))
          rw [w1 i (by omega), w1 (i + j) (by omega), Int.toNat_natCast]
          exact hg
      · have ei : i = l.length := by omega
        have hm : XSort.merge less (l.drop i) (r.drop j) = r[j] :: XSort.merge less (l.drop i) (r.drop (j + 1)) := by
          rw [ei, List.drop_length, List.drop_eq_getElem_cons hj', XSort.merge_nil, XSort.merge_nil]
        rw [hm]
        have hg := goR hj'
        rw [← rdr hj'] at hg ⊢
        refine Ev.step (fun k => by rw [impl_cutOff.l0]) ?_
        refine ev_pos (by omega) (ev_neg (by omega) (ev_neg (by omega) (ev_pos (by omega) (ev_pos (by omega) (ev_pos (by omega) (ev_pos (by omega) ?_))))))
        rw [w1 j (by omega), w1 (i + j) (by omega), Int.toNat_natCast]
        exact hg
theorem impl_cutOff_evN (lt : S223 → S223 → Option Bool) (less : S223 → S223 → Bool) : ∀ (n : Nat) (xs : List S223), xs.length ≤ n → xs.length ≤ 1048576 → (∀ a ∈ xs, ∀ b ∈ xs, lt a b = some (less a b)) → Ev (fun k => impl_cutOff.f k xs lt) (XSort.sortN less n xs) := by
  intro n
  induction n with
  | zero =>
    intro xs h0 h1 hlt
    refine Ev.step (fun k => by rw [impl_cutOff.f]) ?_
    exact ev_pos (by omega) (Ev.now _)
  | succ n ih =>
    intro xs h0 h1 hlt
    unfold XSort.sortN
    by_cases c : xs.length < 2
    · rw [if_pos c]
      refine Ev.step (fun k => by rw [impl_cutOff.f]) ?_
      exact ev_pos (by omega) (Ev.now _)
    · rw [if_neg c]
      have hw : wrap64 ((xs.length : Int) / 2) = ((xs.length / 2 : Nat) : Int) := by rw [wrap_id (by omega) (by omega)]; omega
      have t1 := ih (xs.take (xs.length / 2)) (by rw [List.length_take]; omega) (by rw [List.length_take]; omega) (fun a ha b hb => hlt a (List.mem_of_mem_take ha) b (List.mem_of_mem_take hb))
      have t2 := ih (xs.drop (xs.length / 2)) (by rw [List.length_drop]; omega) (by rw [List.length_drop]; omega) (fun a ha b hb => hlt a (List.mem_of_mem_drop ha) b (List.mem_of_mem_drop hb))
      have l1 : (XSort.sortN less n (xs.take (xs.length / 2))).length = xs.length / 2 := by rw [XSort.sortN_length, List.length_take]; omega
      have l2 : (XSort.sortN less n (xs.drop (xs.length / 2))).length = xs.length - xs.length / 2 := by rw [XSort.sortN_length, List.length_drop]
      have t3 := impl_cutOff_merge lt less (XSort.sortN less n (xs.take (xs.length / 2))) (XSort.sortN less n (xs.drop (xs.length / 2))) (by omega)
        (fun a ha b hb => hlt b (List.mem_of_mem_drop ((XSort.sortN_perm _ _).mem_iff.1 hb)) a (List.mem_of_mem_take ((XSort.sortN_perm _ _).mem_iff.1 ha))) _ 0 0 xs [] (by omega) (by omega) rfl (by omega) rfl
      rw [show ((0 : Nat) : Int) = 0 from rfl, show (XSort.sortN less n (xs.take (xs.length / 2))).length + (XSort.sortN less n (xs.drop (xs.length / 2))).length = xs.length by omega, List.drop_zero, List.drop_zero, List.nil_append] at t3
      refine Ev.step (fun k => by rw [impl_cutOff.f]) ?_
      rw [hw]
      simp only [Int.toNat_natCast, Option.bind_some, List.nil_append]
      have q1 : (xs.take (xs.length / 2)).length = xs.length / 2 := by rw [List.length_take]; omega
      have q2 : (xs.drop (xs.length / 2)).length = xs.length - xs.length / 2 := List.length_drop
      refine ev_neg (by omega) (ev_pos (by omega) (ev_pos (by omega) (ev_pos (by simp only [List.length_nil]; omega) (ev_pos (by simp only [List.length_nil]; omega) (Ev.bind t1 (Ev.bind t2 t3))))))
theorem impl_cutOff_ev (lt : S223 → S223 → Option Bool) (less : S223 → S223 → Bool) (xs : List S223) (h1 : xs.length ≤ 1048576) (hlt : ∀ a ∈ xs, ∀ b ∈ xs, lt a b = some (less a b)) : Ev (fun k => impl_cutOff.f k xs lt) (XSort.sort less xs) := impl_cutOff_evN lt less xs.length xs (Nat.le_refl _) h1 hlt
/-- The places of a list. -/
def idx (n : Nat) : List Int := (List.range n).map fun (i : Nat) => (i : Int)
theorem idx_length (n : Nat) : (idx n).length = n := by simp [idx]
theorem idx_succ (n : Nat) : idx (n + 1) = idx n ++ [(n : Int)] := by simp [idx, List.range_succ]
theorem idx_mem {n : Nat} {x : Int} : x ∈ idx n ↔ ∃ q : Nat, x = (q : Int) ∧ q < n := by
  simp only [idx, List.mem_map, List.mem_range]
  exact ⟨fun ⟨q, h, e⟩ => ⟨q, e.symm, h⟩, fun ⟨q, e, h⟩ => ⟨q, h, e.symm⟩⟩
theorem idx_lt (n : Nat) : (idx n).Pairwise (· < ·) := by
  induction n with
  | zero => exact List.Pairwise.nil
  | succ n ih =>
    rw [idx_succ, List.pairwise_append]
    refine ⟨ih, List.pairwise_singleton _ _, fun a ha b hb => ?_⟩
    obtain ⟨q, rfl, hq⟩ := idx_mem.1 ha
    rw [List.mem_singleton.1 hb]
    omega
theorem rd_set {l : List Int} {q : Nat} (hq : q < l.length) (v : Int) (j : Nat) : rd (l.set q v) (j : Int) = if j = q then v else rd l (j : Int) := by
  unfold rd
  simp only [Int.toNat_natCast, List.getD_eq_getElem?_getD]
  by_cases h : j = q
  · subst h
    rw [if_pos rfl, List.getElem?_set_self hq]
    rfl
  · rw [if_neg h, List.getElem?_set_ne (fun e => h e.symm)]
theorem ord_ahead {F : Int → Int → Prop} {s : List Int} (h : s.Pairwise F) {t t' : Nat} (h1 : t < t') (h2 : t' < s.length) : F (s[t]'(by omega)) s[t'] := List.pairwise_iff_getElem.1 h t t' (by omega) h2 h1
theorem ord_inj {F : Int → Int → Prop} (hF : ∀ a, ¬ F a a) {s : List Int} (h : s.Pairwise F) {t t' : Nat} (h1 : t < s.length) (h2 : t' < s.length) (e : s[t] = s[t']) : t = t' := by
  rcases Nat.lt_trichotomy t t' with c | c | c
  · have := ord_ahead h c h2
    rw [e] at this
    exact absurd this (hF _)
  · exact c
  · have := ord_ahead h c h1
    rw [e] at this
    exact absurd this (hF _)
theorem div_char (x W : Int) (hW : 0 < W) : x = W * x.tdiv W + x.tmod W ∧ (0 ≤ x → 0 ≤ x.tmod W) ∧ (x ≤ 0 → x.tmod W ≤ 0) ∧ x.tmod W < W ∧ -W < x.tmod W := by
  have h1 := Int.mul_tdiv_add_tmod x W
  have h2 := Int.tmod_lt_of_pos x hW
  have h3 := Int.tmod_lt_of_pos (-x) hW
  rw [Int.neg_tmod] at h3
  refine ⟨h1.symm, fun h => Int.tmod_nonneg _ h, fun h => ?_, h2, by omega⟩
  have := Int.tmod_nonneg W (show 0 ≤ -x by omega)
  rw [Int.neg_tmod] at this
  omega
theorem mul_bound {a b A B : Int} (h1 : -A ≤ a) (h2 : a ≤ A) (h3 : 0 ≤ b) (h4 : b ≤ B) (hA : 0 ≤ A) : -(A * B) ≤ a * b ∧ a * b ≤ A * B := by
  have e1 : a * b ≤ A * b := Int.mul_le_mul_of_nonneg_right h2 h3
  have e2 : -A * b ≤ a * b := Int.mul_le_mul_of_nonneg_right h1 h3
  have e3 : A * b ≤ A * B := Int.mul_le_mul_of_nonneg_left h4 hA
  rw [Int.neg_mul] at e2
  omega
/-- What may be shared out. -/
def ShIs (T : Int) (w : List Int) : Prop := (-100000000000 ≤ T ∧ T ≤ 100000000000) ∧ w.length ≤ 200 ∧ (∀ x ∈ w, 0 ≤ x ∧ x ≤ 10000000) ∧ 0 < w.sum
def shQ (T : Int) (w : List Int) (i : Int) : Int := (T * rd w i).tdiv w.sum
def shM (T : Int) (w : List Int) (i : Int) : Int := (T * rd w i).tmod w.sum
def shR (T : Int) (w : List Int) (i : Int) : Int := if shM T w i < 0 then -shM T w i else shM T w i
theorem sum_nonneg : ∀ {l : List Int}, (∀ x ∈ l, 0 ≤ x) → 0 ≤ l.sum := by
  intro l
  induction l with
  | nil => intro _; simp
  | cons a l ih =>
    intro h
    rw [List.sum_cons]
    have := h a (List.mem_cons_self ..)
    have := ih (fun x hx => h x (List.mem_cons_of_mem _ hx))
    omega
theorem le_sum : ∀ {l : List Int}, (∀ x ∈ l, 0 ≤ x) → ∀ x ∈ l, x ≤ l.sum := by
  intro l
  induction l with
  | nil => intro _ x hx; cases hx
  | cons a l ih =>
    intro h x hx
    rw [List.sum_cons]
    have h1 := h a (List.mem_cons_self ..)
    have h2 : ∀ x ∈ l, 0 ≤ x := fun x hx => h x (List.mem_cons_of_mem _ hx)
    have h3 := sum_nonneg h2
    rcases List.mem_cons.1 hx with rfl | hx
    · omega
    · have := ih h2 x hx
      omega
theorem sum_bound (B : Int) (hB : 0 ≤ B) : ∀ {l : List Int}, (∀ x ∈ l, -B ≤ x ∧ x ≤ B) → -((l.length : Int) * B) ≤ l.sum ∧ l.sum ≤ (l.length : Int) * B := by
  intro l
  induction l with
  | nil => intro _; simp
  | cons a l ih =>
    intro h
    have h1 := h a (List.mem_cons_self ..)
    have h2 := ih (fun x hx => h x (List.mem_cons_of_mem _ hx))
    rw [List.sum_cons, List.length_cons]
    have e : ((l.length + 1 : Nat) : Int) * B = (l.length : Int) * B + B := by rw [Int.natCast_add, Int.add_mul]; simp
    rw [e]
    omega
theorem rd_mem {l : List Int} {p : Nat} (h : p < l.length) : rd l (p : Int) ∈ l := by rw [rd_at h]; exact List.getElem_mem h
section
variable {T : Int} {w : List Int} (h : ShIs T w)
include h
theorem sh_w {p : Nat} (hp : p < w.length) : 0 ≤ rd w (p : Int) ∧ rd w (p : Int) ≤ 10000000 ∧ rd w (p : Int) ≤ w.sum :=
  ⟨(h.2.2.1 _ (rd_mem hp)).1, (h.2.2.1 _ (rd_mem hp)).2, le_sum (fun x hx => (h.2.2.1 x hx).1) _ (rd_mem hp)⟩
theorem sh_prod {p : Nat} (hp : p < w.length) : wrap64 (T * rd w (p : Int)) = T * rd w (p : Int) := by
  have h1 := sh_w h hp
  have h2 := mul_bound h.1.1 h.1.2 h1.1 h1.2.1 (by decide)
  exact wrap_id (by omega) (by omega)
theorem sh_char (p : Int) : T * rd w p = w.sum * shQ T w p + shM T w p ∧ (0 ≤ T * rd w p → 0 ≤ shM T w p) ∧ (T * rd w p ≤ 0 → shM T w p ≤ 0) ∧ shM T w p < w.sum ∧ -w.sum < shM T w p := div_char _ _ h.2.2.2
theorem sh_q {p : Nat} (hp : p < w.length) : -100000000000 ≤ shQ T w (p : Int) ∧ shQ T w (p : Int) ≤ 100000000000 := by
  have h1 := sh_w h hp
  have h2 := mul_bound h.1.1 h.1.2 h1.1 h1.2.2 (by decide)
  obtain ⟨c1, _, _, c4, c5⟩ := sh_char h (p : Int)
  have hW := h.2.2.2
  refine ⟨?_, ?_⟩
  · rcases Int.lt_or_le (shQ T w (p : Int)) (-100000000000) with c | c
    · exfalso
      have := Int.mul_le_mul_of_nonneg_left (show shQ T w (p : Int) ≤ -100000000000 - 1 by omega) (Int.le_of_lt hW)
      rw [Int.mul_sub, Int.mul_neg] at this
      omega
    · exact c
  · rcases Int.lt_or_le 100000000000 (shQ T w (p : Int)) with c | c
    · exfalso
      have := Int.mul_le_mul_of_nonneg_left (show 100000000000 + 1 ≤ shQ T w (p : Int) by omega) (Int.le_of_lt hW)
      rw [Int.mul_add] at this
      omega
    · exact c
theorem sh_sum_le : w.sum ≤ 2000000000 := by
  have h1 := (sum_bound 10000000 (by decide) (l := w) (fun x hx => by have := h.2.2.1 x hx; omega)).2
  have h2 := h.2.1
  omega
theorem sh_r (p : Int) : 0 ≤ shR T w p ∧ shR T w p < w.sum := by
  obtain ⟨_, _, _, c4, c5⟩ := sh_char h p
  unfold shR
  split <;> omega
theorem sh_r_pos (hT : 0 ≤ T) {p : Nat} (hp : p < w.length) : shR T w (p : Int) = shM T w (p : Int) := by
  obtain ⟨_, c2, _⟩ := sh_char h (p : Int)
  have := c2 (Int.mul_nonneg hT (sh_w h hp).1)
  unfold shR
  rw [if_neg (by omega)]
theorem sh_r_neg (hT : T ≤ 0) {p : Nat} (hp : p < w.length) : shR T w (p : Int) = -shM T w (p : Int) := by
  obtain ⟨_, _, c3, _⟩ := sh_char h (p : Int)
  have := c3 (by
    have e := Int.mul_nonneg (show 0 ≤ -T by omega) (sh_w h hp).1
    rw [Int.neg_mul] at e
    omega)
  unfold shR
  split <;> omega
end
/-- The quotients, the rests (with their signs, and without) of the first i. -/
def QL (T : Int) (w : List Int) (i : Nat) : List Int := (idx i).map (shQ T w)
def ML (T : Int) (w : List Int) (i : Nat) : List Int := (idx i).map (shM T w)
def RL (T : Int) (w : List Int) (i : Nat) : List Int := (idx i).map (shR T w)
def CL (T : Int) (w : List Int) (i : Nat) : List S223 := (idx i).map fun p => (⟨p, shR T w p⟩ : S223)
theorem QL_succ (T : Int) (w : List Int) (i : Nat) : QL T w (i + 1) = QL T w i ++ [shQ T w (i : Int)] := by unfold QL; rw [idx_succ, List.map_append]; rfl
theorem ML_succ (T : Int) (w : List Int) (i : Nat) : ML T w (i + 1) = ML T w i ++ [shM T w (i : Int)] := by unfold ML; rw [idx_succ, List.map_append]; rfl
theorem RL_succ (T : Int) (w : List Int) (i : Nat) : RL T w (i + 1) = RL T w i ++ [shR T w (i : Int)] := by unfold RL; rw [idx_succ, List.map_append]; rfl
theorem CL_succ (T : Int) (w : List Int) (i : Nat) : CL T w (i + 1) = CL T w i ++ [(⟨(i : Int), shR T w (i : Int)⟩ : S223)] := by unfold CL; rw [idx_succ, List.map_append]; rfl
theorem QL_length (T : Int) (w : List Int) (i : Nat) : (QL T w i).length = i := by unfold QL; rw [List.length_map, idx_length]
theorem RL_length (T : Int) (w : List Int) (i : Nat) : (RL T w i).length = i := by unfold RL; rw [List.length_map, idx_length]
theorem CL_length (T : Int) (w : List Int) (i : Nat) : (CL T w i).length = i := by unfold CL; rw [List.length_map, idx_length]
theorem idx_get {n q : Nat} (h : q < (idx n).length) : (idx n)[q] = (q : Int) := by simp [idx]
theorem QL_rd (T : Int) (w : List Int) {i q : Nat} (h : q < i) : rd (QL T w i) (q : Int) = shQ T w (q : Int) := by
  rw [rd_at (by rw [QL_length]; exact h)]
  unfold QL
  rw [List.getElem_map, idx_get]
theorem RL_rd (T : Int) (w : List Int) {i q : Nat} (h : q < i) : rd (RL T w i) (q : Int) = shR T w (q : Int) := by
  rw [rd_at (by rw [RL_length]; exact h)]
  unfold RL
  rw [List.getElem_map, idx_get]
theorem sum_snoc (l : List Int) (x : Int) : (l ++ [x]).sum = l.sum + x := by rw [List.sum_append]; simp
section
variable {T : Int} {w : List Int} (h : ShIs T w)
include h
theorem QL_sum {i : Nat} (hi : i ≤ w.length) : -20000000000000 ≤ (QL T w i).sum ∧ (QL T w i).sum ≤ 20000000000000 := by
  have h1 := sum_bound 100000000000 (by decide) (l := QL T w i) (fun x hx => by
    unfold QL at hx
    obtain ⟨p, hp, rfl⟩ := List.mem_map.1 hx
    obtain ⟨q, rfl, hq⟩ := idx_mem.1 hp
    exact sh_q h (by omega))
  rw [QL_length] at h1
  have := h.2.1
  omega
/-- The rests together are what is left, as often as the weights together. -/
theorem sh_all {i : Nat} (hi : i ≤ w.length) : T * (w.take i).sum = w.sum * (QL T w i).sum + (ML T w i).sum := by
  induction i with
  | zero => simp [QL, ML, idx]
  | succ i ih =>
    have hlt : i < w.length := by omega
    rw [QL_succ, ML_succ, sum_snoc, sum_snoc, List.take_add_one, List.getElem?_eq_getElem hlt, List.sum_append, Int.mul_add, ih (by omega), Int.mul_add]
    have e := (sh_char h (i : Int)).1
    rw [rd_at hlt] at e
    simp only [Option.toList, List.sum_cons, List.sum_nil, Int.add_zero]
    rw [e]
    omega
theorem ML_pos (hT : 0 ≤ T) {i : Nat} (hi : i ≤ w.length) : ML T w i = RL T w i := by
  unfold ML RL
  refine List.map_congr_left (fun p hp => ?_)
  obtain ⟨q, rfl, hq⟩ := idx_mem.1 hp
  exact (sh_r_pos h hT (by omega)).symm
theorem ML_neg (hT : T ≤ 0) {i : Nat} (hi : i ≤ w.length) : (ML T w i).sum = -(RL T w i).sum := by
  induction i with
  | zero => simp [ML, RL, idx]
  | succ i ih =>
    rw [ML_succ, RL_succ, sum_snoc, sum_snoc, ih (by omega), sh_r_neg h hT (by omega : i < w.length)]
    omega
/-- What is left over is c ones, and c is less than the weights are many. -/
theorem sh_left : ∃ (c : Nat) (o : Int), T - (QL T w w.length).sum = o * (c : Int) ∧ ((o = 1 ∧ (0 ≤ T ∨ c = 0)) ∨ (o = -1 ∧ T ≤ 0 ∧ 0 < c)) ∧ w.sum * (c : Int) = (RL T w w.length).sum := by
  have ha := sh_all h (Nat.le_refl _)
  rw [List.take_length] at ha
  have hW := h.2.2.2
  have hl : w.sum * (T - (QL T w w.length).sum) = (ML T w w.length).sum := by rw [Int.mul_sub, Int.mul_comm w.sum T]; omega
  have hR : 0 ≤ (RL T w w.length).sum := sum_nonneg (fun x hx => by
    unfold RL at hx
    obtain ⟨p, hp, rfl⟩ := List.mem_map.1 hx
    exact (sh_r h p).1)
  rcases Int.le_total 0 T with hT | hT
  · rw [ML_pos h hT (Nat.le_refl _)] at hl
    have h0 : 0 ≤ T - (QL T w w.length).sum := by
      rcases Int.lt_or_le (T - (QL T w w.length).sum) 0 with c | c
      · have := Int.mul_le_mul_of_nonneg_left (show T - (QL T w w.length).sum ≤ -1 by omega) (Int.le_of_lt hW)
        rw [Int.mul_neg, Int.mul_one] at this
        omega
      · exact c
    obtain ⟨c, hc⟩ := Int.eq_ofNat_of_zero_le h0
    exact ⟨c, 1, by rw [hc]; simp, .inl ⟨rfl, .inl hT⟩, by rw [← hc]; exact hl⟩
  · rw [ML_neg h hT (Nat.le_refl _)] at hl
    have h0 : 0 ≤ -(T - (QL T w w.length).sum) := by
      rcases Int.lt_or_le 0 (T - (QL T w w.length).sum) with c | c
      · have := Int.mul_le_mul_of_nonneg_left (show 1 ≤ T - (QL T w w.length).sum by omega) (Int.le_of_lt hW)
        rw [Int.mul_one] at this
        omega
      · omega
    obtain ⟨c, hc⟩ := Int.eq_ofNat_of_zero_le h0
    have hr : w.sum * (c : Int) = (RL T w w.length).sum := by
      have e : (c : Int) = -(T - (QL T w w.length).sum) := hc.symm
      rw [e, Int.mul_neg, hl]
      omega
    rcases Nat.eq_zero_or_pos c with c0 | c0
    · subst c0
      exact ⟨0, 1, by omega, .inl ⟨rfl, .inr rfl⟩, hr⟩
    · exact ⟨c, -1, by omega, .inr ⟨rfl, hT, c0⟩, hr⟩
end
/-- The order in which what is left over goes round. -/
def shLess (a b : S223) : Bool := decide (a.f1 > b.f1)
def shS (T : Int) (w : List Int) : List S223 := XSort.sort shLess (CL T w w.length)
def shP (T : Int) (w : List Int) : List Int := (shS T w).map (·.f0)
def ShF (T : Int) (w : List Int) (a b : Int) : Prop := shR T w b < shR T w a ∨ (shR T w a = shR T w b ∧ a < b)
theorem shF_irr (T : Int) (w : List Int) (a : Int) : ¬ ShF T w a a := by unfold ShF; omega
theorem shS_mem {T : Int} {w : List Int} {x : S223} (hx : x ∈ shS T w) : ∃ q : Nat, x = ⟨(q : Int), shR T w (q : Int)⟩ ∧ q < w.length := by
  have := (XSort.sort_perm (less := shLess) (CL T w w.length)).mem_iff.1 hx
  unfold CL at this
  obtain ⟨p, hp, rfl⟩ := List.mem_map.1 this
  obtain ⟨q, rfl, hq⟩ := idx_mem.1 hp
  exact ⟨q, rfl, hq⟩
theorem shP_perm (T : Int) (w : List Int) : (shP T w).Perm (idx w.length) := by
  have h := (XSort.sort_perm (less := shLess) (CL T w w.length)).map (·.f0)
  have e : (CL T w w.length).map (·.f0) = idx w.length := by
    unfold CL
    rw [List.map_map]
    exact List.map_id' _
  rw [e] at h
  exact h
theorem shP_length (T : Int) (w : List Int) : (shP T w).length = w.length := by rw [(shP_perm T w).length_eq, idx_length]
theorem shS_length (T : Int) (w : List Int) : (shS T w).length = w.length := by have := shP_length T w; unfold shP at this; rwa [List.length_map] at this
theorem shP_fore (T : Int) (w : List Int) : (shP T w).Pairwise (ShF T w) := by
  have hp : (CL T w w.length).Pairwise (fun a b => a.f0 < b.f0) := by
    unfold CL
    rw [List.pairwise_map]
    exact idx_lt _
  have h := XSort.sort_by_key (fun x : S223 => -x.f1) (fun a b => a.f0 < b.f0) (fun a b c h1 h2 => by omega) (CL T w w.length) hp shLess (fun a _ b _ => by unfold shLess; rw [decide_eq_true_eq]; omega)
  unfold shP
  rw [List.pairwise_map]
  refine List.Pairwise.imp_of_mem ?_ h
  intro a b ha hb hab
  obtain ⟨p, rfl, _⟩ := shS_mem ha
  obtain ⟨q, rfl, _⟩ := shS_mem hb
  unfold ShF
  simp only at hab ⊢
  omega
theorem shP_at {T : Int} {w : List Int} {t : Nat} (h : t < (shP T w).length) : ∃ q : Nat, (shP T w)[t] = (q : Int) ∧ q < w.length := idx_mem.1 ((shP_perm T w).mem_iff.1 (List.getElem_mem h))
theorem shP_get {T : Int} {w : List Int} {q : Nat} (h : q < w.length) : ∃ (t : Nat) (ht : t < (shP T w).length), (shP T w)[t] = (q : Int) := by
  obtain ⟨t, ht, e⟩ := List.getElem_of_mem ((shP_perm T w).mem_iff.2 (idx_mem.2 ⟨q, rfl, h⟩))
  exact ⟨t, ht, e⟩
theorem shS_at {T : Int} {w : List Int} {t : Nat} (h : t < (shP T w).length) (h' : t < (shS T w).length) : (shS T w)[t].f0 = (shP T w)[t] := (List.getElem_map (f := fun x : S223 => x.f0) (l := shS T w) (h := h)).symm
/-- What is known when t of the ones have gone round. -/
structure ShAt (T : Int) (w : List Int) (o : Int) (t : Nat) (out R : List Int) : Prop where
  len : out.length = w.length
  lenR : R.length = w.length
  got : ∀ j (hj : j < (shP T w).length), rd out (shP T w)[j] = shQ T w (shP T w)[j] + (if j < t then o else 0)
  rest : ∀ j (hj : j < (shP T w).length), rd R (shP T w)[j] = if j < t then -1 else shR T w (shP T w)[j]
  sum : out.sum = (QL T w w.length).sum + o * (t : Int)
theorem sum_set : ∀ {l : List Int} {q : Nat}, q < l.length → ∀ v, (l.set q v).sum = l.sum - rd l (q : Int) + v := by
  intro l
  induction l with
  | nil => intro q hq; exact absurd hq (Nat.not_lt_zero _)
  | cons a l ih =>
    intro q hq v
    cases q with
    | zero => simp only [List.set_cons_zero, List.sum_cons]; rw [rd_at hq]; simp only [List.getElem_cons_zero]; omega
    | succ q =>
      have hq' : q < l.length := by simp at hq; omega
      rw [List.set_cons_succ, List.sum_cons, List.sum_cons, ih hq' v, rd_at hq, rd_at hq', List.getElem_cons_succ]
      omega
theorem ShAt.start (T : Int) (w : List Int) (o : Int) : ShAt T w o 0 (QL T w w.length) (RL T w w.length) := by
  refine ⟨QL_length .., RL_length .., fun j hj => ?_, fun j hj => ?_, by simp⟩
  · obtain ⟨q, hq, hl⟩ := shP_at hj
    rw [hq, QL_rd _ _ hl, if_neg (Nat.not_lt_zero _)]
    omega
  · obtain ⟨q, hq, hl⟩ := shP_at hj
    rw [hq, RL_rd _ _ hl, if_neg (Nat.not_lt_zero _)]
theorem ShAt.next {T : Int} {w : List Int} {o : Int} {t p : Nat} {out R : List Int} (h : ShAt T w o t out R) (ht : t < (shP T w).length) (hp : (shP T w)[t] = (p : Int)) (hpl : p < w.length) : rd out (p : Int) = shQ T w (p : Int) ∧ ShAt T w o (t + 1) (out.set p (rd out (p : Int) + o)) (R.set p (-1)) := by
  have h1 : rd out (p : Int) = shQ T w (p : Int) := by
    have := h.got t ht
    rw [hp, if_neg (Nat.lt_irrefl _), Int.add_zero] at this
    exact this
  have hpo : p < out.length := by rw [h.len]; exact hpl
  have hpr : p < R.length := by rw [h.lenR]; exact hpl
  have same : ∀ j (hj : j < (shP T w).length), ∃ q : Nat, (shP T w)[j] = (q : Int) ∧ (q = p ↔ j = t) := by
    intro j hj
    obtain ⟨q, hq, _⟩ := shP_at hj
    refine ⟨q, hq, fun e => ord_inj (shF_irr T w) (shP_fore T w) hj ht (by rw [hq, hp, e]), fun e => ?_⟩
    subst e
    rw [hq] at hp
    exact Int.ofNat.inj hp
  refine ⟨h1, ⟨by rw [List.length_set]; exact h.len, by rw [List.length_set]; exact h.lenR, fun j hj => ?_, fun j hj => ?_, ?_⟩⟩
  · obtain ⟨q, hq, hqp⟩ := same j hj
    have ho := h.got j hj
    rw [hq] at ho ⊢
    rw [rd_set hpo]
    by_cases c : q = p
    · have e := hqp.1 c
      rw [if_pos c, if_pos (by omega), h1, c]
    · rw [if_neg c, ho]
      have e : ¬ j = t := fun e => c (hqp.2 e)
      by_cases c2 : j < t
      · rw [if_pos c2, if_pos (by omega)]
      · rw [if_neg c2, if_neg (by omega)]
  · obtain ⟨q, hq, hqp⟩ := same j hj
    have ho := h.rest j hj
    rw [hq] at ho ⊢
    rw [rd_set hpr]
    by_cases c : q = p
    · have e := hqp.1 c
      rw [if_pos c, if_pos (by omega)]
    · rw [if_neg c, ho]
      have e : ¬ j = t := fun e => c (hqp.2 e)
      by_cases c2 : j < t
      · rw [if_pos c2, if_pos (by omega)]
      · rw [if_neg c2, if_neg (by omega)]
  · rw [sum_set hpo, h.sum]
    have e : o * ((t + 1 : Nat) : Int) = o * (t : Int) + o := by rw [Int.natCast_add, Int.mul_add]; simp
    omega
/-- The reference finds the next one. -/
theorem best_ev {T : Int} {w : List Int} {o : Int} {t p : Nat} {out R : List Int} {x : Int} {res : List Int} (hn : w.length ≤ 200) (h : ShAt T w o t out R) (hw : ∀ q : Nat, 0 ≤ shR T w (q : Int)) (ht : t < (shP T w).length) (hp : (shP T w)[t] = (p : Int)) (hpl : p < w.length)
    (he : Ev (fun k => spec_Shares.l2 k (out.set p (wrap64 ((rd out (p : Int)) + o))) (R.set p (-1)) (wrap64 (x - o)) o) res) : Ev (fun k => spec_Shares.l3 k out R x o 0 1) res := by
  have hR := h.lenR
  have hO := h.len
  have pick : ∀ b : Nat, b < w.length → (∀ j : Nat, j < w.length → rd R (j : Int) < rd R (b : Int) ∨ (rd R (j : Int) = rd R (b : Int) ∧ b ≤ j)) → b = p := by
    intro b hb hj
    obtain ⟨u, hu, eu⟩ := shP_get (T := T) (w := w) hb
    have ru := h.rest u hu
    have rt := h.rest t ht
    have hpb := hj p hpl
    rw [eu] at ru
    rw [hp, if_neg (Nat.lt_irrefl _)] at rt
    have hw1 := hw p
    rcases Nat.lt_trichotomy u t with c | c | c
    · rw [if_pos c] at ru
      omega
    · subst c
      rw [hp] at eu
      exact (Int.ofNat.inj eu).symm
    · rw [if_neg (by omega)] at ru
      have := ord_ahead (shP_fore T w) c hu
      rw [hp, eu] at this
      unfold ShF at this
      omega
  have key : ∀ (d m b : Nat), m + d = w.length → b < m → (∀ j : Nat, j < m → rd R (j : Int) < rd R (b : Int) ∨ (rd R (j : Int) = rd R (b : Int) ∧ b ≤ j)) → Ev (fun k => spec_Shares.l3 k out R x o (b : Int) (m : Int)) res := by
    intro d
    induction d with
    | zero =>
      intro m b hm hb hj
      have e : m = w.length := by omega
      subst e
      have e2 := pick b hb hj
      subst e2
      have g0 : (0 : Int) ≤ (b : Int) := Int.natCast_nonneg _
      have g1 : (b : Int) < (out.length : Int) := by rw [hO]; exact Int.ofNat_lt.2 hb
      have g2 : (b : Int) < (R.length : Int) := by rw [hR]; exact Int.ofNat_lt.2 hb
      have g3 : ¬ (w.length : Int) < (R.length : Int) := by rw [hR]; exact Int.lt_irrefl _
      refine Ev.step (fun k => by rw [spec_Shares.l3]) ?_
      refine ev_neg g3 (ev_pos g0 (ev_pos g1 (ev_pos g2 ?_)))
      simp only [Int.toNat_natCast]
      exact he
    | succ d ih =>
      intro m b hm hb hj
      have hlt : m < w.length := by omega
      have hwm := Aside0.mk (show wrap64 ((m : Int) + 1) = ((m + 1 : Nat) : Int) from wrap_succ hlt (by omega))
      have g0 : (0 : Int) ≤ (b : Int) := Int.natCast_nonneg _
      have g1 : (0 : Int) ≤ (m : Int) := Int.natCast_nonneg _
      have g2 : (b : Int) < (R.length : Int) := by rw [hR]; exact Int.ofNat_lt.2 (by omega)
      have g3 : (m : Int) < (R.length : Int) := by rw [hR]; exact Int.ofNat_lt.2 hlt
      by_cases c : rd R (m : Int) > rd R (b : Int)
      · have := ih (m + 1) m (by omega) (by omega) (fun j hj2 => by
          rcases Nat.lt_or_ge j m with h1 | h1
          · have := hj j h1
            omega
          · have e : j = m := by omega
            subst e
            exact .inr ⟨rfl, Nat.le_refl _⟩)
        refine Ev.step (fun k => by rw [spec_Shares.l3]) ?_
        refine ev_pos g3 (ev_pos g1 (ev_pos g0 (ev_pos g2 (ev_pos c ?_))))
        rw [hwm.out]
        exact this
      · have := ih (m + 1) b (by omega) (by omega) (fun j hj2 => by
          rcases Nat.lt_or_ge j m with h1 | h1
          · exact hj j h1
          · have e : j = m := by omega
            subst e
            omega)
        refine Ev.step (fun k => by rw [spec_Shares.l3]) ?_
        refine ev_pos g3 (ev_pos g1 (ev_pos g0 (ev_pos g2 (ev_neg c ?_))))
        rw [hwm.out]
        exact this
  refine key (w.length - 1) 1 0 (by omega) (by omega) (fun j hj => .inr ?_)
  have e : j = 0 := by omega
  subst e
  exact ⟨rfl, Nat.le_refl _⟩
/-- The ones go round alike. -/
theorem round_ev {T : Int} {w : List Int} (hS : ShIs T w) {o : Int} (ho : o = 1 ∨ o = -1) {c : Nat} (hc : c ≤ w.length) : ∀ (d t : Nat) (out R : List Int), t + d = c → ShAt T w o t out R →
    ∃ res R', Ev (fun k => impl_Shares.l2 k out (shS T w) (c : Int) o (t : Int)) res ∧ Ev (fun k => spec_Shares.l2 k out R (o * ((c : Int) - (t : Int))) o) res ∧ ShAt T w o c res R' := by
  have hn := hS.2.1
  intro d
  induction d with
  | zero =>
    intro t out R ht h
    have e : t = c := by omega
    subst e
    refine ⟨out, R, ?_, ?_, h⟩
    · refine Ev.step (fun k => by rw [impl_Shares.l2]) ?_
      exact ev_neg (Int.lt_irrefl _) (Ev.now _)
    · refine Ev.step (fun k => by rw [spec_Shares.l2]) ?_
      exact ev_pos (by rw [Int.sub_self, Int.mul_zero]) (Ev.now _)
  | succ d ih =>
    intro t out R ht h
    have hlt : t < (shP T w).length := by rw [shP_length]; omega
    have hlt2 : t < (shS T w).length := by rw [shS_length]; omega
    obtain ⟨p, hp, hpl⟩ := shP_at hlt
    obtain ⟨hq, hnx⟩ := h.next hlt hp hpl
    have hqb := sh_q hS hpl
    have ew := Aside0.mk (show wrap64 (rd out (p : Int) + o) = rd out (p : Int) + o from wrap_id (by omega) (by omega))
    obtain ⟨res, R', e1, e2, e3⟩ := ih (t + 1) _ _ (by omega) hnx
    refine ⟨res, R', ?_, ?_, e3⟩
    · have hrd : rd_T223 (shS T w) (t : Int) = (shS T w)[t] := getD_at hlt2 _
      have hf : (rd_T223 (shS T w) (t : Int)).f0 = (p : Int) := by rw [hrd, shS_at hlt hlt2, hp]
      have g1 : (t : Int) < (c : Int) := Int.ofNat_lt.2 (by omega)
      have g2 : (t : Int) < ((shS T w).length : Int) := Int.ofNat_lt.2 hlt2
      have g3 : (p : Int) < (out.length : Int) := by rw [h.len]; exact Int.ofNat_lt.2 hpl
      have hwt := Aside0.mk (show wrap64 ((t : Int) + 1) = ((t + 1 : Nat) : Int) from wrap_succ (n := t + 1) (by omega) (by omega))
      refine Ev.step (fun k => by rw [impl_Shares.l2]) ?_
      simp only [hf]
      refine ev_pos g1 (ev_pos (Int.natCast_nonneg _) (ev_pos g2 (ev_pos (Int.natCast_nonneg _) (ev_pos g3 ?_))))
      simp only [hwt.out, ew.out, Int.toNat_natCast]
      exact e1
    · have x0 : ¬ o * ((c : Int) - (t : Int)) = 0 := by
        rcases ho with rfl | rfl <;> omega
      refine Ev.step (fun k => by rw [spec_Shares.l2]) ?_
      refine ev_neg x0 (best_ev hn h (fun q => (sh_r hS _).1) hlt hp hpl ?_)
      have ex : o * ((c : Int) - (t : Int)) - o = o * ((c : Int) - ((t + 1 : Nat) : Int)) := by
        rcases ho with rfl | rfl <;> omega
      have ew2 := Aside0.mk (show wrap64 (o * ((c : Int) - (t : Int)) - o) = o * ((c : Int) - ((t + 1 : Nat) : Int)) from by
          rw [ex]
          rcases ho with rfl | rfl <;> exact wrap_id (by omega) (by omega))
      rw [ew2.out, ew.out]
      exact e2
theorem perm_sum {l l' : List Int} (h : l.Perm l') : l.sum = l'.sum := by
  induction h with
  | nil => rfl
  | cons x _ ih => rw [List.sum_cons, List.sum_cons, ih]
  | swap x y l => rw [List.sum_cons, List.sum_cons, List.sum_cons, List.sum_cons]; omega
  | trans _ _ ih1 ih2 => rw [ih1, ih2]
/-- The weights may be so. -/
def Fac (w : List Int) : Prop := ∀ x ∈ w, 0 ≤ x ∧ x ≤ 10000000
theorem take_next {l : List Int} {i : Nat} (h : i < l.length) : (l.take (i + 1)).sum = (l.take i).sum + l[i] := by
  rw [List.take_add_one, List.getElem?_eq_getElem h, List.sum_append]
  simp
theorem spec_fac (T : Int) (w : List Int) (hn : w.length ≤ 200) : (Fac w ∧ ∀ r, Ev (fun k => if w.sum = 0 then some ([] : List Int) else spec_Shares.l1 k T w [] w.sum [] T 0) r → Ev (fun k => spec_Shares.l0 k T w [] 0 0) r) ∨ (¬ Fac w ∧ Ev (fun k => spec_Shares.l0 k T w [] 0 0) []) := by
  have key : ∀ (d i : Nat), i + d = w.length → (∀ j (hj : j < w.length), j < i → 0 ≤ w[j] ∧ w[j] ≤ 10000000) → 0 ≤ (w.take i).sum → (w.take i).sum ≤ (i : Int) * 10000000 →
      (Fac w ∧ ∀ r, Ev (fun k => if w.sum = 0 then some ([] : List Int) else spec_Shares.l1 k T w [] w.sum [] T 0) r → Ev (fun k => spec_Shares.l0 k T w [] (w.take i).sum (i : Int)) r) ∨ (¬ Fac w ∧ Ev (fun k => spec_Shares.l0 k T w [] (w.take i).sum (i : Int)) []) := by
    intro d
    induction d with
    | zero =>
      intro i hi hj h0 h1
      have e : i = w.length := by omega
      subst e
      refine .inl ⟨fun x hx => ?_, fun r hr => ?_⟩
      · obtain ⟨j, hj2, rfl⟩ := List.getElem_of_mem hx
        exact hj j hj2 hj2
      · refine Ev.step (fun k => by rw [spec_Shares.l0]) ?_
        rw [List.take_length]
        exact ev_neg (Int.lt_irrefl _) hr
    | succ d ih =>
      intro i hi hj h0 h1
      have hlt : i < w.length := by omega
      have g1 : (i : Int) < (w.length : Int) := Int.ofNat_lt.2 hlt
      by_cases c : 0 ≤ w[i] ∧ w[i] ≤ 10000000
      · have e1 := take_next hlt
        have ew := Aside0.mk (show wrap64 ((w.take i).sum + rd w (i : Int)) = (w.take (i + 1)).sum from by
            rw [rd_at hlt, e1]
            exact wrap_id (by omega) (by omega))
        have go : ∀ r, Ev (fun k => spec_Shares.l0 k T w [] (w.take (i + 1)).sum ((i + 1 : Nat) : Int)) r → Ev (fun k => spec_Shares.l0 k T w [] (w.take i).sum (i : Int)) r := by
          intro r hr
          refine Ev.step (fun k => by rw [spec_Shares.l0]) ?_
          refine ev_pos g1 (ev_pos (Int.natCast_nonneg _) (ev_bind0 (spec_l1Factor_eq _) (ev_pos (by rw [rd_at hlt]; exact decide_eq_true c) ?_)))
          rw [ew.out, wrap_succ hlt (by omega)]
          exact hr
        rcases ih (i + 1) (by omega) (fun j hj2 h2 => by
          rcases Nat.lt_or_ge j i with h3 | h3
          · exact hj j hj2 h3
          · have : j = i := by omega
            subst this
            exact c) (by omega) (by omega) with ⟨hf, hk⟩ | ⟨hf, hk⟩
        · exact .inl ⟨hf, fun r hr => go r (hk r hr)⟩
        · exact .inr ⟨hf, go _ hk⟩
      · refine .inr ⟨fun hf => c (hf _ (List.getElem_mem hlt)), ?_⟩
        refine Ev.step (fun k => by rw [spec_Shares.l0]) ?_
        exact ev_pos g1 (ev_pos (Int.natCast_nonneg _) (ev_bind0 (spec_l1Factor_eq _) (ev_neg (by rw [rd_at hlt, decide_eq_true_eq]; exact c) (Ev.now _))))
  have := key w.length 0 (by omega) (fun j _ h => absurd h (Nat.not_lt_zero _)) (by simp) (by simp)
  rw [List.take_zero, List.sum_nil] at this
  exact this
theorem sumOf_ev (l : List Int) (B : Int) (hB : 0 ≤ B) (hB2 : B ≤ 10000000000000) (hn : l.length ≤ 200) (hl : ∀ x ∈ l, -B ≤ x ∧ x ≤ B) : Ev (fun k => impl_sumOf.f k l) l.sum := by
  have key : ∀ (d i : Nat), i + d = l.length → Ev (fun k => impl_sumOf.l0 k (l.take i).sum l (l.length : Int) (i : Int)) l.sum := by
    intro d
    induction d with
    | zero =>
      intro i hi
      have e : i = l.length := by omega
      subst e
      refine Ev.step (fun k => by rw [impl_sumOf.l0]) ?_
      rw [List.take_length]
      exact ev_neg (Int.lt_irrefl _) (Ev.now _)
    | succ d ih =>
      intro i hi
      have hlt : i < l.length := by omega
      have g1 : (i : Int) < (l.length : Int) := Int.ofNat_lt.2 hlt
      have e1 := take_next hlt
      have hb := sum_bound B hB (l := l.take (i + 1)) (fun x hx => hl x (List.mem_of_mem_take hx))
      have hlen : (l.take (i + 1)).length = i + 1 := by rw [List.length_take]; omega
      rw [hlen] at hb
      have hm := Int.mul_le_mul_of_nonneg_left hB2 (show (0 : Int) ≤ ((i + 1 : Nat) : Int) by omega)
      have ew := Aside0.mk (show wrap64 ((l.take i).sum + rd l (i : Int)) = (l.take (i + 1)).sum from by
          rw [rd_at hlt, e1]
          rw [e1] at hb
          exact wrap_id (by omega) (by omega))
      refine Ev.step (fun k => by rw [impl_sumOf.l0]) ?_
      refine ev_pos g1 (ev_pos (Int.natCast_nonneg _) (ev_pos g1 ?_))
      rw [ew.out, wrap_succ hlt (by omega)]
      exact ih (i + 1) (by omega)
  have := key l.length 0 (by omega)
  unfold impl_sumOf.f
  rw [List.take_zero, List.sum_nil] at this
  exact this
theorem take_put {α : Type} {x P : List α} {i : Nat} (hi : i < x.length) (h : x.take i = P) (v : α) : (x.set i v).take (i + 1) = P ++ [v] := by
  have hl : P.length = i := by rw [← h, List.length_take]; omega
  rw [List.take_add_one, List.getElem?_set_self hi, List.take_set, h, List.set_eq_of_length_le (by omega)]
  rfl
section
variable {T : Int} {w : List Int} (h : ShIs T w)
include h
theorem abs_eq {p : Nat} : spec_l1Abs.f (shM T w (p : Int)) = some (shR T w (p : Int)) := by
  obtain ⟨_, _, _, c4, c5⟩ := sh_char h (p : Int)
  have := sh_sum_le h
  unfold spec_l1Abs.f shR
  by_cases c : shM T w (p : Int) < 0
  · rw [if_pos c, if_pos c, wrap_id (by omega) (by omega)]
  · rw [if_neg c, if_neg c]
theorem spec_quot {r : List Int} (hr : Ev (fun k => if T - (QL T w w.length).sum < 0 then spec_Shares.j3 k (QL T w w.length) (RL T w w.length) (T - (QL T w w.length).sum) (-1) else spec_Shares.j3 k (QL T w w.length) (RL T w w.length) (T - (QL T w w.length).sum) 1) r) : Ev (fun k => spec_Shares.l1 k T w [] w.sum [] T 0) r := by
  have hn := h.2.1
  have hW := h.2.2.2
  have key : ∀ (d i : Nat), i + d = w.length → Ev (fun k => spec_Shares.l1 k T w (QL T w i) w.sum (RL T w i) (T - (QL T w i).sum) (i : Int)) r := by
    intro d
    induction d with
    | zero =>
      intro i hi
      have e : i = w.length := by omega
      subst e
      refine Ev.step (fun k => by rw [spec_Shares.l1]) ?_
      exact ev_neg (Int.lt_irrefl _) hr
    | succ d ih =>
      intro i hi
      have hlt : i < w.length := by omega
      have g1 : (i : Int) < (w.length : Int) := Int.ofNat_lt.2 hlt
      have g2 : ¬ w.sum = 0 := by omega
      have g3 : (QL T w i).length < 17592186044416 := by rw [QL_length]; exact Nat.lt_of_le_of_lt (show i ≤ 200 by omega) (by decide)
      have g4 : (RL T w i).length < 17592186044416 := by rw [RL_length]; exact Nat.lt_of_le_of_lt (show i ≤ 200 by omega) (by decide)
      have q0 := sh_q h hlt
      have q1 := QL_sum h (show i ≤ w.length by omega)
      have q2 := h.1
      have e0 := Aside0.mk (sh_prod h hlt)
      have e1 : Int.tmod (T * rd w (i : Int)) w.sum = shM T w (i : Int) := rfl
      have e2 := Aside0.mk (show wrap64 (Int.tdiv (T * rd w (i : Int)) w.sum) = shQ T w (i : Int) from wrap_id (show _ ≤ shQ T w (i : Int) by omega) (show shQ T w (i : Int) ≤ _ by omega))
      have e3 := Aside0.mk (show wrap64 (T - (QL T w i).sum - shQ T w (i : Int)) = T - (QL T w (i + 1)).sum from by
          rw [QL_succ, sum_snoc, wrap_id (by omega) (by omega)]
          omega)
      refine Ev.step (fun k => by rw [spec_Shares.l1]) ?_
      simp only [e0.out, e1]
      refine ev_pos g1 (ev_pos (Int.natCast_nonneg _) (ev_neg g2 (ev_pos g3 (ev_bind0 (abs_eq h) (ev_pos g4 ?_)))))
      rw [e2.out, e3.out, wrap_succ hlt (by omega), ← QL_succ, ← RL_succ]
      exact ih (i + 1) (by omega)
  have := key w.length 0 (by omega)
  have e : T - (QL T w 0).sum = T := by simp [QL, idx]
  rw [e] at this
  exact this
theorem impl_quot {r : List Int} (hr : Ev (fun k => if T - (QL T w w.length).sum < 0 then impl_Shares.j3 k (QL T w w.length) (CL T w w.length) (wrap64 (-(T - (QL T w w.length).sum))) (-1) else impl_Shares.j3 k (QL T w w.length) (CL T w w.length) (T - (QL T w w.length).sum) 1) r) :
    ∀ (d i : Nat) (x : List Int) (y : List S223), i + d = w.length → x.length = w.length → y.length = w.length → x.take i = QL T w i → y.take i = CL T w i → Ev (fun k => impl_Shares.l1 k T w.sum x y w (w.length : Int) (i : Int)) r := by
  have hn := h.2.1
  have hW := h.2.2.2
  have hWl := sh_sum_le h
  intro d
  induction d with
  | zero =>
    intro i x y hi hx hy hxi hyi
    have e : i = w.length := by omega
    subst e
    have ex : x = QL T w w.length := by rw [← hxi, ← hx, List.take_length]
    have ey : y = CL T w w.length := by rw [← hyi, ← hy, List.take_length]
    subst ex ey
    have q1 := QL_sum h (Nat.le_refl _)
    have q2 := h.1
    have hs := sumOf_ev (QL T w w.length) 100000000000 (by decide) (by decide) (by rw [QL_length]; exact hn) (fun x hx => by
      unfold QL at hx
      obtain ⟨p, hp, rfl⟩ := List.mem_map.1 hx
      obtain ⟨q, rfl, hq⟩ := idx_mem.1 hp
      exact sh_q h hq)
    refine Ev.step (fun k => by rw [impl_Shares.l1]) ?_
    refine ev_neg (Int.lt_irrefl _) (Ev.bind hs ?_)
    rw [wrap_id (x := T - (QL T w w.length).sum) (by omega) (by omega)]
    exact hr
  | succ d ih =>
    intro i x y hi hx hy hxi hyi
    have hlt : i < w.length := by omega
    have g1 : (i : Int) < (w.length : Int) := Int.ofNat_lt.2 hlt
    have g2 : ¬ w.sum = 0 := by omega
    have g3 : (i : Int) < (x.length : Int) := by rw [hx]; exact g1
    have g4 : (i : Int) < (y.length : Int) := by rw [hy]; exact g1
    have q0 := sh_q h hlt
    have e0 := Aside0.mk (sh_prod h hlt)
    have e1 : Int.tmod (T * rd w (i : Int)) w.sum = shM T w (i : Int) := rfl
    have e2 := Aside0.mk (show wrap64 (Int.tdiv (T * rd w (i : Int)) w.sum) = shQ T w (i : Int) from wrap_id (show _ ≤ shQ T w (i : Int) by omega) (show shQ T w (i : Int) ≤ _ by omega))
    obtain ⟨_, _, _, c4, c5⟩ := sh_char h (i : Int)
    have px := take_put (v := shQ T w (i : Int)) (show i < x.length by omega) hxi
    have py := take_put (v := (⟨(i : Int), shR T w (i : Int)⟩ : S223)) (show i < y.length by omega) hyi
    rw [← QL_succ] at px
    rw [← CL_succ] at py
    have nx := ih (i + 1) _ _ (by omega) (by rw [List.length_set]; exact hx) (by rw [List.length_set]; exact hy) px py
    refine Ev.step (fun k => by rw [impl_Shares.l1]) ?_
    simp only [e0.out, e1]
    refine ev_pos g1 (ev_pos (Int.natCast_nonneg _) (ev_pos g1 (ev_neg g2 (ev_pos g3 (ev_bind0 rfl ?_)))))
    rw [e2.out, wrap_succ hlt (by omega), Int.toNat_natCast]
    by_cases c : shM T w (i : Int) < 0
    · refine ev_pos c (ev_pos g4 ?_)
      have er := Aside0.mk (show wrap64 (-shM T w (i : Int)) = shR T w (i : Int) from by
          unfold shR
          rw [if_pos c, wrap_id (by omega) (by omega)])
      rw [er.out]
      exact nx
    · refine ev_neg c (ev_pos g4 ?_)
      have er : shM T w (i : Int) = shR T w (i : Int) := by
        unfold shR
        rw [if_neg c]
      rw [er]
      exact nx
/-- The rests of those that get one are above 0. -/
theorem sh_some {c : Nat} (hc : w.sum * (c : Int) = (RL T w w.length).sum) {j : Nat} (hj : j < (shP T w).length) (hjc : j < c) : 0 < shR T w (shP T w)[j] := by
  rcases Int.lt_or_le 0 (shR T w (shP T w)[j]) with g | g
  · exact g
  exfalso
  have hW := h.2.2.2
  have hp : ((shP T w).map (shR T w)).sum = (RL T w w.length).sum := perm_sum ((shP_perm T w).map (shR T w))
  have hs : ((shP T w).map (shR T w)).sum = (((shP T w).take j).map (shR T w)).sum + (((shP T w).drop j).map (shR T w)).sum := by
    rw [← List.sum_append, ← List.map_append, List.take_append_drop]
  have h2 : (((shP T w).drop j).map (shR T w)).sum ≤ 0 := by
    have := (sum_bound 0 (by decide) (l := ((shP T w).drop j).map (shR T w)) (fun x hx => by
      obtain ⟨p, hp, rfl⟩ := List.mem_map.1 hx
      obtain ⟨u, hu, rfl⟩ := List.getElem_of_mem hp
      rw [List.length_drop] at hu
      rw [List.getElem_drop]
      have h0 := (sh_r h (shP T w)[j + u]).1
      rcases Nat.eq_zero_or_pos u with e | e
      · subst e
        simp only [Nat.add_zero] at h0 ⊢
        omega
      · have := ord_ahead (shP_fore T w) (show j < j + u by omega) (by omega)
        unfold ShF at this
        omega)).2
    rw [Int.mul_zero] at this
    exact this
  have h3 := (sum_bound (w.sum - 1) (by omega) (l := ((shP T w).take j).map (shR T w)) (fun x hx => by
    obtain ⟨p, hp, rfl⟩ := List.mem_map.1 hx
    have := sh_r h p
    omega)).2
  rw [List.length_map, List.length_take, Nat.min_eq_left (by omega), Int.mul_sub, Int.mul_one] at h3
  have h4 := Int.mul_le_mul_of_nonneg_left (show (j : Int) + 1 ≤ (c : Int) by omega) (Int.le_of_lt hW)
  rw [Int.mul_add, Int.mul_one, Int.mul_comm w.sum (j : Int)] at h4
  omega
end
/-- What is known of what is shared out. -/
structure SharedOk (T : Int) (w res : List Int) : Prop where
  is : ShIs T w
  n1 : 1 ≤ w.length
  len : res.length = w.length
  sum : res.sum = T
  near : ∀ p : Nat, p < w.length → -w.sum < rd res (p : Int) * w.sum - T * rd w (p : Int) ∧ rd res (p : Int) * w.sum - T * rd w (p : Int) < w.sum
  up : 0 < T → ∀ p q : Nat, p < w.length → q < w.length → rd w (q : Int) < rd w (p : Int) → rd res (q : Int) ≤ rd res (p : Int)
  bound : ∀ p : Nat, p < w.length → -100000000001 ≤ rd res (p : Int) ∧ rd res (p : Int) ≤ 100000000001
theorem shared_of {T : Int} {w : List Int} (h : ShIs T w) {c : Nat} {o : Int} (hl : T - (QL T w w.length).sum = o * (c : Int)) (ho : (o = 1 ∧ (0 ≤ T ∨ c = 0)) ∨ (o = -1 ∧ T ≤ 0 ∧ 0 < c)) (hc : w.sum * (c : Int) = (RL T w w.length).sum) {res R : List Int} (hA : ShAt T w o c res R) : SharedOk T w res := by
  have hW := h.2.2.2
  refine ⟨h, ?_, hA.len, by rw [hA.sum]; omega, fun p hp => ?_, fun hT p q hp hq hpq => ?_, fun p hp => ?_⟩
  · rcases Nat.eq_zero_or_pos w.length with e | e
    · have := List.eq_nil_of_length_eq_zero e
      subst this
      simp at hW
    · exact e
  · obtain ⟨j, hj, ej⟩ := shP_get (T := T) (w := w) hp
    have ht := hA.got j hj
    obtain ⟨c1, _, _, c4, c5⟩ := sh_char h (p : Int)
    rw [ej] at ht
    rw [ht, c1, Int.add_mul, Int.mul_comm (shQ T w (p : Int))]
    by_cases cj : j < c
    · have hs := sh_some h hc hj cj
      rw [ej] at hs
      rw [if_pos cj]
      rcases ho with ⟨rfl, hT⟩ | ⟨rfl, hT, _⟩
      · rw [sh_r_pos h (by omega) hp] at hs
        omega
      · rw [sh_r_neg h hT hp] at hs
        omega
    · rw [if_neg cj, Int.zero_mul]
      omega
  · rcases ho with ⟨rfl, _⟩ | ⟨_, h0, _⟩
    case inr => omega
    obtain ⟨u, hu, eu⟩ := shP_get (T := T) (w := w) hp
    obtain ⟨v, hv, ev⟩ := shP_get (T := T) (w := w) hq
    have hou := hA.got u hu
    have hov := hA.got v hv
    rw [eu] at hou
    rw [ev] at hov
    obtain ⟨c1, _, _, c4, c5⟩ := sh_char h (p : Int)
    obtain ⟨d1, _, _, d4, d5⟩ := sh_char h (q : Int)
    have rp := sh_r_pos h (Int.le_of_lt hT) hp
    have rq := sh_r_pos h (Int.le_of_lt hT) hq
    have r0 := sh_r h (p : Int)
    have r1 := sh_r h (q : Int)
    have hm := Int.mul_le_mul_of_nonneg_left (show rd w (q : Int) + 1 ≤ rd w (p : Int) by omega) (Int.le_of_lt hT)
    rw [Int.mul_add, Int.mul_one] at hm
    rw [hou, hov]
    rcases Int.lt_trichotomy (shQ T w (p : Int)) (shQ T w (q : Int)) with g | g | g
    · exfalso
      have := Int.mul_le_mul_of_nonneg_left (show shQ T w (p : Int) + 1 ≤ shQ T w (q : Int) by omega) (Int.le_of_lt hW)
      rw [Int.mul_add, Int.mul_one] at this
      omega
    · rw [g] at c1
      have hlt : shR T w (q : Int) < shR T w (p : Int) := by omega
      have huv : u < v := by
        rcases Nat.lt_trichotomy u v with e | e | e
        · exact e
        · subst e
          rw [eu] at ev
          have := Int.ofNat.inj ev
          subst this
          omega
        · have := ord_ahead (shP_fore T w) e hu
          rw [eu, ev] at this
          unfold ShF at this
          omega
      by_cases cv : v < c
      · rw [if_pos cv, if_pos (by omega)]
        omega
      · rw [if_neg cv]
        split <;> omega
    · split <;> split <;> omega
  · obtain ⟨j, hj, ej⟩ := shP_get (T := T) (w := w) hp
    have ht := hA.got j hj
    rw [ej] at ht
    have := sh_q h hp
    rw [ht]
    have ho' : -1 ≤ o ∧ o ≤ 1 := by omega
    split <;> omega
/-- Both share out alike. -/
theorem shares_ev (T : Int) (w : List Int) : ∃ res, Ev (fun k => impl_Shares.f k T w) res ∧ Ev (fun k => spec_Shares.f k T w) res ∧ ((res = [] ∧ ¬ ShIs T w) ∨ SharedOk T w res) := by
  have iT : Ev (fun k => impl_Shares.j0 k T w true) [] := by
    refine Ev.step (fun k => by rw [impl_Shares.j0]) ?_
    exact ev_pos rfl (Ev.now _)
  have sT : Ev (fun k => spec_Shares.j0 k T w [] true) [] := by
    refine Ev.step (fun k => by rw [spec_Shares.j0]) ?_
    exact ev_pos rfl (Ev.now _)
  unfold impl_Shares.f spec_Shares.f
  by_cases c0 : -100000000000 ≤ T ∧ T ≤ 100000000000
  case neg => exact ⟨[], ev_bind0 (impl_amount_eq _) (ev_neg (by rw [decide_eq_true_eq]; exact c0) iT), ev_bind0 rfl (ev_bind0 (spec_l1Amount_eq _) (ev_neg (by rw [decide_eq_true_eq]; exact c0) sT)), .inl ⟨rfl, fun h => c0 h.1⟩⟩
  have hi : ∀ r, Ev (fun k => if (w.length : Int) = 0 then impl_Shares.j0 k T w true else impl_Shares.j0 k T w (decide ((w.length : Int) > 200))) r → Ev (fun k => (impl_amount.f T).bind fun t302 => (if t302 = true then (if (w.length : Int) = 0 then (impl_Shares.j0 k T w true) else (impl_Shares.j0 k T w (decide ((w.length : Int) > 200)))) else (impl_Shares.j0 k T w true))) r := fun r hr => ev_bind0 (impl_amount_eq _) (ev_pos (decide_eq_true c0) hr)
  have hs : ∀ r, Ev (fun k => spec_Shares.j0 k T w [] (decide ((w.length : Int) > 200))) r → Ev (fun k => (some (([] : List Int) : List Int)).bind fun y241 => ((spec_l1Amount.f T).bind fun t244 => (if t244 = true then (spec_Shares.j0 k T w y241 (decide ((w.length : Int) > 200))) else (spec_Shares.j0 k T w y241 true)))) r := fun r hr => ev_bind0 rfl (ev_bind0 (spec_l1Amount_eq _) (ev_pos (decide_eq_true c0) hr))
  by_cases c1 : (w.length : Int) > 200
  · refine ⟨[], hi _ (ev_neg (by omega) ?_), hs _ ?_, .inl ⟨rfl, fun h => by have := h.2.1; omega⟩⟩
    · rw [decide_eq_true c1]; exact iT
    · rw [decide_eq_true c1]; exact sT
  have hn : w.length ≤ 200 := by omega
  have ed : decide ((w.length : Int) > 200) = false := decide_eq_false c1
  have s1 : ∀ r, Ev (fun k => spec_Shares.l0 k T w [] 0 0) r → Ev (fun k => spec_Shares.j0 k T w [] (decide ((w.length : Int) > 200))) r := by
    intro r hr
    rw [ed]
    refine Ev.step (fun k => by rw [spec_Shares.j0]) ?_
    exact ev_neg (by decide) hr
  by_cases cn : (w.length : Int) = 0
  · have e := List.eq_nil_of_length_eq_zero (show w.length = 0 by omega)
    refine ⟨[], hi _ (ev_pos cn iT), hs _ (s1 _ ?_), .inl ⟨rfl, fun h => by have := h.2.2.2; rw [e] at this; simp at this⟩⟩
    rcases spec_fac T w hn with ⟨_, hk⟩ | ⟨_, hk⟩
    · exact hk _ (ev_pos (by rw [e]; rfl) (Ev.now _))
    · exact hk
  have hi2 : ∀ r, Ev (fun k => impl_Shares.l0 k T w w (w.length : Int) 0) r → Ev (fun k => if (w.length : Int) = 0 then impl_Shares.j0 k T w true else impl_Shares.j0 k T w (decide ((w.length : Int) > 200))) r := by
    intro r hr
    refine ev_neg cn ?_
    rw [ed]
    refine Ev.step (fun k => by rw [impl_Shares.j0]) ?_
    exact ev_neg (by decide) hr
  have facI := each_mem_go w (fun k i => impl_Shares.l0 k T w w (w.length : Int) i) (fun x => 0 ≤ x ∧ x ≤ 10000000)
    (fun k => (impl_sumOf.f k w).bind fun t305 => (if t305 = 0 then (some ([] : List Int)) else (if 0 ≤ (w.length : Int) then (if ((w.length : Int) : Int).toNat ≤ 35184372088832 then (if ((w.length : Int) : Int).toNat ≤ 17592186044416 then (impl_Shares.l1 k T t305 (List.replicate ((w.length : Int) : Int).toNat 0) (List.replicate ((w.length : Int) : Int).toNat z223) w (w.length : Int) 0) else (none)) else (none)) else (none)))) [] (by
    intro i hlt
    have g1 : (i : Int) < (w.length : Int) := Int.ofNat_lt.2 hlt
    by_cases c : 0 ≤ w[i] ∧ w[i] ≤ 10000000
    · refine .inl ⟨c, fun r hr => ?_⟩
      refine Ev.step (fun k => by rw [impl_Shares.l0]) ?_
      refine ev_pos g1 (ev_pos (Int.natCast_nonneg _) (ev_pos g1 (ev_bind0 (impl_factor_eq _) (ev_pos (by rw [rd_at hlt]; exact decide_eq_true c) ?_))))
      rw [wrap_succ hlt (by omega)]
      exact hr
    · refine .inr ⟨c, ?_⟩
      refine Ev.step (fun k => by rw [impl_Shares.l0]) ?_
      exact ev_pos g1 (ev_pos (Int.natCast_nonneg _) (ev_pos g1 (ev_bind0 (impl_factor_eq _) (ev_neg (by rw [rd_at hlt, decide_eq_true_eq]; exact c) (Ev.now _)))))) (by
    intro r hr
    refine Ev.step (fun k => by rw [impl_Shares.l0]) ?_
    exact ev_neg (Int.lt_irrefl _) hr)
  rcases facI with ⟨hf, hgo⟩ | ⟨hf, hno⟩
  case inr =>
    refine ⟨[], hi _ (hi2 _ hno), hs _ (s1 _ ?_), .inl ⟨rfl, fun h => hf h.2.2.1⟩⟩
    rcases spec_fac T w hn with ⟨hf2, _⟩ | ⟨_, hk⟩
    · exact absurd hf2 hf
    · exact hk
  have hsum := sumOf_ev w 10000000 (by decide) (by decide) hn (fun x hx => by have := hf x hx; omega)
  have hspec : ∀ r, Ev (fun k => if w.sum = 0 then some ([] : List Int) else spec_Shares.l1 k T w [] w.sum [] T 0) r → Ev (fun k => spec_Shares.l0 k T w [] 0 0) r := by
    rcases spec_fac T w hn with ⟨_, hk⟩ | ⟨hf2, _⟩
    · exact hk
    · exact absurd hf hf2
  by_cases c2 : w.sum = 0
  · exact ⟨[], hi _ (hi2 _ (hgo _ (Ev.bind hsum (ev_pos c2 (Ev.now _))))), hs _ (s1 _ (hspec _ (ev_pos c2 (Ev.now _)))), .inl ⟨rfl, fun h => by have := h.2.2.2; omega⟩⟩
  have hS : ShIs T w := ⟨c0, hn, hf, by have := sum_nonneg (fun x hx => (hf x hx).1); omega⟩
  obtain ⟨c, o, hl, ho, hc⟩ := sh_left hS
  have hW := hS.2.2.2
  have hcn : c ≤ w.length := by
    have h1 := (sum_bound w.sum (by omega) (l := RL T w w.length) (fun x hx => by
      unfold RL at hx
      obtain ⟨p, _, rfl⟩ := List.mem_map.1 hx
      have := sh_r hS p
      omega)).2
    rw [RL_length, ← hc, Int.mul_comm] at h1
    have := Int.le_of_mul_le_mul_right h1 hW
    omega
  obtain ⟨res, R', e1, e2, e3⟩ := round_ev hS (show o = 1 ∨ o = -1 by omega) hcn c 0 _ _ (by omega) (ShAt.start T w o)
  have e1' : Ev (fun k => impl_Shares.j3 k (QL T w w.length) (CL T w w.length) (c : Int) o) res := by
    refine Ev.step (fun k => by rw [impl_Shares.j3]) ?_
    refine Ev.bind (impl_cutOff_ev _ shLess (CL T w w.length) (by rw [CL_length]; omega) (fun a _ b _ => ?_)) e1
    unfold impl_Shares_1.f shLess
    rfl
  have e2' : Ev (fun k => spec_Shares.j3 k (QL T w w.length) (RL T w w.length) (T - (QL T w w.length).sum) o) res := by
    refine Ev.step (fun k => by rw [spec_Shares.j3]) ?_
    rw [hl]
    have : o * ((c : Int) - ((0 : Nat) : Int)) = o * (c : Int) := by simp
    rw [this] at e2
    exact e2
  refine ⟨res, hi _ (hi2 _ (hgo _ (Ev.bind hsum (ev_neg c2 ?_)))), hs _ (s1 _ (hspec _ (ev_neg c2 (spec_quot hS ?_)))), .inr (shared_of hS hl ho hc e3)⟩
  · have g1 : ((w.length : Int) : Int).toNat ≤ 35184372088832 := by rw [Int.toNat_natCast]; exact Nat.le_trans hn (by decide)
    have g2 : ((w.length : Int) : Int).toNat ≤ 17592186044416 := by rw [Int.toNat_natCast]; exact Nat.le_trans hn (by decide)
    refine ev_pos (Int.natCast_nonneg _) (ev_pos g1 (ev_pos g2 ?_))
    rw [Int.toNat_natCast]
    refine impl_quot hS ?_ w.length 0 _ _ (by omega) (by rw [List.length_replicate]) (by rw [List.length_replicate]) rfl rfl
    by_cases g : T - (QL T w w.length).sum < 0
    · refine ev_pos g ?_
      have eo : o = -1 := by
        rcases ho with ⟨e, _⟩ | ⟨e, _, h0⟩
        · subst e
          omega
        · exact e
      subst eo
      have ec := Aside0.mk (show wrap64 (-(T - (QL T w w.length).sum)) = (c : Int) from by rw [wrap_id (by omega) (by omega)]; omega)
      rw [ec.out]
      exact e1'
    · refine ev_neg g ?_
      have eo : o = 1 := by
        rcases ho with ⟨e, _⟩ | ⟨e, _, h0⟩
        · exact e
        · subst e
          omega
      subst eo
      have ec : T - (QL T w w.length).sum = (c : Int) := by omega
      rw [ec]
      exact e1'
  · by_cases g : T - (QL T w w.length).sum < 0
    · refine ev_pos g ?_
      have eo : o = -1 := by
        rcases ho with ⟨e, _⟩ | ⟨e, _, h0⟩
        · subst e
          omega
        · exact e
      subst eo
      exact e2'
    · refine ev_neg g ?_
      have eo : o = 1 := by
        rcases ho with ⟨e, _⟩ | ⟨e, _, h0⟩
        · exact e
        · subst e
          omega
      subst eo
      exact e2'
theorem has_ev (L : List Int) (x : Int) (hl : L.length ≤ 1048576) : Ev (fun k => spec_l7Has.f k L x) (decide (x ∈ L)) := by
  have key : ∀ (d i : Nat), i + d = L.length → Ev (fun k => spec_l7Has.l0 k L x (i : Int)) (decide (x ∈ L.drop i)) := by
    intro d
    induction d with
    | zero =>
      intro i hi
      have e : i = L.length := by omega
      subst e
      refine Ev.step (fun k => by rw [spec_l7Has.l0]) ?_
      rw [List.drop_length]
      exact ev_neg (Int.lt_irrefl _) (Ev.now _)
    | succ d ih =>
      intro i hi
      have hlt : i < L.length := by omega
      have g1 : (i : Int) < (L.length : Int) := Int.ofNat_lt.2 hlt
      refine Ev.step (fun k => by rw [spec_l7Has.l0]) ?_
      rw [List.drop_eq_getElem_cons hlt]
      refine ev_pos g1 (ev_pos (Int.natCast_nonneg _) ?_)
      by_cases c : rd L (i : Int) = x
      · rw [rd_at hlt] at c
        rw [decide_eq_true (by rw [← c]; exact List.mem_cons_self ..)]
        exact ev_pos (by rw [rd_at hlt]; exact c) (Ev.now _)
      · have e : decide (x ∈ L[i] :: L.drop (i + 1)) = decide (x ∈ L.drop (i + 1)) := by
          rw [Bool.eq_iff_iff, decide_eq_true_eq, decide_eq_true_eq, List.mem_cons]
          rw [rd_at hlt] at c
          exact ⟨fun h => h.resolve_left (fun e => c e.symm), .inr⟩
        rw [e]
        refine ev_neg c ?_
        rw [wrap_succ hlt (by omega)]
        exact ih (i + 1) (by omega)
  have := key L.length 0 (by omega)
  rw [List.drop_zero] at this
  unfold spec_l7Has.f
  exact this
theorem adv_eq (n : Nat) (a : Int) (h0 : 0 ≤ a) (h1 : a + n ≤ 4611686018427387904) : adv n a = a + n := by
  induction n with
  | zero => simp [adv]
  | succ n ih =>
    have := ih (by omega)
    unfold adv
    rw [this, wrap_id (by omega) (by omega)]
    omega
/-- The costs, by both. -/
theorem costs_both (l : List Int) (hb : l.length ≤ 1048576) : ∃ b, Ev (fun k => spec_l7Costs.f k l) b ∧ Ev (fun k => impl_costsOk.f k l) b ∧ (b = true → 1 ≤ l.length ∧ l.length ≤ 200) := by
  have key : ∀ (d i : Nat), i + d = l.length → ∃ c, Ev (fun k => spec_l7Costs.l0 k l (i : Int)) (c && decide (1 ≤ (l.length : Int) ∧ (l.length : Int) ≤ 200)) ∧ Ev (fun k => impl_costsOk.l0 k l (l.length : Int) (i : Int)) c := by
    intro d
    induction d with
    | zero =>
      intro i hd
      refine ⟨true, Ev.step (fun k => by rw [spec_l7Costs.l0]) (ev_neg (by omega) ?_), Ev.step (fun k => by rw [impl_costsOk.l0]) (ev_neg (by omega) (Ev.now _))⟩
      rw [spec_l1In_eq, Bool.true_and]
      exact Ev.now _
    | succ d ih =>
      intro i hd
      have hi : i < l.length := by omega
      obtain ⟨c, h1, h2⟩ := ih (i + 1) (by omega)
      rw [← wrap_succ hi (by omega)] at h1 h2
      by_cases ca : -100000000000 ≤ rd l (i : Int) ∧ rd l (i : Int) ≤ 100000000000
      · refine ⟨c, Ev.step (fun k => by rw [spec_l7Costs.l0]) (ev_pos (by omega) (ev_pos (by omega) (ev_bind0 (spec_l1Amount_eq _) (ev_pos (decide_eq_true ca) h1)))), Ev.step (fun k => by rw [impl_costsOk.l0]) (ev_pos (by omega) (ev_pos (by omega) (ev_pos (by omega) (ev_bind0 (impl_amount_eq _) (ev_pos (decide_eq_true ca) h2)))))⟩
      · have nca : ¬ decide (-100000000000 ≤ rd l (i : Int) ∧ rd l (i : Int) ≤ 100000000000) = true := by rw [decide_eq_false ca]; decide
        exact ⟨false, Ev.step (fun k => by rw [spec_l7Costs.l0]) (ev_pos (by omega) (ev_pos (by omega) (ev_bind0 (spec_l1Amount_eq _) (ev_neg nca (Ev.now _))))), Ev.step (fun k => by rw [impl_costsOk.l0]) (ev_pos (by omega) (ev_pos (by omega) (ev_pos (by omega) (ev_bind0 (impl_amount_eq _) (ev_neg nca (Ev.now _))))))⟩
  obtain ⟨c, h1, h2⟩ := key l.length 0 (by omega)
  have h1' : Ev (fun k => spec_l7Costs.l0 k l 0) (c && decide (1 ≤ (l.length : Int) ∧ (l.length : Int) ≤ 200)) := h1
  have h2' : Ev (fun k => impl_costsOk.l0 k l (l.length : Int) 0) c := h2
  unfold spec_l7Costs.f impl_costsOk.f
  refine ⟨_, h1', ?_, fun h => ?_⟩
  · by_cases c1 : (l.length : Int) < 1
    · rw [decide_eq_false (p := 1 ≤ (l.length : Int) ∧ (l.length : Int) ≤ 200) (fun h => by omega), Bool.and_false]
      exact ev_pos c1 (Ev.step (fun k => by rw [impl_costsOk.j0]) (ev_pos rfl (Ev.now _)))
    · refine ev_neg c1 ?_
      by_cases c2 : (l.length : Int) > 200
      · rw [decide_eq_false (p := 1 ≤ (l.length : Int) ∧ (l.length : Int) ≤ 200) (fun h => by omega), Bool.and_false]
        exact Ev.step (fun k => by rw [impl_costsOk.j0]) (ev_pos (decide_eq_true c2) (Ev.now _))
      · rw [decide_eq_true (p := 1 ≤ (l.length : Int) ∧ (l.length : Int) ≤ 200) ⟨by omega, by omega⟩, Bool.and_true]
        exact Ev.step (fun k => by rw [impl_costsOk.j0]) (ev_neg (by rw [decide_eq_false c2]; decide) h2')
  · rw [Bool.and_eq_true] at h
    have := of_decide_eq_true h.2
    omega
/-- What a map of seen places says of a list of them. -/
def SeenIs (m : List (Int × Bool)) (g : List Int) : Prop := ∀ a, ((mget m a).getD false = true ↔ a ∈ g)
theorem SeenIs.put {m : List (Int × Bool)} {g : List Int} (h : SeenIs m g) (a : Int) : SeenIs (mset m a true) (g ++ [a]) := by
  intro x
  rw [mget_set, List.mem_append, List.mem_singleton]
  by_cases c : a = x
  · rw [if_pos c]
    simp [c]
  · rw [if_neg c, h x]
    exact ⟨.inl, fun h_ => h_.resolve_right (fun e => c e.symm)⟩
theorem SeenIs.nil : SeenIs [] [] := by intro a; simp [mget]
section
variable (x0 : List Int) (x1 : List S152) (n : Nat) (g : List Int) (m : List (Int × Bool)) (x9 F : Int) (To W : List Int)
theorem put_both (hn : n ≤ 200)
    (hc : ∀ out' : List Int, out'.length = n → ∃ r, Ev (fun k => spec_StepDown.l0 k x0 x1 [] out' g (wrap64 (x9 + 1))) r ∧ Ev (fun k => impl_StepDown.l0 k out' m x1 (x1.length : Int) (wrap64 (x9 + 1))) r ∧ r.1.length ≤ 200)
    (P : List Int) (hP : P.length = To.length) (hTo : ∀ t ∈ To, 0 ≤ t ∧ t < (n : Int)) (hl : To.length ≤ 200) :
    ∀ (d i : Nat) (out : List Int), i + d = To.length → out.length = n →
    ∃ r, Ev (fun k => spec_StepDown.l2 k x0 x1 [] out g x9 P (i : Int) F To W) r ∧ Ev (fun k => impl_StepDown.l2 k out m P x1 (x1.length : Int) x9 To (To.length : Int) (i : Int)) r ∧ r.1.length ≤ 200 := by
  intro d
  induction d with
  | zero =>
    intro i out hd ho
    obtain ⟨r, h1, h2, h3⟩ := hc out ho
    exact ⟨r, Ev.step (fun k => by rw [spec_StepDown.l2]) (ev_neg (by omega) h1), Ev.step (fun k => by rw [impl_StepDown.l2]) (ev_neg (by omega) h2), h3⟩
  | succ d ih =>
    intro i out hd ho
    have hi : i < To.length := by omega
    have ht := hTo _ (rd_mem hi)
    have ho' : (out.length : Int) = n := by omega
    by_cases ca : -100000000000 ≤ wrap64 (rd out (rd To (i : Int)) + rd P (i : Int)) ∧ wrap64 (rd out (rd To (i : Int)) + rd P (i : Int)) ≤ 100000000000
    · obtain ⟨r, h1, h2, h3⟩ := ih (i + 1) (out.set (rd To (i : Int)).toNat (wrap64 (rd out (rd To (i : Int)) + rd P (i : Int)))) (by omega) (by rw [List.length_set]; exact ho)
      rw [← wrap_succ hi (by omega)] at h1 h2
      refine ⟨r, Ev.step (fun k => by rw [spec_StepDown.l2]) ?_, Ev.step (fun k => by rw [impl_StepDown.l2]) ?_, h3⟩
      · exact ev_pos (by omega) (ev_pos (by omega) (ev_pos (by omega) (ev_pos ht.1 (ev_pos (by omega) (ev_bind0 (spec_l1Amount_eq _) (ev_pos (decide_eq_true ca) h1))))))
      · exact ev_pos (by omega) (ev_pos (by omega) (ev_pos (by omega) (ev_pos ht.1 (ev_pos (by omega) (ev_pos (by omega) (ev_bind0 (impl_amount_eq _) (ev_pos (decide_eq_true ca) h2)))))))
    · refine ⟨([], false), Ev.step (fun k => by rw [spec_StepDown.l2]) ?_, Ev.step (fun k => by rw [impl_StepDown.l2]) ?_, by simp⟩
      · exact ev_pos (by omega) (ev_pos (by omega) (ev_pos (by omega) (ev_pos ht.1 (ev_pos (by omega) (ev_bind0 (spec_l1Amount_eq _) (ev_neg (by rw [decide_eq_false ca]; decide) (Ev.now _)))))))
      · exact ev_pos (by omega) (ev_pos (by omega) (ev_pos (by omega) (ev_pos ht.1 (ev_pos (by omega) (ev_pos (by omega) (ev_bind0 (impl_amount_eq _) (ev_neg (by rw [decide_eq_false ca]; decide) (Ev.now _))))))))
theorem to_both (hn : n ≤ 200) (hx : x0.length = n)
    (hc : ∀ out' : List Int, out'.length = n → ∃ r, Ev (fun k => spec_StepDown.l0 k x0 x1 [] out' g (wrap64 (x9 + 1))) r ∧ Ev (fun k => impl_StepDown.l0 k out' m x1 (x1.length : Int) (wrap64 (x9 + 1))) r ∧ r.1.length ≤ 200)
    (hF : 0 ≤ F ∧ F < (n : Int)) (hl : To.length ≤ 200) (hW : To.length = W.length) (hg : SeenIs m g) (hgl : g.length ≤ 1048576) (out : List Int) (ho : out.length = n) :
    ∀ (d i : Nat) (s : List (Int × Bool)), i + d = To.length → SeenIs s (To.take i) → (∀ t ∈ To.take i, 0 ≤ t ∧ t < (n : Int)) →
    ∃ r, Ev (fun k => spec_StepDown.l1 k x0 x1 [] out g x9 (i : Int) F To W) r ∧ Ev (fun k => impl_StepDown.l1 k out m s x1 (x1.length : Int) x9 To (To.length : Int) (i : Int) F To W) r ∧ r.1.length ≤ 200 := by
  have ho' : (out.length : Int) = n := by omega
  intro d
  induction d with
  | zero =>
    intro i s hd hs hr
    obtain ⟨P, p2, p1, p3⟩ := shares_ev (rd out F) W
    have hTo : ∀ t ∈ To, 0 ≤ t ∧ t < (n : Int) := by rw [List.take_of_length_le (by omega)] at hr; exact hr
    by_cases c : (P.length : Int) = 0
    · refine ⟨([], false), Ev.step (fun k => by rw [spec_StepDown.l1]) ?_, Ev.step (fun k => by rw [impl_StepDown.l1]) ?_, by simp⟩
      · exact ev_neg (by omega) (ev_pos hF.1 (ev_pos (by omega) (Ev.bind p1 (ev_pos c (Ev.now _)))))
      · exact ev_neg (by omega) (ev_pos hF.1 (ev_pos (by omega) (Ev.bind p2 (ev_pos c (Ev.now _)))))
    · have hP : P.length = To.length := by
        rcases p3 with ⟨rfl, _⟩ | p3
        · exact absurd rfl c
        · rw [p3.len, hW]
      obtain ⟨r, h1, h2, h3⟩ := put_both x0 x1 n g m x9 F To W hn hc P hP hTo hl To.length 0 (out.set F.toNat 0) (by omega) (by rw [List.length_set]; exact ho)
      have h1' : Ev (fun k => spec_StepDown.l2 k x0 x1 [] (out.set F.toNat 0) g x9 P 0 F To W) r := h1
      have h2' : Ev (fun k => impl_StepDown.l2 k (out.set F.toNat 0) m P x1 (x1.length : Int) x9 To (To.length : Int) 0) r := h2
      refine ⟨r, Ev.step (fun k => by rw [spec_StepDown.l1]) ?_, Ev.step (fun k => by rw [impl_StepDown.l1]) ?_, h3⟩
      · exact ev_neg (by omega) (ev_pos hF.1 (ev_pos (by omega) (Ev.bind p1 (ev_neg c h1'))))
      · exact ev_neg (by omega) (ev_pos hF.1 (ev_pos (by omega) (Ev.bind p2 (ev_neg c h2'))))
  | succ d ih =>
    intro i s hd hs hr
    have hi : i < To.length := by omega
    have hw1 : wrap64 ((x0.length : Int) - 1) = (n : Int) - 1 := by rw [wrap_id (by omega) (by omega)]; omega
    have b1 := has_ev g (rd To (i : Int)) hgl
    have b2 := has_ev (To.take i) (rd To (i : Int)) (by rw [List.length_take]; omega)
    have et : To.take (i + 1) = To.take i ++ [rd To (i : Int)] := by rw [List.take_add_one, List.getElem?_eq_getElem hi, rd_at hi]; rfl
    by_cases c1 : 0 ≤ rd To (i : Int) ∧ rd To (i : Int) ≤ (n : Int) - 1
    · by_cases c2 : rd To (i : Int) ∈ g
      · refine ⟨([], false), Ev.step (fun k => by rw [spec_StepDown.l1]) ?_, Ev.step (fun k => by rw [impl_StepDown.l1]) ?_, by simp⟩
        · rw [hw1]
          exact ev_pos (by omega) (ev_pos (by omega) (ev_bind0 (spec_l1In_eq _ _ _) (ev_pos (decide_eq_true c1) (Ev.bind b1 (ev_pos (decide_eq_true c2) (Ev.now _))))))
        · by_cases c3 : (mget s (rd To (i : Int))).getD false = true
          · exact ev_pos (by omega) (ev_pos (by omega) (ev_pos (by omega) (ev_neg (by omega) (ev_neg (by omega) (ev_pos (by omega) (ev_pos (by omega) (ev_pos c3 (Ev.now _))))))))
          · exact ev_pos (by omega) (ev_pos (by omega) (ev_pos (by omega) (ev_neg (by omega) (ev_neg (by omega) (ev_pos (by omega) (ev_pos (by omega) (ev_neg c3 (ev_pos ((hg _).2 c2) (Ev.now _)))))))))
      · by_cases c3 : rd To (i : Int) ∈ To.take i
        · refine ⟨([], false), Ev.step (fun k => by rw [spec_StepDown.l1]) ?_, Ev.step (fun k => by rw [impl_StepDown.l1]) ?_, by simp⟩
          · rw [hw1]
            exact ev_pos (by omega) (ev_pos (by omega) (ev_bind0 (spec_l1In_eq _ _ _) (ev_pos (decide_eq_true c1) (Ev.bind b1 (ev_neg (by rw [decide_eq_false c2]; decide) (ev_pos (by omega) (Ev.bind b2 (ev_pos (decide_eq_true c3) (Ev.now _)))))))))
          · exact ev_pos (by omega) (ev_pos (by omega) (ev_pos (by omega) (ev_neg (by omega) (ev_neg (by omega) (ev_pos (by omega) (ev_pos (by omega) (ev_pos ((hs _).2 c3) (Ev.now _))))))))
        · obtain ⟨r, h1, h2, h3⟩ := ih (i + 1) (mset s (rd To (i : Int)) true) (by omega) (by rw [et]; exact hs.put _) (by
            rw [et]
            intro t ht
            rcases List.mem_append.1 ht with ht | ht
            · exact hr t ht
            · rw [List.mem_singleton.1 ht]; omega)
          rw [← wrap_succ hi (by omega)] at h1 h2
          refine ⟨r, Ev.step (fun k => by rw [spec_StepDown.l1]) ?_, Ev.step (fun k => by rw [impl_StepDown.l1]) ?_, h3⟩
          · rw [hw1]
            exact ev_pos (by omega) (ev_pos (by omega) (ev_bind0 (spec_l1In_eq _ _ _) (ev_pos (decide_eq_true c1) (Ev.bind b1 (ev_neg (by rw [decide_eq_false c2]; decide) (ev_pos (by omega) (Ev.bind b2 (ev_neg (by rw [decide_eq_false c3]; decide) h1))))))))
          · exact ev_pos (by omega) (ev_pos (by omega) (ev_pos (by omega) (ev_neg (by omega) (ev_neg (by omega) (ev_pos (by omega) (ev_pos (by omega) (ev_neg (fun h => c3 ((hs _).1 h)) (ev_neg (fun h => c2 ((hg _).1 h)) h2))))))))
    · refine ⟨([], false), Ev.step (fun k => by rw [spec_StepDown.l1]) ?_, Ev.step (fun k => by rw [impl_StepDown.l1]) ?_, by simp⟩
      · rw [hw1]
        exact ev_pos (by omega) (ev_pos (by omega) (ev_bind0 (spec_l1In_eq _ _ _) (ev_neg (by rw [decide_eq_false c1]; decide) (Ev.now _))))
      · by_cases c2 : rd To (i : Int) < 0
        · exact ev_pos (by omega) (ev_pos (by omega) (ev_pos (by omega) (ev_pos c2 (Ev.now _))))
        · exact ev_pos (by omega) (ev_pos (by omega) (ev_pos (by omega) (ev_neg c2 (ev_pos (by omega) (Ev.now _)))))
end
section
variable (x0 : List Int) (x1 : List S152) (n : Nat)
theorem sj2_true (out g : List Int) (x9 F : Int) (To W : List Int) : Ev (fun k => spec_StepDown.j2 k x0 x1 [] out g x9 true F To W) ([], false) := Ev.step (fun k => by rw [spec_StepDown.j2]) (ev_pos rfl (Ev.now _))
theorem ij2_true (out : List Int) (m : List (Int × Bool)) (x9 F : Int) (To W : List Int) : Ev (fun k => impl_StepDown.j2 k out m x1 (x1.length : Int) x9 true F To W) ([], false) := Ev.step (fun k => by rw [impl_StepDown.j2]) (ev_pos rfl (Ev.now _))
theorem rules_both (hn : n ≤ 200) (hx : x0.length = n) (h1 : x1.length ≤ 40) : ∀ (d i : Nat) (out g : List Int) (m : List (Int × Bool)), i + d = x1.length → out.length = n → SeenIs m g → g.length ≤ i →
    ∃ r, Ev (fun k => spec_StepDown.l0 k x0 x1 [] out g (i : Int)) r ∧ Ev (fun k => impl_StepDown.l0 k out m x1 (x1.length : Int) (i : Int)) r ∧ r.1.length ≤ 200 := by
  intro d
  induction d with
  | zero =>
    intro i out g m hd ho hg hgl
    exact ⟨(out, true), Ev.step (fun k => by rw [spec_StepDown.l0]) (ev_neg (by omega) (Ev.now _)), Ev.step (fun k => by rw [impl_StepDown.l0]) (ev_neg (by omega) (Ev.now _)), by show out.length ≤ 200; omega⟩
  | succ d ih =>
    intro i out g m hd ho hg hgl
    have hi : i < x1.length := by omega
    have ho' : (out.length : Int) = n := by omega
    have hw1 : wrap64 ((x0.length : Int) - 1) = (n : Int) - 1 := by rw [wrap_id (by omega) (by omega)]; omega
    have b1 := has_ev g (rd_T152 x1 (i : Int)).f0 (by omega)
    have st := fun (F : Int) (To W : List Int) => sj2_true x0 x1 out g (i : Int) F To W
    have it := fun (F : Int) (To W : List Int) => ij2_true x1 out m (i : Int) F To W
    generalize hR : rd_T152 x1 (i : Int) = R at b1
    by_cases c1 : 0 ≤ R.f0 ∧ R.f0 ≤ (n : Int) - 1
    · have sp : ∀ r, Ev (fun k => if decide (R.f0 ∈ g) = true then spec_StepDown.j2 k x0 x1 [] out g (i : Int) true R.f0 R.f1 R.f2 else if (R.f1.length : Int) = (R.f2.length : Int) then spec_StepDown.j2 k x0 x1 [] out g (i : Int) (decide ((R.f1.length : Int) > 200)) R.f0 R.f1 R.f2 else spec_StepDown.j2 k x0 x1 [] out g (i : Int) true R.f0 R.f1 R.f2) r → Ev (fun k => spec_StepDown.l0 k x0 x1 [] out g (i : Int)) r := by
        intro r h
        refine Ev.step (fun k => by rw [spec_StepDown.l0, hR]) ?_
        rw [hw1]
        exact ev_pos (by omega) (ev_pos (by omega) (ev_bind0 (spec_l1In_eq _ _ _) (ev_pos (decide_eq_true c1) (Ev.bind b1 h))))
      have ip : ∀ r, Ev (fun k => if (mget m R.f0).getD false = true then impl_StepDown.j2 k out m x1 (x1.length : Int) (i : Int) true R.f0 R.f1 R.f2 else if (R.f1.length : Int) < 1 then impl_StepDown.j2 k out m x1 (x1.length : Int) (i : Int) true R.f0 R.f1 R.f2 else if (R.f1.length : Int) > 200 then impl_StepDown.j2 k out m x1 (x1.length : Int) (i : Int) true R.f0 R.f1 R.f2 else impl_StepDown.j2 k out m x1 (x1.length : Int) (i : Int) ((R.f2.length : Int) != (R.f1.length : Int)) R.f0 R.f1 R.f2) r → Ev (fun k => impl_StepDown.l0 k out m x1 (x1.length : Int) (i : Int)) r := by
        intro r h
        refine Ev.step (fun k => by rw [impl_StepDown.l0, hR]) ?_
        exact ev_pos (by omega) (ev_pos (by omega) (ev_pos (by omega) (ev_neg (by omega) (ev_neg (by omega) (ev_pos (by omega) (ev_pos (by omega) h))))))
      by_cases c2 : R.f0 ∈ g
      · exact ⟨([], false), sp _ (ev_pos (decide_eq_true c2) (st _ _ _)), ip _ (ev_pos ((hg _).2 c2) (it _ _ _)), by simp⟩
      · have n2 : ¬ decide (R.f0 ∈ g) = true := by rw [decide_eq_false c2]; decide
        have m2 : ¬ (mget m R.f0).getD false = true := fun h => c2 ((hg _).1 h)
        by_cases c3 : R.f1.length = R.f2.length
        · by_cases c4 : R.f1.length > 200
          · refine ⟨([], false), sp _ (ev_neg n2 (ev_pos (by omega) ?_)), ip _ (ev_neg m2 (ev_neg (by omega) (ev_pos (by omega) (it _ _ _)))), by simp⟩
            rw [decide_eq_true (p := (R.f1.length : Int) > 200) (by omega)]
            exact st _ _ _
          · have d4 : decide ((R.f1.length : Int) > 200) = false := decide_eq_false (by omega)
            have hc : ∀ out' : List Int, out'.length = n → ∃ r, Ev (fun k => spec_StepDown.l0 k x0 x1 [] out' (g ++ [R.f0]) (wrap64 ((i : Int) + 1))) r ∧ Ev (fun k => impl_StepDown.l0 k out' (mset m R.f0 true) x1 (x1.length : Int) (wrap64 ((i : Int) + 1))) r ∧ r.1.length ≤ 200 := by
              intro out' ho2
              rw [wrap_succ hi (by omega)]
              exact ih (i + 1) out' (g ++ [R.f0]) (mset m R.f0 true) (by omega) ho2 (hg.put _) (by simp; omega)
            obtain ⟨r, h1, h2, h3⟩ := to_both x0 x1 n (g ++ [R.f0]) (mset m R.f0 true) (i : Int) R.f0 R.f1 R.f2 hn hx hc ⟨c1.1, by omega⟩ (by omega) c3 (hg.put _) (by simp; omega) out ho R.f1.length 0 [] (by omega) (by rw [List.take_zero]; exact SeenIs.nil) (by simp)
            have h1' : Ev (fun k => spec_StepDown.l1 k x0 x1 [] out (g ++ [R.f0]) (i : Int) 0 R.f0 R.f1 R.f2) r := h1
            have h2' : Ev (fun k => impl_StepDown.l1 k out (mset m R.f0 true) [] x1 (x1.length : Int) (i : Int) R.f1 (R.f1.length : Int) 0 R.f0 R.f1 R.f2) r := h2
            have s2 : Ev (fun k => spec_StepDown.j2 k x0 x1 [] out g (i : Int) false R.f0 R.f1 R.f2) r := Ev.step (fun k => by rw [spec_StepDown.j2]) (ev_neg (by decide) (ev_pos (by omega) h1'))
            have i2 : Ev (fun k => impl_StepDown.j2 k out m x1 (x1.length : Int) (i : Int) false R.f0 R.f1 R.f2) r := Ev.step (fun k => by rw [impl_StepDown.j2]) (ev_neg (by decide) (ev_pos (by omega) (ev_pos (by omega) h2')))
            by_cases c5 : R.f1.length < 1
            · obtain ⟨P, p2, p1, p3⟩ := shares_ev (rd out R.f0) R.f2
              have hP : (P.length : Int) = 0 := by
                rcases p3 with ⟨rfl, _⟩ | p3
                · rfl
                · rw [p3.len]; omega
              refine ⟨([], false), sp _ (ev_neg n2 (ev_pos (by omega) ?_)), ip _ (ev_neg m2 (ev_pos (by omega) (it _ _ _))), by simp⟩
              rw [d4]
              exact Ev.step (fun k => by rw [spec_StepDown.j2]) (ev_neg (by decide) (ev_pos (by omega) (Ev.step (fun k => by rw [spec_StepDown.l1]) (ev_neg (by omega) (ev_pos c1.1 (ev_pos (by omega) (Ev.bind p1 (ev_pos hP (Ev.now _)))))))))
            · refine ⟨r, sp _ (ev_neg n2 (ev_pos (by omega) ?_)), ip _ (ev_neg m2 (ev_neg (by omega) (ev_neg (by omega) ?_))), h3⟩
              · rw [d4]; exact s2
              · rw [show (((R.f2.length : Int) != (R.f1.length : Int))) = false by simp [c3]]; exact i2
        · refine ⟨([], false), sp _ (ev_neg n2 (ev_neg (by omega) (st _ _ _))), ip _ (ev_neg m2 ?_), by simp⟩
          by_cases c5 : R.f1.length < 1
          · exact ev_pos (by omega) (it _ _ _)
          · refine ev_neg (by omega) ?_
            by_cases c6 : R.f1.length > 200
            · exact ev_pos (by omega) (it _ _ _)
            · refine ev_neg (by omega) ?_
              rw [show (((R.f2.length : Int) != (R.f1.length : Int))) = true by rw [bne_iff_ne]; omega]
              exact it _ _ _
    · refine ⟨([], false), Ev.step (fun k => by rw [spec_StepDown.l0, hR]) ?_, Ev.step (fun k => by rw [impl_StepDown.l0, hR]) ?_, by simp⟩
      · rw [hw1]
        exact ev_pos (by omega) (ev_pos (by omega) (ev_bind0 (spec_l1In_eq _ _ _) (ev_neg (by rw [decide_eq_false c1]; decide) (st _ _ _))))
      · by_cases c2 : R.f0 < 0
        · exact ev_pos (by omega) (ev_pos (by omega) (ev_pos (by omega) (ev_pos c2 (it _ _ _))))
        · exact ev_pos (by omega) (ev_pos (by omega) (ev_pos (by omega) (ev_neg c2 (ev_pos (by omega) (it _ _ _)))))
theorem step_ev (hb : x0.length ≤ 1048576) : ∃ r, Ev (fun k => spec_StepDown.f k x0 x1) r ∧ Ev (fun k => impl_StepDown.f k x0 x1) r ∧ r.1.length ≤ 200 := by
  unfold spec_StepDown.f impl_StepDown.f
  obtain ⟨b, b1, b2, b3⟩ := costs_both x0 hb
  have sj : Ev (fun k => spec_StepDown.j0 k x0 x1 [] true) ([], false) := Ev.step (fun k => by rw [spec_StepDown.j0]) (ev_pos rfl (Ev.now _))
  have ij : Ev (fun k => impl_StepDown.j0 k x0 x1 true) ([], false) := Ev.step (fun k => by rw [impl_StepDown.j0]) (ev_pos rfl (Ev.now _))
  by_cases c : b = true
  · by_cases c1 : (x1.length : Int) > 40
    · rw [decide_eq_true c1]
      exact ⟨([], false), ev_bind0 rfl (Ev.bind b1 (ev_pos c sj)), Ev.bind b2 (ev_pos c ij), by simp⟩
    · rw [decide_eq_false c1]
      have hc := b3 c
      obtain ⟨r, h1, h2, h3⟩ := rules_both x0 x1 x0.length hc.2 rfl (by omega) x1.length 0 x0 [] [] (by omega) rfl SeenIs.nil (by simp)
      have h1' : Ev (fun k => spec_StepDown.l0 k x0 x1 [] x0 [] 0) r := h1
      have h2' : Ev (fun k => impl_StepDown.l0 k x0 [] x1 (x1.length : Int) 0) r := h2
      have hz : ([] : List Int).length + x0.length < 17592186044416 := by simp; omega
      have sf : Ev (fun k => spec_StepDown.j0 k x0 x1 [] false) r := by
        refine Ev.step (fun k => by rw [spec_StepDown.j0]) ?_
        exact ev_neg (by decide) (ev_bind0 (b := ([] : List Int)) rfl (ev_pos hz h1'))
      have jf : Ev (fun k => impl_StepDown.j0 k x0 x1 false) r := by
        refine Ev.step (fun k => by rw [impl_StepDown.j0]) ?_
        exact ev_neg (by decide) (ev_bind0 (b := ([] : List Int)) rfl (ev_pos hz h2'))
      exact ⟨r, ev_bind0 rfl (Ev.bind b1 (ev_pos c sf)), Ev.bind b2 (ev_pos c jf), h3⟩
  · exact ⟨([], false), ev_bind0 rfl (Ev.bind b1 (ev_neg c sj)), Ev.bind b2 (ev_neg c ij), by simp⟩
end
theorem marksOf_bound (l : List S152) : ∀ a : Int, 0 ≤ a → a + l.length * 2097160 ≤ 2305843009213693952 → (∀ x ∈ l, x.f1.length ≤ 1048576 ∧ x.f2.length ≤ 1048576) → 0 ≤ marksOf l a ∧ marksOf l a ≤ a + l.length * 2097160 := by
  induction l with
  | nil => intro a h0 _ _; simp [marksOf, h0]
  | cons x l ih =>
    intro a h0 h1 hx
    have hl : ((x :: l).length : Int) = l.length + 1 := by simp
    rw [hl] at h1 ⊢
    have hm := hx x List.mem_cons_self
    have es : marksOf (x :: l) a = marksOf l (a + 1 + x.f1.length + x.f2.length) := by
      show marksOf l (adv x.f2.length (adv x.f1.length (wrap64 (a + 1)))) = _
      rw [wrap_id (x := a + 1) (by omega) (by omega), adv_eq x.f1.length (a + 1) (by omega) (by omega), adv_eq _ _ (by omega) (by omega)]
    rw [es]
    have := ih (a + 1 + x.f1.length + x.f2.length) (by omega) (by omega) (fun y hy => hx y (List.mem_cons_of_mem _ hy))
    omega
theorem FnExactStepDown : laws_FnExactStepDown.Pure := by
  intro l0 l1 _ hg1
  apply Ev.rounds
  unfold laws_FnExactStepDown.f
  by_cases c0 : (l0.length : Int) > 1048576
  · exact ev_pos c0 (Ev.now _)
  refine ev_neg c0 ?_
  obtain ⟨s, hs, h⟩ := laws_szRuleS_ev l1 1048576 (by omega) (by omega) hg1
  refine Ev.bind hs ?_
  rcases h with h | ⟨n0, n1, hB⟩
  · exact ev_pos h (Ev.now _)
  refine ev_neg (by omega) ?_
  have ti := laws_toIntS_ev l0 (by omega)
  have to1 := laws_toRuleS_ev l1 hB
  have hB' : ((l1.map cv150).length : Int) ≤ 1048576 ∧ ∀ x ∈ l1.map cv150, B152 1048576 x := ⟨by rw [List.length_map]; exact hB.1, fun x hx => by
    obtain ⟨y, hy, rfl⟩ := List.mem_map.1 hx
    exact cv150_B (hB.2 y hy)⟩
  have hM : ∀ x ∈ l1.map cv150, x.f1.length ≤ 1048576 ∧ x.f2.length ≤ 1048576 := fun x hx => by have h_ := hB'.2 x hx; exact ⟨by have := h_.1; omega, by have := h_.2; omega⟩
  obtain ⟨r, h2, h3, hr⟩ := step_ev l0 (l1.map cv150) (by omega)
  obtain ⟨r1, r2⟩ := r
  have hr1 : (r1.length : Int) ≤ 1048576 := by have : r1.length ≤ 200 := hr; omega
  have er := laws_eqIntS_ev r1 hr1
  refine Ev.bind ti (Ev.bind to1 (Ev.bind h2 (Ev.bind ti (Ev.bind to1 (Ev.bind h3 (Ev.bind er (ev_pos rfl ?_)))))))
  refine Ev.step (fun k => by rw [laws_FnExactStepDown.j0]) ?_
  refine ev_neg (by simp) (Ev.bind ti (Ev.bind (laws_eqIntS_ev l0 (by omega)) (ev_pos rfl ?_)))
  refine Ev.bind to1 (Ev.bind (laws_eqRuleS_ev _ hB') (ev_pos rfl ?_))
  have hq := marksOf_bound (l1.map cv150) (1 + (l0.length : Int)) (by omega) (by have := hB'.1; omega) hM
  refine Ev.bind (laws_markIntS_ev l0 1 (by omega) (by omega) (by omega)) ?_
  refine ev_bind0 (show laws_markRuleS.f (l1.map cv150) (1 + (l0.length : Int)) = some _ from rfl) (ev_neg (by omega) (Ev.bind er (ev_pos rfl ?_)))
  refine Ev.step (fun k => by rw [laws_FnExactStepDown.j1]) ?_
  have hm := laws_markIntS_ev r1 1 (by omega) (by omega) hr1
  have hh := laws_heldIntS_ev 1 r1.length (by omega) (by omega) hr1
  refine ev_neg (by simp) (Ev.bind hm (Ev.bind hh (ev_neg (by omega) (ev_pos rfl ?_))))
  refine Ev.bind ti (Ev.bind to1 (Ev.bind h3 (Ev.bind er (ev_pos rfl ?_))))
  refine Ev.step (fun k => by rw [laws_FnExactStepDown.j2]) ?_
  exact ev_neg (by simp) (Ev.bind hh (ev_neg (by omega) (ev_pos rfl (Ev.now _))))
end Go.Proofs.Ytdnhpicgjkddbaa.Pure
