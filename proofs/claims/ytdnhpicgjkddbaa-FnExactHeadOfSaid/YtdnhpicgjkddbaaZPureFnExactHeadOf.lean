/- HeadOf: the program's head is the reference's, whatever the entries. -/
import Derived.Test.YtdnhpicgjkddbaaZPFnExactHeadOfx
import Derived.Test.YtdnhpicgjkddbaaZHFnExactHeadOf
set_option maxHeartbeats 4000000
set_option linter.unusedVariables false
set_option linter.unusedSimpArgs false
namespace Go.Proofs.Ytdnhpicgjkddbaa.Pure
open Go.RowKit Go.Proofs.Ytdnhpicgjkddbaa.PFnExactHeadOf Go.Proofs.YtdnhpicgjkddbaaW.PrintWords Go.Proofs.YtdnhpicgjkddbaaW.PrintLast Go.Proofs.Ytdnhpicgjkddbaa.XEv
/-! ### The chain's head -/
def inR (x : Int) : Prop := -549755813888 ≤ x ∧ x ≤ 549755813887
instance (x : Int) : Decidable (inR x) := inferInstanceAs (Decidable (_ ∧ _))
def linkI (h x : Int) : Int := Int.tmod (wrap64 ((wrap64 ((wrap64 (h * 1000003)) + x)) + 549755813888)) 1099511627791
def stp (s : Int × Bool) (x : Int) : Int × Bool := if inR x then (linkI s.1 x, s.2) else (s.1, true)
theorem link_eq (h : Int) (b : Bool) (x : Int) : impl_chain_link.f h b x = some (stp (h, b) x) := by
  unfold impl_chain_link.f stp
  rw [impl_between_eq]
  simp only [Option.bind_some, decide_eq_true_eq]
  by_cases c : inR x
  · rw [if_pos (show -549755813888 ≤ x ∧ x ≤ 549755813887 from c), if_pos c]; rfl
  · rw [if_neg (show ¬ (-549755813888 ≤ x ∧ x ≤ 549755813887) from c), if_neg c]
/-- The numbers of a text's bytes, from a place on. -/
def bnums (s : ByteArray) : Nat → Nat → List Int
  | 0, _ => []
  | d + 1, i => wrap64 (bt s (i : Int)) :: bnums s d (i + 1)
theorem bnums_length (s : ByteArray) (d : Nat) : ∀ i, (bnums s d i).length = d := by
  induction d with
  | zero => intro i; rfl
  | succ d ih => intro i; simp [bnums, ih]
def lnums (l : List S98) : List Int := l.flatMap fun x => [x.f0, x.f1, x.f2, x.f3, x.f4]
theorem lnums_cons (x : S98) (l : List S98) : lnums (x :: l) = x.f0 :: x.f1 :: x.f2 :: x.f3 :: x.f4 :: lnums l := rfl
theorem lnums_length (l : List S98) : (lnums l).length = 5 * l.length := by
  induction l with
  | nil => rfl
  | cons x l ih => rw [lnums_cons]; simp only [List.length_cons, ih]; omega
/-- An entry's numbers. -/
def enums (e : S96) : List Int := [e.f0, e.f1, (e.f2.size : Int)] ++ (bnums e.f2 e.f2.size 0 ++ ((e.f3.length : Int) :: lnums e.f3))

theorem impl_lines_ev (ls : List S98) (hl : ls.length ≤ 1048576) (d : Nat) : ∀ (j : Nat) (s : Int × Bool), j + d = ls.length →
    Ev (fun k => impl_numbersOf.l1 k ls (ls.length : Int) (j : Int) s.1 s.2) ((lnums (ls.drop j)).foldl stp s) := by
  induction d with
  | zero =>
    intro j s hd
    rw [List.drop_eq_nil_of_le (by omega)]
    show Ev _ s
    exact Ev.step (fun k => by rw [impl_numbersOf.l1]) (ev_neg (by omega) (Ev.now _))
  | succ d ih =>
    intro j s hd
    have hj : j < ls.length := by omega
    have hrd : rd_T98 ls (j : Int) = ls[j] := getD_at hj _
    rw [List.drop_eq_getElem_cons hj, lnums_cons]
    refine Ev.step (fun k => by rw [impl_numbersOf.l1]) ?_
    simp only [hrd]
    refine ev_pos (by omega) (ev_pos (by omega) (ev_pos (by omega) (ev_bind0 (link_eq _ _ _) (ev_bind0 (link_eq _ _ _) (ev_bind0 (link_eq _ _ _) (ev_bind0 (link_eq _ _ _) (ev_bind0 (link_eq _ _ _) ?_)))))))
    rw [wrap_succ hj (by omega)]
    exact ih (j + 1) _ (by omega)
theorem impl_bytes_ev (e : S96) (hl : e.f3.length ≤ 1048576) (hs : e.f2.size ≤ 1048576) (d : Nat) : ∀ (i : Nat) (s : Int × Bool), i + d = e.f2.size →
    Ev (fun k => impl_numbersOf.l0 k (i : Int) s.1 s.2 e.f0 e.f1 e.f2 e.f3) ((bnums e.f2 d i ++ ((e.f3.length : Int) :: lnums e.f3)).foldl stp s) := by
  induction d with
  | zero =>
    intro i s hd
    refine Ev.step (fun k => by rw [impl_numbersOf.l0]) (ev_neg (by omega) (ev_bind0 (link_eq _ _ _) ?_))
    exact impl_lines_ev e.f3 hl e.f3.length 0 _ (by omega)
  | succ d ih =>
    intro i s hd
    refine Ev.step (fun k => by rw [impl_numbersOf.l0]) (ev_pos (by omega) (ev_pos (by omega) (ev_bind0 (link_eq _ _ _) ?_)))
    have hi : i < e.f2.size := by omega
    rw [wrap_succ hi (by omega)]
    exact ih (i + 1) _ (by omega)
theorem impl_numbers_ev (e : S96) (hl : e.f3.length ≤ 1048576) (hs : e.f2.size ≤ 1048576) (s : Int × Bool) :
    Ev (fun k => impl_numbersOf.f k e.f0 e.f1 e.f2 e.f3 s.1 s.2) ((enums e).foldl stp s) := by
  unfold impl_numbersOf.f
  refine ev_bind0 (link_eq _ _ _) (ev_bind0 (link_eq _ _ _) (ev_bind0 (link_eq _ _ _) ?_))
  exact impl_bytes_ev e hl hs e.f2.size 0 _ (by omega)

theorem spec_lines_ev (e : S96) (hl : e.f3.length ≤ 1048576) (d : Nat) : ∀ (j : Nat) (acc : List Int), j + d = e.f3.length → acc.length + 5 * d ≤ 10000000 →
    Ev (fun k => spec_l5Numbers.l1 k acc (j : Int) e.f0 e.f1 e.f2 e.f3) (acc ++ lnums (e.f3.drop j)) := by
  induction d with
  | zero =>
    intro j acc hd _
    rw [List.drop_eq_nil_of_le (by omega), show lnums [] = [] from rfl, List.append_nil]
    exact Ev.step (fun k => by rw [spec_l5Numbers.l1]) (ev_neg (by omega) (Ev.now _))
  | succ d ih =>
    intro j acc hd ha
    have hj : j < e.f3.length := by omega
    have hrd : rd_T98 e.f3 (j : Int) = e.f3[j] := getD_at hj _
    rw [List.drop_eq_getElem_cons hj, lnums_cons]
    refine Ev.step (fun k => by rw [spec_l5Numbers.l1]) ?_
    simp only [hrd, Option.bind_some]
    refine ev_pos (by omega) (ev_pos (by omega) (ev_pos (by simp only [List.length_cons, List.length_nil]; omega) ?_))
    rw [wrap_succ hj (by omega)]
    have := ih (j + 1) (acc ++ [e.f3[j].f0, e.f3[j].f1, e.f3[j].f2, e.f3[j].f3, e.f3[j].f4]) (by omega) (by simp only [List.length_append, List.length_cons, List.length_nil]; omega)
    rw [List.append_assoc] at this
    exact this
theorem spec_bytes_ev (e : S96) (hl : e.f3.length ≤ 1048576) (hs : e.f2.size ≤ 1048576) (d : Nat) : ∀ (i : Nat) (acc : List Int), i + d = e.f2.size → acc.length + d ≤ 2000000 →
    Ev (fun k => spec_l5Numbers.l0 k acc (i : Int) e.f0 e.f1 e.f2 e.f3) (acc ++ (bnums e.f2 d i ++ ((e.f3.length : Int) :: lnums e.f3))) := by
  induction d with
  | zero =>
    intro i acc hd ha
    refine Ev.step (fun k => by rw [spec_l5Numbers.l0]) (ev_neg (by omega) (ev_pos (by omega) ?_))
    have := spec_lines_ev e hl e.f3.length 0 (acc ++ [(e.f3.length : Int)]) (by omega) (by simp only [List.length_append, List.length_cons, List.length_nil]; omega)
    rw [List.append_assoc] at this
    exact this
  | succ d ih =>
    intro i acc hd ha
    refine Ev.step (fun k => by rw [spec_l5Numbers.l0]) (ev_pos (by omega) (ev_pos (by omega) (ev_pos (by omega) ?_)))
    have hi : i < e.f2.size := by omega
    rw [wrap_succ hi (by omega)]
    have := ih (i + 1) (acc ++ [wrap64 (bt e.f2 (i : Int))]) (by omega) (by simp only [List.length_append, List.length_cons, List.length_nil]; omega)
    rw [List.append_assoc] at this
    exact this
theorem spec_numbers_ev (e : S96) (hl : e.f3.length ≤ 1048576) (hs : e.f2.size ≤ 1048576) :
    Ev (fun k => spec_l5Numbers.f k e.f0 e.f1 e.f2 e.f3) (enums e) := by
  unfold spec_l5Numbers.f
  exact spec_bytes_ev e hl hs e.f2.size 0 _ (by omega) (by simp only [List.length_cons, List.length_nil]; omega)
theorem enums_length (e : S96) (hl : e.f3.length ≤ 60) (hs : e.f2.size ≤ 40) : (enums e).length ≤ 1000 := by
  unfold enums
  simp only [List.length_append, List.length_cons, List.length_nil, bnums_length, lnums_length]
  omega

theorem chain_ok (l : List Int) : ∀ (h : Int) (b : Bool), (∀ x ∈ l, inR x) → l.foldl stp (h, b) = (l.foldl linkI h, b) := by
  induction l with
  | nil => intro h b _; rfl
  | cons x l ih =>
    intro h b hx
    simp only [List.foldl_cons]
    rw [show stp (h, b) x = (linkI h x, b) from if_pos (hx x List.mem_cons_self)]
    exact ih _ _ (fun y hy => hx y (List.mem_cons_of_mem _ hy))
theorem chain_bad (l : List Int) : ∀ s : Int × Bool, (s.2 = true ∨ ∃ x ∈ l, ¬ inR x) → (l.foldl stp s).2 = true := by
  induction l with
  | nil =>
    intro s h
    rcases h with h | ⟨x, hx, _⟩
    · exact h
    · cases hx
  | cons x l ih =>
    intro s h
    simp only [List.foldl_cons]
    apply ih
    by_cases c : inR x
    · rw [show stp s x = (linkI s.1 x, s.2) from if_pos c]
      rcases h with h | ⟨y, hy, hn⟩
      · exact .inl h
      · rcases List.mem_cons.1 hy with rfl | hy
        · exact absurd c hn
        · exact .inr ⟨y, hy, hn⟩
    · exact .inl (by rw [show stp s x = (s.1, true) from if_neg c])
/-- The reference, through one entry's numbers. -/
theorem spec_nums_ev (l : List S96) (i : Nat) (hi : i < l.length) (hl : l.length ≤ 1048576) (xs : List Int) (hx : xs.length ≤ 1000) (d : Nat) : ∀ (j : Nat) (h : Int), j + d = xs.length →
    ((∀ x ∈ xs.drop j, inR x) ∧ ∀ r, Ev (fun k => spec_HeadOf.l0 k l ((xs.drop j).foldl linkI h) ((i + 1 : Nat) : Int)) r → Ev (fun k => spec_HeadOf.l1 k l h (i : Int) xs (j : Int)) r) ∨
    ((∃ x ∈ xs.drop j, ¬ inR x) ∧ Ev (fun k => spec_HeadOf.l1 k l h (i : Int) xs (j : Int)) 0) := by
  induction d with
  | zero =>
    intro j h hd
    rw [List.drop_eq_nil_of_le (by omega)]
    refine .inl ⟨fun x hx => (by cases hx), fun r hr => Ev.step (fun k => by rw [spec_HeadOf.l1]) (ev_neg (by omega) ?_)⟩
    rw [wrap_succ hi (by omega)]
    exact hr
  | succ d ih =>
    intro j h hd
    have hj : j < xs.length := by omega
    have hrd : rd xs (j : Int) = xs[j] := rd_at hj
    rw [List.drop_eq_getElem_cons hj]
    by_cases c : inR xs[j]
    · have hgo : ∀ r, Ev (fun k => spec_HeadOf.l1 k l (linkI h xs[j]) (i : Int) xs ((j + 1 : Nat) : Int)) r → Ev (fun k => spec_HeadOf.l1 k l h (i : Int) xs (j : Int)) r := by
        intro r hr
        refine Ev.step (fun k => by rw [spec_HeadOf.l1]) ?_
        simp only [hrd, spec_l1In_eq, Option.bind_some]
        refine ev_pos (by omega) (ev_pos (by omega) (ev_pos (decide_eq_true c) ?_))
        rw [wrap_succ hj (by omega)]
        exact hr
      rcases ih (j + 1) (linkI h xs[j]) (by omega) with ⟨h1, h2⟩ | ⟨⟨y, hy, hn⟩, h2⟩
      · refine .inl ⟨fun x hx => ?_, fun r hr => hgo r (h2 r hr)⟩
        rcases List.mem_cons.1 hx with rfl | hx
        · exact c
        · exact h1 x hx
      · exact .inr ⟨⟨y, List.mem_cons_of_mem _ hy, hn⟩, hgo _ h2⟩
    · refine .inr ⟨⟨xs[j], List.mem_cons_self, c⟩, Ev.step (fun k => by rw [spec_HeadOf.l1]) ?_⟩
      simp only [hrd, spec_l1In_eq, Option.bind_some]
      exact ev_pos (by omega) (ev_pos (by omega) (ev_neg (fun h_ => c (of_decide_eq_true h_)) (Ev.now _)))
theorem head_from (l : List S96) (hl : l.length ≤ 1000) (hb : ∀ x ∈ l, B96 1048576 x) (d : Nat) : ∀ (i : Nat) (s : Int × Bool), i + d = l.length →
    ∃ r, Ev (fun k => impl_HeadOf.l0 k l (l.length : Int) (i : Int) s.1 s.2) r ∧ (s.2 = true → r = 0) ∧ (s.2 = false → Ev (fun k => spec_HeadOf.l0 k l s.1 (i : Int)) r) := by
  induction d with
  | zero =>
    intro i s hd
    by_cases c : s.2 = true
    · exact ⟨0, Ev.step (fun k => by rw [impl_HeadOf.l0]) (ev_neg (by omega) (ev_pos c (Ev.now _))), fun _ => rfl, fun h => absurd (c.symm.trans h) (by decide)⟩
    · exact ⟨s.1, Ev.step (fun k => by rw [impl_HeadOf.l0]) (ev_neg (by omega) (ev_neg c (Ev.now _))), fun h => absurd h c, fun _ => Ev.step (fun k => by rw [spec_HeadOf.l0]) (ev_neg (by omega) (Ev.now _))⟩
  | succ d ih =>
    intro i s hd
    have hi : i < l.length := by omega
    have hrd : rd_T96 l (i : Int) = l[i] := getD_at hi _
    by_cases c1 : (l[i].f3.length : Int) > 60
    · refine ⟨0, Ev.step (fun k => by rw [impl_HeadOf.l0]) ?_, fun _ => rfl, fun _ => Ev.step (fun k => by rw [spec_HeadOf.l0]) ?_⟩
      · simp only [hrd]
        exact ev_pos (by omega) (ev_pos (by omega) (ev_pos (by omega) (ev_pos c1 (Ev.now _))))
      · simp only [hrd]
        exact ev_pos (by omega) (ev_pos (by omega) (ev_pos c1 (Ev.step (fun k => by rw [spec_HeadOf.j1]) (ev_pos rfl (Ev.now _)))))
    by_cases c2 : (l[i].f2.size : Int) > 40
    · refine ⟨0, Ev.step (fun k => by rw [impl_HeadOf.l0]) ?_, fun _ => rfl, fun _ => Ev.step (fun k => by rw [spec_HeadOf.l0]) ?_⟩
      · simp only [hrd]
        exact ev_pos (by omega) (ev_pos (by omega) (ev_pos (by omega) (ev_neg c1 (ev_pos c2 (Ev.now _)))))
      · simp only [hrd]
        exact ev_pos (by omega) (ev_pos (by omega) (ev_neg c1 (Ev.step (fun k => by rw [spec_HeadOf.j1]) (ev_pos (decide_eq_true c2) (Ev.now _)))))
    have hn := impl_numbers_ev l[i] (by omega) (by omega) s
    have hsn := spec_numbers_ev l[i] (by omega) (by omega)
    have hle := enums_length l[i] (by omega) (by omega)
    obtain ⟨r, h1, h2, h3⟩ := ih (i + 1) ((enums l[i]).foldl stp s) (by omega)
    refine ⟨r, Ev.step (fun k => by rw [impl_HeadOf.l0]) ?_, fun h => h2 (chain_bad _ _ (.inl h)), fun h => Ev.step (fun k => by rw [spec_HeadOf.l0]) ?_⟩
    · simp only [hrd]
      refine ev_pos (by omega) (ev_pos (by omega) (ev_pos (by omega) (ev_neg c1 (ev_neg c2 (Ev.bind hn ?_)))))
      rw [wrap_succ hi (by omega)]
      exact h1
    · have hto : ∀ q, Ev (fun k => spec_HeadOf.l1 k l s.1 (i : Int) (enums l[i]) 0) q → Ev (fun k => spec_HeadOf.j1 k l s.1 (i : Int) (decide ((l[i].f2.size : Int) > 40))) q := by
        intro q hq
        refine Ev.step (fun k => by rw [spec_HeadOf.j1]) (ev_neg (by rw [decide_eq_false c2]; decide) ?_)
        simp only [hrd]
        exact ev_pos (by omega) (ev_pos (by omega) (Ev.bind hsn hq))
      simp only [hrd]
      refine ev_pos (by omega) (ev_pos (by omega) (ev_neg c1 (hto r ?_)))
      rcases spec_nums_ev l i hi (by omega) (enums l[i]) hle (enums l[i]).length 0 s.1 (by omega) with ⟨g1, g2⟩ | ⟨g1, g2⟩
      · rw [List.drop_zero] at g1 g2
        refine g2 r ?_
        have e : (enums l[i]).foldl stp s = ((enums l[i]).foldl linkI s.1, s.2) := chain_ok _ s.1 s.2 g1
        have := h3 (by rw [e]; exact h)
        rw [e] at this
        exact this
      · rw [List.drop_zero] at g1
        have e := h2 (chain_bad _ s (.inr g1))
        rw [e]
        exact g2
theorem head_both (l : List S96) (hl : l.length ≤ 1048576) (hb : ∀ x ∈ l, B96 1048576 x) : ∃ r, Ev (fun k => impl_HeadOf.f k l) r ∧ Ev (fun k => spec_HeadOf.f k l) r := by
  unfold impl_HeadOf.f spec_HeadOf.f
  by_cases c : (l.length : Int) > 1000
  · exact ⟨0, ev_pos c (Ev.now _), ev_pos c (Ev.now _)⟩
  · obtain ⟨r, h1, _, h3⟩ := head_from l (by omega) hb l.length 0 (1, false) (by omega)
    exact ⟨r, ev_neg c h1, ev_neg c (h3 rfl)⟩
theorem FnExactHeadOf : laws_FnExactHeadOf.Pure := by
  intro l hg
  apply Ev.rounds
  obtain ⟨s, hs, h⟩ := laws_szEntryS_ev l 1048576 (by omega) (by omega) hg
  unfold laws_FnExactHeadOf.f
  refine Ev.bind hs ?_
  rcases h with h | ⟨_, _, hB⟩
  · exact ev_pos h (Ev.now _)
  refine ev_neg (by omega) ?_
  have hto := laws_toEntryS_ev l hB
  have hB' : ((l.map cv177).length : Int) ≤ 1048576 ∧ ∀ x ∈ l.map cv177, B96 1048576 x := ⟨by rw [List.length_map]; exact hB.1, fun x hx => by
    obtain ⟨y, hy, rfl⟩ := List.mem_map.1 hx
    exact cv177_B (hB.2 y hy)⟩
  obtain ⟨r, h1, h2⟩ := head_both (l.map cv177) (by have := hB'.1; omega) hB'.2
  refine Ev.bind hto (Ev.bind h2 (Ev.bind hto (Ev.bind h1 (ev_pos rfl (Ev.bind hto (Ev.bind (laws_eqEntryS_ev _ hB') (ev_pos rfl (Ev.now _))))))))
end Go.Proofs.Ytdnhpicgjkddbaa.Pure
