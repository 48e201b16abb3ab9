/- Under: the program's answer is the reference's, whatever the chart and the account. -/
import Derived.Test.YtinibkdbfpafcaaPFnExactUnderx
import Derived.Test.YtinibkdbfpafcaaHFnExactUnder
set_option linter.unusedVariables false
set_option linter.unusedSimpArgs false
set_option linter.unusedSectionVars false
namespace Go.Proofs.Ytinibkdbfpafcaa.Pure
open Go.RowKit Go.Proofs.Ytinibkdbfpafcaa.PFnExactUnder Go.Proofs.YtinibkdbfpafcaaW.PrintWords Go.Proofs.YtinibkdbfpafcaaW.PrintLast Go.Proofs.Ytinibkdbfpafcaa.XEv

abbrev AA := S159
def par (l : List AA) (j : Int) : Int := (rd_T159 l j).f1
/-- a stands on j's way up. -/
inductive Anc (l : List AA) : Int → Int → Prop
  | self (j : Int) : 0 ≤ j → Anc l j j
  | up (j a : Int) : 0 ≤ j → 0 ≤ par l j → Anc l (par l j) a → Anc l j a
/-- How deep j stands. -/
inductive Dep (l : List AA) : Int → Int → Prop
  | root (j : Int) : 0 ≤ j → par l j < 0 → Dep l j 0
  | up (j n : Int) : 0 ≤ j → 0 ≤ par l j → Dep l (par l j) n → Dep l j (n + 1)
def V (l : List AA) (i : Int) : Prop := ∀ j : Int, 0 ≤ j → j < i → -1 ≤ par l j ∧ par l j < j ∧ (0 ≤ par l j → Anc l (j - 1) (par l j))

theorem Anc.trans {l : List AA} {j p a : Int} (h : Anc l j p) (g : Anc l p a) : Anc l j a := by
  induction h with
  | self j h => exact g
  | up j q h0 h1 _ ih => exact .up j a h0 h1 (ih g)
theorem Anc.nonneg {l : List AA} {j a : Int} (h : Anc l j a) : 0 ≤ j ∧ 0 ≤ a := by
  induction h with
  | self j h => exact ⟨h, h⟩
  | up j q h0 h1 _ ih => exact ⟨h0, ih.2⟩
theorem Anc.le {l : List AA} {j a n : Int} (hV : V l n) (h : Anc l j a) (hj : j < n) : a ≤ j := by
  induction h with
  | self j h => exact Int.le_refl _
  | up j q h0 h1 _ ih =>
    have := hV j h0 hj
    have := ih (by omega)
    omega
theorem Anc.prev {l : List AA} {j a n : Int} (hV : V l n) (h : Anc l j a) (hj : j < n) (ha : a < j) : Anc l (j - 1) a := by
  cases h with
  | self h => omega
  | up _ _ h0 h1 g => exact ((hV j h0 hj).2.2 h1).trans g
theorem Anc.total {l : List AA} {j p a : Int} (h : Anc l j p) (g : Anc l j a) : Anc l p a ∨ Anc l a p := by
  induction h with
  | self j h => exact .inl g
  | up j q h0 h1 h2 ih =>
    cases g with
    | self _ => exact .inr (.up _ q h0 h1 h2)
    | up _ _ _ _ g => exact ih g
theorem Dep.fn {l : List AA} {j n m : Int} (h : Dep l j n) (g : Dep l j m) : n = m := by
  induction h generalizing m with
  | root j h0 h1 =>
    cases g with
    | root => rfl
    | up _ _ h2 h3 => omega
  | up j n h0 h1 _ ih =>
    cases g with
    | root _ _ h3 => omega
    | up _ q _ _ g => rw [ih g]
theorem Dep.nonneg {l : List AA} {j n : Int} (h : Dep l j n) : 0 ≤ n := by
  induction h with
  | root => omega
  | up _ _ _ _ _ ih => omega
theorem Dep.anc {l : List AA} {j a n m : Int} (h : Anc l j a) (hj : Dep l j n) (ha : Dep l a m) : m ≤ n ∧ (j ≠ a → m < n) := by
  induction h generalizing n with
  | self j h => have := hj.fn ha; exact ⟨by omega, fun h => absurd rfl h⟩
  | up j q h0 h1 h2 ih =>
    cases hj with
    | root _ _ h3 => omega
    | up _ n' _ _ g => have := (ih g ha).1; exact ⟨by omega, fun _ => by omega⟩

/-- Two loops that go up from j till p is met. -/
theorem chain_walk {β γ : Type} (l : List AA) (i p : Int) (hV : V l i) (L1 : Nat → Int → Option β) (L2 : Nat → Int → Option γ)
    (h1 : ∀ j, 0 ≤ j → j < i → j ≠ p → ∀ r, Ev (fun k => L1 k (par l j)) r → Ev (fun k => L1 k j) r)
    (h2 : ∀ j, 0 ≤ j → j < i → j ≠ p → ∀ r, Ev (fun k => L2 k (par l j)) r → Ev (fun k => L2 k j) r) :
    ∀ (n : Nat) (j : Int), j + 1 = (n : Int) → j < i → ∃ e, ((e = -1 ∧ ¬ Anc l j p) ∨ (e = p ∧ 0 ≤ e ∧ e ≤ j ∧ Anc l j p)) ∧ (∀ r, Ev (fun k => L1 k e) r → Ev (fun k => L1 k j) r) ∧ (∀ r, Ev (fun k => L2 k e) r → Ev (fun k => L2 k j) r) := by
  intro n
  induction n using Nat.strongRecOn with
  | ind n ih =>
    intro j hn hj
    by_cases c : j = -1
    · exact ⟨-1, .inl ⟨rfl, fun h => by have := h.nonneg; omega⟩, fun r hr => by rw [c]; exact hr, fun r hr => by rw [c]; exact hr⟩
    · by_cases c2 : j = p
      · exact ⟨p, .inr ⟨rfl, by omega, by omega, by rw [← c2]; exact .self j (by omega)⟩, fun r hr => by rw [c2]; exact hr, fun r hr => by rw [c2]; exact hr⟩
      · have hv := hV j (by omega) hj
        obtain ⟨e, he, g1, g2⟩ := ih (par l j + 1).toNat (by omega) (par l j) (by omega) (by omega)
        refine ⟨e, ?_, fun r hr => h1 j (by omega) hj c2 r (g1 r hr), fun r hr => h2 j (by omega) hj c2 r (g2 r hr)⟩
        rcases he with ⟨he, hn⟩ | ⟨he, a, b, hA⟩
        · refine .inl ⟨he, fun h => ?_⟩
          cases h with
          | self h => exact c2 rfl
          | up _ _ _ _ g => exact hn g
        · exact .inr ⟨he, a, by omega, .up j p (by omega) (by have := hA.nonneg; omega) hA⟩

theorem deep_ev (l : List AA) (n : Int) (hV : V l n) (hn : n ≤ (l.length : Int)) (hl : (l.length : Int) ≤ 1048576) {j d : Int} (h : Dep l j d) (hj : j < n) (hd : d ≤ 100) : ∀ c : Int, 0 ≤ c → c + d ≤ 1000 → Ev (fun k => spec_l4Deep.l0 k l j c) (c + d) := by
  induction h with
  | root j h0 h1 =>
    intro c c0 c1
    unfold par at h1
    refine Ev.step (fun k => by rw [spec_l4Deep.l0]) ?_
    refine ev_pos h0 (ev_pos (by omega) (ev_neg (by omega) ?_))
    rw [Int.add_zero]
    exact Ev.now _
  | up j d h0 h1 h2 ih =>
    intro c c0 c1
    have hv := hV j h0 hj
    have hnn := h2.nonneg
    have := ih (by omega) (by omega) (c + 1) (by omega) (by omega)
    unfold par at h1 this
    refine Ev.step (fun k => by rw [spec_l4Deep.l0]) ?_
    refine ev_pos h0 (ev_pos (by omega) (ev_pos h1 ?_))
    rw [wrap_id (by omega) (by omega), show c + (d + 1) = c + 1 + d by omega]
    exact this

/-- What holds when the first i are read. -/
structure Inv (l : List AA) (i : Nat) (m : List (ByteArray × Int)) (dp : List Int) : Prop where
  len : dp.length = l.length
  v : V l (i : Int)
  seen : ∀ s, (mget m s).isSome = true ↔ ∃ (j : Nat) (y : AA), j < i ∧ l[j]? = some y ∧ y.f0 = s
  dep : ∀ j : Int, 0 ≤ j → j < (i : Int) → Dep l j (rd dp j) ∧ rd dp j ≤ 8
  zero : ∀ j : Nat, i ≤ j → j < l.length → rd dp (j : Int) = 0

theorem rd_set {dp : List Int} {i : Nat} (hi : i < dp.length) (v j : Int) (hj : 0 ≤ j) : rd (dp.set i v) j = if j = (i : Int) then v else rd dp j := by
  unfold rd
  by_cases c : j = (i : Int)
  · rw [if_pos c]
    subst c
    simp [List.getD, hi]
  · rw [if_neg c]
    have : i ≠ j.toNat := by omega
    simp [List.getD, List.getElem?_set_ne this]

theorem Dep.keep {l : List AA} {i : Nat} {m : List (ByteArray × Int)} {dp : List Int} (I : Inv l i m dp) (hi : i < l.length) (s : ByteArray) (hs : s = (rd_T159 l (i : Int)).f0) (d : Int) (hd : Dep l (i : Int) d) (h8 : d ≤ 8)
    (hv : -1 ≤ par l (i : Int) ∧ par l (i : Int) < (i : Int) ∧ (0 ≤ par l (i : Int) → Anc l ((i : Int) - 1) (par l (i : Int)))) : Inv l (i + 1) (mset m s (i : Int)) (dp.set i d) := by
  have hrd : rd_T159 l (i : Int) = l[i] := getD_at hi _
  have hg : l[i]? = some l[i] := List.getElem?_eq_getElem hi
  have hl := I.len
  refine ⟨by rw [List.length_set]; exact I.len, fun j h0 h1 => ?_, fun q => ?_, fun j h0 h1 => ?_, fun j h0 h1 => ?_⟩
  · by_cases c : j = (i : Int)
    · rw [c]; exact hv
    · exact I.v j h0 (by omega)
  · rw [mget_set]
    by_cases c : s = q
    · rw [if_pos c]
      exact ⟨fun _ => ⟨i, l[i], by omega, hg, by rw [← c, hs, hrd]⟩, fun _ => rfl⟩
    · rw [if_neg c, I.seen]
      refine ⟨fun ⟨j, y, h1, h2, h3⟩ => ⟨j, y, by omega, h2, h3⟩, fun ⟨j, y, h1, h2, h3⟩ => ?_⟩
      rcases Nat.lt_or_ge j i with h4 | h4
      · exact ⟨j, y, h4, h2, h3⟩
      · have : j = i := by omega
        subst this
        rw [hg] at h2
        injection h2 with h2
        subst h2
        exact absurd (by rw [hs, hrd]; exact h3) c
  · rw [rd_set (by omega) d j h0]
    by_cases c : j = (i : Int)
    · rw [if_pos c, c]; exact ⟨hd, h8⟩
    · rw [if_neg c]; exact I.dep j h0 (by omega)
  · rw [rd_set (by omega) d _ (by omega), if_neg (by omega)]
    exact I.zero j (by omega) h1

/-- Both sides read the chart. -/
theorem chart (l : List AA) (hl : (l.length : Int) ≤ 120 ∧ ∀ x ∈ l, B159 1048576 x) : ∀ (d i : Nat) (m : List (ByteArray × Int)) (dp : List Int), i + d = l.length → Inv l i m dp →
    ∃ (b : Bool) (q : List Int), Ev (fun k => spec_ChartOk.l0 k l (i : Int)) b ∧ Ev (fun k => impl_depths.l0 k l m dp l (l.length : Int) (i : Int)) (q, b) ∧ (b = true → ∃ m', Inv l l.length m' q) := by
  have hl1 := hl.1
  intro d
  induction d with
  | zero =>
    intro i m dp hd I
    have : i = l.length := by omega
    subst this
    refine ⟨true, dp, ?_, ?_, fun _ => ⟨m, I⟩⟩
    · refine Ev.step (fun k => by rw [spec_ChartOk.l0]) ?_
      exact ev_neg (by omega) (Ev.now _)
    · refine Ev.step (fun k => by rw [impl_depths.l0]) ?_
      exact ev_neg (by omega) (Ev.now _)
  | succ d ih =>
    intro i m dp hd I
    have hi : i < l.length := by omega
    have hrd : rd_T159 l (i : Int) = l[i] := getD_at hi _
    have hg : l[i]? = some l[i] := List.getElem?_eq_getElem hi
    have hB : (l[i].f0.size : Int) ≤ 1048576 := hl.2 _ (List.getElem_mem hi)
    have hpar : par l (i : Int) = l[i].f1 := by unfold par; rw [hrd]
    have hdl := I.len
    obtain ⟨b1, e1, p1⟩ := spec_NameOk_ev l[i].f0 hB
    obtain ⟨b2, e2, p2⟩ := impl_NameOk_ev l[i].f0
    have hbb : b1 = b2 := bool_of_iff p1 p2
    subst hbb
    have iF : Ev (fun k => impl_depths.j2 k l m dp (i : Int) l (l.length : Int) (i : Int) true l[i].f0 l[i].f1 l[i].f2) (([] : List Int), false) := by
      refine Ev.step (fun k => by rw [impl_depths.j2]) ?_
      exact ev_pos rfl (Ev.now _)
    have sF : Ev (fun k => spec_ChartOk.j1 k l (i : Int) true l[i].f0 l[i].f1 l[i].f2) false := by
      refine Ev.step (fun k => by rw [spec_ChartOk.j1]) ?_
      exact ev_pos rfl (Ev.now _)
    have hw1 : wrap64 ((i : Int) - 1) = (i : Int) - 1 := wrap_id (by omega) (by omega)
    have hdup := each_go (List.range i) (fun k j => spec_ChartOk.l1 k l (i : Int) j l[i].f0 l[i].f1 l[i].f2) (fun j _ => (rd_T159 l ((j : Nat) : Int)).f0 ≠ l[i].f0) (fun k => if l[i].f1 < 0 then spec_ChartOk.l0 k l (wrap64 ((i : Int) + 1)) else spec_ChartOk.l2 k l (i : Int) (wrap64 ((i : Int) - 1)) l[i].f0 l[i].f1 l[i].f2) false (by
      intro j hj
      have hj' : j < i := by simpa using hj
      by_cases c : (rd_T159 l ((j : Nat) : Int)).f0 = l[i].f0
      · refine .inr ⟨fun h => h c, ?_⟩
        refine Ev.step (fun k => by rw [spec_ChartOk.l1]) ?_
        simp only [str_iff]
        exact ev_pos (by omega) (ev_pos (by omega) (ev_pos (by omega) (ev_pos c (Ev.now _))))
      · refine .inl ⟨c, fun r hr => ?_⟩
        refine Ev.step (fun k => by rw [spec_ChartOk.l1]) ?_
        simp only [str_iff]
        refine ev_pos (by omega) (ev_pos (by omega) (ev_pos (by omega) (ev_neg c ?_)))
        rw [wrap_succ hj' (by omega)]
        exact hr) (by
      intro r hr
      rw [List.length_range]
      refine Ev.step (fun k => by rw [spec_ChartOk.l1]) ?_
      exact ev_neg (by omega) hr)
    have hD : (mget m l[i].f0).isSome = true ↔ ¬ (∀ (j : Nat) (hj : j < (List.range i).length), (rd_T159 l ((j : Nat) : Int)).f0 ≠ l[i].f0) := by
      rw [I.seen]
      constructor
      · rintro ⟨j, y, h1, h2, h3⟩ h
        have hjl : j < l.length := by omega
        have e : rd_T159 l ((j : Nat) : Int) = y := by
          rw [List.getElem?_eq_getElem hjl] at h2
          injection h2 with h2
          rw [← h2]
          exact getD_at hjl _
        exact h j (by simpa using h1) (by rw [e]; exact h3)
      · intro h
        apply Classical.byContradiction
        intro g
        refine h fun j hj e => g ?_
        have hj' : j < i := by simpa using hj
        have hjl : j < l.length := by omega
        exact ⟨j, l[j], hj', List.getElem?_eq_getElem hjl, by rw [← e]; exact congrArg (fun x : AA => x.f0) (getD_at hjl _).symm⟩
    by_cases cN : b1 = true
    case neg =>
      refine ⟨false, [], ?_, ?_, fun h => (by cases h)⟩
      · refine Ev.step (fun k => by rw [spec_ChartOk.l0]) ?_
        simp only [hrd]
        exact ev_pos (by omega) (ev_pos (by omega) (Ev.bind e1 (ev_neg cN sF)))
      · refine Ev.step (fun k => by rw [impl_depths.l0]) ?_
        simp only [hrd]
        refine ev_pos (by omega) (ev_pos (by omega) (ev_pos (by omega) (ev_pos (by omega) ?_)))
        exact ev_ite (fun _ => iF) (fun _ => Ev.bind e2 (ev_neg cN iF))
    by_cases cK : 1 ≤ l[i].f2 ∧ l[i].f2 ≤ 5
    case neg =>
      refine ⟨false, [], ?_, ?_, fun h => (by cases h)⟩
      · refine Ev.step (fun k => by rw [spec_ChartOk.l0]) ?_
        simp only [hrd]
        exact ev_pos (by omega) (ev_pos (by omega) (Ev.bind e1 (ev_pos cN (ev_bind0 (spec_l1In_eq ..) (ev_neg (by rw [decide_eq_true_eq]; exact cK) sF)))))
      · refine Ev.step (fun k => by rw [impl_depths.l0]) ?_
        simp only [hrd]
        refine ev_pos (by omega) (ev_pos (by omega) (ev_pos (by omega) (ev_pos (by omega) ?_)))
        refine ev_ite (fun _ => iF) (fun _ => Ev.bind e2 (ev_pos cN (ev_bind0 (impl_kindOk_eq _) ?_)))
        rw [decide_eq_false cK]
        exact iF
    have sHead : ∀ r, Ev (fun k => spec_ChartOk.j1 k l (i : Int) (!decide (-1 ≤ l[i].f1 ∧ l[i].f1 ≤ (i : Int) - 1)) l[i].f0 l[i].f1 l[i].f2) r → Ev (fun k => spec_ChartOk.l0 k l (i : Int)) r := by
      intro r hr
      refine Ev.step (fun k => by rw [spec_ChartOk.l0]) ?_
      simp only [hrd, hw1]
      exact ev_pos (by omega) (ev_pos (by omega) (Ev.bind e1 (ev_pos cN (ev_bind0 (spec_l1In_eq ..) (ev_pos (by simpa using cK) (ev_bind0 (spec_l1In_eq ..) hr))))))
    have iHead : ∀ r, ¬ (mget m l[i].f0).isSome = true → Ev (fun k => impl_depths.j2 k l m dp (i : Int) l (l.length : Int) (i : Int) false l[i].f0 l[i].f1 l[i].f2) r → Ev (fun k => impl_depths.l0 k l m dp l (l.length : Int) (i : Int)) r := by
      intro r hn hr
      refine Ev.step (fun k => by rw [impl_depths.l0]) ?_
      simp only [hrd]
      refine ev_pos (by omega) (ev_pos (by omega) (ev_pos (by omega) (ev_pos (by omega) (ev_neg hn (Ev.bind e2 (ev_pos cN (ev_bind0 (impl_kindOk_eq _) ?_)))))))
      rw [decide_eq_true cK]
      exact hr
    by_cases cD : (mget m l[i].f0).isSome = true
    · refine ⟨false, [], ?_, ?_, fun h => (by cases h)⟩
      · refine sHead _ ?_
        by_cases cR : -1 ≤ l[i].f1 ∧ l[i].f1 ≤ (i : Int) - 1
        · rw [decide_eq_true cR]
          refine Ev.step (fun k => by rw [spec_ChartOk.j1]) ?_
          refine ev_neg (by simp) ?_
          rcases hdup with ⟨h, _⟩ | ⟨_, h⟩
          · exact absurd h (hD.1 cD)
          · exact h
        · rw [decide_eq_false cR]
          exact sF
      · refine Ev.step (fun k => by rw [impl_depths.l0]) ?_
        simp only [hrd]
        exact ev_pos (by omega) (ev_pos (by omega) (ev_pos (by omega) (ev_pos (by omega) (ev_pos cD iF))))
    have hgo : ∀ r, Ev (fun k => if l[i].f1 < 0 then spec_ChartOk.l0 k l (wrap64 ((i : Int) + 1)) else spec_ChartOk.l2 k l (i : Int) (wrap64 ((i : Int) - 1)) l[i].f0 l[i].f1 l[i].f2) r → Ev (fun k => spec_ChartOk.l1 k l (i : Int) 0 l[i].f0 l[i].f1 l[i].f2) r := by
      rcases hdup with ⟨_, h⟩ | ⟨h, _⟩
      · exact h
      · exact absurd (hD.2 h) cD
    -- the way up from the one ahead
    obtain ⟨e, he, g1, g2⟩ := chain_walk l (i : Int) l[i].f1 I.v (fun k j => spec_ChartOk.l2 k l (i : Int) j l[i].f0 l[i].f1 l[i].f2) (fun k j => impl_depths.l1 k l (mset m l[i].f0 (i : Int)) dp (i : Int) j l (l.length : Int) (i : Int) l[i].f0 l[i].f1 l[i].f2) (by
      intro j h0 h1 hne r hr
      refine Ev.step (fun k => by rw [spec_ChartOk.l2]) ?_
      exact ev_pos h0 (ev_neg hne (ev_pos h0 (ev_pos (by omega) hr)))) (by
      intro j h0 h1 hne r hr
      refine Ev.step (fun k => by rw [impl_depths.l1]) ?_
      exact ev_pos h0 (ev_neg hne (ev_pos h0 (ev_pos (by omega) hr)))) i ((i : Int) - 1) (by omega) (by omega)
    have iJ : ∀ r, l[i].f1 ≠ -1 → Ev (fun k => impl_depths.l1 k l (mset m l[i].f0 (i : Int)) dp (i : Int) e l (l.length : Int) (i : Int) l[i].f0 l[i].f1 l[i].f2) r → Ev (fun k => impl_depths.j2 k l m dp (i : Int) l (l.length : Int) (i : Int) false l[i].f0 l[i].f1 l[i].f2) r := by
      intro r hn hr
      refine Ev.step (fun k => by rw [impl_depths.j2]) ?_
      refine ev_neg (by simp) (ev_pos (by omega) (ev_bind0 rfl (ev_neg hn ?_)))
      rw [hw1]
      exact g2 r hr
    have sN : e = -1 → Ev (fun k => spec_ChartOk.l2 k l (i : Int) e l[i].f0 l[i].f1 l[i].f2) false := by
      intro h
      rw [h]
      refine Ev.step (fun k => by rw [spec_ChartOk.l2]) ?_
      exact ev_neg (by omega) (ev_pos (by omega) (Ev.now _))
    have iN : e = -1 → Ev (fun k => impl_depths.l1 k l (mset m l[i].f0 (i : Int)) dp (i : Int) e l (l.length : Int) (i : Int) l[i].f0 l[i].f1 l[i].f2) (([] : List Int), false) := by
      intro h
      rw [h]
      refine Ev.step (fun k => by rw [impl_depths.l1]) ?_
      exact ev_neg (by omega) (ev_pos (by omega) (Ev.now _))
    by_cases cR : -1 ≤ l[i].f1 ∧ l[i].f1 ≤ (i : Int) - 1
    case neg =>
      refine ⟨false, [], sHead _ ?_, iHead _ cD (iJ _ (by omega) (iN ?_)), fun h => (by cases h)⟩
      · rw [decide_eq_false cR]
        exact sF
      · rcases he with he | he
        · exact he.1
        · omega
    have sJ : ∀ r, Ev (fun k => if l[i].f1 < 0 then spec_ChartOk.l0 k l (wrap64 ((i : Int) + 1)) else spec_ChartOk.l2 k l (i : Int) (wrap64 ((i : Int) - 1)) l[i].f0 l[i].f1 l[i].f2) r → Ev (fun k => spec_ChartOk.l0 k l (i : Int)) r := by
      intro r hr
      refine sHead _ ?_
      rw [decide_eq_true cR]
      refine Ev.step (fun k => by rw [spec_ChartOk.j1]) ?_
      exact ev_neg (by simp) (hgo r hr)
    by_cases c1 : l[i].f1 = -1
    · have h0 : dp.set i 0 = dp := by
        have hz := I.zero i (Nat.le_refl _) hi
        rw [rd_at (by omega)] at hz
        apply List.ext_getElem?
        intro j
        by_cases c : i = j
        · subst c
          rw [List.getElem?_set_self (by omega), List.getElem?_eq_getElem (by omega), hz]
        · rw [List.getElem?_set_ne c]
      have I' := Dep.keep I hi l[i].f0 (by rw [hrd]) 0 (.root (i : Int) (by omega) (by omega)) (by omega) ⟨by omega, by omega, fun h => by omega⟩
      rw [h0] at I'
      obtain ⟨b, q, s1, s2, s3⟩ := ih (i + 1) _ dp (by omega) I'
      refine ⟨b, q, sJ _ (ev_pos (by omega) ?_), iHead _ cD ?_, s3⟩
      · rw [wrap_succ hi (by omega)]
        exact s1
      · refine Ev.step (fun k => by rw [impl_depths.j2]) ?_
        refine ev_neg (by simp) (ev_pos (by omega) (ev_bind0 rfl (ev_pos c1 ?_)))
        rw [wrap_succ hi (by omega)]
        exact s2
    rcases he with ⟨he, _⟩ | ⟨he, he0, he1, hA⟩
    · refine ⟨false, [], sJ _ (ev_neg (by omega) ?_), iHead _ cD (iJ _ c1 (iN he)), fun h => (by cases h)⟩
      rw [hw1]
      exact g1 _ (sN he)
    obtain ⟨hdp, hdp8⟩ := I.dep l[i].f1 (by omega) (by omega)
    have hnn := hdp.nonneg
    by_cases cQ : (rd_T159 l l[i].f1).f2 = l[i].f2
    case neg =>
      refine ⟨false, [], sJ _ (ev_neg (by omega) ?_), iHead _ cD (iJ _ c1 ?_), fun h => (by cases h)⟩
      · rw [hw1]
        refine g1 _ ?_
        rw [he]
        refine Ev.step (fun k => by rw [spec_ChartOk.l2]) ?_
        exact ev_pos (by omega) (ev_pos rfl (ev_neg (by omega) (ev_pos (by omega) (ev_pos (by omega) (ev_neg cQ (Ev.now _))))))
      · rw [he]
        refine Ev.step (fun k => by rw [impl_depths.l1]) ?_
        exact ev_pos (by omega) (ev_pos rfl (ev_neg (by omega) (ev_pos (by omega) (ev_pos (by omega) (ev_neg cQ (Ev.now _))))))
    have hdi : Dep l (i : Int) (rd dp l[i].f1 + 1) := .up (i : Int) _ (by omega) (by omega) (by rw [hpar]; exact hdp)
    have hvi : -1 ≤ par l (i : Int) ∧ par l (i : Int) < (i : Int) ∧ (0 ≤ par l (i : Int) → Anc l ((i : Int) - 1) (par l (i : Int))) := ⟨by omega, by omega, fun _ => by rw [hpar]; exact hA⟩
    have hVi : V l ((i : Int) + 1) := fun j h0 h1 => by
      by_cases c : j = (i : Int)
      · rw [c]; exact hvi
      · exact I.v j h0 (by omega)
    have hdeep : Ev (fun k => spec_l4Deep.f k l (i : Int)) (rd dp l[i].f1 + 1) := by
      unfold spec_l4Deep.f
      have := deep_ev l ((i : Int) + 1) hVi (by omega) (by omega) hdi (by omega) (by omega) 0 (by omega) (by omega)
      rw [Int.zero_add] at this
      exact this
    by_cases c8 : rd dp l[i].f1 ≥ 8
    · refine ⟨false, [], sJ _ (ev_neg (by omega) ?_), iHead _ cD (iJ _ c1 ?_), fun h => (by cases h)⟩
      · rw [hw1]
        refine g1 _ ?_
        rw [he]
        refine Ev.step (fun k => by rw [spec_ChartOk.l2]) ?_
        exact ev_pos (by omega) (ev_pos rfl (ev_neg (by omega) (ev_pos (by omega) (ev_pos (by omega) (ev_pos cQ (Ev.bind hdeep (ev_pos (by omega) (Ev.now _))))))))
      · rw [he]
        refine Ev.step (fun k => by rw [impl_depths.l1]) ?_
        exact ev_pos (by omega) (ev_pos rfl (ev_neg (by omega) (ev_pos (by omega) (ev_pos (by omega) (ev_pos cQ (ev_pos (by omega) (ev_pos c8 (Ev.now _))))))))
    · have I' := Dep.keep I hi l[i].f0 (by rw [hrd]) _ hdi (by omega) hvi
      obtain ⟨b, q, s1, s2, s3⟩ := ih (i + 1) _ _ (by omega) I'
      refine ⟨b, q, sJ _ (ev_neg (by omega) ?_), iHead _ cD (iJ _ c1 ?_), s3⟩
      · rw [hw1]
        refine g1 _ ?_
        rw [he]
        refine Ev.step (fun k => by rw [spec_ChartOk.l2]) ?_
        refine ev_pos (by omega) (ev_pos rfl (ev_neg (by omega) (ev_pos (by omega) (ev_pos (by omega) (ev_pos cQ (Ev.bind hdeep (ev_neg (by omega) ?_)))))))
        rw [wrap_succ hi (by omega)]
        exact s1
      · rw [he]
        refine Ev.step (fun k => by rw [impl_depths.l1]) ?_
        refine ev_pos (by omega) (ev_pos rfl (ev_neg (by omega) (ev_pos (by omega) (ev_pos (by omega) (ev_pos cQ (ev_pos (by omega) (ev_neg c8 (ev_pos (by omega) (ev_pos (by omega) ?_)))))))))
        rw [wrap_succ hi (by omega), wrap_id (by omega) (by omega)]
        simp only [Int.toNat_natCast]
        exact s2

theorem chart_both (l : List AA) (hl : (l.length : Int) ≤ 1048576 ∧ ∀ x ∈ l, B159 1048576 x) :
    ∃ (b : Bool) (q : List Int), Ev (fun k => spec_ChartOk.f k l) b ∧ Ev (fun k => impl_depths.f k l) (q, b) ∧ (b = true → (l.length : Int) ≤ 120 ∧ ∃ m', Inv l l.length m' q) := by
  have iT : Ev (fun k => impl_depths.j0 k l true) (([] : List Int), false) := by
    refine Ev.step (fun k => by rw [impl_depths.j0]) ?_
    exact ev_pos rfl (Ev.now _)
  unfold spec_ChartOk.f impl_depths.f
  by_cases c : 1 ≤ (l.length : Int) ∧ (l.length : Int) ≤ 120
  · have I : Inv l 0 [] (List.replicate ((l.length : Int) : Int).toNat 0) := by
      refine ⟨by simp, fun j h0 h1 => by omega, fun s => ⟨fun h => by simp [mget] at h, fun ⟨j, y, h, _⟩ => by omega⟩, fun j h0 h1 => by omega, fun j _ hj => ?_⟩
      rw [rd_at (by simpa using hj)]
      simp
    obtain ⟨b, q, h1, h2, h3⟩ := chart l ⟨c.2, hl.2⟩ l.length 0 [] _ (by omega) I
    refine ⟨b, q, ev_bind0 (spec_l1In_eq ..) (ev_pos (by simpa using c) h1), ev_neg (by omega) ?_, fun h => ⟨c.2, h3 h⟩⟩
    rw [decide_eq_false (by omega)]
    refine Ev.step (fun k => by rw [impl_depths.j0]) ?_
    exact ev_neg (by simp) (ev_pos (by omega) (ev_pos (by omega) h2))
  · refine ⟨false, [], ev_bind0 (spec_l1In_eq ..) (ev_neg (by rw [decide_eq_true_eq]; exact c) (Ev.now _)), ?_, fun h => (by cases h)⟩
    by_cases c2 : (l.length : Int) < 1
    · exact ev_pos c2 iT
    · refine ev_neg c2 ?_
      rw [decide_eq_true (by omega)]
      exact iT

section
variable (l : List AA) (hl : (l.length : Int) ≤ 120) (hV : V l (l.length : Int)) (a : Nat) (ha : a < l.length)
include hl hV ha
theorem sstep (acc : List Int) (i : Nat) (hi : i < l.length) (hacc : acc.length ≤ i) :
    (Anc l (i : Int) (a : Int) ∧ ∀ r, Ev (fun k => spec_Under.l0 k l (a : Int) (acc ++ [(i : Int)]) ((i + 1 : Nat) : Int)) r → Ev (fun k => spec_Under.l0 k l (a : Int) acc (i : Int)) r) ∨
    (¬ Anc l (i : Int) (a : Int) ∧ ∀ r, Ev (fun k => spec_Under.l0 k l (a : Int) acc ((i + 1 : Nat) : Int)) r → Ev (fun k => spec_Under.l0 k l (a : Int) acc (i : Int)) r) := by
  obtain ⟨e, he, g, _⟩ := chain_walk l (l.length : Int) (a : Int) hV (fun k j => spec_Under.l1 k l (a : Int) acc (i : Int) j) (fun k j => spec_Under.l1 k l (a : Int) acc (i : Int) j) (by
    intro j h0 h1 hne r hr
    refine Ev.step (fun k => by rw [spec_Under.l1]) ?_
    exact ev_pos h0 (ev_neg hne (ev_pos h0 (ev_pos h1 hr)))) (by
    intro j h0 h1 hne r hr
    refine Ev.step (fun k => by rw [spec_Under.l1]) ?_
    exact ev_pos h0 (ev_neg hne (ev_pos h0 (ev_pos h1 hr)))) (i + 1) (i : Int) (by omega) (by omega)
  rcases he with ⟨he, hA⟩ | ⟨he, h0, h1, hA⟩
  · refine .inr ⟨hA, fun r hr => ?_⟩
    refine Ev.step (fun k => by rw [spec_Under.l0]) ?_
    refine ev_pos (by omega) (g r ?_)
    rw [he]
    refine Ev.step (fun k => by rw [spec_Under.l1]) ?_
    refine ev_neg (by omega) (ev_neg (by omega) ?_)
    rw [wrap_succ hi (by omega)]
    exact hr
  · refine .inl ⟨hA, fun r hr => ?_⟩
    refine Ev.step (fun k => by rw [spec_Under.l0]) ?_
    refine ev_pos (by omega) (g r ?_)
    rw [he]
    refine Ev.step (fun k => by rw [spec_Under.l1]) ?_
    refine ev_pos (by omega) (ev_pos rfl (ev_pos (by omega) ?_))
    rw [wrap_succ hi (by omega)]
    exact hr
theorem stail : ∀ (d i : Nat) (acc : List Int), i + d = l.length → acc.length ≤ i → a < i → ¬ Anc l ((i : Int) - 1) (a : Int) → Ev (fun k => spec_Under.l0 k l (a : Int) acc (i : Int)) acc := by
  intro d
  induction d with
  | zero =>
    intro i acc hd hacc hai hn
    refine Ev.step (fun k => by rw [spec_Under.l0]) ?_
    exact ev_neg (by omega) (Ev.now _)
  | succ d ih =>
    intro i acc hd hacc hai hn
    have hi : i < l.length := by omega
    have hni : ¬ Anc l (i : Int) (a : Int) := fun h => hn (h.prev hV (by omega) (by omega))
    rcases sstep l hl hV a ha acc i hi hacc with ⟨h, _⟩ | ⟨_, h⟩
    · exact absurd h hni
    · exact h _ (ih (i + 1) acc (by omega) (by omega) (by omega) (by rw [show ((i + 1 : Nat) : Int) - 1 = (i : Int) by omega]; exact hni))
theorem spre : ∀ (d i : Nat), i + d = a → ∀ r, Ev (fun k => spec_Under.l0 k l (a : Int) [] (a : Int)) r → Ev (fun k => spec_Under.l0 k l (a : Int) [] (i : Int)) r := by
  intro d
  induction d with
  | zero => intro i hd r hr; have : i = a := by omega
            subst this; exact hr
  | succ d ih =>
    intro i hd r hr
    have hi : i < l.length := by omega
    rcases sstep l hl hV a ha [] i hi (by simp) with ⟨h, _⟩ | ⟨_, h⟩
    · have := h.le hV (by omega)
      omega
    · exact h _ (ih (i + 1) (by omega) r hr)
theorem lock (dp : List Int) (hdp : dp.length = l.length) (hD : ∀ j : Int, 0 ≤ j → j < (l.length : Int) → Dep l j (rd dp j)) : ∀ (d i : Nat) (acc : List Int), i + d = l.length → acc.length ≤ i → a < i → Anc l ((i : Int) - 1) (a : Int) →
    ∃ r : List Int, Ev (fun k => spec_Under.l0 k l (a : Int) acc (i : Int)) r ∧ Ev (fun k => impl_Under.l0 k l (a : Int) dp acc (i : Int)) r ∧ (r.length : Int) ≤ 1048576 := by
  intro d
  induction d with
  | zero =>
    intro i acc hd hacc hai hA
    refine ⟨acc, ?_, ?_, by omega⟩
    · refine Ev.step (fun k => by rw [spec_Under.l0]) ?_
      exact ev_neg (by omega) (Ev.now _)
    · refine Ev.step (fun k => by rw [impl_Under.l0]) ?_
      exact ev_neg (by omega) (Ev.now _)
  | succ d ih =>
    intro i acc hd hacc hai hA
    have hi : i < l.length := by omega
    have hdi := hD (i : Int) (by omega) (by omega)
    have hda := hD (a : Int) (by omega) (by omega)
    have hv := hV (i : Int) (by omega) (by omega)
    rcases sstep l hl hV a ha acc i hi hacc with ⟨h, g⟩ | ⟨h, g⟩
    · have hlt := (hdi.anc h hda).2 (by omega)
      obtain ⟨r, h1, h2, h3⟩ := ih (i + 1) (acc ++ [(i : Int)]) (by omega) (by simp; omega) (by omega) (by rw [show ((i + 1 : Nat) : Int) - 1 = (i : Int) by omega]; exact h)
      refine ⟨r, g r h1, ?_, h3⟩
      refine Ev.step (fun k => by rw [impl_Under.l0]) ?_
      refine ev_pos (by omega) (ev_pos (by omega) (ev_pos (by omega) (ev_pos (by omega) (ev_pos (by omega) (ev_pos (by omega) (ev_pos (by omega) ?_))))))
      rw [wrap_succ hi (by omega)]
      exact h2
    · have hle : rd dp (i : Int) ≤ rd dp (a : Int) := by
        have hnn := hda.nonneg
        by_cases c : par l (i : Int) < 0
        · have := hdi.fn (.root (i : Int) (by omega) c)
          omega
        · have hp := hv.2.2 (by omega)
          have hdq := hD (par l (i : Int)) (by omega) (by omega)
          have e := hdi.fn (.up (i : Int) _ (by omega) (by omega) hdq)
          rcases hp.total hA with t | t
          · exact absurd (.up (i : Int) (a : Int) (by omega) (by omega) t) h
          · have := (hda.anc t hdq).2 (fun e2 => h (.up (i : Int) (a : Int) (by omega) (by omega) (by rw [← e2]; exact .self _ (by omega))))
            omega
      refine ⟨acc, g acc (stail l hl hV a ha d (i + 1) acc (by omega) (by omega) (by omega) (by rw [show ((i + 1 : Nat) : Int) - 1 = (i : Int) by omega]; exact h)), ?_, by omega⟩
      refine Ev.step (fun k => by rw [impl_Under.l0]) ?_
      exact ev_pos (by omega) (ev_pos (by omega) (ev_pos (by omega) (ev_pos (by omega) (ev_pos (by omega) (ev_neg (by omega) (Ev.now _))))))
end

theorem main (l : List AA) (a : Int) (hl : (l.length : Int) ≤ 1048576 ∧ ∀ x ∈ l, B159 1048576 x) : ∃ r : List Int, Ev (fun k => spec_Under.f k l a) r ∧ Ev (fun k => impl_Under.f k l a) r ∧ (r.length : Int) ≤ 1048576 := by
  have hl1 := hl.1
  have sT : Ev (fun k => spec_Under.j0 k l a ([] : List Int) true) ([] : List Int) := by
    refine Ev.step (fun k => by rw [spec_Under.j0]) ?_
    exact ev_pos rfl (Ev.now _)
  have iT : ∀ q : List Int, Ev (fun k => impl_Under.j0 k l a q true) ([] : List Int) := by
    intro q
    refine Ev.step (fun k => by rw [impl_Under.j0]) ?_
    exact ev_pos rfl (Ev.now _)
  have hw : wrap64 ((l.length : Int) - 1) = (l.length : Int) - 1 := wrap_id (by omega) (by omega)
  obtain ⟨b, q, h1, h2, h3⟩ := chart_both l hl
  unfold spec_Under.f impl_Under.f
  simp only [hw]
  by_cases c : b = true
  case neg => exact ⟨[], ev_bind0 rfl (Ev.bind h1 (ev_neg c sT)), Ev.bind h2 (ev_neg c (iT q)), by simp⟩
  obtain ⟨h120, m', I⟩ := h3 c
  by_cases ca : 0 ≤ a ∧ a ≤ (l.length : Int) - 1
  · have haN : a.toNat < l.length := by omega
    have hva : ((a.toNat : Nat) : Int) = a := by omega
    have hD : ∀ j : Int, 0 ≤ j → j < (l.length : Int) → Dep l j (rd q j) := fun j x y => (I.dep j x y).1
    obtain ⟨r, g1, g2, g3⟩ := lock l h120 I.v a.toNat haN q I.len hD (l.length - (a.toNat + 1)) (a.toNat + 1) [a] (by omega) (by simp) (by omega) (by rw [show ((a.toNat + 1 : Nat) : Int) - 1 = ((a.toNat : Nat) : Int) by omega]; exact .self _ (by omega))
    rw [show ((a.toNat + 1 : Nat) : Int) = a + 1 by omega, hva] at g1 g2
    have s0 : Ev (fun k => spec_Under.l0 k l a ([] : List Int) 0) r := by
      have := spre l h120 I.v a.toNat haN a.toNat 0 (by omega) r (by
        rcases sstep l h120 I.v a.toNat haN [] a.toNat haN (by simp) with ⟨_, g⟩ | ⟨g, _⟩
        · refine g r ?_
          rw [show ((a.toNat + 1 : Nat) : Int) = a + 1 by omega, hva]
          exact g1
        · exact absurd (.self _ (by omega)) g)
      rw [hva] at this
      exact this
    refine ⟨r, ev_bind0 rfl (Ev.bind h1 (ev_pos c (ev_bind0 (spec_l1In_eq ..) ?_))), Ev.bind h2 (ev_pos c (ev_neg (by omega) ?_)), g3⟩
    · rw [decide_eq_true ca]
      refine Ev.step (fun k => by rw [spec_Under.j0]) ?_
      exact ev_neg (by simp) s0
    · rw [decide_eq_false (by omega)]
      refine Ev.step (fun k => by rw [impl_Under.j0]) ?_
      refine ev_neg (by simp) ?_
      rw [wrap_id (by omega) (by omega)]
      exact g2
  · refine ⟨[], ev_bind0 rfl (Ev.bind h1 (ev_pos c (ev_bind0 (spec_l1In_eq ..) ?_))), Ev.bind h2 (ev_pos c ?_), by simp⟩
    · rw [decide_eq_false ca]
      exact sT
    · by_cases c2 : a < 0
      · exact ev_pos c2 (iT q)
      · refine ev_neg c2 ?_
        rw [decide_eq_true (by omega)]
        exact iT q

theorem FnExactUnder : laws_FnExactUnder.Pure := by
  intro l0 a1 hg0 hg1
  apply Ev.rounds
  unfold laws_FnExactUnder.f
  obtain ⟨s, hs, h⟩ := laws_szAccountS_ev l0 1048576 (by omega) (by omega) hg0
  refine Ev.bind hs ?_
  rcases h with h | ⟨_, _, hB⟩
  · exact ev_pos h (Ev.now _)
  refine ev_neg (by omega) ?_
  have to0 := laws_toAccountS_ev l0 hB
  have hB' : ((l0.map cv157).length : Int) ≤ 1048576 ∧ ∀ x ∈ l0.map cv157, B159 1048576 x := ⟨by rw [List.length_map]; exact hB.1, fun x hx => by
    obtain ⟨y, hy, rfl⟩ := List.mem_map.1 hx
    exact cv157_B (hB.2 y hy)⟩
  obtain ⟨r, h1, h2, h3⟩ := main _ a1 hB'
  refine Ev.bind to0 (Ev.bind h1 (Ev.bind to0 (Ev.bind h2 (Ev.bind (laws_eqIntS_ev r h3) (ev_pos rfl (Ev.bind to0 (Ev.bind (laws_eqAccountS_ev _ hB') (ev_pos rfl ?_))))))))
  obtain ⟨q, hq, q0, q1, _⟩ := laws_markAccountS_ev (l0.map cv157) 1 (by omega) (by omega) hB'.1
  refine Ev.bind hq (ev_neg (by omega) (Ev.bind (laws_eqIntS_ev r h3) ?_))
  refine Ev.step (fun k => by rw [laws_FnExactUnder.j0]) ?_
  refine ev_neg (by simp) ?_
  refine Ev.bind (laws_markIntS_ev r 1 (by omega) (by omega) h3) (Ev.bind (laws_heldIntS_ev 1 r.length (by omega) (by omega) h3) (ev_neg (by omega) (ev_pos rfl ?_)))
  exact Ev.bind to0 (Ev.bind h2 (Ev.bind (laws_eqIntS_ev r h3) (ev_pos rfl (Ev.bind (laws_heldIntS_ev 1 r.length (by omega) (by omega) h3) (ev_neg (by omega) (ev_pos rfl (Ev.now _)))))))
end Go.Proofs.Ytinibkdbfpafcaa.Pure
