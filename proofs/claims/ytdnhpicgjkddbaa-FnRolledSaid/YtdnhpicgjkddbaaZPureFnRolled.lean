/- Rolled up over a drawn right chart: the accounts without a parent have all of it together, and each account what Under has. -/
import Derived.Test.YtdnhpicgjkddbaaZPFnRolledx10
import Derived.Test.YtdnhpicgjkddbaaZHFnRolled
set_option linter.unusedVariables false
set_option maxHeartbeats 4000000
set_option linter.unusedSimpArgs false
set_option linter.unusedSectionVars false
namespace Go.Proofs.Ytdnhpicgjkddbaa.Pure
open Go.RowKit Go.Proofs.Ytdnhpicgjkddbaa.PFnRolled Go.Proofs.YtdnhpicgjkddbaaW.PrintWords Go.Proofs.YtdnhpicgjkddbaaW.PrintLast Go.Proofs.Ytdnhpicgjkddbaa.XEv
abbrev AA := S30
def par (l : List AA) (j : Int) : Int := (rd_T30 l j).f1
/-- a stands on j's way up. -/
inductive Anc (l : List AA) : Int → Int → Prop
  | self (j : Int) : 0 ≤ j → Anc l j j
  | up (j a : Int) : 0 ≤ j → 0 ≤ par l j → Anc l (par l j) a → Anc l j a
/-- How deep j stands. -/
inductive Dep (l : List AA) : Int → Int → Prop
  | root (j : Int) : 0 ≤ j → par l j < 0 → Dep l j 0
  | up (j n : Int) : 0 ≤ j → 0 ≤ par l j → Dep l (par l j) n → Dep l j (n + 1)
def V (l : List AA) (i : Int) : Prop := ∀ j : Int, 0 ≤ j → j < i → -1 ≤ par l j ∧ par l j < j ∧ (0 ≤ par l j → Anc l (j - 1) (par l j))

theorem Anc.trans {l : List AA} {j p a : Int} (h : Anc l j p) (g : Anc l p a) : Anc l j a := by
  induction h with
  | self j h => exact g
  | up j q h0 h1 _ ih => exact .up j a h0 h1 (ih g)
theorem Anc.nonneg {l : List AA} {j a : Int} (h : Anc l j a) : 0 ≤ j ∧ 0 ≤ a := by
  induction h with
  | self j h => exact ⟨h, h⟩
  | up j q h0 h1 _ ih => exact ⟨h0, ih.2⟩
theorem Anc.le {l : List AA} {j a n : Int} (hV : V l n) (h : Anc l j a) (hj : j < n) : a ≤ j := by
  induction h with
  | self j h => exact Int.le_refl _
  | up j q h0 h1 _ ih =>
    have := hV j h0 hj
    have := ih (by omega)
    omega
theorem Anc.prev {l : List AA} {j a n : Int} (hV : V l n) (h : Anc l j a) (hj : j < n) (ha : a < j) : Anc l (j - 1) a := by
  cases h with
  | self h => omega
  | up _ _ h0 h1 g => exact ((hV j h0 hj).2.2 h1).trans g
theorem Anc.total {l : List AA} {j p a : Int} (h : Anc l j p) (g : Anc l j a) : Anc l p a ∨ Anc l a p := by
  induction h with
  | self j h => exact .inl g
  | up j q h0 h1 h2 ih =>
    cases g with
    | self _ => exact .inr (.up _ q h0 h1 h2)
    | up _ _ _ _ g => exact ih g
theorem Dep.fn {l : List AA} {j n m : Int} (h : Dep l j n) (g : Dep l j m) : n = m := by
  induction h generalizing m with
  | root j h0 h1 =>
    cases g with
    | root => rfl
    | up _ _ h2 h3 => omega
  | up j n h0 h1 _ ih =>
    cases g with
    | root _ _ h3 => omega
    | up _ q _ _ g => rw [ih g]
theorem Dep.nonneg {l : List AA} {j n : Int} (h : Dep l j n) : 0 ≤ n := by
  induction h with
  | root => omega
  | up _ _ _ _ _ ih => omega
theorem Dep.anc {l : List AA} {j a n m : Int} (h : Anc l j a) (hj : Dep l j n) (ha : Dep l a m) : m ≤ n ∧ (j ≠ a → m < n) := by
  induction h generalizing n with
  | self j h => have := hj.fn ha; exact ⟨by omega, fun h => absurd rfl h⟩
  | up j q h0 h1 h2 ih =>
    cases hj with
    | root _ _ h3 => omega
    | up _ n' _ _ g => have := (ih g ha).1; exact ⟨by omega, fun _ => by omega⟩

/-- Two loops that go up from j till p is met. -/
theorem chain_walk {β γ : Type} (l : List AA) (i p : Int) (hV : V l i) (L1 : Nat → Int → Option β) (L2 : Nat → Int → Option γ)
    (h1 : ∀ j, 0 ≤ j → j < i → j ≠ p → ∀ r, Ev (fun k => L1 k (par l j)) r → Ev (fun k => L1 k j) r)
    (h2 : ∀ j, 0 ≤ j → j < i → j ≠ p → ∀ r, Ev (fun k => L2 k (par l j)) r → Ev (fun k => L2 k j) r) :
    ∀ (n : Nat) (j : Int), j + 1 = (n : Int) → j < i → ∃ e, ((e = -1 ∧ ¬ Anc l j p) ∨ (e = p ∧ 0 ≤ e ∧ e ≤ j ∧ Anc l j p)) ∧ (∀ r, Ev (fun k => L1 k e) r → Ev (fun k => L1 k j) r) ∧ (∀ r, Ev (fun k => L2 k e) r → Ev (fun k => L2 k j) r) := by
  intro n
  induction n using Nat.strongRecOn with
  | ind n ih =>
    intro j hn hj
    by_cases c : j = -1
    · exact ⟨-1, .inl ⟨rfl, fun h => by have := h.nonneg; omega⟩, fun r hr => by rw [c]; exact hr, fun r hr => by rw [c]; exact hr⟩
    · by_cases c2 : j = p
      · exact ⟨p, .inr ⟨rfl, by omega, by omega, by rw [← c2]; exact .self j (by omega)⟩, fun r hr => by rw [c2]; exact hr, fun r hr => by rw [c2]; exact hr⟩
      · have hv := hV j (by omega) hj
        obtain ⟨e, he, g1, g2⟩ := ih (par l j + 1).toNat (by omega) (par l j) (by omega) (by omega)
        refine ⟨e, ?_, fun r hr => h1 j (by omega) hj c2 r (g1 r hr), fun r hr => h2 j (by omega) hj c2 r (g2 r hr)⟩
        rcases he with ⟨he, hn⟩ | ⟨he, a, b, hA⟩
        · refine .inl ⟨he, fun h => ?_⟩
          cases h with
          | self h => exact c2 rfl
          | up _ _ _ _ g => exact hn g
        · exact .inr ⟨he, a, by omega, .up j p (by omega) (by have := hA.nonneg; omega) hA⟩

theorem deep_ev (l : List AA) (n : Int) (hV : V l n) (hn : n ≤ (l.length : Int)) (hl : (l.length : Int) ≤ 1048576) {j d : Int} (h : Dep l j d) (hj : j < n) (hd : d ≤ 100) : ∀ c : Int, 0 ≤ c → c + d ≤ 1000 → Ev (fun k => spec_l4Deep.l0 k l j c) (c + d) := by
  induction h with
  | root j h0 h1 =>
    intro c c0 c1
    unfold par at h1
    refine Ev.step (fun k => by rw [spec_l4Deep.l0]) ?_
    refine ev_pos h0 (ev_pos (by omega) (ev_neg (by omega) ?_))
    rw [Int.add_zero]
    exact Ev.now _
  | up j d h0 h1 h2 ih =>
    intro c c0 c1
    have hv := hV j h0 hj
    have hnn := h2.nonneg
    have := ih (by omega) (by omega) (c + 1) (by omega) (by omega)
    unfold par at h1 this
    refine Ev.step (fun k => by rw [spec_l4Deep.l0]) ?_
    refine ev_pos h0 (ev_pos (by omega) (ev_pos h1 ?_))
    rw [wrap_id (by omega) (by omega), show c + (d + 1) = c + 1 + d by omega]
    exact this

/-- What holds when the first i are read. -/
structure Inv (l : List AA) (i : Nat) (m : List (ByteArray × Int)) (dp : List Int) : Prop where
  len : dp.length = l.length
  v : V l (i : Int)
  seen : ∀ s, (mget m s).isSome = true ↔ ∃ (j : Nat) (y : AA), j < i ∧ l[j]? = some y ∧ y.f0 = s
  dep : ∀ j : Int, 0 ≤ j → j < (i : Int) → Dep l j (rd dp j) ∧ rd dp j ≤ 8
  zero : ∀ j : Nat, i ≤ j → j < l.length → rd dp (j : Int) = 0

theorem rd_set {dp : List Int} {i : Nat} (hi : i < dp.length) (v j : Int) (hj : 0 ≤ j) : rd (dp.set i v) j = if j = (i : Int) then v else rd dp j := by
  unfold rd
  by_cases c : j = (i : Int)
  · rw [if_pos c]
    subst c
    simp [List.getD, hi]
  · rw [if_neg c]
    have : i ≠ j.toNat := by omega
    simp [List.getD, List.getElem?_set_ne this]

theorem Dep.keep {l : List AA} {i : Nat} {m : List (ByteArray × Int)} {dp : List Int} (I : Inv l i m dp) (hi : i < l.length) (s : ByteArray) (hs : s = (rd_T30 l (i : Int)).f0) (d : Int) (hd : Dep l (i : Int) d) (h8 : d ≤ 8)
    (hv : -1 ≤ par l (i : Int) ∧ par l (i : Int) < (i : Int) ∧ (0 ≤ par l (i : Int) → Anc l ((i : Int) - 1) (par l (i : Int)))) : Inv l (i + 1) (mset m s (i : Int)) (dp.set i d) := by
  have hrd : rd_T30 l (i : Int) = l[i] := getD_at hi _
  have hg : l[i]? = some l[i] := List.getElem?_eq_getElem hi
  have hl := I.len
  refine ⟨by rw [List.length_set]; exact I.len, fun j h0 h1 => ?_, fun q => ?_, fun j h0 h1 => ?_, fun j h0 h1 => ?_⟩
  · by_cases c : j = (i : Int)
    · rw [c]; exact hv
    · exact I.v j h0 (by omega)
  · rw [mget_set]
    by_cases c : s = q
    · rw [if_pos c]
      exact ⟨fun _ => ⟨i, l[i], by omega, hg, by rw [← c, hs, hrd]⟩, fun _ => rfl⟩
    · rw [if_neg c, I.seen]
      refine ⟨fun ⟨j, y, h1, h2, h3⟩ => ⟨j, y, by omega, h2, h3⟩, fun ⟨j, y, h1, h2, h3⟩ => ?_⟩
      rcases Nat.lt_or_ge j i with h4 | h4
      · exact ⟨j, y, h4, h2, h3⟩
      · have : j = i := by omega
        subst this
        rw [hg] at h2
        injection h2 with h2
        subst h2
        exact absurd (by rw [hs, hrd]; exact h3) c
  · rw [rd_set (by omega) d j h0]
    by_cases c : j = (i : Int)
    · rw [if_pos c, c]; exact ⟨hd, h8⟩
    · rw [if_neg c]; exact I.dep j h0 (by omega)
  · rw [rd_set (by omega) d _ (by omega), if_neg (by omega)]
    exact I.zero j (by omega) h1

/-- Both sides read the chart. -/
theorem chart (l : List AA) (hl : (l.length : Int) ≤ 120 ∧ ∀ x ∈ l, B30 1048576 x) : ∀ (d i : Nat) (m : List (ByteArray × Int)) (dp : List Int), i + d = l.length → Inv l i m dp →
    ∃ (b : Bool) (q : List Int), Ev (fun k => spec_ChartOk.l0 k l (i : Int)) b ∧ Ev (fun k => impl_depths.l0 k l m dp l (l.length : Int) (i : Int)) (q, b) ∧ (b = true → ∃ m', Inv l l.length m' q) := by
  have hl1 := hl.1
  intro d
  induction d with
  | zero =>
    intro i m dp hd I
    have : i = l.length := by omega
    subst this
    refine ⟨true, dp, ?_, ?_, fun _ => ⟨m, I⟩⟩
    · refine Ev.step (fun k => by rw [spec_ChartOk.l0]) ?_
      exact ev_neg (by omega) (Ev.now _)
    · refine Ev.step (fun k => by rw [impl_depths.l0]) ?_
      exact ev_neg (by omega) (Ev.now _)
  | succ d ih =>
    intro i m dp hd I
    have hi : i < l.length := by omega
    have hrd : rd_T30 l (i : Int) = l[i] := getD_at hi _
    have hg : l[i]? = some l[i] := List.getElem?_eq_getElem hi
    have hB : (l[i].f0.size : Int) ≤ 1048576 := hl.2 _ (List.getElem_mem hi)
    have hpar : par l (i : Int) = l[i].f1 := by unfold par; rw [hrd]
    have hdl := I.len
    obtain ⟨b1, e1, p1⟩ := spec_NameOk_ev l[i].f0 hB
    obtain ⟨b2, e2, p2⟩ := impl_NameOk_ev l[i].f0
    have hbb : b1 = b2 := bool_of_iff p1 p2
    subst hbb
    have iF : Ev (fun k => impl_depths.j2 k l m dp (i : Int) l (l.length : Int) (i : Int) true l[i].f0 l[i].f1 l[i].f2) (([] : List Int), false) := by
      refine Ev.step (fun k => by rw [impl_depths.j2]) ?_
      exact ev_pos rfl (Ev.now _)
    have sF : Ev (fun k => spec_ChartOk.j1 k l (i : Int) true l[i].f0 l[i].f1 l[i].f2) false := by
      refine Ev.step (fun k => by rw [spec_ChartOk.j1]) ?_
      exact ev_pos rfl (Ev.now _)
    have hw1 : wrap64 ((i : Int) - 1) = (i : Int) - 1 := wrap_id (by omega) (by omega)
    have hdup := each_go (List.range i) (fun k j => spec_ChartOk.l1 k l (i : Int) j l[i].f0 l[i].f1 l[i].f2) (fun j _ => (rd_T30 l ((j : Nat) : Int)).f0 ≠ l[i].f0) (fun k => if l[i].f1 < 0 then spec_ChartOk.l0 k l (wrap64 ((i : Int) + 1)) else spec_ChartOk.l2 k l (i : Int) (wrap64 ((i : Int) - 1)) l[i].f0 l[i].f1 l[i].f2) false (by
      intro j hj
      have hj' : j < i := by simpa using hj
      by_cases c : (rd_T30 l ((j : Nat) : Int)).f0 = l[i].f0
      · refine .inr ⟨fun h => h c, ?_⟩
        refine Ev.step (fun k => by rw [spec_ChartOk.l1]) ?_
        simp only [str_iff]
        exact ev_pos (by omega) (ev_pos (by omega) (ev_pos (by omega) (ev_pos c (Ev.now _))))
      · refine .inl ⟨c, fun r hr => ?_⟩
        refine Ev.step (fun k => by rw [spec_ChartOk.l1]) ?_
        simp only [str_iff]
        refine ev_pos (by omega) (ev_pos (by omega) (ev_pos (by omega) (ev_neg c ?_)))
        rw [wrap_succ hj' (by omega)]
        exact hr) (by
      intro r hr
      rw [List.length_range]
      refine Ev.step (fun k => by rw [spec_ChartOk.l1]) ?_
      exact ev_neg (by omega) hr)
    have hD : (mget m l[i].f0).isSome = true ↔ ¬ (∀ (j : Nat) (hj : j < (List.range i).length), (rd_T30 l ((j : Nat) : Int)).f0 ≠ l[i].f0) := by
      rw [I.seen]
      constructor
      · rintro ⟨j, y, h1, h2, h3⟩ h
        have hjl : j < l.length := by omega
        have e : rd_T30 l ((j : Nat) : Int) = y := by
          rw [List.getElem?_eq_getElem hjl] at h2
          injection h2 with h2
          rw [← h2]
          exact getD_at hjl _
        exact h j (by simpa using h1) (by rw [e]; exact h3)
      · intro h
        apply Classical.byContradiction
        intro g
        refine h fun j hj e => g ?_
        have hj' : j < i := by simpa using hj
        have hjl : j < l.length := by omega
        exact ⟨j, l[j], hj', List.getElem?_eq_getElem hjl, by rw [← e]; exact congrArg (fun x : AA => x.f0) (getD_at hjl _).symm⟩
    by_cases cN : b1 = true
    case neg =>
      refine ⟨false, [], ?_, ?_, fun h => (by cases h)⟩
      · refine Ev.step (fun k => by rw [spec_ChartOk.l0]) ?_
        simp only [hrd]
        exact ev_pos (by omega) (ev_pos (by omega) (Ev.bind e1 (ev_neg cN sF)))
      · refine Ev.step (fun k => by rw [impl_depths.l0]) ?_
        simp only [hrd]
        refine ev_pos (by omega) (ev_pos (by omega) (ev_pos (by omega) (ev_pos (by omega) ?_)))
        exact ev_ite (fun _ => iF) (fun _ => Ev.bind e2 (ev_neg cN iF))
    by_cases cK : 1 ≤ l[i].f2 ∧ l[i].f2 ≤ 5
    case neg =>
      refine ⟨false, [], ?_, ?_, fun h => (by cases h)⟩
      · refine Ev.step (fun k => by rw [spec_ChartOk.l0]) ?_
        simp only [hrd]
        exact ev_pos (by omega) (ev_pos (by omega) (Ev.bind e1 (ev_pos cN (ev_bind0 (spec_l1In_eq ..) (ev_neg (by rw [decide_eq_true_eq]; exact cK) sF)))))
      · refine Ev.step (fun k => by rw [impl_depths.l0]) ?_
        simp only [hrd]
        refine ev_pos (by omega) (ev_pos (by omega) (ev_pos (by omega) (ev_pos (by omega) ?_)))
        refine ev_ite (fun _ => iF) (fun _ => Ev.bind e2 (ev_pos cN (ev_bind0 (impl_kindOk_eq _) ?_)))
        rw [decide_eq_false cK]
        exact iF
    have sHead : ∀ r, Ev (fun k => spec_ChartOk.j1 k l (i : Int) (!decide (-1 ≤ l[i].f1 ∧ l[i].f1 ≤ (i : Int) - 1)) l[i].f0 l[i].f1 l[i].f2) r → Ev (fun k => spec_ChartOk.l0 k l (i : Int)) r := by
      intro r hr
      refine Ev.step (fun k => by rw [spec_ChartOk.l0]) ?_
      simp only [hrd, hw1]
      exact ev_pos (by omega) (ev_pos (by omega) (Ev.bind e1 (ev_pos cN (ev_bind0 (spec_l1In_eq ..) (ev_pos (by simpa using cK) (ev_bind0 (spec_l1In_eq ..) hr))))))
    have iHead : ∀ r, ¬ (mget m l[i].f0).isSome = true → Ev (fun k => impl_depths.j2 k l m dp (i : Int) l (l.length : Int) (i : Int) false l[i].f0 l[i].f1 l[i].f2) r → Ev (fun k => impl_depths.l0 k l m dp l (l.length : Int) (i : Int)) r := by
      intro r hn hr
      refine Ev.step (fun k => by rw [impl_depths.l0]) ?_
      simp only [hrd]
      refine ev_pos (by omega) (ev_pos (by omega) (ev_pos (by omega) (ev_pos (by omega) (ev_neg hn (Ev.bind e2 (ev_pos cN (ev_bind0 (impl_kindOk_eq _) ?_)))))))
      rw [decide_eq_true cK]
      exact hr
    by_cases cD : (mget m l[i].f0).isSome = true
    · refine ⟨false, [], ?_, ?_, fun h => (by cases h)⟩
      · refine sHead _ ?_
        by_cases cR : -1 ≤ l[i].f1 ∧ l[i].f1 ≤ (i : Int) - 1
        · rw [decide_eq_true cR]
          refine Ev.step (fun k => by rw [spec_ChartOk.j1]) ?_
          refine ev_neg (by simp) ?_
          rcases hdup with ⟨h, _⟩ | ⟨_, h⟩
          · exact absurd h (hD.1 cD)
          · exact h
        · rw [decide_eq_false cR]
          exact sF
      · refine Ev.step (fun k => by rw [impl_depths.l0]) ?_
        simp only [hrd]
        exact ev_pos (by omega) (ev_pos (by omega) (ev_pos (by omega) (ev_pos (by omega) (ev_pos cD iF))))
    have hgo : ∀ r, Ev (fun k => if l[i].f1 < 0 then spec_ChartOk.l0 k l (wrap64 ((i : Int) + 1)) else spec_ChartOk.l2 k l (i : Int) (wrap64 ((i : Int) - 1)) l[i].f0 l[i].f1 l[i].f2) r → Ev (fun k => spec_ChartOk.l1 k l (i : Int) 0 l[i].f0 l[i].f1 l[i].f2) r := by
      rcases hdup with ⟨_, h⟩ | ⟨h, _⟩
      · exact h
      · exact absurd (hD.2 h) cD
    -- the way up from the one ahead
    obtain ⟨e, he, g1, g2⟩ := chain_walk l (i : Int) l[i].f1 I.v (fun k j => spec_ChartOk.l2 k l (i : Int) j l[i].f0 l[i].f1 l[i].f2) (fun k j => impl_depths.l1 k l (mset m l[i].f0 (i : Int)) dp (i : Int) j l (l.length : Int) (i : Int) l[i].f0 l[i].f1 l[i].f2) (by
      intro j h0 h1 hne r hr
      refine Ev.step (fun k => by rw [spec_ChartOk.l2]) ?_
      exact ev_pos h0 (ev_neg hne (ev_pos h0 (ev_pos (by omega) hr)))) (by
      intro j h0 h1 hne r hr
      refine Ev.step (fun k => by rw [impl_depths.l1]) ?_
      exact ev_pos h0 (ev_neg hne (ev_pos h0 (ev_pos (by omega) hr)))) i ((i : Int) - 1) (by omega) (by omega)
    have iJ : ∀ r, l[i].f1 ≠ -1 → Ev (fun k => impl_depths.l1 k l (mset m l[i].f0 (i : Int)) dp (i : Int) e l (l.length : Int) (i : Int) l[i].f0 l[i].f1 l[i].f2) r → Ev (fun k => impl_depths.j2 k l m dp (i : Int) l (l.length : Int) (i : Int) false l[i].f0 l[i].f1 l[i].f2) r := by
      intro r hn hr
      refine Ev.step (fun k => by rw [impl_depths.j2]) ?_
      refine ev_neg (by simp) (ev_pos (by omega) (ev_bind0 rfl (ev_neg hn ?_)))
      rw [hw1]
      exact g2 r hr
    have sN : e = -1 → Ev (fun k => spec_ChartOk.l2 k l (i : Int) e l[i].f0 l[i].f1 l[i].f2) false := by
      intro h
      rw [h]
      refine Ev.step (fun k => by rw [spec_ChartOk.l2]) ?_
      exact ev_neg (by omega) (ev_pos (by omega) (Ev.now _))
    have iN : e = -1 → Ev (fun k => impl_depths.l1 k l (mset m l[i].f0 (i : Int)) dp (i : Int) e l (l.length : Int) (i : Int) l[i].f0 l[i].f1 l[i].f2) (([] : List Int), false) := by
      intro h
      rw [h]
      refine Ev.step (fun k => by rw [impl_depths.l1]) ?_
      exact ev_neg (by omega) (ev_pos (by omega) (Ev.now _))
    by_cases cR : -1 ≤ l[i].f1 ∧ l[i].f1 ≤ (i : Int) - 1
    case neg =>
      refine ⟨false, [], sHead _ ?_, iHead _ cD (iJ _ (by omega) (iN ?_)), fun h => (by cases h)⟩
      · rw [decide_eq_false cR]
        exact sF
      · rcases he with he | he
        · exact he.1
        · omega
    have sJ : ∀ r, Ev (fun k => if l[i].f1 < 0 then spec_ChartOk.l0 k l (wrap64 ((i : Int) + 1)) else spec_ChartOk.l2 k l (i : Int) (wrap64 ((i : Int) - 1)) l[i].f0 l[i].f1 l[i].f2) r → Ev (fun k => spec_ChartOk.l0 k l (i : Int)) r := by
      intro r hr
      refine sHead _ ?_
      rw [decide_eq_true cR]
      refine Ev.step (fun k => by rw [spec_ChartOk.j1]) ?_
      exact ev_neg (by simp) (hgo r hr)
    by_cases c1 : l[i].f1 = -1
    · have h0 : dp.set i 0 = dp := by
        have hz := I.zero i (Nat.le_refl _) hi
        rw [rd_at (by omega)] at hz
        apply List.ext_getElem?
        intro j
        by_cases c : i = j
        · subst c
          rw [List.getElem?_set_self (by omega), List.getElem?_eq_getElem (by omega), hz]
        · rw [List.getElem?_set_ne c]
      have I' := Dep.keep I hi l[i].f0 (by rw [hrd]) 0 (.root (i : Int) (by omega) (by omega)) (by omega) ⟨by omega, by omega, fun h => by omega⟩
      rw [h0] at I'
      obtain ⟨b, q, s1, s2, s3⟩ := ih (i + 1) _ dp (by omega) I'
      refine ⟨b, q, sJ _ (ev_pos (by omega) ?_), iHead _ cD ?_, s3⟩
      · rw [wrap_succ hi (by omega)]
        exact s1
      · refine Ev.step (fun k => by rw [impl_depths.j2]) ?_
        refine ev_neg (by simp) (ev_pos (by omega) (ev_bind0 rfl (ev_pos c1 ?_)))
        rw [wrap_succ hi (by omega)]
        exact s2
    rcases he with ⟨he, _⟩ | ⟨he, he0, he1, hA⟩
    · refine ⟨false, [], sJ _ (ev_neg (by omega) ?_), iHead _ cD (iJ _ c1 (iN he)), fun h => (by cases h)⟩
      rw [hw1]
      exact g1 _ (sN he)
    obtain ⟨hdp, hdp8⟩ := I.dep l[i].f1 (by omega) (by omega)
    have hnn := hdp.nonneg
    by_cases cQ : (rd_T30 l l[i].f1).f2 = l[i].f2
    case neg =>
      refine ⟨false, [], sJ _ (ev_neg (by omega) ?_), iHead _ cD (iJ _ c1 ?_), fun h => (by cases h)⟩
      · rw [hw1]
        refine g1 _ ?_
        rw [he]
        refine Ev.step (fun k => by rw [spec_ChartOk.l2]) ?_
        exact ev_pos (by omega) (ev_pos rfl (ev_neg (by omega) (ev_pos (by omega) (ev_pos (by omega) (ev_neg cQ (Ev.now _))))))
      · rw [he]
        refine Ev.step (fun k => by rw [impl_depths.l1]) ?_
        exact ev_pos (by omega) (ev_pos rfl (ev_neg (by omega) (ev_pos (by omega) (ev_pos (by omega) (ev_neg cQ (Ev.now _))))))
    have hdi : Dep l (i : Int) (rd dp l[i].f1 + 1) := .up (i : Int) _ (by omega) (by omega) (by rw [hpar]; exact hdp)
    have hvi : -1 ≤ par l (i : Int) ∧ par l (i : Int) < (i : Int) ∧ (0 ≤ par l (i : Int) → Anc l ((i : Int) - 1) (par l (i : Int))) := ⟨by omega, by omega, fun _ => by rw [hpar]; exact hA⟩
    have hVi : V l ((i : Int) + 1) := fun j h0 h1 => by
      by_cases c : j = (i : Int)
      · rw [c]; exact hvi
      · exact I.v j h0 (by omega)
    have hdeep : Ev (fun k => spec_l4Deep.f k l (i : Int)) (rd dp l[i].f1 + 1) := by
      unfold spec_l4Deep.f
      have := deep_ev l ((i : Int) + 1) hVi (by omega) (by omega) hdi (by omega) (by omega) 0 (by omega) (by omega)
      rw [Int.zero_add] at this
      exact this
    by_cases c8 : rd dp l[i].f1 ≥ 8
    · refine ⟨false, [], sJ _ (ev_neg (by omega) ?_), iHead _ cD (iJ _ c1 ?_), fun h => (by cases h)⟩
      · rw [hw1]
        refine g1 _ ?_
        rw [he]
        refine Ev.step (fun k => by rw [spec_ChartOk.l2]) ?_
        exact ev_pos (by omega) (ev_pos rfl (ev_neg (by omega) (ev_pos (by omega) (ev_pos (by omega) (ev_pos cQ (Ev.bind hdeep (ev_pos (by omega) (Ev.now _))))))))
      · rw [he]
        refine Ev.step (fun k => by rw [impl_depths.l1]) ?_
        exact ev_pos (by omega) (ev_pos rfl (ev_neg (by omega) (ev_pos (by omega) (ev_pos (by omega) (ev_pos cQ (ev_pos (by omega) (ev_pos c8 (Ev.now _))))))))
    · have I' := Dep.keep I hi l[i].f0 (by rw [hrd]) _ hdi (by omega) hvi
      obtain ⟨b, q, s1, s2, s3⟩ := ih (i + 1) _ _ (by omega) I'
      refine ⟨b, q, sJ _ (ev_neg (by omega) ?_), iHead _ cD (iJ _ c1 ?_), s3⟩
      · rw [hw1]
        refine g1 _ ?_
        rw [he]
        refine Ev.step (fun k => by rw [spec_ChartOk.l2]) ?_
        refine ev_pos (by omega) (ev_pos rfl (ev_neg (by omega) (ev_pos (by omega) (ev_pos (by omega) (ev_pos cQ (Ev.bind hdeep (ev_neg (by omega) ?_)))))))
        rw [wrap_succ hi (by omega)]
        exact s1
      · rw [he]
        refine Ev.step (fun k => by rw [impl_depths.l1]) ?_
        refine ev_pos (by omega) (ev_pos rfl (ev_neg (by omega) (ev_pos (by omega) (ev_pos (by omega) (ev_pos cQ (ev_pos (by omega) (ev_neg c8 (ev_pos (by omega) (ev_pos (by omega) ?_)))))))))
        rw [wrap_succ hi (by omega), wrap_id (by omega) (by omega)]
        simp only [Int.toNat_natCast]
        exact s2

theorem chart_both (l : List AA) (hl : (l.length : Int) ≤ 1048576 ∧ ∀ x ∈ l, B30 1048576 x) :
    ∃ (b : Bool) (q : List Int), Ev (fun k => spec_ChartOk.f k l) b ∧ Ev (fun k => impl_depths.f k l) (q, b) ∧ (b = true → (l.length : Int) ≤ 120 ∧ ∃ m', Inv l l.length m' q) := by
  have iT : Ev (fun k => impl_depths.j0 k l true) (([] : List Int), false) := by
    refine Ev.step (fun k => by rw [impl_depths.j0]) ?_
    exact ev_pos rfl (Ev.now _)
  unfold spec_ChartOk.f impl_depths.f
  by_cases c : 1 ≤ (l.length : Int) ∧ (l.length : Int) ≤ 120
  · have I : Inv l 0 [] (List.replicate ((l.length : Int) : Int).toNat 0) := by
      refine ⟨by simp, fun j h0 h1 => by omega, fun s => ⟨fun h => by simp [mget] at h, fun ⟨j, y, h, _⟩ => by omega⟩, fun j h0 h1 => by omega, fun j _ hj => ?_⟩
      rw [rd_at (by simpa using hj)]
      simp
    obtain ⟨b, q, h1, h2, h3⟩ := chart l ⟨c.2, hl.2⟩ l.length 0 [] _ (by omega) I
    refine ⟨b, q, ev_bind0 (spec_l1In_eq ..) (ev_pos (by simpa using c) h1), ev_neg (by omega) ?_, fun h => ⟨c.2, h3 h⟩⟩
    rw [decide_eq_false (by omega)]
    refine Ev.step (fun k => by rw [impl_depths.j0]) ?_
    exact ev_neg (by simp) (ev_pos (by omega) (ev_pos (by omega) h2))
  · refine ⟨false, [], ev_bind0 (spec_l1In_eq ..) (ev_neg (by rw [decide_eq_true_eq]; exact c) (Ev.now _)), ?_, fun h => (by cases h)⟩
    by_cases c2 : (l.length : Int) < 1
    · exact ev_pos c2 iT
    · refine ev_neg c2 ?_
      rw [decide_eq_true (by omega)]
      exact iT

section
variable (l : List AA) (hl : (l.length : Int) ≤ 120) (hV : V l (l.length : Int)) (a : Nat) (ha : a < l.length)
include hl hV ha
theorem sstep (acc : List Int) (i : Nat) (hi : i < l.length) (hacc : acc.length ≤ i) :
    (Anc l (i : Int) (a : Int) ∧ ∀ r, Ev (fun k => spec_Under.l0 k l (a : Int) (acc ++ [(i : Int)]) ((i + 1 : Nat) : Int)) r → Ev (fun k => spec_Under.l0 k l (a : Int) acc (i : Int)) r) ∨
    (¬ Anc l (i : Int) (a : Int) ∧ ∀ r, Ev (fun k => spec_Under.l0 k l (a : Int) acc ((i + 1 : Nat) : Int)) r → Ev (fun k => spec_Under.l0 k l (a : Int) acc (i : Int)) r) := by
  obtain ⟨e, he, g, _⟩ := chain_walk l (l.length : Int) (a : Int) hV (fun k j => spec_Under.l1 k l (a : Int) acc (i : Int) j) (fun k j => spec_Under.l1 k l (a : Int) acc (i : Int) j) (by
    intro j h0 h1 hne r hr
    refine Ev.step (fun k => by rw [spec_Under.l1]) ?_
    exact ev_pos h0 (ev_neg hne (ev_pos h0 (ev_pos h1 hr)))) (by
    intro j h0 h1 hne r hr
    refine Ev.step (fun k => by rw [spec_Under.l1]) ?_
    exact ev_pos h0 (ev_neg hne (ev_pos h0 (ev_pos h1 hr)))) (i + 1) (i : Int) (by omega) (by omega)
  rcases he with ⟨he, hA⟩ | ⟨he, h0, h1, hA⟩
  · refine .inr ⟨hA, fun r hr => ?_⟩
    refine Ev.step (fun k => by rw [spec_Under.l0]) ?_
    refine ev_pos (by omega) (g r ?_)
    rw [he]
    refine Ev.step (fun k => by rw [spec_Under.l1]) ?_
    refine ev_neg (by omega) (ev_neg (by omega) ?_)
    rw [wrap_succ hi (by omega)]
    exact hr
  · refine .inl ⟨hA, fun r hr => ?_⟩
    refine Ev.step (fun k => by rw [spec_Under.l0]) ?_
    refine ev_pos (by omega) (g r ?_)
    rw [he]
    refine Ev.step (fun k => by rw [spec_Under.l1]) ?_
    refine ev_pos (by omega) (ev_pos rfl (ev_pos (by omega) ?_))
    rw [wrap_succ hi (by omega)]
    exact hr
theorem stail : ∀ (d i : Nat) (acc : List Int), i + d = l.length → acc.length ≤ i → a < i → ¬ Anc l ((i : Int) - 1) (a : Int) → Ev (fun k => spec_Under.l0 k l (a : Int) acc (i : Int)) acc := by
  intro d
  induction d with
  | zero =>
    intro i acc hd hacc hai hn
    refine Ev.step (fun k => by rw [spec_Under.l0]) ?_
    exact ev_neg (by omega) (Ev.now _)
  | succ d ih =>
    intro i acc hd hacc hai hn
    have hi : i < l.length := by omega
    have hni : ¬ Anc l (i : Int) (a : Int) := fun h => hn (h.prev hV (by omega) (by omega))
    rcases sstep l hl hV a ha acc i hi hacc with ⟨h, _⟩ | ⟨_, h⟩
    · exact absurd h hni
    · exact h _ (ih (i + 1) acc (by omega) (by omega) (by omega) (by rw [show ((i + 1 : Nat) : Int) - 1 = (i : Int) by omega]; exact hni))
theorem spre : ∀ (d i : Nat), i + d = a → ∀ r, Ev (fun k => spec_Under.l0 k l (a : Int) [] (a : Int)) r → Ev (fun k => spec_Under.l0 k l (a : Int) [] (i : Int)) r := by
  intro d
  induction d with
  | zero => intro i hd r hr; have : i = a := by omega
            subst this; exact hr
  | succ d ih =>
    intro i hd r hr
    have hi : i < l.length := by omega
    rcases sstep l hl hV a ha [] i hi (by simp) with ⟨h, _⟩ | ⟨_, h⟩
    · have := h.le hV (by omega)
      omega
    · exact h _ (ih (i + 1) (by omega) r hr)
theorem lock (dp : List Int) (hdp : dp.length = l.length) (hD : ∀ j : Int, 0 ≤ j → j < (l.length : Int) → Dep l j (rd dp j)) : ∀ (d i : Nat) (acc : List Int), i + d = l.length → acc.length ≤ i → a < i → Anc l ((i : Int) - 1) (a : Int) →
    ∃ r : List Int, Ev (fun k => spec_Under.l0 k l (a : Int) acc (i : Int)) r ∧ Ev (fun k => impl_Under.l0 k l (a : Int) dp acc (i : Int)) r ∧ (r.length : Int) ≤ 1048576 := by
  intro d
  induction d with
  | zero =>
    intro i acc hd hacc hai hA
    refine ⟨acc, ?_, ?_, by omega⟩
    · refine Ev.step (fun k => by rw [spec_Under.l0]) ?_
      exact ev_neg (by omega) (Ev.now _)
    · refine Ev.step (fun k => by rw [impl_Under.l0]) ?_
      exact ev_neg (by omega) (Ev.now _)
  | succ d ih =>
    intro i acc hd hacc hai hA
    have hi : i < l.length := by omega
    have hdi := hD (i : Int) (by omega) (by omega)
    have hda := hD (a : Int) (by omega) (by omega)
    have hv := hV (i : Int) (by omega) (by omega)
    rcases sstep l hl hV a ha acc i hi hacc with ⟨h, g⟩ | ⟨h, g⟩
    · have hlt := (hdi.anc h hda).2 (by omega)
      obtain ⟨r, h1, h2, h3⟩ := ih (i + 1) (acc ++ [(i : Int)]) (by omega) (by simp; omega) (by omega) (by rw [show ((i + 1 : Nat) : Int) - 1 = (i : Int) by omega]; exact h)
      refine ⟨r, g r h1, ?_, h3⟩
      refine Ev.step (fun k => by rw [impl_Under.l0]) ?_
      refine ev_pos (by omega) (ev_pos (by omega) (ev_pos (by omega) (ev_pos (by omega) (ev_pos (by omega) (ev_pos (by omega) (ev_pos (by omega) ?_))))))
      rw [wrap_succ hi (by omega)]
      exact h2
    · have hle : rd dp (i : Int) ≤ rd dp (a : Int) := by
        have hnn := hda.nonneg
        by_cases c : par l (i : Int) < 0
        · have := hdi.fn (.root (i : Int) (by omega) c)
          omega
        · have hp := hv.2.2 (by omega)
          have hdq := hD (par l (i : Int)) (by omega) (by omega)
          have e := hdi.fn (.up (i : Int) _ (by omega) (by omega) hdq)
          rcases hp.total hA with t | t
          · exact absurd (.up (i : Int) (a : Int) (by omega) (by omega) t) h
          · have := (hda.anc t hdq).2 (fun e2 => h (.up (i : Int) (a : Int) (by omega) (by omega) (by rw [← e2]; exact .self _ (by omega))))
            omega
      refine ⟨acc, g acc (stail l hl hV a ha d (i + 1) acc (by omega) (by omega) (by omega) (by rw [show ((i + 1 : Nat) : Int) - 1 = (i : Int) by omega]; exact h)), ?_, by omega⟩
      refine Ev.step (fun k => by rw [impl_Under.l0]) ?_
      exact ev_pos (by omega) (ev_pos (by omega) (ev_pos (by omega) (ev_pos (by omega) (ev_pos (by omega) (ev_neg (by omega) (Ev.now _))))))
end

theorem under_main (l : List AA) (a : Int) (hl : (l.length : Int) ≤ 1048576 ∧ ∀ x ∈ l, B30 1048576 x) : ∃ r : List Int, Ev (fun k => spec_Under.f k l a) r ∧ Ev (fun k => impl_Under.f k l a) r ∧ (r.length : Int) ≤ 1048576 := by
  have hl1 := hl.1
  have sT : Ev (fun k => spec_Under.j0 k l a ([] : List Int) true) ([] : List Int) := by
    refine Ev.step (fun k => by rw [spec_Under.j0]) ?_
    exact ev_pos rfl (Ev.now _)
  have iT : ∀ q : List Int, Ev (fun k => impl_Under.j0 k l a q true) ([] : List Int) := by
    intro q
    refine Ev.step (fun k => by rw [impl_Under.j0]) ?_
    exact ev_pos rfl (Ev.now _)
  have hw : wrap64 ((l.length : Int) - 1) = (l.length : Int) - 1 := wrap_id (by omega) (by omega)
  obtain ⟨b, q, h1, h2, h3⟩ := chart_both l hl
  unfold spec_Under.f impl_Under.f
  simp only [hw]
  by_cases c : b = true
  case neg => exact ⟨[], ev_bind0 rfl (Ev.bind h1 (ev_neg c sT)), Ev.bind h2 (ev_neg c (iT q)), by simp⟩
  obtain ⟨h120, m', I⟩ := h3 c
  by_cases ca : 0 ≤ a ∧ a ≤ (l.length : Int) - 1
  · have haN : a.toNat < l.length := by omega
    have hva : ((a.toNat : Nat) : Int) = a := by omega
    have hD : ∀ j : Int, 0 ≤ j → j < (l.length : Int) → Dep l j (rd q j) := fun j x y => (I.dep j x y).1
    obtain ⟨r, g1, g2, g3⟩ := lock l h120 I.v a.toNat haN q I.len hD (l.length - (a.toNat + 1)) (a.toNat + 1) [a] (by omega) (by simp) (by omega) (by rw [show ((a.toNat + 1 : Nat) : Int) - 1 = ((a.toNat : Nat) : Int) by omega]; exact .self _ (by omega))
    rw [show ((a.toNat + 1 : Nat) : Int) = a + 1 by omega, hva] at g1 g2
    have s0 : Ev (fun k => spec_Under.l0 k l a ([] : List Int) 0) r := by
      have := spre l h120 I.v a.toNat haN a.toNat 0 (by omega) r (by
        rcases sstep l h120 I.v a.toNat haN [] a.toNat haN (by simp) with ⟨_, g⟩ | ⟨g, _⟩
        · refine g r ?_
          rw [show ((a.toNat + 1 : Nat) : Int) = a + 1 by omega, hva]
          exact g1
        · exact absurd (.self _ (by omega)) g)
      rw [hva] at this
      exact this
    refine ⟨r, ev_bind0 rfl (Ev.bind h1 (ev_pos c (ev_bind0 (spec_l1In_eq ..) ?_))), Ev.bind h2 (ev_pos c (ev_neg (by omega) ?_)), g3⟩
    · rw [decide_eq_true ca]
      refine Ev.step (fun k => by rw [spec_Under.j0]) ?_
      exact ev_neg (by simp) s0
    · rw [decide_eq_false (by omega)]
      refine Ev.step (fun k => by rw [impl_Under.j0]) ?_
      refine ev_neg (by simp) ?_
      rw [wrap_id (by omega) (by omega)]
      exact g2
  · refine ⟨[], ev_bind0 rfl (Ev.bind h1 (ev_pos c (ev_bind0 (spec_l1In_eq ..) ?_))), Ev.bind h2 (ev_pos c ?_), by simp⟩
    · rw [decide_eq_false ca]
      exact sT
    · by_cases c2 : a < 0
      · exact ev_pos c2 (iT q)
      · refine ev_neg c2 ?_
        rw [decide_eq_true (by omega)]
        exact iT q

/-- The sum of those of the first n that are so. -/
noncomputable def tot (P : Nat → Prop) (x : List Int) : Nat → Int
  | 0 => 0
  | n + 1 => tot P x n + (open Classical in if P n then rd x (n : Int) else 0)
theorem tot_iff {P Q : Nat → Prop} (x : List Int) : ∀ n, (∀ m, m < n → (P m ↔ Q m)) → tot P x n = tot Q x n := by
  intro n
  induction n with
  | zero => intro _; rfl
  | succ n ih =>
    intro h
    unfold tot
    rw [ih (fun m hm => h m (by omega))]
    have h1 := h n (by omega)
    by_cases c : P n
    · rw [if_pos c, if_pos (h1.1 c)]
    · rw [if_neg c, if_neg (fun q => c (h1.2 q))]
theorem tot_or {P Q R : Nat → Prop} (x : List Int) : ∀ n, (∀ m, m < n → (R m ↔ P m ∨ Q m)) → (∀ m, m < n → P m → Q m → False) → tot R x n = tot P x n + tot Q x n := by
  intro n
  induction n with
  | zero => intro _ _; rfl
  | succ n ih =>
    intro h g
    unfold tot
    rw [ih (fun m hm => h m (by omega)) (fun m hm => g m (by omega))]
    have h1 := h n (by omega)
    have h2 := g n (by omega)
    by_cases c : P n
    · have c2 : ¬ Q n := fun q => h2 c q
      have c3 : R n := h1.2 (.inl c)
      simp only [c, c2, c3, if_true, if_false]
      omega
    · by_cases c2 : Q n
      · have c3 : R n := h1.2 (.inr c2)
        simp only [c, c2, c3, if_true, if_false]
        omega
      · have c3 : ¬ R n := fun r => by rcases h1.1 r with h | h <;> contradiction
        simp only [c, c2, c3, if_false]
        omega
theorem tot_none {P : Nat → Prop} (x : List Int) : ∀ n, (∀ m, m < n → ¬ P m) → tot P x n = 0 := by
  intro n
  induction n with
  | zero => intro _; rfl
  | succ n ih =>
    intro h
    unfold tot
    rw [ih (fun m hm => h m (by omega)), if_neg (h n (by omega))]
    rfl
theorem tot_one {P : Nat → Prop} {x : List Int} {j : Nat} : ∀ {n : Nat}, j < n → (∀ m, m < n → (P m ↔ m = j)) → tot P x n = rd x (j : Int) := by
  intro n
  induction n with
  | zero => intro h; omega
  | succ n ih =>
    intro h g
    unfold tot
    by_cases c : j = n
    · subst c
      rw [tot_none x j (fun m hm hp => by have := (g m (by omega)).1 hp; omega), if_pos ((g j (by omega)).2 rfl)]
      omega
    · rw [ih (by omega) (fun m hm => g m (by omega)), if_neg (fun hp => c ((g n (by omega)).1 hp).symm)]
      omega
theorem tot_bound (P : Nat → Prop) (x : List Int) (hb : ∀ y ∈ x, -1000000000000000 ≤ y ∧ y ≤ 1000000000000000) : ∀ n, n ≤ x.length → -(n * 1000000000000000 : Int) ≤ tot P x n ∧ tot P x n ≤ n * 1000000000000000 := by
  intro n
  induction n with
  | zero => intro _; exact ⟨by simp [tot], by simp [tot]⟩
  | succ n ih =>
    intro h
    have := ih (by omega)
    have hr : rd x (n : Int) = x[n] := rd_at (by omega)
    have h2 := hb _ (List.getElem_mem (show n < x.length by omega))
    unfold tot
    rw [hr]
    split <;> omega
/-- From j one comes up to a, over accounts behind i alone. -/
inductive Up (l : List AA) (i : Int) : Int → Int → Prop
  | self (j : Int) : Up l i j j
  | step (j a : Int) : i < j → 0 ≤ par l j → Up l i (par l j) a → Up l i j a
theorem Up.le {l : List AA} {i j a n : Int} (hV : V l n) (h : Up l i j a) (hj : j < n) (h0 : 0 ≤ j) : a ≤ j := by
  induction h with
  | self j => exact Int.le_refl _
  | step j a h1 h2 _ ih => have := hV j h0 hj; have := ih (by omega) h2; omega
theorem Up.anc {l : List AA} {j a : Int} (h0 : 0 ≤ j) : Up l (-1) j a ↔ Anc l j a := by
  constructor
  · intro h
    induction h with
    | self j => exact .self j h0
    | step j a h1 h2 _ ih => exact .up j a h0 h2 (ih h2)
  · intro h
    induction h with
    | self j _ => exact .self j
    | up j a h1 h2 _ ih => exact .step j a (by omega) h2 (ih h2)
theorem Up.mono {l : List AA} {i i' j a : Int} (hi : i' ≤ i) (h : Up l i j a) : Up l i' j a := by
  induction h with
  | self j => exact .self j
  | step j a h1 h2 _ ih => exact .step j a (by omega) h2 ih
theorem Up.snoc {l : List AA} {i j a : Int} (h : Up l i j a) (ha : i < a) (hp : 0 ≤ par l a) : Up l i j (par l a) := by
  induction h with
  | self j => exact .step j _ ha hp (.self _)
  | step j a h1 h2 _ ih => exact .step j _ h1 h2 (ih ha hp)
/-- One account more is gone over: what comes to its parent. -/
theorem Up.into {l : List AA} {n : Int} {i p m : Nat} (hV : V l n) (hi : (i : Int) < n) (hp : par l (i : Int) = (p : Int)) (hm : (m : Int) < n) : Up l ((i : Int) - 1) (m : Int) (p : Int) ↔ Up l (i : Int) (m : Int) (p : Int) ∨ Up l (i : Int) (m : Int) (i : Int) := by
  have hpi : (p : Int) < i := by have := hV (i : Int) (by omega) hi; omega
  constructor
  · intro h
    have key : ∀ j a : Int, Up l ((i : Int) - 1) j a → a = (p : Int) → 0 ≤ j → j < n → Up l (i : Int) j (p : Int) ∨ Up l (i : Int) j (i : Int) := by
      intro j a h
      induction h with
      | self j => intro e _ _; rw [e]; exact .inl (.self _)
      | step j a h1 h2 g ih =>
        intro e h0 hn
        have hv := hV j h0 hn
        by_cases c : j = (i : Int)
        · rw [c]; exact .inr (.self _)
        · rcases ih e h2 (by omega) with h | h
          · exact .inl (.step j _ (by omega) h2 h)
          · exact .inr (.step j _ (by omega) h2 h)
    exact key _ _ h rfl (by omega) hm
  · rintro (h | h)
    · exact h.mono (by omega)
    · have := (h.mono (show (i : Int) - 1 ≤ i by omega)).snoc (by omega) (by omega)
      rw [hp] at this
      exact this
theorem Up.apart {l : List AA} {n : Int} {i p m : Nat} (hV : V l n) (hp : par l (i : Int) = (p : Int)) (hi : (i : Int) < n) (hm : (m : Int) < n) (h1 : Up l (i : Int) (m : Int) (p : Int)) (h2 : Up l (i : Int) (m : Int) (i : Int)) : False := by
  have hpi : (p : Int) < i := by have := hV (i : Int) (by omega) hi; omega
  have key : ∀ j a : Int, Up l (i : Int) j a → a = (p : Int) → 0 ≤ j → j < n → Up l (i : Int) j (i : Int) → False := by
    intro j a h
    induction h with
    | self j => intro e h0 hn g; have := g.le hV hn h0; omega
    | step j a h1 h2 g ih =>
      intro e h0 hn q
      have hv := hV j h0 hn
      cases q with
      | self => omega
      | step _ _ _ _ q => exact ih e h2 (by omega) q
  exact key _ _ h1 rfl (by omega) hm h2
/-- What comes to another account stays. -/
theorem Up.other {l : List AA} {n : Int} {i p m j : Nat} (hV : V l n) (hi : (i : Int) < n) (hm : (m : Int) < n) (hj : j ≠ p) (hp : par l (i : Int) = (p : Int)) (_ : True ∨ True) : Up l (i : Int) (m : Int) (j : Int) ↔ Up l ((i : Int) - 1) (m : Int) (j : Int) := by
  refine ⟨fun h => h.mono (by omega), fun h => ?_⟩
  have hpi : (p : Int) < i := by have := hV (i : Int) (by omega) hi; omega
  have key : ∀ q a : Int, Up l ((i : Int) - 1) q a → a = (j : Int) → 0 ≤ q → q < n → Up l (i : Int) q (j : Int) := by
    intro q a h
    induction h with
    | self q => intro e _ _; rw [e]; exact .self _
    | step q a h1 h2 g ih =>
      intro e h0 hn
      have hv := hV q h0 hn
      by_cases c : q = (i : Int)
      · subst c
        cases g with
        | self => omega
        | step _ _ h3 _ _ => omega
      · exact .step q _ (by omega) h2 (ih e h2 (by omega))
  exact key _ _ h rfl (by omega) hm
theorem Up.root {l : List AA} {n : Int} {i m j : Nat} (hV : V l n) (hi : (i : Int) < n) (hm : (m : Int) < n) (hp : par l (i : Int) < 0) : Up l (i : Int) (m : Int) (j : Int) ↔ Up l ((i : Int) - 1) (m : Int) (j : Int) := by
  refine ⟨fun h => h.mono (by omega), fun h => ?_⟩
  have key : ∀ q a : Int, Up l ((i : Int) - 1) q a → a = (j : Int) → 0 ≤ q → q < n → Up l (i : Int) q (j : Int) := by
    intro q a h
    induction h with
    | self q => intro e _ _; rw [e]; exact .self _
    | step q a h1 h2 g ih =>
      intro e h0 hn
      have hv := hV q h0 hn
      by_cases c : q = (i : Int)
      · rw [c] at h2; omega
      · exact .step q _ (by omega) h2 (ih e h2 (by omega))
  exact key _ _ h rfl (by omega) hm
theorem Up.last {l : List AA} {i m j : Int} (h : m ≤ i) : Up l i m j ↔ m = j := by
  constructor
  · intro h
    cases h with
    | self => rfl
    | step _ _ h1 _ _ => omega
  · intro h; rw [h]; exact .self _

/-- Those under an account, in their order. -/
noncomputable def undl (l : List AA) (a : Int) (n : Nat) : List Int := ((List.range n).filter fun m : Nat => (open Classical in decide (Anc l (m : Int) a))).map fun m : Nat => (m : Int)
theorem undl_succ (l : List AA) (a : Int) (n : Nat) : undl l a (n + 1) = undl l a n ++ (open Classical in if Anc l (n : Int) a then [(n : Int)] else []) := by
  unfold undl
  rw [List.range_succ, List.filter_append, List.map_append]
  congr 1
  by_cases c : Anc l (n : Int) a
  · simp [c]
  · simp [c]
theorem undl_len (l : List AA) (a : Int) (n : Nat) : (undl l a n).length ≤ n := by
  unfold undl
  rw [List.length_map]
  exact Nat.le_trans (List.length_filter_le _ _) (Nat.le_of_eq List.length_range)
theorem under_ev (l : List AA) (h120 : (l.length : Int) ≤ 120) (hV : V l (l.length : Int)) (hc : Ev (fun k => spec_ChartOk.f k l) true) (a : Nat) (ha : a < l.length) : Ev (fun k => spec_Under.f k l (a : Int)) (undl l (a : Int) l.length) := by
  have go : ∀ (d i : Nat), i + d = l.length → Ev (fun k => spec_Under.l0 k l (a : Int) (undl l (a : Int) i) (i : Int)) (undl l (a : Int) l.length) := by
    intro d
    induction d with
    | zero =>
      intro i hd
      have : i = l.length := by omega
      subst this
      refine Ev.step (fun k => by rw [spec_Under.l0]) ?_
      exact ev_neg (by omega) (Ev.now _)
    | succ d ih =>
      intro i hd
      have h := ih (i + 1) (by omega)
      rw [undl_succ] at h
      rcases sstep l h120 hV a ha (undl l (a : Int) i) i (by omega) (undl_len _ _ _) with ⟨g, k⟩ | ⟨g, k⟩
      · rw [if_pos g] at h
        exact k _ h
      · rw [if_neg g, List.append_nil] at h
        exact k _ h
  have h0 : Ev (fun k => spec_Under.l0 k l (a : Int) [] 0) (undl l (a : Int) l.length) := go l.length 0 (by omega)
  have hw : wrap64 ((l.length : Int) - 1) = (l.length : Int) - 1 := wrap_id (by omega) (by omega)
  unfold spec_Under.f
  simp only [hw]
  refine ev_bind0 rfl (Ev.bind hc (ev_pos rfl (ev_bind0 (spec_l1In_eq ..) ?_)))
  rw [decide_eq_true (by omega)]
  refine Ev.step (fun k => by rw [spec_Under.j0]) ?_
  exact ev_neg (by simp) h0
/-- The sum over those. -/
theorem sum_undl (l : List AA) (a : Int) (x : List Int) : ∀ n, ((undl l a n).map fun j => rd x j).sum = tot (fun m => Anc l (m : Int) a) x n := by
  intro n
  induction n with
  | zero => simp [undl, tot]
  | succ n ih =>
    rw [undl_succ, List.map_append, List.sum_append, ih]
    rw [show tot (fun m => Anc l (m : Int) a) x (n + 1) = tot (fun m => Anc l (m : Int) a) x n + (open Classical in if Anc l (n : Int) a then rd x (n : Int) else 0) from rfl]
    congr 1
    by_cases c : Anc l (n : Int) a
    · rw [if_pos c, if_pos c]; simp
    · rw [if_neg c, if_neg c]; rfl
theorem sum_bound : ∀ (y : List Int), (∀ v ∈ y, -1000000000000000 ≤ v ∧ v ≤ 1000000000000000) → -(y.length * 1000000000000000 : Int) ≤ y.sum ∧ y.sum ≤ y.length * 1000000000000000 := by
  intro y
  induction y with
  | nil => intro _; exact ⟨by simp, by simp⟩
  | cons v y ih =>
    intro h
    have h1 := h v (by simp)
    have h2 := ih (fun w hw => h w (by simp [hw]))
    rw [List.sum_cons, List.length_cons]
    omega
theorem undl_mem {l : List AA} {a : Int} {n : Nat} {j : Int} (h : j ∈ undl l a n) : 0 ≤ j ∧ j < (n : Int) := by
  unfold undl at h
  obtain ⟨m, hm, rfl⟩ := List.mem_map.1 h
  have := List.mem_range.1 (List.mem_filter.1 hm).1
  omega
/-- The reference adds them up. -/
theorem l2_ev (l : List AA) (x : List Int) (hx : x.length = l.length) (hb : ∀ y ∈ x, -1000000000000000 ≤ y ∧ y ≤ 1000000000000000) (h120 : (l.length : Int) ≤ 120) (acc : List Int) (i : Nat) (_P : Nat → Prop) (hacc : acc.length < 17592186044416) {r : List Int}
    (hr : Ev (fun k => spec_Roll.l1 k l x (acc ++ [tot (fun m => Anc l (m : Int) (i : Int)) x l.length]) (wrap64 ((i : Int) + 1))) r) : Ev (fun k => spec_Roll.l2 k l x acc (i : Int) 0 (undl l (i : Int) l.length) 0) r := by
  have hul := undl_len l (i : Int) l.length
  have hrd : ∀ j ∈ undl l (i : Int) l.length, -1000000000000000 ≤ rd x j ∧ rd x j ≤ 1000000000000000 := by
    intro j hj
    obtain ⟨h0, h1⟩ := undl_mem hj
    have hjn : j.toNat < x.length := by omega
    have : rd x j = x[j.toNat] := by
      have := rd_at hjn
      rw [show ((j.toNat : Nat) : Int) = j by omega] at this
      exact this
    rw [this]
    exact hb _ (List.getElem_mem hjn)
  have key : ∀ (d t : Nat), t + d = (undl l (i : Int) l.length).length → Ev (fun k => spec_Roll.l2 k l x acc (i : Int) (((undl l (i : Int) l.length).take t).map fun j => rd x j).sum (undl l (i : Int) l.length) (t : Int)) r := by
    intro d
    induction d with
    | zero =>
      intro t ht
      refine Ev.step (fun k => by rw [spec_Roll.l2]) ?_
      refine ev_neg (by omega) (ev_pos (by omega) ?_)
      rw [List.take_of_length_le (by omega), sum_undl]
      exact hr
    | succ d ih =>
      intro t ht
      have htl : t < (undl l (i : Int) l.length).length := by omega
      have hg : rd (undl l (i : Int) l.length) (t : Int) = (undl l (i : Int) l.length)[t] := rd_at htl
      obtain ⟨m0, m1⟩ := undl_mem (List.getElem_mem htl)
      have hA : (t : Int) < ((undl l (i : Int) l.length).length : Int) := Int.ofNat_lt.2 htl
      have hB : 0 ≤ (t : Int) := Int.natCast_nonneg t
      have hC : (undl l (i : Int) l.length)[t] < (x.length : Int) := by rw [hx]; exact m1
      have hD : t + 1 + d = (undl l (i : Int) l.length).length := by omega
      have hw2 : wrap64 ((t : Int) + 1) = ((t + 1 : Nat) : Int) := wrap_id (by omega) (by omega)
      have hs := sum_bound (((undl l (i : Int) l.length).take (t + 1)).map fun j => rd x j) (by
        intro v hv
        obtain ⟨j, hj, rfl⟩ := List.mem_map.1 hv
        exact hrd j (List.mem_of_mem_take hj))
      rw [List.length_map, List.length_take] at hs
      have e : (((undl l (i : Int) l.length).take (t + 1)).map fun j => rd x j).sum = (((undl l (i : Int) l.length).take t).map fun j => rd x j).sum + rd x (undl l (i : Int) l.length)[t] := by
        rw [List.take_succ_eq_append_getElem htl, List.map_append, List.sum_append]
        simp
      have hmin : ((min (t + 1) (undl l (i : Int) l.length).length : Nat) : Int) ≤ 120 := by omega
      have b1 : -9223372036854775808 ≤ (((undl l (i : Int) l.length).take (t + 1)).map fun j => rd x j).sum := by omega
      have b2 : (((undl l (i : Int) l.length).take (t + 1)).map fun j => rd x j).sum ≤ 9223372036854775807 := by omega
      have hw : wrap64 ((((undl l (i : Int) l.length).take t).map fun j => rd x j).sum + rd x (undl l (i : Int) l.length)[t]) = (((undl l (i : Int) l.length).take (t + 1)).map fun j => rd x j).sum := by rw [← e]; exact wrap_id b1 b2
      refine Ev.step (fun k => by rw [spec_Roll.l2]) ?_
      simp only [hg, hw, hw2]
      exact ev_pos hA (ev_pos hB (ev_pos m0 (ev_pos hC (ih (t + 1) hD))))
  have := key (undl l (i : Int) l.length).length 0 (by omega)
  simpa using this
/-- The program's way: from the last place up. -/
theorem roll_up (l : List AA) (h120 : (l.length : Int) ≤ 120) (hV : V l (l.length : Int)) (x : List Int) (hx : x.length = l.length) (hb : ∀ y ∈ x, -1000000000000000 ≤ y ∧ y ≤ 1000000000000000) :
    ∀ (n : Nat) (out : List Int), n ≤ l.length → out.length = l.length → (∀ j : Nat, j < l.length → rd out (j : Int) = tot (fun m => Up l ((n : Int) - 1) (m : Int) (j : Int)) x l.length) →
    ∃ r : List Int, Ev (fun k => impl_Roll.l1 k l out ((n : Int) - 1)) r ∧ r.length = l.length ∧ ∀ j : Nat, j < l.length → rd r (j : Int) = tot (fun m => Up l (-1) (m : Int) (j : Int)) x l.length := by
  intro n
  induction n with
  | zero =>
    intro out hn hl h
    refine ⟨out, ?_, hl, fun j hj => by rw [h j hj]; rfl⟩
    refine Ev.step (fun k => by rw [impl_Roll.l1]) ?_
    exact ev_neg (by omega) (Ev.now _)
  | succ n ih =>
    intro out hn hl h
    have hi : n < l.length := by omega
    have e1 : ((n + 1 : Nat) : Int) - 1 = (n : Int) := by omega
    rw [e1] at h
    rw [e1]
    have hv := hV (n : Int) (by omega) (by omega)
    have hw : wrap64 ((n : Int) - 1) = (n : Int) - 1 := wrap_id (by omega) (by omega)
    have hpar : (rd_T30 l (n : Int)).f1 = par l (n : Int) := rfl
    by_cases c : par l (n : Int) ≥ 0
    · obtain ⟨p, hp⟩ : ∃ p : Nat, par l (n : Int) = (p : Int) := ⟨(par l (n : Int)).toNat, by omega⟩
      have hpn : p < n := by omega
      have hop : rd out (p : Int) = tot (fun m => Up l (n : Int) (m : Int) (p : Int)) x l.length := h p (by omega)
      have hon : rd out (n : Int) = tot (fun m => Up l (n : Int) (m : Int) (n : Int)) x l.length := h n hi
      have hsum : rd out (p : Int) + rd out (n : Int) = tot (fun m => Up l ((n : Int) - 1) (m : Int) (p : Int)) x l.length := by
        rw [hop, hon]
        exact (tot_or x l.length (fun m hm => Up.into hV (by omega) hp (by omega)) (fun m hm h1 h2 => Up.apart hV hp (by omega) (by omega) h1 h2)).symm
      have hbd := tot_bound (fun m => Up l ((n : Int) - 1) (m : Int) (p : Int)) x hb l.length (by omega)
      have hw2 : wrap64 (rd out (p : Int) + rd out (n : Int)) = tot (fun m => Up l ((n : Int) - 1) (m : Int) (p : Int)) x l.length := by rw [hsum]; exact wrap_id (by omega) (by omega)
      obtain ⟨r, h1, h2, h3⟩ := ih (out.set p (tot (fun m => Up l ((n : Int) - 1) (m : Int) (p : Int)) x l.length)) (by omega) (by rw [List.length_set]; exact hl) (by
        intro j hj
        rw [rd_set (by omega) _ _ (by omega)]
        by_cases cj : j = p
        · subst cj; rw [if_pos rfl]
        · rw [if_neg (by omega), h j hj]
          exact tot_iff x l.length (fun m hm => Up.other hV (by omega) (by omega) (by omega) hp (.inl trivial)))
      refine ⟨r, ?_, h2, h3⟩
      refine Ev.step (fun k => by rw [impl_Roll.l1]) ?_
      simp only [hpar, hp, hw, hw2, Int.toNat_natCast]
      exact ev_pos (by omega) (ev_pos (by omega) (ev_pos (by omega) (ev_pos (by omega) (ev_pos (by omega) (ev_pos (by omega) (ev_pos (by omega) h1))))))
    · obtain ⟨r, h1, h2, h3⟩ := ih out (by omega) hl (by
        intro j hj
        rw [h j hj]
        exact tot_iff x l.length (fun m hm => Up.root hV (by omega) (by omega) (by omega)))
      refine ⟨r, ?_, h2, h3⟩
      refine Ev.step (fun k => by rw [impl_Roll.l1]) ?_
      simp only [hpar, hw]
      exact ev_pos (by omega) (ev_pos (by omega) (ev_pos (by omega) (ev_neg (by omega) h1)))

/-- The reference's way: each account's own sum. -/
theorem spec_loops (l : List AA) (h120 : (l.length : Int) ≤ 120) (hV : V l (l.length : Int)) (hc : Ev (fun k => spec_ChartOk.f k l) true) (x : List Int) (hx : x.length = l.length) (hb : ∀ y ∈ x, -1000000000000000 ≤ y ∧ y ≤ 1000000000000000) :
    ∀ (d i : Nat) (acc : List Int), i + d = l.length → acc.length = i → Ev (fun k => spec_Roll.l1 k l x acc (i : Int)) (acc ++ ((List.range d).map fun q => tot (fun m => Anc l (m : Int) ((i + q : Nat) : Int)) x l.length)) := by
  intro d
  induction d with
  | zero =>
    intro i acc hd ha
    refine Ev.step (fun k => by rw [spec_Roll.l1]) ?_
    simp only [List.range_zero, List.map_nil, List.append_nil]
    exact ev_neg (by omega) (Ev.now _)
  | succ d ih =>
    intro i acc hd ha
    have hi : i < l.length := by omega
    have hu := under_ev l h120 hV hc i hi
    have hw : wrap64 ((i : Int) + 1) = ((i + 1 : Nat) : Int) := wrap_succ hi (by omega)
    have h2 := ih (i + 1) (acc ++ [tot (fun m => Anc l (m : Int) (i : Int)) x l.length]) (by omega) (by simp [ha])
    have e : acc ++ ((List.range (d + 1)).map fun q => tot (fun m => Anc l (m : Int) ((i + q : Nat) : Int)) x l.length) = (acc ++ [tot (fun m => Anc l (m : Int) (i : Int)) x l.length]) ++ ((List.range d).map fun q => tot (fun m => Anc l (m : Int) ((i + 1 + q : Nat) : Int)) x l.length) := by
      rw [List.range_succ_eq_map, List.map_cons, List.map_map, List.append_assoc]
      congr 1
      rw [List.singleton_append]
      congr 1
      apply List.map_congr_left
      intro q _
      show tot _ x l.length = tot _ x l.length
      rw [show i + (q + 1) = i + 1 + q by omega]
    rw [e]
    refine Ev.step (fun k => by rw [spec_Roll.l1]) ?_
    refine ev_pos (by omega) (Ev.bind hu ?_)
    refine l2_ev l x hx hb h120 acc i (fun m => Anc l (m : Int) (i : Int)) (by omega) ?_
    rw [hw]
    exact h2

/-- What both give: nothing, or each account's sum. -/
theorem roll_main (l : List AA) (x : List Int) (hl : (l.length : Int) ≤ 1048576 ∧ ∀ x ∈ l, B30 1048576 x) (hx : (x.length : Int) ≤ 1048576) : ∃ r : List Int, Ev (fun k => spec_Roll.f k l x) r ∧ Ev (fun k => impl_Roll.f k l x) r ∧ (r.length : Int) ≤ 1048576 ∧
    (r = [] ∨ ((l.length : Int) ≤ 120 ∧ V l (l.length : Int) ∧ Ev (fun k => spec_ChartOk.f k l) true ∧ x.length = l.length ∧ r.length = l.length ∧ (∀ y ∈ x, -1000000000000000 ≤ y ∧ y ≤ 1000000000000000) ∧ ∀ j : Nat, j < l.length → rd r (j : Int) = tot (fun m => Anc l (m : Int) (j : Int)) x l.length)) := by
  obtain ⟨b, q, h1, h2, h3⟩ := chart_both l hl
  have hl1 := hl.1
  have sT : Ev (fun k => spec_Roll.j0 k l x ([] : List Int) true) ([] : List Int) := by
    refine Ev.step (fun k => by rw [spec_Roll.j0]) ?_
    exact ev_pos rfl (Ev.now _)
  have iT : Ev (fun k => impl_Roll.j0 k l x true) ([] : List Int) := by
    refine Ev.step (fun k => by rw [impl_Roll.j0]) ?_
    exact ev_pos rfl (Ev.now _)
  have hok : Ev (fun k => impl_ChartOk.f k l) b := by
    unfold impl_ChartOk.f
    exact Ev.bind h2 (Ev.now _)
  unfold spec_Roll.f impl_Roll.f
  by_cases c : b = true
  case neg => exact ⟨[], ev_bind0 rfl (Ev.bind h1 (ev_neg c sT)), Ev.bind hok (ev_neg c iT), by simp, .inl rfl⟩
  obtain ⟨h120, m', I⟩ := h3 c
  by_cases cn : (x.length : Int) = (l.length : Int)
  case neg =>
    have e : ((x.length : Int) != (l.length : Int)) = true := by simpa using cn
    exact ⟨[], ev_bind0 rfl (Ev.bind h1 (ev_pos c (by rw [e]; exact sT))), Ev.bind hok (ev_pos c (by rw [e]; exact iT)), by simp, .inl rfl⟩
  have e : ((x.length : Int) != (l.length : Int)) = false := by simpa using cn
  have hxl : x.length = l.length := by omega
  have hc : Ev (fun k => spec_ChartOk.f k l) true := by rw [c] at h1; exact h1
  -- are all within what they may be
  have hs := each_mem_go x (fun k i => spec_Roll.l0 k l x [] i) (fun y => -1000000000000000 ≤ y ∧ y ≤ 1000000000000000) (fun k => spec_Roll.l1 k l x [] 0) ([] : List Int) (by
    intro i hi
    have hrd : rd x (i : Int) = x[i] := rd_at hi
    have hw : wrap64 ((i : Int) + 1) = ((i + 1 : Nat) : Int) := wrap_succ hi (by omega)
    by_cases cb : -1000000000000000 ≤ x[i] ∧ x[i] ≤ 1000000000000000
    · refine .inl ⟨cb, fun r hr => ?_⟩
      refine Ev.step (fun k => by rw [spec_Roll.l0]) ?_
      simp only [hrd, hw, spec_l1In_eq, Option.bind_some, decide_eq_true_eq]
      exact ev_pos (by omega) (ev_pos (by omega) (ev_pos cb hr))
    · refine .inr ⟨cb, ?_⟩
      refine Ev.step (fun k => by rw [spec_Roll.l0]) ?_
      simp only [hrd, hw, spec_l1In_eq, Option.bind_some, decide_eq_true_eq]
      exact ev_pos (by omega) (ev_pos (by omega) (ev_neg cb (Ev.now _)))) (by
    intro r hr
    refine Ev.step (fun k => by rw [spec_Roll.l0]) ?_
    exact ev_neg (by omega) hr)
  have hi := each_mem_go x (fun k i => impl_Roll.l0 k l x x (x.length : Int) i) (fun y => -1000000000000000 ≤ y ∧ y ≤ 1000000000000000) (fun k => impl_Roll.l1 k l x (wrap64 ((x.length : Int) - 1))) ([] : List Int) (by
    intro i hi
    have hrd : rd x (i : Int) = x[i] := rd_at hi
    have hw : wrap64 ((i : Int) + 1) = ((i + 1 : Nat) : Int) := wrap_succ hi (by omega)
    by_cases cb : -1000000000000000 ≤ x[i] ∧ x[i] ≤ 1000000000000000
    · refine .inl ⟨cb, fun r hr => ?_⟩
      refine Ev.step (fun k => by rw [impl_Roll.l0]) ?_
      simp only [hrd, hw, impl_between_eq, Option.bind_some, decide_eq_true_eq]
      exact ev_pos (by omega) (ev_pos (by omega) (ev_pos (by omega) (ev_pos cb hr)))
    · refine .inr ⟨cb, ?_⟩
      refine Ev.step (fun k => by rw [impl_Roll.l0]) ?_
      simp only [hrd, hw, impl_between_eq, Option.bind_some, decide_eq_true_eq]
      exact ev_pos (by omega) (ev_pos (by omega) (ev_pos (by omega) (ev_neg cb (Ev.now _))))) (by
    intro r hr
    refine Ev.step (fun k => by rw [impl_Roll.l0]) ?_
    simp only [Option.bind_some, List.nil_append]
    refine ev_neg (by omega) (ev_pos ?_ hr)
    simp
    omega)
  have sJ : ∀ r, Ev (fun k => spec_Roll.l0 k l x [] 0) r → Ev (fun k => spec_Roll.j0 k l x ([] : List Int) false) r := by
    intro r hr
    refine Ev.step (fun k => by rw [spec_Roll.j0]) ?_
    exact ev_neg (by simp) hr
  have iJ : ∀ r, Ev (fun k => impl_Roll.l0 k l x x (x.length : Int) 0) r → Ev (fun k => impl_Roll.j0 k l x false) r := by
    intro r hr
    refine Ev.step (fun k => by rw [impl_Roll.j0]) ?_
    exact ev_neg (by simp) hr
  rcases hs with ⟨hb, hs⟩ | ⟨hb, hs⟩
  · rcases hi with ⟨_, hi⟩ | ⟨hb', _⟩
    · have g1 := spec_loops l h120 I.v hc x hxl hb l.length 0 [] (by omega) rfl
      obtain ⟨r, g2, g3, g4⟩ := roll_up l h120 I.v x hxl hb l.length x (Nat.le_refl _) hxl (by
        intro j hj
        rw [tot_one hj (fun m hm => (Up.last (show (m : Int) ≤ (l.length : Int) - 1 by omega)).trans (by omega))])
      have er : r = [] ++ ((List.range l.length).map fun q => tot (fun m => Anc l (m : Int) ((0 + q : Nat) : Int)) x l.length) := by
        rw [List.nil_append]
        apply List.ext_getElem (by simp [g3])
        intro j a1 a2
        have := g4 j (by omega)
        rw [rd_at a1] at this
        rw [this]
        simp only [List.getElem_map, List.getElem_range, Nat.zero_add]
        exact tot_iff x l.length (fun m hm => Up.anc (by omega))
      rw [← er] at g1
      have hw : wrap64 ((x.length : Int) - 1) = (l.length : Int) - 1 := by rw [wrap_id (by omega) (by omega)]; omega
      rw [← hw] at g2
      exact ⟨r, ev_bind0 rfl (Ev.bind h1 (ev_pos c (by rw [e]; exact sJ _ (hs _ g1)))), Ev.bind hok (ev_pos c (by rw [e]; exact iJ _ (hi _ g2))), by omega, .inr ⟨h120, I.v, hc, hxl, g3, hb, fun j hj => (g4 j hj).trans (tot_iff x l.length (fun m hm => Up.anc (by omega)))⟩⟩
    · exact absurd hb hb'
  · rcases hi with ⟨hb', _⟩ | ⟨_, hi⟩
    · exact absurd hb' hb
    · exact ⟨[], ev_bind0 rfl (Ev.bind h1 (ev_pos c (by rw [e]; exact sJ _ hs))), Ev.bind hok (ev_pos c (by rw [e]; exact iJ _ hi)), by simp, .inl rfl⟩

/-! ### Draws -/
theorem and255 (n : Int) : Go.bits .and .i64 n 255 = n % 256 := by
  have h255 : (BitVec.ofInt 64 255).toNat = 2 ^ 8 - 1 := by decide
  have key : (BitVec.ofInt 64 n &&& BitVec.ofInt 64 255).toNat = (n % ((2 ^ 64 : Nat) : Int)).toNat % 2 ^ 8 := by
    rw [BitVec.toNat_and, BitVec.toNat_ofInt, h255, Nat.and_two_pow_sub_one_eq_mod]
  show IntKind.i64.wrap ((BitVec.ofInt 64 n &&& BitVec.ofInt 64 255).toNat : Nat) = n % 256
  rw [key, IntKind.wrap_i64]
  omega
/-- A draw's state: where it stands in its bytes. -/
def Cu (b : List Int) (i : Int) : Prop := 0 ≤ i ∧ i ≤ (b.length : Int) ∧ (b.length : Int) ≤ 140737488351232
theorem byte_ok (b : List Int) (i h : Int) (hc : Cu b i) : ∃ x i' h', spec_l1Byte.f b i h = some (x, i', h') ∧ 0 ≤ x ∧ x ≤ 255 ∧ Cu b i' := by
  obtain ⟨h0, h1, h2⟩ := hc
  unfold spec_l1Byte.f
  simp only [and255]
  by_cases c : i < (b.length : Int)
  · rw [if_pos c, if_pos h0]
    refine ⟨_, _, _, rfl, Int.emod_nonneg _ (by decide), ?_, ?_⟩
    · have := Int.emod_lt_of_pos (wrap64 (Go.bits .xor .i64 ((wrap64 ((wrap64 (h * 6364136223846793005)) + 1442695040888963407)) / 8589934592) ((wrap64 ((wrap64 (h * 6364136223846793005)) + 1442695040888963407)) / 35184372088832) % 256 + (wrap64 (rd b i)))) (show (0 : Int) < 256 by decide)
      exact Int.le_of_lt_add_one this
    · rw [wrap_id (by omega) (by omega)]
      exact ⟨by omega, by omega, h2⟩
  · rw [if_neg c]
    refine ⟨_, _, _, rfl, Int.emod_nonneg _ (by decide), ?_, h0, h1, h2⟩
    exact Int.le_of_lt_add_one (Int.emod_lt_of_pos _ (show (0 : Int) < 256 by decide))
theorem below_ok (b : List Int) (i h n : Int) (hc : Cu b i) : ∃ x i' h', spec_l1Below.f b i h n = some (x, i', h') ∧ Cu b i' ∧ 0 ≤ x ∧ (0 < n → x < n) ∧ (n ≤ 0 → x = 0) := by
  unfold spec_l1Below.f
  by_cases c0 : n ≤ 0
  · exact ⟨0, i, h, if_pos c0, hc, by decide, fun h => by omega, fun _ => rfl⟩
  rw [if_neg c0]
  obtain ⟨x1, i1, h1, e1, a1, b1, c1⟩ := byte_ok b i h hc
  by_cases c : n ≤ 256
  · rw [if_pos c, e1, Option.bind_some, if_neg (by omega)]
    exact ⟨_, _, _, rfl, c1, Int.tmod_nonneg _ a1, fun _ => Int.tmod_lt_of_pos _ (by omega), fun h => absurd h c0⟩
  · obtain ⟨x2, i2, h2, e2, a2, b2, c2⟩ := byte_ok b i1 h1 c1
    obtain ⟨x3, i3, h3, e3, a3, b3, c3⟩ := byte_ok b i2 h2 c2
    obtain ⟨x4, i4, h4, e4, a4, b4, c4⟩ := byte_ok b i3 h3 c3
    rw [if_neg c, e1, Option.bind_some, e2, Option.bind_some, e3, Option.bind_some, e4, Option.bind_some, if_neg (by omega)]
    refine ⟨_, _, _, rfl, c4, Int.tmod_nonneg _ ?_, fun _ => Int.tmod_lt_of_pos _ (by omega), fun h => absurd h c0⟩
    rw [wrap_id (x := x1 * 16777216) (by omega) (by omega), wrap_id (x := x2 * 65536) (by omega) (by omega), wrap_id (x := x3 * 256) (by omega) (by omega), wrap_id (x := x1 * 16777216 + x2 * 65536) (by omega) (by omega), wrap_id (x := x1 * 16777216 + x2 * 65536 + x3 * 256) (by omega) (by omega), wrap_id (by omega) (by omega)]
    omega
theorem once_ok (b : List Int) (i h n : Int) (hc : Cu b i) : ∃ (v : Bool) (i' h' : Int), spec_l1Once.f b i h n = some (v, i', h') ∧ Cu b i' := by
  obtain ⟨x, i', h', e, c, _⟩ := below_ok b i h n hc
  unfold spec_l1Once.f
  rw [e]
  exact ⟨_, _, _, rfl, c⟩
theorem pick_ok (b : List Int) (i h : Int) (l : List ByteArray) (hl : 0 < l.length) (hc : Cu b i) : ∃ s i' h', spec_l1Pick.f b i h l = some (s, i', h') ∧ Cu b i' ∧ s ∈ l := by
  obtain ⟨x, i', h', e, c, x0, x1, _⟩ := below_ok b i h (l.length : Int) hc
  have := x1 (by omega)
  unfold spec_l1Pick.f
  rw [e, Option.bind_some, if_pos x0, if_pos this]
  refine ⟨_, _, _, rfl, c, ?_⟩
  have hx : x.toNat < l.length := by omega
  have e2 := rdOf_at hx ByteArray.empty
  rw [show ((x.toNat : Nat) : Int) = x by omega] at e2
  show rdOf ByteArray.empty l x ∈ l
  rw [e2]
  exact List.getElem_mem hx
theorem pickInt_ok (b : List Int) (i h : Int) (l : List Int) (hl : 0 < l.length) (hc : Cu b i) : ∃ s i' h', spec_l1PickInt.f b i h l = some (s, i', h') ∧ Cu b i' ∧ s ∈ l := by
  obtain ⟨x, i', h', e, c, x0, x1, _⟩ := below_ok b i h (l.length : Int) hc
  have := x1 (by omega)
  unfold spec_l1PickInt.f
  rw [e, Option.bind_some, if_pos x0, if_pos this]
  refine ⟨_, _, _, rfl, c, ?_⟩
  have hx : x.toNat < l.length := by omega
  have e2 := rd_at hx
  rw [show ((x.toNat : Nat) : Int) = x by omega] at e2
  show rd l x ∈ l
  rw [e2]
  exact List.getElem_mem hx
theorem spoil_ok (b : List Int) (i h a : Int) (l : List Int) (hl : 0 < l.length) (hc : Cu b i) : ∃ s i' h', spec_l1Spoil.f b i h a l = some (s, i', h') ∧ Cu b i' ∧ (s = a ∨ s ∈ l) := by
  obtain ⟨v, i1, h1, e, c⟩ := once_ok b i h 40 hc
  unfold spec_l1Spoil.f
  rw [e, Option.bind_some]
  by_cases cv : v = true
  · obtain ⟨s, i2, h2, e2, c2, m⟩ := pickInt_ok b i1 h1 l hl c
    rw [if_pos cv, e2]
    exact ⟨_, _, _, rfl, c2, .inr m⟩
  · rw [if_neg cv]
    exact ⟨_, _, _, rfl, c, .inl rfl⟩
theorem name_ok (b : List Int) (i h : Int) (hc : Cu b i) : ∃ s i' h', spec_l1DrawName.f b i h = some (s, i', h') ∧ Cu b i' ∧ (s.size : Int) ≤ 21 := by
  unfold spec_l1DrawName.f
  obtain ⟨s, i1, h1, e, c, m⟩ := pick_ok b i h [(⟨#[98, 97, 110, 107]⟩ : ByteArray), (⟨#[99, 97, 115, 104]⟩ : ByteArray), (⟨#[115, 97, 108, 101, 115]⟩ : ByteArray), (⟨#[115, 116, 111, 99, 107]⟩ : ByteArray), (⟨#[97]⟩ : ByteArray), (⟨#[98]⟩ : ByteArray), (⟨#[99, 45, 49]⟩ : ByteArray), (⟨#[100, 117, 101, 115]⟩ : ByteArray), (⟨#[116, 97, 120, 46, 100, 117, 101]⟩ : ByteArray), (⟨#[82, 50]⟩ : ByteArray), (⟨#[103, 111, 111, 100, 115]⟩ : ByteArray), (⟨#[119, 97, 103, 101, 115]⟩ : ByteArray), (⟨#[114, 101, 110, 116]⟩ : ByteArray), (⟨#[120, 95, 121]⟩ : ByteArray), (⟨#[112, 108, 97, 110, 116]⟩ : ByteArray)] (by decide) hc
  rw [e]
  refine ⟨_, _, _, rfl, c, ?_⟩
  show (s.size : Int) ≤ 21
  clear e
  revert m
  generalize s = t
  intro m
  simp only [List.mem_cons, List.not_mem_nil, or_false] at m
  rcases m with m | m | m | m | m | m | m | m | m | m | m | m | m | m | m <;> (rw [m]; decide)
theorem new_ok (l : List Int) (hl : (l.length : Int) ≤ 140737488351232) : ∃ h, Ev (fun k => spec_l1New.f k l) (l, 0, h) := by
  have go : ∀ (d i : Nat) (h : Int), i + d = l.length → ∃ h', Ev (fun k => spec_l1New.l0 k l h (i : Int)) (l, 0, h') := by
    intro d
    induction d with
    | zero =>
      intro i h hd
      refine ⟨h, Ev.step (fun k => by rw [spec_l1New.l0]) ?_⟩
      exact ev_neg (by omega) (Ev.now _)
    | succ d ih =>
      intro i h hd
      have hw : wrap64 ((i : Int) + 1) = ((i + 1 : Nat) : Int) := wrap_id (by omega) (by omega)
      by_cases c : (i : Int) < 4000
      · obtain ⟨h', hh⟩ := ih (i + 1) (Go.bits .and .i64 (wrap64 ((wrap64 ((wrap64 (h * 131)) + (wrap64 (rd l (i : Int))))) + 7)) 1073741823) (by omega)
        refine ⟨h', Ev.step (fun k => by rw [spec_l1New.l0]) ?_⟩
        simp only [hw]
        exact ev_pos (by omega) (ev_pos c (ev_pos (by omega) hh))
      · refine ⟨h, Ev.step (fun k => by rw [spec_l1New.l0]) ?_⟩
        exact ev_pos (by omega) (ev_neg c (Ev.now _))
  obtain ⟨h, hh⟩ := go l.length 0 (wrap64 (71933 + (l.length : Int))) (by omega)
  exact ⟨h, by unfold spec_l1New.f; exact hh⟩
theorem anyName_ok (b : List Int) (i h : Int) (hc : Cu b i) : ∃ s i' h', spec_l1AnyName.f b i h = some (s, i', h') ∧ Cu b i' ∧ (s.size : Int) ≤ 21 := by
  unfold spec_l1AnyName.f
  obtain ⟨v, i1, h1, e1, c1⟩ := once_ok b i h 20 hc
  rw [e1, Option.bind_some]
  by_cases cv : v = true
  · obtain ⟨s, i2, h2, e2, c2, m⟩ := pick_ok b i1 h1 [(⟨#[]⟩ : ByteArray), (⟨#[97, 32, 98]⟩ : ByteArray), (⟨#[97, 98, 99, 100, 101, 102, 103, 104, 105, 106, 107, 108, 109, 110, 111, 112, 113, 114, 115, 116]⟩ : ByteArray), (⟨#[97, 98, 99, 100, 101, 102, 103, 104, 105, 106, 107, 108, 109, 110, 111, 112, 113, 114, 115, 116, 117]⟩ : ByteArray), (⟨#[255]⟩ : ByteArray), (⟨#[97, 44, 98]⟩ : ByteArray), (⟨#[195, 169]⟩ : ByteArray)] (by decide) c1
    rw [if_pos cv, e2]
    refine ⟨_, _, _, rfl, c2, ?_⟩
    show (s.size : Int) ≤ 21
    clear e2
    revert m
    generalize s = t
    intro m
    simp only [List.mem_cons, List.not_mem_nil, or_false] at m
    rcases m with m | m | m | m | m | m | m <;> (rw [m]; decide)
  · obtain ⟨s, i2, h2, e2, c2, m⟩ := name_ok b i1 h1 c1
    rw [if_neg cv, e2]
    exact ⟨_, _, _, rfl, c2, m⟩
/-- A drawn chart: each part of an earlier one or of none; the names short. -/
def Dr (l : List AA) (m : Int) : Prop := (l.length : Int) ≤ m ∧ (∀ j : Int, 0 ≤ j → j < (l.length : Int) → par l j < j ∧ -1 ≤ par l j) ∧ ∀ y ∈ l, B30 1048576 y
theorem text_ok : ∀ (n : Nat), n < 100000 → ∃ s, Ev (fun k => spec_l1Text.f k (n : Int)) s ∧ (s.size : Int) ≤ 20 := by
  have step : ∀ (m : Nat), (m : Int) < 10 → ((⟨#[48, 49, 50, 51, 52, 53, 54, 55, 56, 57]⟩ : ByteArray).extract ((m : Int)).toNat (((m + 1 : Nat) : Int)).toNat).size = 1 := by
    intro m hm
    rw [ByteArray.size_extract]
    have : (⟨#[48, 49, 50, 51, 52, 53, 54, 55, 56, 57]⟩ : ByteArray).size = 10 := rfl
    omega
  have key : ∀ (f n : Nat), n < 10 ^ (f + 1) → f < 5 → ∃ s, Ev (fun k => spec_l1Text.f k (n : Int)) s ∧ (s.size : Int) ≤ f + 1 := by
    intro f
    induction f with
    | zero =>
      intro n hn _
      have hn' : (n : Int) < 10 := by omega
      refine ⟨(⟨#[48, 49, 50, 51, 52, 53, 54, 55, 56, 57]⟩ : ByteArray).extract ((n : Int)).toNat ((n : Int) + 1).toNat, Ev.step (fun k => by rw [spec_l1Text.f]) ?_, ?_⟩
      · have hwn : wrap64 ((n : Int) + 1) = (n : Int) + 1 := wrap_id (by omega) (by omega)
        simp only [hwn]
        exact ev_neg (by omega) (ev_pos hn' (ev_pos (by omega) (ev_pos (by omega) (ev_pos (by omega) (Ev.now _)))))
      · have := step n hn'
        rw [show ((n + 1 : Nat) : Int) = (n : Int) + 1 by omega] at this
        omega
    | succ f ih =>
      intro n hn hf
      by_cases c : (n : Int) < 10
      · obtain ⟨s, h1, h2⟩ := ih n (by
          have : 10 ≤ 10 ^ (f + 1) := by
            calc 10 = 10 ^ 1 := rfl
              _ ≤ 10 ^ (f + 1) := Nat.pow_le_pow_right (by decide) (by omega)
          omega) (by omega)
        exact ⟨s, h1, by omega⟩
      · obtain ⟨s, h1, h2⟩ := ih (n / 10) (by rw [Nat.pow_succ] at hn; omega) (by omega)
        have ed : Int.tdiv (n : Int) 10 = ((n / 10 : Nat) : Int) := by rw [Int.tdiv_eq_ediv_of_nonneg (by omega)]; omega
        have em : Int.tmod (n : Int) 10 = ((n % 10 : Nat) : Int) := by rw [Int.tmod_eq_emod_of_nonneg (by omega)]; omega
        have hn5 : n < 10 ^ 6 := Nat.lt_of_lt_of_le hn (Nat.pow_le_pow_right (by decide) (by omega))
        have hw : wrap64 ((n / 10 : Nat) : Int) = ((n / 10 : Nat) : Int) := wrap_id (by omega) (by omega)
        have hw2 : wrap64 (((n % 10 : Nat) : Int) + 1) = ((n % 10 + 1 : Nat) : Int) := by rw [wrap_id (by omega) (by omega)]; omega
        have hz := step (n % 10) (by omega)
        refine ⟨s ++ (⟨#[48, 49, 50, 51, 52, 53, 54, 55, 56, 57]⟩ : ByteArray).extract (((n % 10 : Nat) : Int)).toNat (((n % 10 + 1 : Nat) : Int)).toNat, Ev.step (fun k => by rw [spec_l1Text.f]) ?_, ?_⟩
        · simp only [ed, em, hw, hw2]
          refine ev_neg (by omega) (ev_neg c (Ev.bind h1 (ev_pos (by omega) (ev_pos (by omega) (ev_pos (by omega) (ev_pos (by omega) (Ev.now _)))))))
        · rw [ByteArray.size_append]
          omega
  intro n hn
  obtain ⟨s, h1, h2⟩ := key 4 n (by omega) (by decide)
  exact ⟨s, h1, by omega⟩
theorem deep_ok (l : List AA) (m : Int) (hl : Dr l m) (hm : m ≤ 1000) : ∀ (n : Nat) (c : Int), (n : Int) < (l.length : Int) → 0 ≤ c → c + n ≤ 100000 → ∃ r, Ev (fun k => spec_l4Deep.l0 k l (n : Int) c) r := by
  intro n
  induction n using Nat.strongRecOn with
  | ind n ih =>
    intro c hn c0 c1
    obtain ⟨p1, p2⟩ := hl.2.1 (n : Int) (by omega) hn
    have hpar : (rd_T30 l (n : Int)).f1 = par l (n : Int) := rfl
    have hw : wrap64 (c + 1) = c + 1 := wrap_id (by omega) (by omega)
    by_cases cp : par l (n : Int) ≥ 0
    · obtain ⟨p, hp⟩ : ∃ p : Nat, par l (n : Int) = (p : Int) := ⟨(par l (n : Int)).toNat, by omega⟩
      obtain ⟨r, hr⟩ := ih p (by omega) (c + 1) (by omega) (by omega) (by omega)
      refine ⟨r, Ev.step (fun k => by rw [spec_l4Deep.l0]) ?_⟩
      simp only [hpar, hp, hw]
      exact ev_pos (by omega) (ev_pos (by omega) (ev_pos (by omega) hr))
    · refine ⟨c, Ev.step (fun k => by rw [spec_l4Deep.l0]) ?_⟩
      simp only [hpar]
      exact ev_pos (by omega) (ev_pos (by omega) (ev_neg (by omega) (Ev.now _)))
theorem Dr_add {l : List AA} {m : Int} (hl : Dr l m) (y : AA) (hy : B30 1048576 y) (hp : y.f1 < (l.length : Int)) (hp2 : -1 ≤ y.f1) : Dr (l ++ [y]) (m + 1) := by
  obtain ⟨h1, h2, h3⟩ := hl
  refine ⟨by simp; omega, fun j j0 j1 => ?_, fun z hz => ?_⟩
  · have hj : j.toNat < (l ++ [y]).length := by simp at j1 ⊢; omega
    have e : par (l ++ [y]) j = ((l ++ [y])[j.toNat]).f1 := by
      unfold par
      congr 1
      exact getD_at hj _
    rw [e]
    rcases Nat.lt_or_ge j.toNat l.length with c | c
    · have := h2 j j0 (by omega)
      have e2 : par l j = l[j.toNat].f1 := by
        unfold par
        congr 1
        exact getD_at c _
      rw [List.getElem_append_left c, ← e2]
      exact this
    · have : j.toNat = l.length := by simp at hj; omega
      rw [List.getElem_append_right c]
      simp only [List.getElem_singleton]
      exact ⟨by omega, hp2⟩
  · rcases List.mem_append.1 hz with h | h
    · exact h3 z h
    · rw [List.mem_singleton.1 h]; exact hy
theorem names_ok (b : List Int) (l : List AA) (hl : (l.length : Int) ≤ 1000) (n i h p kd : Int) : ∀ (d j : Nat) (s : ByteArray), j + d = l.length → (s.size : Int) ≤ 21 → ∃ s' : ByteArray, (s'.size : Int) ≤ 21 ∧ ∀ r, Ev (fun k => spec_l4DrawChart.l1 k l n (l.length : Int) (l.length : Int) b i h s' p kd) r → Ev (fun k => spec_l4DrawChart.l1 k l n (l.length : Int) (j : Int) b i h s p kd) r := by
  intro d
  induction d with
  | zero =>
    intro j s hd hs
    have : j = l.length := by omega
    subst this
    exact ⟨s, hs, fun r hr => hr⟩
  | succ d ih =>
    intro j s hd hs
    have hj : j < l.length := by omega
    by_cases c : ((rd_T30 l (j : Int)).f0).toList = s.toList
    · obtain ⟨t, ht, hz⟩ := text_ok l.length (by omega)
      have hsz : ((⟨#[110]⟩ : ByteArray) ++ t).size = 1 + t.size := by rw [ByteArray.size_append]; rfl
      obtain ⟨s', h1, h2⟩ := ih (j + 1) ((⟨#[110]⟩ : ByteArray) ++ t) (by omega) (by omega)
      refine ⟨s', h1, fun r hr => ?_⟩
      refine Ev.step (fun k => by rw [spec_l4DrawChart.l1]) ?_
      simp only [wrap_succ hj (show l.length ≤ 9223372036854775807 by omega)]
      exact ev_pos (by omega) (ev_pos (by omega) (ev_pos (by omega) (ev_pos c (Ev.bind ht (ev_pos (by omega) (h2 r hr))))))
    · obtain ⟨s', h1, h2⟩ := ih (j + 1) s (by omega) hs
      refine ⟨s', h1, fun r hr => ?_⟩
      refine Ev.step (fun k => by rw [spec_l4DrawChart.l1]) ?_
      simp only [wrap_succ hj (show l.length ≤ 9223372036854775807 by omega)]
      exact ev_pos (by omega) (ev_pos (by omega) (ev_pos (by omega) (ev_neg c (h2 r hr))))
theorem chart_loop (b : List Int) : ∀ (n : Nat) (l : List AA) (i h : Int), (l.length : Int) + n ≤ 500 → Dr l (l.length : Int) → Cu b i → ∃ (l' : List AA) (i' h' : Int), Ev (fun k => spec_l4DrawChart.l0 k l (n : Int) b i h) (l', i', h') ∧ Cu b i' ∧ (l'.length : Int) = (l.length : Int) + n ∧ ∀ y ∈ l', B30 1048576 y := by
  intro n
  induction n with
  | zero =>
    intro l i h hn hl hc
    refine ⟨l, i, h, Ev.step (fun k => by rw [spec_l4DrawChart.l0]) ?_, hc, by omega, hl.2.2⟩
    exact ev_neg (by omega) (Ev.now _)
  | succ n ih =>
    intro l i h hn hl hc
    obtain ⟨s, i1, h1, e1, c1, z1⟩ := name_ok b i h hc
    obtain ⟨q, i2, h2, e2, c2, q0, q1, _⟩ := below_ok b i1 h1 5 c1
    have hw : wrap64 (((n + 1 : Nat) : Int) - 1) = (n : Int) := by rw [wrap_id (by omega) (by omega)]; omega
    have hwl : wrap64 ((l.length : Int) - 1) = (l.length : Int) - 1 := wrap_id (by omega) (by omega)
    obtain ⟨s', z2, hs'⟩ := names_ok b l (by omega) ((n + 1 : Nat) : Int) i2 h2 (-1) (wrap64 (1 + q)) l.length 0 s (by omega) z1
    have hB : ∀ p kd : Int, B30 1048576 (⟨s', p, kd⟩ : AA) := fun p kd => show (s'.size : Int) ≤ 1048576 by omega
    have plain : ∀ (i h : Int), Cu b i → ∃ (l' : List AA) (i' h' : Int), Ev (fun k => spec_l4DrawChart.l0 k (l ++ [(⟨s', -1, wrap64 (1 + q)⟩ : AA)]) (wrap64 (((n + 1 : Nat) : Int) - 1)) b i h) (l', i', h') ∧ Cu b i' ∧ (l'.length : Int) = (l.length : Int) + ((n + 1 : Nat) : Int) ∧ ∀ y ∈ l', B30 1048576 y := by
      intro i h hc
      rw [hw]
      have hd := Dr_add hl (⟨s', -1, wrap64 (1 + q)⟩ : AA) (hB _ _) (by show (-1 : Int) < _; omega) (by show (-1 : Int) ≤ -1; omega)
      obtain ⟨l', i', h', g1, g2, g3, g4⟩ := ih (l ++ [(⟨s', -1, wrap64 (1 + q)⟩ : AA)]) i h (by simp; omega) (by simpa using hd) hc
      exact ⟨l', i', h', g1, g2, by simp at g3 ⊢; omega, g4⟩
    have under : ∀ (on : Nat) (i h : Int), on < l.length → Cu b i → ∃ (l' : List AA) (i' h' : Int), Ev (fun k => spec_l4DrawChart.l0 k (l ++ [(⟨s', (on : Int), (rd_T30 l (on : Int)).f2⟩ : AA)]) (wrap64 (((n + 1 : Nat) : Int) - 1)) b i h) (l', i', h') ∧ Cu b i' ∧ (l'.length : Int) = (l.length : Int) + ((n + 1 : Nat) : Int) ∧ ∀ y ∈ l', B30 1048576 y := by
      intro on i h hon hc
      rw [hw]
      have hd := Dr_add hl (⟨s', (on : Int), (rd_T30 l (on : Int)).f2⟩ : AA) (hB _ _) (by show (on : Int) < _; omega) (by show (-1 : Int) ≤ on; omega)
      obtain ⟨l', i', h', g1, g2, g3, g4⟩ := ih (l ++ [(⟨s', (on : Int), (rd_T30 l (on : Int)).f2⟩ : AA)]) i h (by simp; omega) (by simpa using hd) hc
      exact ⟨l', i', h', g1, g2, by simp at g3 ⊢; omega, g4⟩
    have up : ∀ (w : Nat), w ≤ 10 → ∀ (on : Nat) (i h : Int), on < l.length → Cu b i → ∃ (l' : List AA) (i' h' : Int), Ev (fun k => spec_l4DrawChart.l2 k l ((n + 1 : Nat) : Int) (on : Int) (w : Int) b i h s' (-1) (wrap64 (1 + q))) (l', i', h') ∧ Cu b i' ∧ (l'.length : Int) = (l.length : Int) + ((n + 1 : Nat) : Int) ∧ ∀ y ∈ l', B30 1048576 y := by
      have fin : ∀ (on : Nat) (i h : Int), on < l.length → Cu b i → ∃ (t : Int), Ev (fun k => spec_l4Deep.f k l (on : Int)) t := by
        intro on i h hon hc
        obtain ⟨t, ht⟩ := deep_ok l (l.length : Int) hl (by omega) on 0 (by omega) (by omega) (by omega)
        exact ⟨t, by unfold spec_l4Deep.f; exact ht⟩
      intro w
      induction w with
      | zero =>
        intro _ on i h hon hc
        obtain ⟨t, ht⟩ := fin on i h hon hc
        by_cases ct : t < 8
        · obtain ⟨l', i', h', g1, g2⟩ := under on i h hon hc
          refine ⟨l', i', h', Ev.step (fun k => by rw [spec_l4DrawChart.l2]) ?_, g2⟩
          exact ev_neg (by omega) (Ev.bind ht (ev_pos ct (ev_pos (by omega) (ev_pos (by omega) (ev_pos (by omega) g1)))))
        · obtain ⟨l', i', h', g1, g2⟩ := plain i h hc
          refine ⟨l', i', h', Ev.step (fun k => by rw [spec_l4DrawChart.l2]) ?_, g2⟩
          exact ev_neg (by omega) (Ev.bind ht (ev_neg ct (ev_pos (by omega) g1)))
      | succ w iw =>
        intro hw10 on i h hon hc
        have hpar : (rd_T30 l (on : Int)).f1 = par l (on : Int) := rfl
        obtain ⟨p1, p2⟩ := hl.2.1 (on : Int) (by omega) (by omega)
        by_cases cp : par l (on : Int) ≥ 0
        · obtain ⟨p, hp⟩ : ∃ p : Nat, par l (on : Int) = (p : Int) := ⟨(par l (on : Int)).toNat, by omega⟩
          obtain ⟨l', i', h', g1, g2⟩ := iw (by omega) p i h (by omega) hc
          refine ⟨l', i', h', Ev.step (fun k => by rw [spec_l4DrawChart.l2]) ?_, g2⟩
          have hw1 : wrap64 (((w + 1 : Nat) : Int) - 1) = (w : Int) := by rw [wrap_id (by omega) (by omega)]; omega
          simp only [hpar, hp, hw1]
          exact ev_pos (by omega) (ev_pos (by omega) (ev_pos (by omega) (ev_pos (by omega) g1)))
        · obtain ⟨t, ht⟩ := fin on i h hon hc
          by_cases ct : t < 8
          · obtain ⟨l', i', h', g1, g2⟩ := under on i h hon hc
            refine ⟨l', i', h', Ev.step (fun k => by rw [spec_l4DrawChart.l2]) ?_, g2⟩
            simp only [hpar]
            exact ev_pos (by omega) (ev_pos (by omega) (ev_pos (by omega) (ev_neg cp (Ev.bind ht (ev_pos ct (ev_pos (by omega) g1))))))
          · obtain ⟨l', i', h', g1, g2⟩ := plain i h hc
            refine ⟨l', i', h', Ev.step (fun k => by rw [spec_l4DrawChart.l2]) ?_, g2⟩
            simp only [hpar]
            exact ev_pos (by omega) (ev_pos (by omega) (ev_pos (by omega) (ev_neg cp (Ev.bind ht (ev_neg ct (ev_pos (by omega) g1))))))
    have j2F : ∀ (i h : Int), Cu b i → ∃ (l' : List AA) (i' h' : Int), Ev (fun k => spec_l4DrawChart.j2 k l ((n + 1 : Nat) : Int) (l.length : Int) false b i h s' (-1) (wrap64 (1 + q))) (l', i', h') ∧ Cu b i' ∧ (l'.length : Int) = (l.length : Int) + ((n + 1 : Nat) : Int) ∧ ∀ y ∈ l', B30 1048576 y := by
      intro i h hc
      obtain ⟨l', i', h', g1, g2⟩ := plain i h hc
      refine ⟨l', i', h', Ev.step (fun k => by rw [spec_l4DrawChart.j2]) ?_, g2⟩
      exact ev_neg (by simp) (ev_pos (by omega) g1)
    have j2T : ∀ (i h : Int), 0 < l.length → Cu b i → ∃ (l' : List AA) (i' h' : Int), Ev (fun k => spec_l4DrawChart.j2 k l ((n + 1 : Nat) : Int) (l.length : Int) true b i h s' (-1) (wrap64 (1 + q))) (l', i', h') ∧ Cu b i' ∧ (l'.length : Int) = (l.length : Int) + ((n + 1 : Nat) : Int) ∧ ∀ y ∈ l', B30 1048576 y := by
      intro i h hp hc
      obtain ⟨w, i3, h3, e3, c3, w0, w1, _⟩ := below_ok b i h 3 hc
      have := w1 (by decide)
      obtain ⟨l', i', h', g1, g2⟩ := up w.toNat (by omega) (l.length - 1) i3 h3 (by omega) c3
      rw [show ((w.toNat : Nat) : Int) = w by omega, show ((l.length - 1 : Nat) : Int) = (l.length : Int) - 1 by omega] at g1
      refine ⟨l', i', h', Ev.step (fun k => by rw [spec_l4DrawChart.j2]) ?_, g2⟩
      refine ev_pos rfl (ev_bind0 e3 ?_)
      rw [hwl]
      exact g1
    have tail : ∃ (l' : List AA) (i' h' : Int), Ev (fun k => spec_l4DrawChart.l1 k l ((n + 1 : Nat) : Int) (l.length : Int) (l.length : Int) b i2 h2 s' (-1) (wrap64 (1 + q))) (l', i', h') ∧ Cu b i' ∧ (l'.length : Int) = (l.length : Int) + ((n + 1 : Nat) : Int) ∧ ∀ y ∈ l', B30 1048576 y := by
      by_cases cl : (l.length : Int) > 0
      · obtain ⟨v, i3, h3, e3, c3⟩ := once_ok b i2 h2 3 c2
        cases v with
        | true =>
          obtain ⟨l', i', h', g1, g2⟩ := j2F i3 h3 c3
          refine ⟨l', i', h', Ev.step (fun k => by rw [spec_l4DrawChart.l1]) ?_, g2⟩
          exact ev_neg (by omega) (ev_pos cl (ev_bind0 e3 g1))
        | false =>
          obtain ⟨l', i', h', g1, g2⟩ := j2T i3 h3 (by omega) c3
          refine ⟨l', i', h', Ev.step (fun k => by rw [spec_l4DrawChart.l1]) ?_, g2⟩
          exact ev_neg (by omega) (ev_pos cl (ev_bind0 e3 g1))
      · obtain ⟨l', i', h', g1, g2⟩ := j2F i2 h2 c2
        refine ⟨l', i', h', Ev.step (fun k => by rw [spec_l4DrawChart.l1]) ?_, g2⟩
        exact ev_neg (by omega) (ev_neg cl g1)
    obtain ⟨l', i', h', g1, g2⟩ := tail
    refine ⟨l', i', h', Ev.step (fun k => by rw [spec_l4DrawChart.l0]) ?_, g2⟩
    exact ev_pos (by omega) (ev_bind0 e1 (ev_bind0 e2 (hs' _ g1)))
theorem drawChart_ok (b : List Int) (i h m : Int) (hm0 : 0 ≤ m) (hm : m ≤ 100) (hc : Cu b i) : ∃ (l' : List AA) (i' h' : Int), Ev (fun k => spec_l4DrawChart.f k b i h m) (l', i', h') ∧ Cu b i' ∧ 3 ≤ (l'.length : Int) ∧ (l'.length : Int) ≤ 500 ∧ ∀ y ∈ l', B30 1048576 y := by
  obtain ⟨q, i1, h1, e1, c1, q0, q1, q2⟩ := below_ok b i h m hc
  have hq : q ≤ 100 := by
    by_cases c : 0 < m
    · have := q1 c; omega
    · have := q2 (by omega); omega
  have hw : wrap64 (3 + q) = (((3 + q).toNat : Nat) : Int) := by rw [wrap_id (by omega) (by omega)]; omega
  obtain ⟨l', i', h', g1, g2, g3, g4⟩ := chart_loop b (3 + q).toNat [] i1 h1 (by simp; omega) ⟨by simp, fun j j0 j1 => by simp at j1; omega, fun y hy => by cases hy⟩ c1
  refine ⟨l', i', h', ?_, g2, ?_, ?_, g4⟩
  · unfold spec_l4DrawChart.f
    refine ev_bind0 e1 ?_
    rw [hw]
    exact g1
  · simp at g3; omega
  · simp at g3; omega
theorem spoilChart_ok (b : List Int) (i h : Int) (l : List AA) (hl0 : 0 < l.length) (hl : (l.length : Int) ≤ 500) (hB : ∀ y ∈ l, B30 1048576 y) (hc : Cu b i) : ∃ (l' : List AA) (i' h' : Int), spec_l4Spoil.f b i h l = some (l', i', h') ∧ Cu b i' ∧ (l'.length : Int) ≤ 500 ∧ ∀ y ∈ l', B30 1048576 y := by
  obtain ⟨v, i1, h1, e1, c1⟩ := once_ok b i h 12 hc
  unfold spec_l4Spoil.f
  rw [e1, Option.bind_some]
  by_cases cv : v = true
  case neg => rw [if_neg cv]; exact ⟨l, _, _, rfl, c1, hl, hB⟩
  rw [if_pos cv]
  obtain ⟨q, i2, h2, e2, c2, q0, q1, _⟩ := below_ok b i1 h1 (l.length : Int) c1
  have q1 := q1 (by omega)
  obtain ⟨w, i3, h3, e3, c3, w0, w1, _⟩ := below_ok b i2 h2 5 c2
  rw [e2, Option.bind_some, e3, Option.bind_some]
  have hq : q.toNat < l.length := by omega
  have hset : ∀ y : AA, B30 1048576 y → ((l.set q.toNat y).length : Int) ≤ 500 ∧ ∀ z ∈ l.set q.toNat y, B30 1048576 z := by
    intro y hy
    refine ⟨by rw [List.length_set]; exact hl, fun z hz => ?_⟩
    rcases List.mem_or_eq_of_mem_set hz with h | h
    · exact hB z h
    · rw [h]; exact hy
  have hr : ∀ j : Int, 0 ≤ j → j < (l.length : Int) → ((rd_T30 l j).f0.size : Int) ≤ 1048576 := by
    intro j j0 j1
    have hj : j.toNat < l.length := by omega
    have : rd_T30 l j = l[j.toNat] := getD_at hj _
    rw [this]
    exact hB _ (List.getElem_mem hj)
  by_cases a0 : w = 0
  · rw [if_pos a0]
    obtain ⟨s, i4, h4, e4, c4, _⟩ := pickInt_ok b i3 h3 [q, -2, wrap64 (q - 2), 0, (l.length : Int)] (by simp) c3
    rw [e4, Option.bind_some, if_pos q0, if_pos q1]
    exact ⟨_, _, _, rfl, c4, hset _ (hr q q0 q1)⟩
  rw [if_neg a0]
  by_cases a1 : w = 1
  · rw [if_pos a1]
    obtain ⟨s, i4, h4, e4, c4, _⟩ := pickInt_ok b i3 h3 [0, 6, 1] (by decide) c3
    rw [e4, Option.bind_some, if_pos q0, if_pos q1]
    exact ⟨_, _, _, rfl, c4, hset _ (hr q q0 q1)⟩
  rw [if_neg a1]
  by_cases a2 : w = 2
  · rw [if_pos a2]
    obtain ⟨s, i4, h4, e4, c4, z4⟩ := anyName_ok b i3 h3 c3
    rw [e4, Option.bind_some, if_pos q0, if_pos q1]
    exact ⟨_, _, _, rfl, c4, hset _ (show (s.size : Int) ≤ 1048576 by omega)⟩
  rw [if_neg a2]
  by_cases a3 : w = 3
  · rw [if_pos a3, if_pos (by omega), if_pos q0, if_pos q1]
    exact ⟨_, _, _, rfl, c3, hset _ (hr 0 (by omega) (by omega))⟩
  rw [if_neg a3]
  by_cases a4 : w = 4
  · rw [if_pos a4]
    exact ⟨[], _, _, rfl, c3, by simp, fun y hy => by cases hy⟩
  · rw [if_neg a4]
    exact ⟨l, _, _, rfl, c3, hl, hB⟩
theorem amount_ok (b : List Int) (i h : Int) (hc : Cu b i) : ∃ x i' h', spec_l1DrawAmount.f b i h = some (x, i', h') ∧ Cu b i' := by
  obtain ⟨q, i1, h1, e1, c1, _⟩ := below_ok b i h 12 hc
  unfold spec_l1DrawAmount.f
  rw [e1, Option.bind_some]
  by_cases a0 : q = 0
  · rw [if_pos a0]
    obtain ⟨s, i4, h4, e4, c4, _⟩ := pickInt_ok b i1 h1 [0, 1, -1, 100000000000, -100000000000, 99999999999, 99, 100, 101] (by decide) c1
    rw [e4]
    exact ⟨_, _, _, rfl, c4⟩
  rw [if_neg a0]
  by_cases a1 : q = 1
  · rw [if_pos a1]
    obtain ⟨s, i4, h4, e4, c4, _⟩ := below_ok b i1 h1 100000000000 c1
    rw [e4]
    exact ⟨_, _, _, rfl, c4⟩
  rw [if_neg a1]
  by_cases a2 : q = 2
  · rw [if_pos a2]
    obtain ⟨s, i4, h4, e4, c4, _⟩ := below_ok b i1 h1 1000000 c1
    rw [e4]
    exact ⟨_, _, _, rfl, c4⟩
  rw [if_neg a2]
  obtain ⟨s, i4, h4, e4, c4, _⟩ := below_ok b i1 h1 100000 c1
  rw [e4]
  exact ⟨_, _, _, rfl, c4⟩
theorem list_loop (b : List Int) (l : List AA) : ∀ (n : Nat) (x : List Int) (i h : Int), (x.length : Int) + n ≤ 1000 → Cu b i → ∃ x' : List Int, Ev (fun k => spec_DrawRoll.l0 k l x (n : Int) b i h) (l, x') ∧ (x'.length : Int) ≤ 1000 := by
  intro n
  induction n with
  | zero =>
    intro x i h hn hc
    exact ⟨x, Ev.step (fun k => by rw [spec_DrawRoll.l0]) (ev_neg (by omega) (Ev.now _)), by omega⟩
  | succ n ih =>
    intro x i h hn hc
    obtain ⟨a, i1, h1, e1, c1⟩ := amount_ok b i h hc
    obtain ⟨s, i2, h2, e2, c2, _⟩ := spoil_ok b i1 h1 a [1000000000000000, -1000000000000000, 1000000000000001, -1000000000000001] (by decide) c1
    obtain ⟨x', g1, g2⟩ := ih (x ++ [s]) i2 h2 (by simp; omega) c2
    have hw : wrap64 (((n + 1 : Nat) : Int) - 1) = (n : Int) := by rw [wrap_id (by omega) (by omega)]; omega
    refine ⟨x', Ev.step (fun k => by rw [spec_DrawRoll.l0]) ?_, g2⟩
    refine ev_pos (by omega) (ev_bind0 e1 (ev_bind0 e2 (ev_pos (by omega) ?_)))
    rw [hw]
    exact g1
theorem drawRoll_ok (l0 : List Int) (h0 : (l0.length : Int) ≤ 1048576) : ∃ (l : List AA) (x : List Int), Ev (fun k => spec_DrawRoll.f k l0) (l, x) ∧ ((l.length : Int) ≤ 1048576 ∧ ∀ y ∈ l, B30 1048576 y) ∧ (x.length : Int) ≤ 1048576 := by
  obtain ⟨h, hn⟩ := new_ok l0 (by omega)
  obtain ⟨l1, i1, h1, e1, c1, z1, y1, b1⟩ := drawChart_ok l0 0 h 10 (by decide) (by decide) ⟨by omega, by omega, by omega⟩
  obtain ⟨l2, i2, h2, e2, c2, y2, b2⟩ := spoilChart_ok l0 i1 h1 l1 (by omega) y1 b1 c1
  obtain ⟨s, i3, h3, e3, c3, m3⟩ := spoil_ok l0 i2 h2 0 [1, -1] (by decide) c2
  have hs : -1 ≤ s ∧ s ≤ 1 := by
    rcases m3 with m | m
    · omega
    · simp only [List.mem_cons, List.not_mem_nil, or_false] at m; omega
  have hgo : ∃ x' : List Int, Ev (fun k => spec_DrawRoll.l0 k l2 [] (wrap64 ((l2.length : Int) + s)) l0 i3 h3) (l2, x') ∧ (x'.length : Int) ≤ 1000 := by
    rw [wrap_id (by omega) (by omega)]
    by_cases c : (l2.length : Int) + s < 0
    · exact ⟨[], Ev.step (fun k => by rw [spec_DrawRoll.l0]) (ev_neg (by omega) (Ev.now _)), by simp⟩
    · have := list_loop l0 l2 ((l2.length : Int) + s).toNat [] i3 h3 (by simp; omega) c3
      rw [show ((((l2.length : Int) + s).toNat : Nat) : Int) = (l2.length : Int) + s by omega] at this
      exact this
  obtain ⟨x, g1, g2⟩ := hgo
  refine ⟨l2, x, ?_, ⟨by omega, b2⟩, by omega⟩
  unfold spec_DrawRoll.f
  exact Ev.bind hn (Ev.bind e1 (ev_bind0 e2 (ev_bind0 e3 g1)))
/-- The sum of the list. -/
theorem sum_ev (x : List Int) (hb : ∀ y ∈ x, -1000000000000000 ≤ y ∧ y ≤ 1000000000000000) (h120 : (x.length : Int) ≤ 120) : Ev (fun k => laws_sum.f k x) (tot (fun _ => True) x x.length) := by
  have go : ∀ (d i : Nat), i + d = x.length → Ev (fun k => laws_sum.l0 k x (tot (fun _ => True) x i) (i : Int)) (tot (fun _ => True) x x.length) := by
    intro d
    induction d with
    | zero =>
      intro i hd
      have : i = x.length := by omega
      subst this
      refine Ev.step (fun k => by rw [laws_sum.l0]) ?_
      exact ev_neg (by omega) (Ev.now _)
    | succ d ih =>
      intro i hd
      have hi : i < x.length := by omega
      have h := ih (i + 1) (by omega)
      have e : tot (fun _ => True) x (i + 1) = tot (fun _ => True) x i + rd x (i : Int) := by
        rw [tot, if_pos trivial]
      have hbd := tot_bound (fun _ => True) x hb (i + 1) (by omega)
      have hA : (i : Int) < (x.length : Int) := by omega
      have b1 : -9223372036854775808 ≤ tot (fun _ => True) x (i + 1) := by omega
      have b2 : tot (fun _ => True) x (i + 1) ≤ 9223372036854775807 := by omega
      have hw : wrap64 (tot (fun _ => True) x i + rd x (i : Int)) = tot (fun _ => True) x (i + 1) := by rw [← e]; exact wrap_id b1 b2
      refine Ev.step (fun k => by rw [laws_sum.l0]) ?_
      simp only [hw, wrap_succ hi (show x.length ≤ 9223372036854775807 by omega)]
      exact ev_pos hA (ev_pos (Int.natCast_nonneg i) h)
  have := go x.length 0 (by omega)
  unfold laws_sum.f
  exact this
theorem sum_lo {s M : Int} (h : -(M * 1000000000000000) ≤ s) (hm : M ≤ 120) : -9223372036854775808 ≤ s := by omega
theorem sum_hi {s M : Int} (h : s ≤ M * 1000000000000000) (hm : M ≤ 120) : s ≤ 9223372036854775807 := by omega
/-- The law's inner loop: what those under an account have. -/
theorem l1_ev (l : List AA) (x got : List Int) (all : Int) (i : Nat) (h120 : (l.length : Int) ≤ 120) (hx : x.length = l.length) (hb : ∀ y ∈ x, -1000000000000000 ≤ y ∧ y ≤ 1000000000000000) (hg : got.length = l.length) (hi : i < l.length) (hgi : rd got (i : Int) = tot (fun m => Anc l (m : Int) (i : Int)) x l.length) (hne : (undl l (i : Int) l.length).length ≠ 0) {r : Bool}
    (hr : Ev (fun k => laws_FnRolled.l0 k l x got all (wrap64 ((i : Int) + 1))) r) : Ev (fun k => laws_FnRolled.l1 k l x got all (i : Int) (undl l (i : Int) l.length) 0 0) r := by
  have hul := undl_len l (i : Int) l.length
  have hrd : ∀ j ∈ undl l (i : Int) l.length, -1000000000000000 ≤ rd x j ∧ rd x j ≤ 1000000000000000 := by
    intro j hj
    obtain ⟨h0, h1⟩ := undl_mem hj
    have hjn : j.toNat < x.length := by omega
    have : rd x j = x[j.toNat] := by
      have := rd_at hjn
      rw [show ((j.toNat : Nat) : Int) = j by omega] at this
      exact this
    rw [this]
    exact hb _ (List.getElem_mem hjn)
  have key : ∀ (d t : Nat), t + d = (undl l (i : Int) l.length).length → Ev (fun k => laws_FnRolled.l1 k l x got all (i : Int) (undl l (i : Int) l.length) (((undl l (i : Int) l.length).take t).map fun j => rd x j).sum (t : Int)) r := by
    intro d
    induction d with
    | zero =>
      intro t ht
      have e : (((undl l (i : Int) l.length).take t).map fun j => rd x j).sum = rd got (i : Int) := by
        rw [List.take_of_length_le (by omega), sum_undl, hgi]
      rw [e]
      refine Ev.step (fun k => by rw [laws_FnRolled.l1]) ?_
      exact ev_neg (by omega) (ev_pos (by omega) (ev_pos (by omega) (ev_pos rfl (ev_neg (by omega) hr))))
    | succ d ih =>
      intro t ht
      have htl : t < (undl l (i : Int) l.length).length := by omega
      have hg : rd (undl l (i : Int) l.length) (t : Int) = (undl l (i : Int) l.length)[t] := rd_at htl
      obtain ⟨m0, m1⟩ := undl_mem (List.getElem_mem htl)
      have hA : (t : Int) < ((undl l (i : Int) l.length).length : Int) := Int.ofNat_lt.2 htl
      have hB : 0 ≤ (t : Int) := Int.natCast_nonneg t
      have hC : (undl l (i : Int) l.length)[t] < (x.length : Int) := by rw [hx]; exact m1
      have hD : t + 1 + d = (undl l (i : Int) l.length).length := by omega
      have hw2 : wrap64 ((t : Int) + 1) = ((t + 1 : Nat) : Int) := wrap_id (by omega) (by omega)
      have hs := sum_bound (((undl l (i : Int) l.length).take (t + 1)).map fun j => rd x j) (by
        intro v hv
        obtain ⟨j, hj, rfl⟩ := List.mem_map.1 hv
        exact hrd j (List.mem_of_mem_take hj))
      rw [List.length_map, List.length_take] at hs
      have e : (((undl l (i : Int) l.length).take (t + 1)).map fun j => rd x j).sum = (((undl l (i : Int) l.length).take t).map fun j => rd x j).sum + rd x (undl l (i : Int) l.length)[t] := by
        rw [List.take_succ_eq_append_getElem htl, List.map_append, List.sum_append]
        simp
      have hmin : ((min (t + 1) (undl l (i : Int) l.length).length : Nat) : Int) ≤ 120 := Int.le_trans (Int.ofNat_le.2 (Nat.le_trans (Nat.min_le_right _ _) hul)) h120
      have b1 : -9223372036854775808 ≤ (((undl l (i : Int) l.length).take (t + 1)).map fun j => rd x j).sum := sum_lo hs.1 hmin
      have b2 : (((undl l (i : Int) l.length).take (t + 1)).map fun j => rd x j).sum ≤ 9223372036854775807 := sum_hi hs.2 hmin
      have hw : wrap64 ((((undl l (i : Int) l.length).take t).map fun j => rd x j).sum + rd x (undl l (i : Int) l.length)[t]) = (((undl l (i : Int) l.length).take (t + 1)).map fun j => rd x j).sum := by rw [← e]; exact wrap_id b1 b2
      refine Ev.step (fun k => by rw [laws_FnRolled.l1]) ?_
      simp only [hg, hw, hw2]
      exact ev_pos hA (ev_pos hB (ev_pos m0 (ev_pos hC (ih (t + 1) hD))))
  have := key (undl l (i : Int) l.length).length 0 (by omega)
  simpa using this
/-- An account without a parent. -/
def Root (l : List AA) (i : Nat) : Prop := par l (i : Int) < 0
theorem root_of (l : List AA) (hV : V l (l.length : Int)) : ∀ m : Nat, m < l.length → ∃ i : Nat, i ≤ m ∧ Root l i ∧ Anc l (m : Int) (i : Int) := by
  intro m
  induction m using Nat.strongRecOn with
  | ind m ih =>
    intro hm
    have hv := hV (m : Int) (by omega) (by omega)
    by_cases c : par l (m : Int) < 0
    · exact ⟨m, Nat.le_refl _, c, .self _ (by omega)⟩
    · obtain ⟨p, hp⟩ : ∃ p : Nat, par l (m : Int) = (p : Int) := ⟨(par l (m : Int)).toNat, by omega⟩
      obtain ⟨i, h1, h2, h3⟩ := ih p (by omega) (by omega)
      exact ⟨i, by omega, h2, .up _ _ (by omega) (by omega) (by rw [hp]; exact h3)⟩
theorem root_one {l : List AA} {m i j : Nat} (hi : Root l i) (hj : Root l j) (h1 : Anc l (m : Int) (i : Int)) (h2 : Anc l (m : Int) (j : Int)) : i = j := by
  unfold Root at hi hj
  rcases h1.total h2 with h | h
  · cases h with
    | self => rfl
    | up _ _ _ h3 _ => omega
  · cases h with
    | self => rfl
    | up _ _ _ h3 _ => omega
/-- The law's outer loop. -/
theorem l0_ev (l : List AA) (x got : List Int) (h120 : (l.length : Int) ≤ 120) (hV : V l (l.length : Int)) (hc : Ev (fun k => spec_ChartOk.f k l) true) (hl : (l.length : Int) ≤ 1048576 ∧ ∀ x ∈ l, B30 1048576 x) (hx : x.length = l.length) (hb : ∀ y ∈ x, -1000000000000000 ≤ y ∧ y ≤ 1000000000000000) (hg : got.length = l.length)
    (hgi : ∀ j : Nat, j < l.length → rd got (j : Int) = tot (fun m => Anc l (m : Int) (j : Int)) x l.length) :
    ∀ (d i : Nat), i + d = l.length → Ev (fun k => laws_FnRolled.l0 k l x got (tot (fun m => ∃ q : Nat, q < i ∧ Root l q ∧ Anc l (m : Int) (q : Int)) x l.length) (i : Int)) true := by
  intro d
  induction d with
  | zero =>
    intro i hd
    have : i = l.length := by omega
    subst this
    have e : tot (fun m => ∃ q : Nat, q < l.length ∧ Root l q ∧ Anc l (m : Int) (q : Int)) x l.length = tot (fun _ => True) x l.length := tot_iff x l.length (fun m hm => ⟨fun _ => trivial, fun _ => by
      obtain ⟨q, h1, h2, h3⟩ := root_of l hV m hm
      exact ⟨q, by omega, h2, h3⟩⟩)
    rw [e]
    have hs := sum_ev x hb (by omega)
    rw [hx] at hs
    refine Ev.step (fun k => by rw [laws_FnRolled.l0]) ?_
    refine ev_neg (by omega) (Ev.bind hs ?_)
    simp only [beq_self_eq_true]
    exact Ev.now _
  | succ d ih =>
    intro i hd
    have hi : i < l.length := by omega
    have h := ih (i + 1) (by omega)
    have hrd : (rd_T30 l (i : Int)).f1 = par l (i : Int) := rfl
    have hu : Ev (fun k => impl_Under.f k l (i : Int)) (undl l (i : Int) l.length) := by
      obtain ⟨r, g1, g2, _⟩ := under_main l (i : Int) hl
      have := ev_unique g1 (under_ev l h120 hV hc i hi)
      rw [this] at g2
      exact g2
    have hne : (undl l (i : Int) l.length).length ≠ 0 := by
      have : (i : Int) ∈ undl l (i : Int) l.length := by
        unfold undl
        refine List.mem_map.2 ⟨i, List.mem_filter.2 ⟨List.mem_range.2 hi, ?_⟩, rfl⟩
        exact @decide_eq_true _ (Classical.propDecidable _) (.self (i : Int) (by omega))
      intro h0
      rw [List.eq_nil_of_length_eq_zero h0] at this
      cases this
    have hj : ∀ all r, Ev (fun k => laws_FnRolled.l0 k l x got all ((i + 1 : Nat) : Int)) r → Ev (fun k => laws_FnRolled.j1 k l x got all (i : Int)) r := by
      intro all r hr
      refine Ev.step (fun k => by rw [laws_FnRolled.j1]) ?_
      refine Ev.bind hu (l1_ev l x got all i h120 hx hb hg hi (hgi i hi) hne ?_)
      rw [wrap_succ hi (by omega)]
      exact hr
    have hA : (i : Int) < (l.length : Int) := by omega
    have hB : 0 ≤ (i : Int) := by omega
    have hC : (i : Int) < (got.length : Int) := by omega
    refine Ev.step (fun k => by rw [laws_FnRolled.l0]) ?_
    simp only [hrd]
    by_cases c : par l (i : Int) < 0
    · have e : tot (fun m => ∃ q : Nat, q < i ∧ Root l q ∧ Anc l (m : Int) (q : Int)) x l.length + rd got (i : Int) = tot (fun m => ∃ q : Nat, q < i + 1 ∧ Root l q ∧ Anc l (m : Int) (q : Int)) x l.length := by
        rw [hgi i hi]
        refine (tot_or x l.length (fun m hm => ?_) (fun m hm h1 h2 => ?_)).symm
        · constructor
          · rintro ⟨q, h1, h2, h3⟩
            rcases Nat.lt_or_ge q i with h4 | h4
            · exact .inl ⟨q, h4, h2, h3⟩
            · have : q = i := by omega
              subst this
              exact .inr h3
          · rintro (⟨q, h1, h2, h3⟩ | h3)
            · exact ⟨q, by omega, h2, h3⟩
            · exact ⟨i, by omega, c, h3⟩
        · obtain ⟨q, h3, h4, h5⟩ := h1
          have := root_one h4 c h5 h2
          omega
      have hbd := tot_bound (fun m => ∃ q : Nat, q < i + 1 ∧ Root l q ∧ Anc l (m : Int) (q : Int)) x hb l.length (by omega)
      have b1 : -9223372036854775808 ≤ tot (fun m => ∃ q : Nat, q < i + 1 ∧ Root l q ∧ Anc l (m : Int) (q : Int)) x l.length := by omega
      have b2 : tot (fun m => ∃ q : Nat, q < i + 1 ∧ Root l q ∧ Anc l (m : Int) (q : Int)) x l.length ≤ 9223372036854775807 := by omega
      have hw : wrap64 (tot (fun m => ∃ q : Nat, q < i ∧ Root l q ∧ Anc l (m : Int) (q : Int)) x l.length + rd got (i : Int)) = tot (fun m => ∃ q : Nat, q < i + 1 ∧ Root l q ∧ Anc l (m : Int) (q : Int)) x l.length := by rw [e]; exact wrap_id b1 b2
      simp only [hw]
      exact ev_pos hA (ev_pos hB (ev_pos c (ev_pos hC (hj _ _ h))))
    · have e : tot (fun m => ∃ q : Nat, q < i ∧ Root l q ∧ Anc l (m : Int) (q : Int)) x l.length = tot (fun m => ∃ q : Nat, q < i + 1 ∧ Root l q ∧ Anc l (m : Int) (q : Int)) x l.length := by
        refine tot_iff x l.length (fun m hm => ?_)
        constructor
        · rintro ⟨q, h1, h2, h3⟩; exact ⟨q, by omega, h2, h3⟩
        · rintro ⟨q, h1, h2, h3⟩
          rcases Nat.lt_or_ge q i with h4 | h4
          · exact ⟨q, h4, h2, h3⟩
          · have : q = i := by omega
            subst this
            exact absurd h2 c
      rw [← e] at h
      exact ev_pos hA (ev_pos hB (ev_neg c (hj _ _ h)))

theorem FnRolled : laws_FnRolled.Pure := by
  intro l0 hg0 hg1 hg2
  apply Ev.rounds
  unfold laws_FnRolled.f
  refine ev_bind0 (show laws_big.f l0 = some (decide ((l0.length : Int) > 1048576)) from rfl) ?_
  by_cases cb : (l0.length : Int) > 1048576
  · exact ev_pos (decide_eq_true cb) (Ev.now _)
  refine ev_neg (by rw [decide_eq_true_eq]; exact cb) ?_
  obtain ⟨l, x, hd, hl, hx⟩ := drawRoll_ok l0 (by omega)
  obtain ⟨r, h1, h2, h3, h4⟩ := roll_main l x hl hx
  refine Ev.bind hd (Ev.bind h2 (Ev.bind h1 ?_))
  by_cases c : (r.length : Int) = 0
  · refine ev_pos c ?_
    have : ((r.length : Int) == 0) = true := by simpa using c
    rw [this]
    exact Ev.now _
  · rcases h4 with rfl | ⟨h120, hV, hc, hxl, hrl, hb, hv⟩
    · exact absurd rfl c
    · refine ev_neg c (ev_pos (show (r.length : Int) = (x.length : Int) by omega) ?_)
      have := l0_ev l x r h120 hV hc hl hxl hb hrl hv l.length 0 (by omega)
      rw [tot_none x l.length (fun m hm h => by obtain ⟨q, h, _⟩ := h; omega)] at this
      exact this
end Go.Proofs.Ytdnhpicgjkddbaa.Pure
