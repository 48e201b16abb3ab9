/- Roll: the program's answer is the reference's, whatever the chart and the list. -/
import Derived.Test.YtflagondodkonaaZPFnExactRollx
import Derived.Test.YtflagondodkonaaZHFnExactRoll
set_option linter.unusedVariables false
set_option maxHeartbeats 4000000
set_option linter.unusedSimpArgs false
set_option linter.unusedSectionVars false
namespace Go.Proofs.Ytflagondodkonaa.Pure
open Go.RowKit Go.Proofs.Ytflagondodkonaa.PFnExactRoll Go.Proofs.YtflagondodkonaaW.PrintWords Go.Proofs.YtflagondodkonaaW.PrintLast Go.Proofs.Ytflagondodkonaa.XEv
abbrev AA := S112
def par (l : List AA) (j : Int) : Int := (rd_T112 l j).f1
/-- a stands on j's way up. -/
inductive Anc (l : List AA) : Int → Int → Prop
  | self (j : Int) : 0 ≤ j → Anc l j j
  | up (j a : Int) : 0 ≤ j → 0 ≤ par l j → Anc l (par l j) a → Anc l j a
/-- How deep j stands. -/
inductive Dep (l : List AA) : Int → Int → Prop
  | root (j : Int) : 0 ≤ j → par l j < 0 → Dep l j 0
  | up (j n : Int) : 0 ≤ j → 0 ≤ par l j → Dep l (par l j) n → Dep l j (n + 1)
def V (l : List AA) (i : Int) : Prop := ∀ j : Int, 0 ≤ j → j < i → -1 ≤ par l j ∧ par l j < j ∧ (0 ≤ par l j → Anc l (j - 1) (par l j))

theorem Anc.trans {l : List AA} {j p a : Int} (h : Anc l j p) (g : Anc l p a) : Anc l j a := by
  induction h with
  | self j h => exact g
  | up j q h0 h1 _ ih => exact .up j a h0 h1 (ih g)
theorem Anc.nonneg {l : List AA} {j a : Int} (h : Anc l j a) : 0 ≤ j ∧ 0 ≤ a := by
  induction h with
  | self j h => exact ⟨h, h⟩
  | up j q h0 h1 _ ih => exact ⟨h0, ih.2⟩
theorem Anc.le {l : List AA} {j a n : Int} (hV : V l n) (h : Anc l j a) (hj : j < n) : a ≤ j := by
  induction h with
  | self j h => exact Int.le_refl _
  | up j q h0 h1 _ ih =>
    have := hV j h0 hj
    have := ih (by omega)
    omega
theorem Anc.prev {l : List AA} {j a n : Int} (hV : V l n) (h : Anc l j a) (hj : j < n) (ha : a < j) : Anc l (j - 1) a := by
  cases h with
  | self h => omega
  | up _ _ h0 h1 g => exact ((hV j h0 hj).2.2 h1).trans g
theorem Anc.total {l : List AA} {j p a : Int} (h : Anc l j p) (g : Anc l j a) : Anc l p a ∨ Anc l a p := by
  induction h with
  | self j h => exact .inl g
  | up j q h0 h1 h2 ih =>
    cases g with
    | self _ => exact .inr (.up _ q h0 h1 h2)
    | up _ _ _ _ g => exact ih g
theorem Dep.fn {l : List AA} {j n m : Int} (h : Dep l j n) (g : Dep l j m) : n = m := by
  induction h generalizing m with
  | root j h0 h1 =>
    cases g with
    | root => rfl
    | up _ _ h2 h3 => omega
  | up j n h0 h1 _ ih =>
    cases g with
    | root _ _ h3 => omega
    | up _ q _ _ g => rw [ih g]
theorem Dep.nonneg {l : List AA} {j n : Int} (h : Dep l j n) : 0 ≤ n := by
  induction h with
  | root => omega
  | up _ _ _ _ _ ih => omega
theorem Dep.anc {l : List AA} {j a n m : Int} (h : Anc l j a) (hj : Dep l j n) (ha : Dep l a m) : m ≤ n ∧ (j ≠ a → m < n) := by
  induction h generalizing n with
  | self j h => have := hj.fn ha; exact ⟨by omega, fun h => absurd rfl h⟩
  | up j q h0 h1 h2 ih =>
    cases hj with
    | root _ _ h3 => omega
    | up _ n' _ _ g => have := (ih g ha).1; exact ⟨by omega, fun _ => by omega⟩

/-- Two loops that go up from j till p is met. -/
theorem chain_walk {β γ : Type} (l : List AA) (i p : Int) (hV : V l i) (L1 : Nat → Int → Option β) (L2 : Nat → Int → Option γ)
    (h1 : ∀ j, 0 ≤ j → j < i → j ≠ p → ∀ r, Ev (fun k => L1 k (par l j)) r → Ev (fun k => L1 k j) r)
    (h2 : ∀ j, 0 ≤ j → j < i → j ≠ p → ∀ r, Ev (fun k => L2 k (par l j)) r → Ev (fun k => L2 k j) r) :
    ∀ (n : Nat) (j : Int), j + 1 = (n : Int) → j < i → ∃ e, ((e = -1 ∧ ¬ Anc l j p) ∨ (e = p ∧ 0 ≤ e ∧ e ≤ j ∧ Anc l j p)) ∧ (∀ r, Ev (fun k => L1 k e) r → Ev (fun k => L1 k j) r) ∧ (∀ r, Ev (fun k => L2 k e) r → Ev (fun k => L2 k j) r) := by
  intro n
  induction n using Nat.strongRecOn with
  | ind n ih =>
    intro j hn hj
    by_cases c : j = -1
    · exact ⟨-1, .inl ⟨rfl, fun h => by have := h.nonneg; omega⟩, fun r hr => by rw [c]; exact hr, fun r hr => by rw [c]; exact hr⟩
    · by_cases c2 : j = p
      · exact ⟨p, .inr ⟨rfl, by omega, by omega, by rw [← c2]; exact .self j (by omega)⟩, fun r hr => by rw [c2]; exact hr, fun r hr => by rw [c2]; exact hr⟩
      · have hv := hV j (by omega) hj
        obtain ⟨e, he, g1, g2⟩ := ih (par l j + 1).toNat (by omega) (par l j) (by omega) (by omega)
        refine ⟨e, ?_, fun r hr => h1 j (by omega) hj c2 r (g1 r hr), fun r hr => h2 j (by omega) hj c2 r (g2 r hr)⟩
        rcases he with ⟨he, hn⟩ | ⟨he, a, b, hA⟩
        · refine .inl ⟨he, fun h => ?_⟩
          cases h with
          | self h => exact c2 rfl
          | up _ _ _ _ g => exact hn g
        · exact .inr ⟨he, a, by omega, .up j p (by omega) (by have := hA.nonneg; omega) hA⟩

theorem deep_ev (l : List AA) (n : Int) (hV : V l n) (hn : n ≤ (l.length : Int)) (hl : (l.length : Int) ≤ 1048576) {j d : Int} (h : Dep l j d) (hj : j < n) (hd : d ≤ 100) : ∀ c : Int, 0 ≤ c → c + d ≤ 1000 → Ev (fun k => spec_l4Deep.l0 k l j c) (c + d) := by
  induction h with
  | root j h0 h1 =>
    intro c c0 c1
    unfold par at h1
    refine Ev.step (fun k => by rw [spec_l4Deep.l0]) ?_
    refine ev_pos h0 (ev_pos (by omega) (ev_neg (by omega) ?_))
    rw [Int.add_zero]
    exact Ev.now _
  | up j d h0 h1 h2 ih =>
    intro c c0 c1
    have hv := hV j h0 hj
    have hnn := h2.nonneg
    have := ih (by omega) (by omega) (c + 1) (by omega) (by omega)
    unfold par at h1 this
    refine Ev.step (fun k => by rw [spec_l4Deep.l0]) ?_
    refine ev_pos h0 (ev_pos (by omega) (ev_pos h1 ?_))
    rw [wrap_id (by omega) (by omega), show c + (d + 1) = c + 1 + d by omega]
    exact this

/-- What holds when the first i are read. -/
structure Inv (l : List AA) (i : Nat) (m : List (ByteArray × Int)) (dp : List Int) : Prop where
  len : dp.length = l.length
  v : V l (i : Int)
  seen : ∀ s, (mget m s).isSome = true ↔ ∃ (j : Nat) (y : AA), j < i ∧ l[j]? = some y ∧ y.f0 = s
  dep : ∀ j : Int, 0 ≤ j → j < (i : Int) → Dep l j (rd dp j) ∧ rd dp j ≤ 8
  zero : ∀ j : Nat, i ≤ j → j < l.length → rd dp (j : Int) = 0

theorem rd_set {dp : List Int} {i : Nat} (hi : i < dp.length) (v j : Int) (hj : 0 ≤ j) : rd (dp.set i v) j = if j = (i : Int) then v else rd dp j := by
  unfold rd
  by_cases c : j = (i : Int)
  · rw [if_pos c]
    subst c
    simp [List.getD, hi]
  · rw [if_neg c]
    have : i ≠ j.toNat := by omega
    simp [List.getD, List.getElem?_set_ne this]

theorem Dep.keep {l : List AA} {i : Nat} {m : List (ByteArray × Int)} {dp : List Int} (I : Inv l i m dp) (hi : i < l.length) (s : ByteArray) (hs : s = (rd_T112 l (i : Int)).f0) (d : Int) (hd : Dep l (i : Int) d) (h8 : d ≤ 8)
    (hv : -1 ≤ par l (i : Int) ∧ par l (i : Int) < (i : Int) ∧ (0 ≤ par l (i : Int) → Anc l ((i : Int) - 1) (par l (i : Int)))) : Inv l (i + 1) (mset m s (i : Int)) (dp.set i d) := by
  have hrd : rd_T112 l (i : Int) = l[i] := getD_at hi _
  have hg : l[i]? = some l[i] := List.getElem?_eq_getElem hi
  have hl := I.len
  refine ⟨by rw [List.length_set]; exact I.len, fun j h0 h1 => ?_, fun q => ?_, fun j h0 h1 => ?_, fun j h0 h1 => ?_⟩
  · by_cases c : j = (i : Int)
    · rw [c]; exact hv
    · exact I.v j h0 (by omega)
  · rw [mget_set]
    by_cases c : s = q
    · rw [if_pos c]
      exact ⟨fun _ => ⟨i, l[i], by omega, hg, by rw [← c, hs, hrd]⟩, fun _ => rfl⟩
    · rw [if_neg c, I.seen]
      refine ⟨fun ⟨j, y, h1, h2, h3⟩ => ⟨j, y, by omega, h2, h3⟩, fun ⟨j, y, h1, h2, h3⟩ => ?_⟩
      rcases Nat.lt_or_ge j i with h4 | h4
      · exact ⟨j, y, h4, h2, h3⟩
      · have : j = i := by omega
        subst this
        rw [hg] at h2
        injection h2 with h2
        subst h2
        exact absurd (by rw [hs, hrd]; exact h3) c
  · rw [rd_set (by omega) d j h0]
    by_cases c : j = (i : Int)
    · rw [if_pos c, c]; exact ⟨hd, h8⟩
    · rw [if_neg c]; exact I.dep j h0 (by omega)
  · rw [rd_set (by omega) d _ (by omega), if_neg (by omega)]
    exact I.zero j (by omega) h1

/-- Both sides read the chart. -/
theorem chart (l : List AA) (hl : (l.length : Int) ≤ 120 ∧ ∀ x ∈ l, B112 1048576 x) : ∀ (d i : Nat) (m : List (ByteArray × Int)) (dp : List Int), i + d = l.length → Inv l i m dp →
    ∃ (b : Bool) (q : List Int), Ev (fun k => spec_ChartOk.l0 k l (i : Int)) b ∧ Ev (fun k => impl_depths.l0 k l m dp l (l.length : Int) (i : Int)) (q, b) ∧ (b = true → ∃ m', Inv l l.length m' q) := by
  have hl1 := hl.1
  intro d
  induction d with
  | zero =>
    intro i m dp hd I
    have : i = l.length := by omega
    subst this
    refine ⟨true, dp, ?_, ?_, fun _ => ⟨m, I⟩⟩
    · refine Ev.step (fun k => by rw [spec_ChartOk.l0]) ?_
      exact ev_neg (by omega) (Ev.now _)
    · refine Ev.step (fun k => by rw [impl_depths.l0]) ?_
      exact ev_neg (by omega) (Ev.now _)
  | succ d ih =>
    intro i m dp hd I
    have hi : i < l.length := by omega
    have hrd : rd_T112 l (i : Int) = l[i] := getD_at hi _
    have hg : l[i]? = some l[i] := List.getElem?_eq_getElem hi
    have hB : (l[i].f0.size : Int) ≤ 1048576 := hl.2 _ (List.getElem_mem hi)
    have hpar : par l (i : Int) = l[i].f1 := by unfold par; rw [hrd]
    have hdl := I.len
    obtain ⟨b1, e1, p1⟩ := spec_NameOk_ev l[i].f0 hB
    obtain ⟨b2, e2, p2⟩ := impl_NameOk_ev l[i].f0
    have hbb : b1 = b2 := bool_of_iff p1 p2
    subst hbb
    have iF : Ev (fun k => impl_depths.j2 k l m dp (i : Int) l (l.length : Int) (i : Int) true l[i].f0 l[i].f1 l[i].f2) (([] : List Int), false) := by
      refine Ev.step (fun k => by rw [impl_depths.j2]) ?_
      exact ev_pos rfl (Ev.now _)
    have sF : Ev (fun k => spec_ChartOk.j1 k l (i : Int) true l[i].f0 l[i].f1 l[i].f2) false := by
      refine Ev.step (fun k => by rw [spec_ChartOk.j1]) ?_
      exact ev_pos rfl (Ev.now _)
    have hw1 : wrap64 ((i : Int) - 1) = (i : Int) - 1 := wrap_id (by omega) (by omega)
    have hdup := each_go (List.range i) (fun k j => spec_ChartOk.l1 k l (i : Int) j l[i].f0 l[i].f1 l[i].f2) (fun j _ => (rd_T112 l ((j : Nat) : Int)).f0 ≠ l[i].f0) (fun k => if l[i].f1 < 0 then spec_ChartOk.l0 k l (wrap64 ((i : Int) + 1)) else spec_ChartOk.l2 k l (i : Int) (wrap64 ((i : Int) - 1)) l[i].f0 l[i].f1 l[i].f2) false (by
      intro j hj
      have hj' : j < i := by simpa using hj
      by_cases c : (rd_T112 l ((j : Nat) : Int)).f0 = l[i].f0
      · refine .inr ⟨fun h => h c, ?_⟩
        refine Ev.step (fun k => by rw [spec_ChartOk.l1]) ?_
        simp only [str_iff]
        exact ev_pos (by omega) (ev_pos (by omega) (ev_pos (by omega) (ev_pos c (Ev.now _))))
      · refine .inl ⟨c, fun r hr => ?_⟩
        refine Ev.step (fun k => by rw [spec_ChartOk.l1]) ?_
        simp only [str_iff]
        refine ev_pos (by omega) (ev_pos (by omega) (ev_pos (by omega) (ev_neg c ?_)))
        rw [wrap_succ hj' (by omega)]
        exact hr) (by
      intro r hr
      rw [List.length_range]
      refine Ev.step (fun k => by rw [spec_ChartOk.l1]) ?_
      exact ev_neg (by omega) hr)
    have hD : (mget m l[i].f0).isSome = true ↔ ¬ (∀ (j : Nat) (hj : j < (List.range i).length), (rd_T112 l ((j : Nat) : Int)).f0 ≠ l[i].f0) := by
      rw [I.seen]
      constructor
      · rintro ⟨j, y, h1, h2, h3⟩ h
        have hjl : j < l.length := by omega
        have e : rd_T112 l ((j : Nat) : Int) = y := by
          rw [List.getElem?_eq_getElem hjl] at h2
          injection h2 with h2
          rw [← h2]
          exact getD_at hjl _
        exact h j (by simpa using h1) (by rw [e]; exact h3)
      · intro h
        apply Classical.byContradiction
        intro g
        refine h fun j hj e => g ?_
        have hj' : j < i := by simpa using hj
        have hjl : j < l.length := by omega
        exact ⟨j, l[j], hj', List.getElem?_eq_getElem hjl, by rw [← e]; exact congrArg (fun x : AA => x.f0) (getD_at hjl _).symm⟩
    by_cases cN : b1 = true
    case neg =>
      refine ⟨false, [], ?_, ?_, fun h => (by cases h)⟩
      · refine Ev.step (fun k => by rw [spec_ChartOk.l0]) ?_
        simp only [hrd]
        exact ev_pos (by omega) (ev_pos (by omega) (Ev.bind e1 (ev_neg cN sF)))
      · refine Ev.step (fun k => by rw [impl_depths.l0]) ?_
        simp only [hrd]
        refine ev_pos (by omega) (ev_pos (by omega) (ev_pos (by omega) (ev_pos (by omega) ?_)))
        exact ev_ite (fun _ => iF) (fun _ => Ev.bind e2 (ev_neg cN iF))
    by_cases cK : 1 ≤ l[i].f2 ∧ l[i].f2 ≤ 5
    case neg =>
      refine ⟨false, [], ?_, ?_, fun h => (by cases h)⟩
      · refine Ev.step (fun k => by rw [spec_ChartOk.l0]) ?_
        simp only [hrd]
        exact ev_pos (by omega) (ev_pos (by omega) (Ev.bind e1 (ev_pos cN (ev_bind0 (spec_l1In_eq ..) (ev_neg (by rw [decide_eq_true_eq]; exact cK) sF)))))
      · refine Ev.step (fun k => by rw [impl_depths.l0]) ?_
        simp only [hrd]
        refine ev_pos (by omega) (ev_pos (by omega) (ev_pos (by omega) (ev_pos (by omega) ?_)))
        refine ev_ite (fun _ => iF) (fun _ => Ev.bind e2 (ev_pos cN (ev_bind0 (impl_kindOk_eq _) ?_)))
        rw [decide_eq_false cK]
        exact iF
    have sHead : ∀ r, Ev (fun k => spec_ChartOk.j1 k l (i : Int) (!decide (-1 ≤ l[i].f1 ∧ l[i].f1 ≤ (i : Int) - 1)) l[i].f0 l[i].f1 l[i].f2) r → Ev (fun k => spec_ChartOk.l0 k l (i : Int)) r := by
      intro r hr
      refine Ev.step (fun k => by rw [spec_ChartOk.l0]) ?_
      simp only [hrd, hw1]
      exact ev_pos (by omega) (ev_pos (by omega) (Ev.bind e1 (ev_pos cN (ev_bind0 (spec_l1In_eq ..) (ev_pos (by simpa using cK) (ev_bind0 (spec_l1In_eq ..) hr))))))
    have iHead : ∀ r, ¬ (mget m l[i].f0).isSome = true → Ev (fun k => impl_depths.j2 k l m dp (i : Int) l (l.length : Int) (i : Int) false l[i].f0 l[i].f1 l[i].f2) r → Ev (fun k => impl_depths.l0 k l m dp l (l.length : Int) (i : Int)) r := by
      intro r hn hr
      refine Ev.step (fun k => by rw [impl_depths.l0]) ?_
      simp only [hrd]
      refine ev_pos (by omega) (ev_pos (by omega) (ev_pos (by omega) (ev_pos (by omega) (ev_neg hn (Ev.bind e2 (ev_pos cN (ev_bind0 (impl_kindOk_eq _) ?_)))))))
      rw [decide_eq_true cK]
      exact hr
    by_cases cD : (mget m l[i].f0).isSome = true
    · refine ⟨false, [], ?_, ?_, fun h => (by cases h)⟩
      · refine sHead _ ?_
        by_cases cR : -1 ≤ l[i].f1 ∧ l[i].f1 ≤ (i : Int) - 1
        · rw [decide_eq_true cR]
          refine Ev.step (fun k => by rw [spec_ChartOk.j1]) ?_
          refine ev_neg (by simp) ?_
          rcases hdup with ⟨h, _⟩ | ⟨_, h⟩
          · exact absurd h (hD.1 cD)
          · exact h
        · rw [decide_eq_false cR]
          exact sF
      · refine Ev.step (fun k => by rw [impl_depths.l0]) ?_
        simp only [hrd]
        exact ev_pos (by omega) (ev_pos (by omega) (ev_pos (by omega) (ev_pos (by omega) (ev_pos cD iF))))
    have hgo : ∀ r, Ev (fun k => if l[i].f1 < 0 then spec_ChartOk.l0 k l (wrap64 ((i : Int) + 1)) else spec_ChartOk.l2 k l (i : Int) (wrap64 ((i : Int) - 1)) l[i].f0 l[i].f1 l[i].f2) r → Ev (fun k => spec_ChartOk.l1 k l (i : Int) 0 l[i].f0 l[i].f1 l[i].f2) r := by
      rcases hdup with ⟨_, h⟩ | ⟨h, _⟩
      · exact h
      · exact absurd (hD.2 h) cD
    -- the way up from the one ahead
    obtain ⟨e, he, g1, g2⟩ := chain_walk l (i : Int) l[i].f1 I.v (fun k j => spec_ChartOk.l2 k l (i : Int) j l[i].f0 l[i].f1 l[i].f2) (fun k j => impl_depths.l1 k l (mset m l[i].f0 (i : Int)) dp (i : Int) j l (l.length : Int) (i : Int) l[i].f0 l[i].f1 l[i].f2) (by
      intro j h0 h1 hne r hr
      refine Ev.step (fun k => by rw [spec_ChartOk.l2]) ?_
      exact ev_pos h0 (ev_neg hne (ev_pos h0 (ev_pos (by omega) hr)))) (by
      intro j h0 h1 hne r hr
      refine Ev.step (fun k => by rw [impl_depths.l1]) ?_
      exact ev_pos h0 (ev_neg hne (ev_pos h0 (ev_pos (by omega) hr)))) i ((i : Int) - 1) (by omega) (by omega)
    have iJ : ∀ r, l[i].f1 ≠ -1 → Ev (fun k => impl_depths.l1 k l (mset m l[i].f0 (i : Int)) dp (i : Int) e l (l.length : Int) (i : Int) l[i].f0 l[i].f1 l[i].f2) r → Ev (fun k => impl_depths.j2 k l m dp (i : Int) l (l.length : Int) (i : Int) false l[i].f0 l[i].f1 l[i].f2) r := by
      intro r hn hr
      refine Ev.step (fun k => by rw [impl_depths.j2]) ?_
      refine ev_neg (by simp) (ev_pos (by omega) (ev_bind0 rfl (ev_neg hn ?_)))
      rw [hw1]
      exact g2 r hr
    have sN : e = -1 → Ev (fun k => spec_ChartOk.l2 k l (i : Int) e l[i].f0 l[i].f1 l[i].f2) false := by
      intro h
      rw [h]
      refine Ev.step (fun k => by rw [spec_ChartOk.l2]) ?_
      exact ev_neg (by omega) (ev_pos (by omega) (Ev.now _))
    have iN : e = -1 → Ev (fun k => impl_depths.l1 k l (mset m l[i].f0 (i : Int)) dp (i : Int) e l (l.length : Int) (i : Int) l[i].f0 l[i].f1 l[i].f2) (([] : List Int), false) := by
      intro h
      rw [h]
      refine Ev.step (fun k => by rw [impl_depths.l1]) ?_
      exact ev_neg (by omega) (ev_pos (by omega) (Ev.now _))
    by_cases cR : -1 ≤ l[i].f1 ∧ l[i].f1 ≤ (i : Int) - 1
    case neg =>
      refine ⟨false, [], sHead _ ?_, iHead _ cD (iJ _ (by omega) (iN ?_)), fun h => (by cases h)⟩
      · rw [decide_eq_false cR]
        exact sF
      · rcases he with he | he
        · exact he.1
        · omega
    have sJ : ∀ r, Ev (fun k => if l[i].f1 < 0 then spec_ChartOk.l0 k l (wrap64 ((i : Int) + 1)) else spec_ChartOk.l2 k l (i : Int) (wrap64 ((i : Int) - 1)) l[i].f0 l[i].f1 l[i].f2) r → Ev (fun k => spec_ChartOk.l0 k l (i : Int)) r := by
      intro r hr
      refine sHead _ ?_
      rw [decide_eq_true cR]
      refine Ev.step (fun k => by rw [spec_ChartOk.j1]) ?_
      exact ev_neg (by simp) (hgo r hr)
    by_cases c1 : l[i].f1 = -1
    · have h0 : dp.set i 0 = dp := by
        have hz := I.zero i (Nat.le_refl _) hi
        rw [rd_at (by omega)] at hz
        apply List.ext_getElem?
        intro j
        by_cases c : i = j
        · subst c
          rw [List.getElem?_set_self (by omega), List.getElem?_eq_getElem (by omega), hz]
        · rw [List.getElem?_set_ne c]
      have I' := Dep.keep I hi l[i].f0 (by rw [hrd]) 0 (.root (i : Int) (by omega) (by omega)) (by omega) ⟨by omega, by omega, fun h => by omega⟩
      rw [h0] at I'
      obtain ⟨b, q, s1, s2, s3⟩ := ih (i + 1) _ dp (by omega) I'
      refine ⟨b, q, sJ _ (ev_pos (by omega) ?_), iHead _ cD ?_, s3⟩
      · rw [wrap_succ hi (by omega)]
        exact s1
      · refine Ev.step (fun k => by rw [impl_depths.j2]) ?_
        refine ev_neg (by simp) (ev_pos (by omega) (ev_bind0 rfl (ev_pos c1 ?_)))
        rw [wrap_succ hi (by omega)]
        exact s2
    rcases he with ⟨he, _⟩ | ⟨he, he0, he1, hA⟩
    · refine ⟨false, [], sJ _ (ev_neg (by omega) ?_), iHead _ cD (iJ _ c1 (iN he)), fun h => (by cases h)⟩
      rw [hw1]
      exact g1 _ (sN he)
    obtain ⟨hdp, hdp8⟩ := I.dep l[i].f1 (by omega) (by omega)
    have hnn := hdp.nonneg
    by_cases cQ : (rd_T112 l l[i].f1).f2 = l[i].f2
    case neg =>
      refine ⟨false, [], sJ _ (ev_neg (by omega) ?_), iHead _ cD (iJ _ c1 ?_), fun h => (by cases h)⟩
      · rw [hw1]
        refine g1 _ ?_
        rw [he]
        refine Ev.step (fun k => by rw [spec_ChartOk.l2]) ?_
        exact ev_pos (by omega) (ev_pos rfl (ev_neg (by omega) (ev_pos (by omega) (ev_pos (by omega) (ev_neg cQ (Ev.now _))))))
      · rw [he]
        refine Ev.step (fun k => by rw [impl_depths.l1]) ?_
        exact ev_pos (by omega) (ev_pos rfl (ev_neg (by omega) (ev_pos (by omega) (ev_pos (by omega) (ev_neg cQ (Ev.now _))))))
    have hdi : Dep l (i : Int) (rd dp l[i].f1 + 1) := .up (i : Int) _ (by omega) (by omega) (by rw [hpar]; exact hdp)
    have hvi : -1 ≤ par l (i : Int) ∧ par l (i : Int) < (i : Int) ∧ (0 ≤ par l (i : Int) → Anc l ((i : Int) - 1) (par l (i : Int))) := ⟨by omega, by omega, fun _ => by rw [hpar]; exact hA⟩
    have hVi : V l ((i : Int) + 1) := fun j h0 h1 => by
      by_cases c : j = (i : Int)
      · rw [c]; exact hvi
      · exact I.v j h0 (by omega)
    have hdeep : Ev (fun k => spec_l4Deep.f k l (i : Int)) (rd dp l[i].f1 + 1) := by
      unfold spec_l4Deep.f
      have := deep_ev l ((i : Int) + 1) hVi (by omega) (by omega) hdi (by omega) (by omega) 0 (by omega) (by omega)
      rw [Int.zero_add] at this
      exact this
    by_cases c8 : rd dp l[i].f1 ≥ 8
    · refine ⟨false, [], sJ _ (ev_neg (by omega) ?_), iHead _ cD (iJ _ c1 ?_), fun h => (by cases h)⟩
      · rw [hw1]
        refine g1 _ ?_
        rw [he]
        refine Ev.step (fun k => by rw [spec_ChartOk.l2]) ?_
        exact ev_pos (by omega) (ev_pos rfl (ev_neg (by omega) (ev_pos (by omega) (ev_pos (by omega) (ev_pos cQ (Ev.bind hdeep (ev_pos (by omega) (Ev.now _))))))))
      · rw [he]
        refine Ev.step (fun k => by rw [impl_depths.l1]) ?_
        exact ev_pos (by omega) (ev_pos rfl (ev_neg (by omega) (ev_pos (by omega) (ev_pos (by omega) (ev_pos cQ (ev_pos (by omega) (ev_pos c8 (Ev.now _))))))))
    · have I' := Dep.keep I hi l[i].f0 (by rw [hrd]) _ hdi (by omega) hvi
      obtain ⟨b, q, s1, s2, s3⟩ := ih (i + 1) _ _ (by omega) I'
      refine ⟨b, q, sJ _ (ev_neg (by omega) ?_), iHead _ cD (iJ _ c1 ?_), s3⟩
      · rw [hw1]
        refine g1 _ ?_
        rw [he]
        refine Ev.step (fun k => by rw [spec_ChartOk.l2]) ?_
        refine ev_pos (by omega) (ev_pos rfl (ev_neg (by omega) (ev_pos (by omega) (ev_pos (by omega) (ev_pos cQ (Ev.bind hdeep (ev_neg (by omega) ?_)))))))
        rw [wrap_succ hi (by omega)]
        exact s1
      · rw [he]
        refine Ev.step (fun k => by rw [impl_depths.l1]) ?_
        refine ev_pos (by omega) (ev_pos rfl (ev_neg (by omega) (ev_pos (by omega) (ev_pos (by omega) (ev_pos cQ (ev_pos (by omega) (ev_neg c8 (ev_pos (by omega) (ev_pos (by omega) ?_)))))))))
        rw [wrap_succ hi (by omega), wrap_id (by omega) (by omega)]
        simp only [Int.toNat_natCast]
        exact s2

theorem chart_both (l : List AA) (hl : (l.length : Int) ≤ 1048576 ∧ ∀ x ∈ l, B112 1048576 x) :
    ∃ (b : Bool) (q : List Int), Ev (fun k => spec_ChartOk.f k l) b ∧ Ev (fun k => impl_depths.f k l) (q, b) ∧ (b = true → (l.length : Int) ≤ 120 ∧ ∃ m', Inv l l.length m' q) := by
  have iT : Ev (fun k => impl_depths.j0 k l true) (([] : List Int), false) := by
    refine Ev.step (fun k => by rw [impl_depths.j0]) ?_
    exact ev_pos rfl (Ev.now _)
  unfold spec_ChartOk.f impl_depths.f
  by_cases c : 1 ≤ (l.length : Int) ∧ (l.length : Int) ≤ 120
  · have I : Inv l 0 [] (List.replicate ((l.length : Int) : Int).toNat 0) := by
      refine ⟨by simp, fun j h0 h1 => by omega, fun s => ⟨fun h => by simp [mget] at h, fun ⟨j, y, h, _⟩ => by omega⟩, fun j h0 h1 => by omega, fun j _ hj => ?_⟩
      rw [rd_at (by simpa using hj)]
      simp
    obtain ⟨b, q, h1, h2, h3⟩ := chart l ⟨c.2, hl.2⟩ l.length 0 [] _ (by omega) I
    refine ⟨b, q, ev_bind0 (spec_l1In_eq ..) (ev_pos (by simpa using c) h1), ev_neg (by omega) ?_, fun h => ⟨c.2, h3 h⟩⟩
    rw [decide_eq_false (by omega)]
    refine Ev.step (fun k => by rw [impl_depths.j0]) ?_
    exact ev_neg (by simp) (ev_pos (by omega) (ev_pos (by omega) h2))
  · refine ⟨false, [], ev_bind0 (spec_l1In_eq ..) (ev_neg (by rw [decide_eq_true_eq]; exact c) (Ev.now _)), ?_, fun h => (by cases h)⟩
    by_cases c2 : (l.length : Int) < 1
    · exact ev_pos c2 iT
    · refine ev_neg c2 ?_
      rw [decide_eq_true (by omega)]
      exact iT

section
variable (l : List AA) (hl : (l.length : Int) ≤ 120) (hV : V l (l.length : Int)) (a : Nat) (ha : a < l.length)
include hl hV ha
theorem sstep (acc : List Int) (i : Nat) (hi : i < l.length) (hacc : acc.length ≤ i) :
    (Anc l (i : Int) (a : Int) ∧ ∀ r, Ev (fun k => spec_Under.l0 k l (a : Int) (acc ++ [(i : Int)]) ((i + 1 : Nat) : Int)) r → Ev (fun k => spec_Under.l0 k l (a : Int) acc (i : Int)) r) ∨
    (¬ Anc l (i : Int) (a : Int) ∧ ∀ r, Ev (fun k => spec_Under.l0 k l (a : Int) acc ((i + 1 : Nat) : Int)) r → Ev (fun k => spec_Under.l0 k l (a : Int) acc (i : Int)) r) := by
  obtain ⟨e, he, g, _⟩ := chain_walk l (l.length : Int) (a : Int) hV (fun k j => spec_Under.l1 k l (a : Int) acc (i : Int) j) (fun k j => spec_Under.l1 k l (a : Int) acc (i : Int) j) (by
    intro j h0 h1 hne r hr
    refine Ev.step (fun k => by rw [spec_Under.l1]) ?_
    exact ev_pos h0 (ev_neg hne (ev_pos h0 (ev_pos h1 hr)))) (by
    intro j h0 h1 hne r hr
    refine Ev.step (fun k => by rw [spec_Under.l1]) ?_
    exact ev_pos h0 (ev_neg hne (ev_pos h0 (ev_pos h1 hr)))) (i + 1) (i : Int) (by omega) (by omega)
  rcases he with ⟨he, hA⟩ | ⟨he, h0, h1, hA⟩
  · refine .inr ⟨hA, fun r hr => ?_⟩
    refine Ev.step (fun k => by rw [spec_Under.l0]) ?_
    refine ev_pos (by omega) (g r ?_)
    rw [he]
    refine Ev.step (fun k => by rw [spec_Under.l1]) ?_
    refine ev_neg (by omega) (ev_neg (by omega) ?_)
    rw [wrap_succ hi (by omega)]
    exact hr
  · refine .inl ⟨hA, fun r hr => ?_⟩
    refine Ev.step (fun k => by rw [spec_Under.l0]) ?_
    refine ev_pos (by omega) (g r ?_)
    rw [he]
    refine Ev.step (fun k => by rw [spec_Under.l1]) ?_
    refine ev_pos (by omega) (ev_pos rfl (ev_pos (by omega) ?_))
    rw [wrap_succ hi (by omega)]
    exact hr
end
/-- The sum of those of the first n that are so. -/
noncomputable def tot (P : Nat → Prop) (x : List Int) : Nat → Int
  | 0 => 0
  | n + 1 => tot P x n + (open Classical in if P n then rd x (n : Int) else 0)
theorem tot_iff {P Q : Nat → Prop} (x : List Int) : ∀ n, (∀ m, m < n → (P m ↔ Q m)) → tot P x n = tot Q x n := by
  intro n
  induction n with
  | zero => intro _; rfl
  | succ n ih =>
    intro h
    unfold tot
    rw [ih (fun m hm => h m (by omega))]
    have h1 := h n (by omega)
    by_cases c : P n
    · rw [if_pos c, if_pos (h1.1 c)]
    · rw [if_neg c, if_neg (fun q => c (h1.2 q))]
theorem tot_or {P Q R : Nat → Prop} (x : List Int) : ∀ n, (∀ m, m < n → (R m ↔ P m ∨ Q m)) → (∀ m, m < n → P m → Q m → False) → tot R x n = tot P x n + tot Q x n := by
  intro n
  induction n with
  | zero => intro _ _; rfl
  | succ n ih =>
    intro h g
    unfold tot
    rw [ih (fun m hm => h m (by omega)) (fun m hm => g m (by omega))]
    have h1 := h n (by omega)
    have h2 := g n (by omega)
    by_cases c : P n
    · have c2 : ¬ Q n := fun q => h2 c q
      have c3 : R n := h1.2 (.inl c)
      simp only [c, c2, c3, if_true, if_false]
      omega
    · by_cases c2 : Q n
      · have c3 : R n := h1.2 (.inr c2)
        simp only [c, c2, c3, if_true, if_false]
        omega
      · have c3 : ¬ R n := fun r => by rcases h1.1 r with h | h <;> contradiction
        simp only [c, c2, c3, if_false]
        omega
theorem tot_none {P : Nat → Prop} (x : List Int) : ∀ n, (∀ m, m < n → ¬ P m) → tot P x n = 0 := by
  intro n
  induction n with
  | zero => intro _; rfl
  | succ n ih =>
    intro h
    unfold tot
    rw [ih (fun m hm => h m (by omega)), if_neg (h n (by omega))]
    rfl
theorem tot_one {P : Nat → Prop} {x : List Int} {j : Nat} : ∀ {n : Nat}, j < n → (∀ m, m < n → (P m ↔ m = j)) → tot P x n = rd x (j : Int) := by
  intro n
  induction n with
  | zero => intro h; omega
  | succ n ih =>
    intro h g
    unfold tot
    by_cases c : j = n
    · subst c
      rw [tot_none x j (fun m hm hp => by have := (g m (by omega)).1 hp; omega), if_pos ((g j (by omega)).2 rfl)]
      omega
    · rw [ih (by omega) (fun m hm => g m (by omega)), if_neg (fun hp => c ((g n (by omega)).1 hp).symm)]
      omega
theorem tot_bound (P : Nat → Prop) (x : List Int) (hb : ∀ y ∈ x, -1000000000000000 ≤ y ∧ y ≤ 1000000000000000) : ∀ n, n ≤ x.length → -(n * 1000000000000000 : Int) ≤ tot P x n ∧ tot P x n ≤ n * 1000000000000000 := by
  intro n
  induction n with
  | zero => intro _; exact ⟨by simp [tot], by simp [tot]⟩
  | succ n ih =>
    intro h
    have := ih (by omega)
    have hr : rd x (n : Int) = x[n] := rd_at (by omega)
    have h2 := hb _ (List.getElem_mem (show n < x.length by omega))
    unfold tot
    rw [hr]
    split <;> omega
/-- From j one comes up to a, over accounts behind i alone. -/
inductive Up (l : List AA) (i : Int) : Int → Int → Prop
  | self (j : Int) : Up l i j j
  | step (j a : Int) : i < j → 0 ≤ par l j → Up l i (par l j) a → Up l i j a
theorem Up.le {l : List AA} {i j a n : Int} (hV : V l n) (h : Up l i j a) (hj : j < n) (h0 : 0 ≤ j) : a ≤ j := by
  induction h with
  | self j => exact Int.le_refl _
  | step j a h1 h2 _ ih => have := hV j h0 hj; have := ih (by omega) h2; omega
theorem Up.anc {l : List AA} {j a : Int} (h0 : 0 ≤ j) : Up l (-1) j a ↔ Anc l j a := by
  constructor
  · intro h
    induction h with
    | self j => exact .self j h0
    | step j a h1 h2 _ ih => exact .up j a h0 h2 (ih h2)
  · intro h
    induction h with
    | self j _ => exact .self j
    | up j a h1 h2 _ ih => exact .step j a (by omega) h2 (ih h2)
theorem Up.mono {l : List AA} {i i' j a : Int} (hi : i' ≤ i) (h : Up l i j a) : Up l i' j a := by
  induction h with
  | self j => exact .self j
  | step j a h1 h2 _ ih => exact .step j a (by omega) h2 ih
theorem Up.snoc {l : List AA} {i j a : Int} (h : Up l i j a) (ha : i < a) (hp : 0 ≤ par l a) : Up l i j (par l a) := by
  induction h with
  | self j => exact .step j _ ha hp (.self _)
  | step j a h1 h2 _ ih => exact .step j _ h1 h2 (ih ha hp)
/-- One account more is gone over: what comes to its parent. -/
theorem Up.into {l : List AA} {n : Int} {i p m : Nat} (hV : V l n) (hi : (i : Int) < n) (hp : par l (i : Int) = (p : Int)) (hm : (m : Int) < n) : Up l ((i : Int) - 1) (m : Int) (p : Int) ↔ Up l (i : Int) (m : Int) (p : Int) ∨ Up l (i : Int) (m : Int) (i : Int) := by
  have hpi : (p : Int) < i := by have := hV (i : Int) (by omega) hi; omega
  constructor
  · intro h
    have key : ∀ j a : Int, Up l ((i : Int) - 1) j a → a = (p : Int) → 0 ≤ j → j < n → Up l (i : Int) j (p : Int) ∨ Up l (i : Int) j (i : Int) := by
      intro j a h
      induction h with
      | self j => intro e _ _; rw [e]; exact .inl (.self _)
      | step j a h1 h2 g ih =>
        intro e h0 hn
        have hv := hV j h0 hn
        by_cases c : j = (i : Int)
        · rw [c]; exact .inr (.self _)
        · rcases ih e h2 (by omega) with h | h
          · exact .inl (.step j _ (by omega) h2 h)
          · exact .inr (.step j _ (by omega) h2 h)
    exact key _ _ h rfl (by omega) hm
  · rintro (h | h)
    · exact h.mono (by omega)
    · have := (h.mono (show (i : Int) - 1 ≤ i by omega)).snoc (by omega) (by omega)
      rw [hp] at this
      exact this
theorem Up.apart {l : List AA} {n : Int} {i p m : Nat} (hV : V l n) (hp : par l (i : Int) = (p : Int)) (hi : (i : Int) < n) (hm : (m : Int) < n) (h1 : Up l (i : Int) (m : Int) (p : Int)) (h2 : Up l (i : Int) (m : Int) (i : Int)) : False := by
  have hpi : (p : Int) < i := by have := hV (i : Int) (by omega) hi; omega
  have key : ∀ j a : Int, Up l (i : Int) j a → a = (p : Int) → 0 ≤ j → j < n → Up l (i : Int) j (i : Int) → False := by
    intro j a h
    induction h with
    | self j => intro e h0 hn g; have := g.le hV hn h0; omega
    | step j a h1 h2 g ih =>
      intro e h0 hn q
      have hv := hV j h0 hn
      cases q with
      | self => omega
      | step _ _ _ _ q => exact ih e h2 (by omega) q
  exact key _ _ h1 rfl (by omega) hm h2
/-- What comes to another account stays. -/
theorem Up.other {l : List AA} {n : Int} {i p m j : Nat} (hV : V l n) (hi : (i : Int) < n) (hm : (m : Int) < n) (hj : j ≠ p) (hp : par l (i : Int) = (p : Int)) (_ : True ∨ True) : Up l (i : Int) (m : Int) (j : Int) ↔ Up l ((i : Int) - 1) (m : Int) (j : Int) := by
  refine ⟨fun h => h.mono (by omega), fun h => ?_⟩
  have hpi : (p : Int) < i := by have := hV (i : Int) (by omega) hi; omega
  have key : ∀ q a : Int, Up l ((i : Int) - 1) q a → a = (j : Int) → 0 ≤ q → q < n → Up l (i : Int) q (j : Int) := by
    intro q a h
    induction h with
    | self q => intro e _ _; rw [e]; exact .self _
    | step q a h1 h2 g ih =>
      intro e h0 hn
      have hv := hV q h0 hn
      by_cases c : q = (i : Int)
      · subst c
        cases g with
        | self => omega
        | step _ _ h3 _ _ => omega
      · exact .step q _ (by omega) h2 (ih e h2 (by omega))
  exact key _ _ h rfl (by omega) hm
theorem Up.root {l : List AA} {n : Int} {i m j : Nat} (hV : V l n) (hi : (i : Int) < n) (hm : (m : Int) < n) (hp : par l (i : Int) < 0) : Up l (i : Int) (m : Int) (j : Int) ↔ Up l ((i : Int) - 1) (m : Int) (j : Int) := by
  refine ⟨fun h => h.mono (by omega), fun h => ?_⟩
  have key : ∀ q a : Int, Up l ((i : Int) - 1) q a → a = (j : Int) → 0 ≤ q → q < n → Up l (i : Int) q (j : Int) := by
    intro q a h
    induction h with
    | self q => intro e _ _; rw [e]; exact .self _
    | step q a h1 h2 g ih =>
      intro e h0 hn
      have hv := hV q h0 hn
      by_cases c : q = (i : Int)
      · rw [c] at h2; omega
      · exact .step q _ (by omega) h2 (ih e h2 (by omega))
  exact key _ _ h rfl (by omega) hm
theorem Up.last {l : List AA} {i m j : Int} (h : m ≤ i) : Up l i m j ↔ m = j := by
  constructor
  · intro h
    cases h with
    | self => rfl
    | step _ _ h1 _ _ => omega
  · intro h; rw [h]; exact .self _

/-- Those under an account, in their order. -/
noncomputable def undl (l : List AA) (a : Int) (n : Nat) : List Int := ((List.range n).filter fun m : Nat => (open Classical in decide (Anc l (m : Int) a))).map fun m : Nat => (m : Int)
theorem undl_succ (l : List AA) (a : Int) (n : Nat) : undl l a (n + 1) = undl l a n ++ (open Classical in if Anc l (n : Int) a then [(n : Int)] else []) := by
  unfold undl
  rw [List.range_succ, List.filter_append, List.map_append]
  congr 1
  by_cases c : Anc l (n : Int) a
  · simp [c]
  · simp [c]
theorem undl_len (l : List AA) (a : Int) (n : Nat) : (undl l a n).length ≤ n := by
  unfold undl
  rw [List.length_map]
  exact Nat.le_trans (List.length_filter_le _ _) (Nat.le_of_eq List.length_range)
theorem under_ev (l : List AA) (h120 : (l.length : Int) ≤ 120) (hV : V l (l.length : Int)) (hc : Ev (fun k => spec_ChartOk.f k l) true) (a : Nat) (ha : a < l.length) : Ev (fun k => spec_Under.f k l (a : Int)) (undl l (a : Int) l.length) := by
  have go : ∀ (d i : Nat), i + d = l.length → Ev (fun k => spec_Under.l0 k l (a : Int) (undl l (a : Int) i) (i : Int)) (undl l (a : Int) l.length) := by
    intro d
    induction d with
    | zero =>
      intro i hd
      have : i = l.length := by omega
      subst this
      refine Ev.step (fun k => by rw [spec_Under.l0]) ?_
      exact ev_neg (by omega) (Ev.now _)
    | succ d ih =>
      intro i hd
      have h := ih (i + 1) (by omega)
      rw [undl_succ] at h
      rcases sstep l h120 hV a ha (undl l (a : Int) i) i (by omega) (undl_len _ _ _) with ⟨g, k⟩ | ⟨g, k⟩
      · rw [if_pos g] at h
        exact k _ h
      · rw [if_neg g, List.append_nil] at h
        exact k _ h
  have h0 : Ev (fun k => spec_Under.l0 k l (a : Int) [] 0) (undl l (a : Int) l.length) := go l.length 0 (by omega)
  have hw : wrap64 ((l.length : Int) - 1) = (l.length : Int) - 1 := wrap_id (by omega) (by omega)
  unfold spec_Under.f
  simp only [hw]
  refine ev_bind0 rfl (Ev.bind hc (ev_pos rfl (ev_bind0 (spec_l1In_eq ..) ?_)))
  rw [decide_eq_true (by omega)]
  refine Ev.step (fun k => by rw [spec_Under.j0]) ?_
  exact ev_neg (by simp) h0
/-- The sum over those. -/
theorem sum_undl (l : List AA) (a : Int) (x : List Int) : ∀ n, ((undl l a n).map fun j => rd x j).sum = tot (fun m => Anc l (m : Int) a) x n := by
  intro n
  induction n with
  | zero => simp [undl, tot]
  | succ n ih =>
    rw [undl_succ, List.map_append, List.sum_append, ih]
    rw [show tot (fun m => Anc l (m : Int) a) x (n + 1) = tot (fun m => Anc l (m : Int) a) x n + (open Classical in if Anc l (n : Int) a then rd x (n : Int) else 0) from rfl]
    congr 1
    by_cases c : Anc l (n : Int) a
    · rw [if_pos c, if_pos c]; simp
    · rw [if_neg c, if_neg c]; rfl
theorem sum_bound : ∀ (y : List Int), (∀ v ∈ y, -1000000000000000 ≤ v ∧ v ≤ 1000000000000000) → -(y.length * 1000000000000000 : Int) ≤ y.sum ∧ y.sum ≤ y.length * 1000000000000000 := by
  intro y
  induction y with
  | nil => intro _; exact ⟨by simp, by simp⟩
  | cons v y ih =>
    intro h
    have h1 := h v (by simp)
    have h2 := ih (fun w hw => h w (by simp [hw]))
    rw [List.sum_cons, List.length_cons]
    omega
theorem undl_mem {l : List AA} {a : Int} {n : Nat} {j : Int} (h : j ∈ undl l a n) : 0 ≤ j ∧ j < (n : Int) := by
  unfold undl at h
  obtain ⟨m, hm, rfl⟩ := List.mem_map.1 h
  have := List.mem_range.1 (List.mem_filter.1 hm).1
  omega
/-- The reference adds them up. -/
theorem l2_ev (l : List AA) (x : List Int) (hx : x.length = l.length) (hb : ∀ y ∈ x, -1000000000000000 ≤ y ∧ y ≤ 1000000000000000) (h120 : (l.length : Int) ≤ 120) (acc : List Int) (i : Nat) (_P : Nat → Prop) (hacc : acc.length < 17592186044416) {r : List Int}
    (hr : Ev (fun k => spec_Roll.l1 k l x (acc ++ [tot (fun m => Anc l (m : Int) (i : Int)) x l.length]) (wrap64 ((i : Int) + 1))) r) : Ev (fun k => spec_Roll.l2 k l x acc (i : Int) 0 (undl l (i : Int) l.length) 0) r := by
  have hul := undl_len l (i : Int) l.length
  have hrd : ∀ j ∈ undl l (i : Int) l.length, -1000000000000000 ≤ rd x j ∧ rd x j ≤ 1000000000000000 := by
    intro j hj
    obtain ⟨h0, h1⟩ := undl_mem hj
    have hjn : j.toNat < x.length := by omega
    have : rd x j = x[j.toNat] := by
      have := rd_at hjn
      rw [show ((j.toNat : Nat) : Int) = j by omega] at this
      exact this
    rw [this]
    exact hb _ (List.getElem_mem hjn)
  have key : ∀ (d t : Nat), t + d = (undl l (i : Int) l.length).length → Ev (fun k => spec_Roll.l2 k l x acc (i : Int) (((undl l (i : Int) l.length).take t).map fun j => rd x j).sum (undl l (i : Int) l.length) (t : Int)) r := by
    intro d
    induction d with
    | zero =>
      intro t ht
      refine Ev.step (fun k => by rw [spec_Roll.l2]) ?_
      refine ev_neg (by omega) (ev_pos (by omega) ?_)
      rw [List.take_of_length_le (by omega), sum_undl]
      exact hr
    | succ d ih =>
      intro t ht
      have htl : t < (undl l (i : Int) l.length).length := by omega
      have hg : rd (undl l (i : Int) l.length) (t : Int) = (undl l (i : Int) l.length)[t] := rd_at htl
      obtain ⟨m0, m1⟩ := undl_mem (List.getElem_mem htl)
      have hA : (t : Int) < ((undl l (i : Int) l.length).length : Int) := Int.ofNat_lt.2 htl
      have hB : 0 ≤ (t : Int) := Int.natCast_nonneg t
      have hC : (undl l (i : Int) l.length)[t] < (x.length : Int) := by rw [hx]; exact m1
      have hD : t + 1 + d = (undl l (i : Int) l.length).length := by omega
      have hw2 : wrap64 ((t : Int) + 1) = ((t + 1 : Nat) : Int) := wrap_id (by omega) (by omega)
      have hs := sum_bound (((undl l (i : Int) l.length).take (t + 1)).map fun j => rd x j) (by
        intro v hv
        obtain ⟨j, hj, rfl⟩ := List.mem_map.1 hv
        exact hrd j (List.mem_of_mem_take hj))
      rw [List.length_map, List.length_take] at hs
      have e : (((undl l (i : Int) l.length).take (t + 1)).map fun j => rd x j).sum = (((undl l (i : Int) l.length).take t).map fun j => rd x j).sum + rd x (undl l (i : Int) l.length)[t] := by
        rw [List.take_succ_eq_append_getElem htl, List.map_append, List.sum_append]
        simp
      have hmin : ((min (t + 1) (undl l (i : Int) l.length).length : Nat) : Int) ≤ 120 := by omega
      have b1 : -9223372036854775808 ≤ (((undl l (i : Int) l.length).take (t + 1)).map fun j => rd x j).sum := by omega
      have b2 : (((undl l (i : Int) l.length).take (t + 1)).map fun j => rd x j).sum ≤ 9223372036854775807 := by omega
      have hw : wrap64 ((((undl l (i : Int) l.length).take t).map fun j => rd x j).sum + rd x (undl l (i : Int) l.length)[t]) = (((undl l (i : Int) l.length).take (t + 1)).map fun j => rd x j).sum := by rw [← e]; exact wrap_id b1 b2
      refine Ev.step (fun k => by rw [spec_Roll.l2]) ?_
      simp only [hg, hw, hw2]
      exact ev_pos hA (ev_pos hB (ev_pos m0 (ev_pos hC (ih (t + 1) hD))))
  have := key (undl l (i : Int) l.length).length 0 (by omega)
  simpa using this
/-- The program's way: from the last place up. -/
theorem roll_up (l : List AA) (h120 : (l.length : Int) ≤ 120) (hV : V l (l.length : Int)) (x : List Int) (hx : x.length = l.length) (hb : ∀ y ∈ x, -1000000000000000 ≤ y ∧ y ≤ 1000000000000000) :
    ∀ (n : Nat) (out : List Int), n ≤ l.length → out.length = l.length → (∀ j : Nat, j < l.length → rd out (j : Int) = tot (fun m => Up l ((n : Int) - 1) (m : Int) (j : Int)) x l.length) →
    ∃ r : List Int, Ev (fun k => impl_Roll.l1 k l out ((n : Int) - 1)) r ∧ r.length = l.length ∧ ∀ j : Nat, j < l.length → rd r (j : Int) = tot (fun m => Up l (-1) (m : Int) (j : Int)) x l.length := by
  intro n
  induction n with
  | zero =>
    intro out hn hl h
    refine ⟨out, ?_, hl, fun j hj => by rw [h j hj]; rfl⟩
    refine Ev.step (fun k => by rw [impl_Roll.l1]) ?_
    exact ev_neg (by omega) (Ev.now _)
  | succ n ih =>
    intro out hn hl h
    have hi : n < l.length := by omega
    have e1 : ((n + 1 : Nat) : Int) - 1 = (n : Int) := by omega
    rw [e1] at h
    rw [e1]
    have hv := hV (n : Int) (by omega) (by omega)
    have hw : wrap64 ((n : Int) - 1) = (n : Int) - 1 := wrap_id (by omega) (by omega)
    have hpar : (rd_T112 l (n : Int)).f1 = par l (n : Int) := rfl
    by_cases c : par l (n : Int) ≥ 0
    · obtain ⟨p, hp⟩ : ∃ p : Nat, par l (n : Int) = (p : Int) := ⟨(par l (n : Int)).toNat, by omega⟩
      have hpn : p < n := by omega
      have hop : rd out (p : Int) = tot (fun m => Up l (n : Int) (m : Int) (p : Int)) x l.length := h p (by omega)
      have hon : rd out (n : Int) = tot (fun m => Up l (n : Int) (m : Int) (n : Int)) x l.length := h n hi
      have hsum : rd out (p : Int) + rd out (n : Int) = tot (fun m => Up l ((n : Int) - 1) (m : Int) (p : Int)) x l.length := by
        rw [hop, hon]
        exact (tot_or x l.length (fun m hm => Up.into hV (by omega) hp (by omega)) (fun m hm h1 h2 => Up.apart hV hp (by omega) (by omega) h1 h2)).symm
      have hbd := tot_bound (fun m => Up l ((n : Int) - 1) (m : Int) (p : Int)) x hb l.length (by omega)
      have hw2 : wrap64 (rd out (p : Int) + rd out (n : Int)) = tot (fun m => Up l ((n : Int) - 1) (m : Int) (p : Int)) x l.length := by rw [hsum]; exact wrap_id (by omega) (by omega)
      obtain ⟨r, h1, h2, h3⟩ := ih (out.set p (tot (fun m => Up l ((n : Int) - 1) (m : Int) (p : Int)) x l.length)) (by omega) (by rw [List.length_set]; exact hl) (by
        intro j hj
        rw [rd_set (by omega) _ _ (by omega)]
        by_cases cj : j = p
        · subst cj; rw [if_pos rfl]
        · rw [if_neg (by omega), h j hj]
          exact tot_iff x l.length (fun m hm => Up.other hV (by omega) (by omega) (by omega) hp (.inl trivial)))
      refine ⟨r, ?_, h2, h3⟩
      refine Ev.step (fun k => by rw [impl_Roll.l1]) ?_
      simp only [hpar, hp, hw, hw2, Int.toNat_natCast]
      exact ev_pos (by omega) (ev_pos (by omega) (ev_pos (by omega) (ev_pos (by omega) (ev_pos (by omega) (ev_pos (by omega) (ev_pos (by omega) h1))))))
    · obtain ⟨r, h1, h2, h3⟩ := ih out (by omega) hl (by
        intro j hj
        rw [h j hj]
        exact tot_iff x l.length (fun m hm => Up.root hV (by omega) (by omega) (by omega)))
      refine ⟨r, ?_, h2, h3⟩
      refine Ev.step (fun k => by rw [impl_Roll.l1]) ?_
      simp only [hpar, hw]
      exact ev_pos (by omega) (ev_pos (by omega) (ev_pos (by omega) (ev_neg (by omega) h1)))

/-- The reference's way: each account's own sum. -/
theorem spec_loops (l : List AA) (h120 : (l.length : Int) ≤ 120) (hV : V l (l.length : Int)) (hc : Ev (fun k => spec_ChartOk.f k l) true) (x : List Int) (hx : x.length = l.length) (hb : ∀ y ∈ x, -1000000000000000 ≤ y ∧ y ≤ 1000000000000000) :
    ∀ (d i : Nat) (acc : List Int), i + d = l.length → acc.length = i → Ev (fun k => spec_Roll.l1 k l x acc (i : Int)) (acc ++ ((List.range d).map fun q => tot (fun m => Anc l (m : Int) ((i + q : Nat) : Int)) x l.length)) := by
  intro d
  induction d with
  | zero =>
    intro i acc hd ha
    refine Ev.step (fun k => by rw [spec_Roll.l1]) ?_
    simp only [List.range_zero, List.map_nil, List.append_nil]
    exact ev_neg (by omega) (Ev.now _)
  | succ d ih =>
    intro i acc hd ha
    have hi : i < l.length := by omega
    have hu := under_ev l h120 hV hc i hi
    have hw : wrap64 ((i : Int) + 1) = ((i + 1 : Nat) : Int) := wrap_succ hi (by omega)
    have h2 := ih (i + 1) (acc ++ [tot (fun m => Anc l (m : Int) (i : Int)) x l.length]) (by omega) (by simp [ha])
    have e : acc ++ ((List.range (d + 1)).map fun q => tot (fun m => Anc l (m : Int) ((i + q : Nat) : Int)) x l.length) = (acc ++ [tot (fun m => Anc l (m : Int) (i : Int)) x l.length]) ++ ((List.range d).map fun q => tot (fun m => Anc l (m : Int) ((i + 1 + q : Nat) : Int)) x l.length) := by
      rw [List.range_succ_eq_map, List.map_cons, List.map_map, List.append_assoc]
      congr 1
      rw [List.singleton_append]
      congr 1
      apply List.map_congr_left
      intro q _
      show tot _ x l.length = tot _ x l.length
      rw [show i + (q + 1) = i + 1 + q by omega]
    rw [e]
    refine Ev.step (fun k => by rw [spec_Roll.l1]) ?_
    refine ev_pos (by omega) (Ev.bind hu ?_)
    refine l2_ev l x hx hb h120 acc i (fun m => Anc l (m : Int) (i : Int)) (by omega) ?_
    rw [hw]
    exact h2

/-- What both give: nothing, or each account's sum. -/
theorem roll_main (l : List AA) (x : List Int) (hl : (l.length : Int) ≤ 1048576 ∧ ∀ x ∈ l, B112 1048576 x) (hx : (x.length : Int) ≤ 1048576) : ∃ r : List Int, Ev (fun k => spec_Roll.f k l x) r ∧ Ev (fun k => impl_Roll.f k l x) r ∧ (r.length : Int) ≤ 1048576 ∧
    (r = [] ∨ ((l.length : Int) ≤ 120 ∧ V l (l.length : Int) ∧ Ev (fun k => spec_ChartOk.f k l) true ∧ x.length = l.length ∧ r.length = l.length ∧ (∀ y ∈ x, -1000000000000000 ≤ y ∧ y ≤ 1000000000000000) ∧ ∀ j : Nat, j < l.length → rd r (j : Int) = tot (fun m => Anc l (m : Int) (j : Int)) x l.length)) := by
  obtain ⟨b, q, h1, h2, h3⟩ := chart_both l hl
  have hl1 := hl.1
  have sT : Ev (fun k => spec_Roll.j0 k l x ([] : List Int) true) ([] : List Int) := by
    refine Ev.step (fun k => by rw [spec_Roll.j0]) ?_
    exact ev_pos rfl (Ev.now _)
  have iT : Ev (fun k => impl_Roll.j0 k l x true) ([] : List Int) := by
    refine Ev.step (fun k => by rw [impl_Roll.j0]) ?_
    exact ev_pos rfl (Ev.now _)
  have hok : Ev (fun k => impl_ChartOk.f k l) b := by
    unfold impl_ChartOk.f
    exact Ev.bind h2 (Ev.now _)
  unfold spec_Roll.f impl_Roll.f
  by_cases c : b = true
  case neg => exact ⟨[], ev_bind0 rfl (Ev.bind h1 (ev_neg c sT)), Ev.bind hok (ev_neg c iT), by simp, .inl rfl⟩
  obtain ⟨h120, m', I⟩ := h3 c
  by_cases cn : (x.length : Int) = (l.length : Int)
  case neg =>
    have e : ((x.length : Int) != (l.length : Int)) = true := by simpa using cn
    exact ⟨[], ev_bind0 rfl (Ev.bind h1 (ev_pos c (by rw [e]; exact sT))), Ev.bind hok (ev_pos c (by rw [e]; exact iT)), by simp, .inl rfl⟩
  have e : ((x.length : Int) != (l.length : Int)) = false := by simpa using cn
  have hxl : x.length = l.length := by omega
  have hc : Ev (fun k => spec_ChartOk.f k l) true := by rw [c] at h1; exact h1
  -- are all within what they may be
  have hs := each_mem_go x (fun k i => spec_Roll.l0 k l x [] i) (fun y => -1000000000000000 ≤ y ∧ y ≤ 1000000000000000) (fun k => spec_Roll.l1 k l x [] 0) ([] : List Int) (by
    intro i hi
    have hrd : rd x (i : Int) = x[i] := rd_at hi
    have hw : wrap64 ((i : Int) + 1) = ((i + 1 : Nat) : Int) := wrap_succ hi (by omega)
    by_cases cb : -1000000000000000 ≤ x[i] ∧ x[i] ≤ 1000000000000000
    · refine .inl ⟨cb, fun r hr => ?_⟩
      refine Ev.step (fun k => by rw [spec_Roll.l0]) ?_
      simp only [hrd, hw, spec_l1In_eq, Option.bind_some, decide_eq_true_eq]
      exact ev_pos (by omega) (ev_pos (by omega) (ev_pos cb hr))
    · refine .inr ⟨cb, ?_⟩
      refine Ev.step (fun k => by rw [spec_Roll.l0]) ?_
      simp only [hrd, hw, spec_l1In_eq, Option.bind_some, decide_eq_true_eq]
      exact ev_pos (by omega) (ev_pos (by omega) (ev_neg cb (Ev.now _)))) (by
    intro r hr
    refine Ev.step (fun k => by rw [spec_Roll.l0]) ?_
    exact ev_neg (by omega) hr)
  have hi := each_mem_go x (fun k i => impl_Roll.l0 k l x x (x.length : Int) i) (fun y => -1000000000000000 ≤ y ∧ y ≤ 1000000000000000) (fun k => impl_Roll.l1 k l x (wrap64 ((x.length : Int) - 1))) ([] : List Int) (by
    intro i hi
    have hrd : rd x (i : Int) = x[i] := rd_at hi
    have hw : wrap64 ((i : Int) + 1) = ((i + 1 : Nat) : Int) := wrap_succ hi (by omega)
    by_cases cb : -1000000000000000 ≤ x[i] ∧ x[i] ≤ 1000000000000000
    · refine .inl ⟨cb, fun r hr => ?_⟩
      refine Ev.step (fun k => by rw [impl_Roll.l0]) ?_
      simp only [hrd, hw, impl_between_eq, Option.bind_some, decide_eq_true_eq]
      exact ev_pos (by omega) (ev_pos (by omega) (ev_pos (by omega) (ev_pos cb hr)))
    · refine .inr ⟨cb, ?_⟩
      refine Ev.step (fun k => by rw [impl_Roll.l0]) ?_
      simp only [hrd, hw, impl_between_eq, Option.bind_some, decide_eq_true_eq]
      exact ev_pos (by omega) (ev_pos (by omega) (ev_pos (by omega) (ev_neg cb (Ev.now _))))) (by
    intro r hr
    refine Ev.step (fun k => by rw [impl_Roll.l0]) ?_
    simp only [Option.bind_some, List.nil_append]
    refine ev_neg (by omega) (ev_pos ?_ hr)
    simp
    omega)
  have sJ : ∀ r, Ev (fun k => spec_Roll.l0 k l x [] 0) r → Ev (fun k => spec_Roll.j0 k l x ([] : List Int) false) r := by
    intro r hr
    refine Ev.step (fun k => by rw [spec_Roll.j0]) ?_
    exact ev_neg (by simp) hr
  have iJ : ∀ r, Ev (fun k => impl_Roll.l0 k l x x (x.length : Int) 0) r → Ev (fun k => impl_Roll.j0 k l x false) r := by
    intro r hr
    refine Ev.step (fun k => by rw [impl_Roll.j0]) ?_
    exact ev_neg (by simp) hr
  rcases hs with ⟨hb, hs⟩ | ⟨hb, hs⟩
  · rcases hi with ⟨_, hi⟩ | ⟨hb', _⟩
    · have g1 := spec_loops l h120 I.v hc x hxl hb l.length 0 [] (by omega) rfl
      obtain ⟨r, g2, g3, g4⟩ := roll_up l h120 I.v x hxl hb l.length x (Nat.le_refl _) hxl (by
        intro j hj
        rw [tot_one hj (fun m hm => (Up.last (show (m : Int) ≤ (l.length : Int) - 1 by omega)).trans (by omega))])
      have er : r = [] ++ ((List.range l.length).map fun q => tot (fun m => Anc l (m : Int) ((0 + q : Nat) : Int)) x l.length) := by
        rw [List.nil_append]
        apply List.ext_getElem (by simp [g3])
        intro j a1 a2
        have := g4 j (by omega)
        rw [rd_at a1] at this
        rw [this]
        simp only [List.getElem_map, List.getElem_range, Nat.zero_add]
        exact tot_iff x l.length (fun m hm => Up.anc (by omega))
      rw [← er] at g1
      have hw : wrap64 ((x.length : Int) - 1) = (l.length : Int) - 1 := by rw [wrap_id (by omega) (by omega)]; omega
      rw [← hw] at g2
      exact ⟨r, ev_bind0 rfl (Ev.bind h1 (ev_pos c (by rw [e]; exact sJ _ (hs _ g1)))), Ev.bind hok (ev_pos c (by rw [e]; exact iJ _ (hi _ g2))), by omega, .inr ⟨h120, I.v, hc, hxl, g3, hb, fun j hj => (g4 j hj).trans (tot_iff x l.length (fun m hm => Up.anc (by omega)))⟩⟩
    · exact absurd hb hb'
  · rcases hi with ⟨hb', _⟩ | ⟨_, hi⟩
    · exact absurd hb' hb
    · exact ⟨[], ev_bind0 rfl (Ev.bind h1 (ev_pos c (by rw [e]; exact sJ _ hs))), Ev.bind hok (ev_pos c (by rw [e]; exact iJ _ hi)), by simp, .inl rfl⟩

theorem FnExactRoll : laws_FnExactRoll.Pure := by
  intro l0 l1 hg0 hg1
  apply Ev.rounds
  unfold laws_FnExactRoll.f
  by_cases c1 : (l1.length : Int) > 1048576
  · exact ev_pos c1 (Ev.now _)
  refine ev_neg c1 ?_
  have hB1 : (l1.length : Int) ≤ 1048576 := by omega
  obtain ⟨s, hs, h⟩ := laws_szAccountS_ev l0 1048576 (by omega) (by omega) hg0
  refine Ev.bind hs ?_
  rcases h with h | ⟨_, _, hB⟩
  · exact ev_pos h (Ev.now _)
  refine ev_neg (by omega) ?_
  have to0 := laws_toAccountS_ev l0 hB
  have to1 := laws_toIntS_ev l1 hB1
  have hB' : ((l0.map cv171).length : Int) ≤ 1048576 ∧ ∀ x ∈ l0.map cv171, B112 1048576 x := ⟨by rw [List.length_map]; exact hB.1, fun x hx => by
    obtain ⟨y, hy, rfl⟩ := List.mem_map.1 hx
    exact cv171_B (hB.2 y hy)⟩
  obtain ⟨r, h1, h2, h3, _⟩ := roll_main _ l1 hB' hB1
  refine Ev.bind to0 (Ev.bind to1 (Ev.bind h1 (Ev.bind to0 (Ev.bind to1 (Ev.bind h2 (Ev.bind (laws_eqIntS_ev r h3) (ev_pos rfl (Ev.bind to0 (Ev.bind (laws_eqAccountS_ev _ hB') (ev_pos rfl (Ev.bind to1 (Ev.bind (laws_eqIntS_ev l1 hB1) (ev_pos rfl ?_)))))))))))))
  obtain ⟨q, hq, q0, q1, _⟩ := laws_markAccountS_ev (l0.map cv171) 1 (by omega) (by omega) hB'.1
  refine Ev.bind hq (Ev.bind (laws_markIntS_ev l1 q.1 (by omega) (by omega) hB1) (ev_neg ?_ (Ev.bind (laws_eqIntS_ev r h3) ?_)))
  · show ¬ (q.1 + (l1.length : Int) < 0)
    omega
  refine Ev.step (fun k => by rw [laws_FnExactRoll.j0]) ?_
  refine ev_neg (by simp) ?_
  refine Ev.bind (laws_markIntS_ev r 1 (by omega) (by omega) h3) (Ev.bind (laws_heldIntS_ev 1 r.length (by omega) (by omega) h3) (ev_neg (by omega) (ev_pos rfl ?_)))
  exact Ev.bind to0 (Ev.bind to1 (Ev.bind h2 (Ev.bind (laws_eqIntS_ev r h3) (ev_pos rfl (Ev.bind (laws_heldIntS_ev 1 r.length (by omega) (by omega) h3) (ev_neg (by omega) (ev_pos rfl (Ev.now _))))))))
end Go.Proofs.Ytflagondodkonaa.Pure
