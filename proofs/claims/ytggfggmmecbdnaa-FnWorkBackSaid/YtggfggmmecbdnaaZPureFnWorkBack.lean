/- WorkBack: of a drawn calendar the n-th working day behind a day is one, and so many lie up to it; ahead likewise. -/
import Derived.Test.YtggfggmmecbdnaaZPFnWorkBackx
import Derived.Test.YtggfggmmecbdnaaZHFnWorkBack
set_option maxHeartbeats 4000000
set_option linter.unusedVariables false
set_option linter.unusedSimpArgs false
namespace Go.Proofs.Ytggfggmmecbdnaa.Pure
open Go.RowKit Go.Proofs.Ytggfggmmecbdnaa.PFnWorkBack Go.Proofs.YtggfggmmecbdnaaW.PrintWords Go.Proofs.YtggfggmmecbdnaaW.PrintLast Go.Proofs.Ytggfggmmecbdnaa.XEv
/-! ### Draws -/
theorem and255 (n : Int) : Go.bits .and .i64 n 255 = n % 256 := by
  have h255 : (BitVec.ofInt 64 255).toNat = 2 ^ 8 - 1 := by decide
  have key : (BitVec.ofInt 64 n &&& BitVec.ofInt 64 255).toNat = (n % ((2 ^ 64 : Nat) : Int)).toNat % 2 ^ 8 := by
    rw [BitVec.toNat_and, BitVec.toNat_ofInt, h255, Nat.and_two_pow_sub_one_eq_mod]
  show IntKind.i64.wrap ((BitVec.ofInt 64 n &&& BitVec.ofInt 64 255).toNat : Nat) = n % 256
  rw [key, IntKind.wrap_i64]
  omega
/-- A draw's state: where it stands in its bytes. -/
def Cu (b : List Int) (i : Int) : Prop := 0 ≤ i ∧ i ≤ (b.length : Int) ∧ (b.length : Int) ≤ 140737488351232
theorem byte_ok (b : List Int) (i h : Int) (hc : Cu b i) : ∃ x i' h', spec_l1Byte.f b i h = some (x, i', h') ∧ 0 ≤ x ∧ x ≤ 255 ∧ Cu b i' := by
  obtain ⟨h0, h1, h2⟩ := hc
  unfold spec_l1Byte.f
  simp only [and255]
  by_cases c : i < (b.length : Int)
  · rw [if_pos c, if_pos h0]
    refine ⟨_, _, _, rfl, Int.emod_nonneg _ (by decide), ?_, ?_⟩
    · have := Int.emod_lt_of_pos (wrap64 (Go.bits .xor .i64 ((wrap64 ((wrap64 (h * 6364136223846793005)) + 1442695040888963407)) / 8589934592) ((wrap64 ((wrap64 (h * 6364136223846793005)) + 1442695040888963407)) / 35184372088832) % 256 + (wrap64 (rd b i)))) (show (0 : Int) < 256 by decide)
      exact Int.le_of_lt_add_one this
    · rw [wrap_id (by omega) (by omega)]
      exact ⟨by omega, by omega, h2⟩
  · rw [if_neg c]
    refine ⟨_, _, _, rfl, Int.emod_nonneg _ (by decide), ?_, h0, h1, h2⟩
    exact Int.le_of_lt_add_one (Int.emod_lt_of_pos _ (show (0 : Int) < 256 by decide))
theorem below_ok (b : List Int) (i h n : Int) (hc : Cu b i) : ∃ x i' h', spec_l1Below.f b i h n = some (x, i', h') ∧ Cu b i' ∧ 0 ≤ x ∧ (0 < n → x < n) ∧ (n ≤ 0 → x = 0) := by
  unfold spec_l1Below.f
  by_cases c0 : n ≤ 0
  · exact ⟨0, i, h, if_pos c0, hc, by decide, fun h => by omega, fun _ => rfl⟩
  rw [if_neg c0]
  obtain ⟨x1, i1, h1, e1, a1, b1, c1⟩ := byte_ok b i h hc
  by_cases c : n ≤ 256
  · rw [if_pos c, e1, Option.bind_some, if_neg (by omega)]
    exact ⟨_, _, _, rfl, c1, Int.tmod_nonneg _ a1, fun _ => Int.tmod_lt_of_pos _ (by omega), fun h => absurd h c0⟩
  · obtain ⟨x2, i2, h2, e2, a2, b2, c2⟩ := byte_ok b i1 h1 c1
    obtain ⟨x3, i3, h3, e3, a3, b3, c3⟩ := byte_ok b i2 h2 c2
    obtain ⟨x4, i4, h4, e4, a4, b4, c4⟩ := byte_ok b i3 h3 c3
    rw [if_neg c, e1, Option.bind_some, e2, Option.bind_some, e3, Option.bind_some, e4, Option.bind_some, if_neg (by omega)]
    refine ⟨_, _, _, rfl, c4, Int.tmod_nonneg _ ?_, fun _ => Int.tmod_lt_of_pos _ (by omega), fun h => absurd h c0⟩
    rw [wrap_id (x := x1 * 16777216) (by omega) (by omega), wrap_id (x := x2 * 65536) (by omega) (by omega), wrap_id (x := x3 * 256) (by omega) (by omega), wrap_id (x := x1 * 16777216 + x2 * 65536) (by omega) (by omega), wrap_id (x := x1 * 16777216 + x2 * 65536 + x3 * 256) (by omega) (by omega), wrap_id (by omega) (by omega)]
    omega
theorem once_ok (b : List Int) (i h n : Int) (hc : Cu b i) : ∃ (v : Bool) (i' h' : Int), spec_l1Once.f b i h n = some (v, i', h') ∧ Cu b i' := by
  obtain ⟨x, i', h', e, c, _⟩ := below_ok b i h n hc
  unfold spec_l1Once.f
  rw [e]
  exact ⟨_, _, _, rfl, c⟩
theorem pickInt_ok (b : List Int) (i h : Int) (l : List Int) (hl : 0 < l.length) (hc : Cu b i) : ∃ s i' h', spec_l1PickInt.f b i h l = some (s, i', h') ∧ Cu b i' ∧ s ∈ l := by
  obtain ⟨x, i', h', e, c, x0, x1, _⟩ := below_ok b i h (l.length : Int) hc
  have := x1 (by omega)
  unfold spec_l1PickInt.f
  rw [e, Option.bind_some, if_pos x0, if_pos this]
  refine ⟨_, _, _, rfl, c, ?_⟩
  have hx : x.toNat < l.length := by omega
  have e2 := rd_at hx
  rw [show ((x.toNat : Nat) : Int) = x by omega] at e2
  show rd l x ∈ l
  rw [e2]
  exact List.getElem_mem hx
theorem spoil_ok (b : List Int) (i h a : Int) (l : List Int) (hl : 0 < l.length) (hc : Cu b i) : ∃ s i' h', spec_l1Spoil.f b i h a l = some (s, i', h') ∧ Cu b i' ∧ (s = a ∨ s ∈ l) := by
  obtain ⟨v, i1, h1, e, c⟩ := once_ok b i h 40 hc
  unfold spec_l1Spoil.f
  rw [e, Option.bind_some]
  by_cases cv : v = true
  · obtain ⟨s, i2, h2, e2, c2, m⟩ := pickInt_ok b i1 h1 l hl c
    rw [if_pos cv, e2]
    exact ⟨_, _, _, rfl, c2, .inr m⟩
  · rw [if_neg cv]
    exact ⟨_, _, _, rfl, c, .inl rfl⟩
theorem new_ok (l : List Int) (hl : (l.length : Int) ≤ 140737488351232) : ∃ h, Ev (fun k => spec_l1New.f k l) (l, 0, h) := by
  have go : ∀ (d i : Nat) (h : Int), i + d = l.length → ∃ h', Ev (fun k => spec_l1New.l0 k l h (i : Int)) (l, 0, h') := by
    intro d
    induction d with
    | zero =>
      intro i h hd
      refine ⟨h, Ev.step (fun k => by rw [spec_l1New.l0]) ?_⟩
      exact ev_neg (by omega) (Ev.now _)
    | succ d ih =>
      intro i h hd
      have hw : wrap64 ((i : Int) + 1) = ((i + 1 : Nat) : Int) := wrap_id (by omega) (by omega)
      by_cases c : (i : Int) < 4000
      · obtain ⟨h', hh⟩ := ih (i + 1) (Go.bits .and .i64 (wrap64 ((wrap64 ((wrap64 (h * 131)) + (wrap64 (rd l (i : Int))))) + 7)) 1073741823) (by omega)
        refine ⟨h', Ev.step (fun k => by rw [spec_l1New.l0]) ?_⟩
        simp only [hw]
        exact ev_pos (by omega) (ev_pos c (ev_pos (by omega) hh))
      · refine ⟨h, Ev.step (fun k => by rw [spec_l1New.l0]) ?_⟩
        exact ev_pos (by omega) (ev_neg c (Ev.now _))
  obtain ⟨h, hh⟩ := go l.length 0 (wrap64 (71933 + (l.length : Int))) (by omega)
  exact ⟨h, by unfold spec_l1New.f; exact hh⟩
/-! ### What is drawn -/
theorem drawDay_ok (b : List Int) (i h : Int) (hc : Cu b i) : ∃ s i' h', spec_l2DrawDay.f b i h = some (s, i', h') ∧ Cu b i' ∧ 0 ≤ s ∧ s ≤ 40000 := by
  unfold spec_l2DrawDay.f
  obtain ⟨x, i1, h1, e1, c1, _⟩ := below_ok b i h 10 hc
  rw [e1, Option.bind_some]
  by_cases ca : x = 0
  · obtain ⟨y, i2, h2, e2, c2, a2, b2, _⟩ := below_ok b i1 h1 40001 c1
    rw [if_pos ca, e2, Option.bind_some]
    exact ⟨_, _, _, rfl, c2, a2, by have := b2 (by decide); omega⟩
  · rw [if_neg ca]
    by_cases cb : x = 1
    · obtain ⟨y, i2, h2, e2, c2, m⟩ := pickInt_ok b i1 h1 ([0, 1, 30, 31, 58, 59, 60, 365, 366, 36524, 40000, 39999] : List Int) (by decide) c1
      rw [if_pos cb, e2, Option.bind_some]
      have hm : ∀ z ∈ ([0, 1, 30, 31, 58, 59, 60, 365, 366, 36524, 40000, 39999] : List Int), 0 ≤ z ∧ z ≤ 40000 := by decide
      exact ⟨_, _, _, rfl, c2, (hm y m).1, (hm y m).2⟩
    · obtain ⟨y, i2, h2, e2, c2, a2, b2, _⟩ := below_ok b i1 h1 1500 c1
      rw [if_neg cb, e2, Option.bind_some]
      exact ⟨_, _, _, rfl, c2, a2, by have := b2 (by decide); omega⟩
theorem badDay_ok (b : List Int) (i h x : Int) (hc : Cu b i) : ∃ s i' h', spec_l2BadDay.f b i h x = some (s, i', h') ∧ Cu b i' := by
  unfold spec_l2BadDay.f
  obtain ⟨s, i1, h1, e1, c1, _⟩ := spoil_ok b i h x ([(-1), 40001, (-9223372036854775808)] : List Int) (by decide) hc
  rw [e1, Option.bind_some]
  exact ⟨_, _, _, rfl, c1⟩
def day (d : Int) : Prop := 0 ≤ d ∧ d ≤ 40000
instance (d : Int) : Decidable (day d) := inferInstanceAs (Decidable (_ ∧ _))
def GoodFrom (l : List Int) (i : Nat) : Prop := ∀ j : Nat, i ≤ j → j < l.length → day (rd l (j : Int)) ∧ (0 < j → rd l ((j : Int) - 1) < rd l (j : Int))
def Steps (l : List Int) (L : Nat → Int → Option Bool) : Prop :=
  (∀ i : Nat, i < l.length → ¬ day (rd l (i : Int)) → Ev (fun k => L k (i : Int)) false) ∧
  (∀ i : Nat, i < l.length → day (rd l (i : Int)) → 0 < i → rd l ((i : Int) - 1) ≥ rd l (i : Int) → Ev (fun k => L k (i : Int)) false) ∧
  (∀ (i : Nat) (b : Bool), i < l.length → day (rd l (i : Int)) → (0 < i → rd l ((i : Int) - 1) < rd l (i : Int)) → Ev (fun k => L k ((i + 1 : Nat) : Int)) b → Ev (fun k => L k (i : Int)) b) ∧
  Ev (fun k => L k (l.length : Int)) true
theorem cal_any (l : List Int) : ∀ (d i : Nat), i + d = l.length → ∃ b : Bool, (∀ L, Steps l L → Ev (fun k => L k (i : Int)) b) ∧ (b = true → GoodFrom l i)
  | 0, i, h => by
    refine ⟨true, fun L hL => ?_, fun _ j h1 h2 => by omega⟩
    rw [show i = l.length by omega]
    exact hL.2.2.2
  | d + 1, i, h => by
    have hi : i < l.length := by omega
    by_cases c : day (rd l (i : Int))
    case neg => exact ⟨false, fun L hL => hL.1 i hi c, fun h => by cases h⟩
    by_cases c2 : 0 < i → rd l ((i : Int) - 1) < rd l (i : Int)
    case neg =>
      have c3 : 0 < i := Classical.byContradiction fun h => c2 (fun h' => absurd h' h)
      have c4 : rd l ((i : Int) - 1) ≥ rd l (i : Int) := Classical.byContradiction fun h => c2 (fun _ => by omega)
      exact ⟨false, fun L hL => hL.2.1 i hi c c3 c4, fun h => by cases h⟩
    obtain ⟨b, h1, h2⟩ := cal_any l d (i + 1) (by omega)
    refine ⟨b, fun L hL => hL.2.2.1 i b hi c c2 (h1 L hL), fun hb j hj1 hj2 => ?_⟩
    by_cases e : j = i
    · subst e
      exact ⟨c, c2⟩
    · exact h2 hb j (by omega) hj2
def Cal (off : Int) (l : List Int) : Prop := l.length ≤ 400 ∧ GoodFrom l 0
theorem cal_ev (off : Int) (l : List Int) : ∃ b : Bool, Ev (fun k => impl_CalOk.f k off l) b ∧ Ev (fun k => spec_CalOk.f k off l) b ∧ (b = true → Cal off l) := by
  have it : Ev (fun k => impl_CalOk.j0 k true off l) false := Ev.step (fun k => by rw [impl_CalOk.j0]) (ev_pos rfl (Ev.now _))
  have st : Ev (fun k => spec_CalOk.j0 k true off l) false := Ev.step (fun k => by rw [spec_CalOk.j0]) (ev_pos rfl (Ev.now _))
  unfold impl_CalOk.f spec_CalOk.f
  by_cases ho : 0 ≤ off ∧ off ≤ 126
  case neg => exact ⟨false, ev_bind0 (impl_between_eq _ _ _) (ev_neg (by rw [decide_eq_true_eq]; exact ho) it), ev_bind0 (spec_l1In_eq _ _ _) (ev_neg (by rw [decide_eq_true_eq]; exact ho) st), fun h => by cases h⟩
  by_cases hl : (l.length : Int) > 400
  · refine ⟨false, ev_bind0 (impl_between_eq _ _ _) (ev_pos (decide_eq_true ho) ?_), ev_bind0 (spec_l1In_eq _ _ _) (ev_pos (decide_eq_true ho) ?_), fun h => by cases h⟩
    · rw [decide_eq_true hl]; exact it
    · rw [decide_eq_true hl]; exact st
  obtain ⟨b, h1, h2⟩ := cal_any l l.length 0 (by omega)
  have hlen : (l.length : Int) ≤ 400 := by omega
  have wi : ∀ i : Nat, i < l.length → wrap64 ((i : Int) + 1) = ((i + 1 : Nat) : Int) := fun i hi => by rw [wrap_id (by omega) (by omega)]; omega
  have wd : ∀ i : Nat, i < l.length → wrap64 ((i : Int) - 1) = (i : Int) - 1 := fun i hi => wrap_id (by omega) (by omega)
  have si : Steps l (fun k i => impl_CalOk.l0 k l (l.length : Int) i off l) := by
    refine ⟨fun i hi c => ?_, fun i hi c c2 c3 => ?_, fun i b hi c c2 hb => ?_, ?_⟩
    · show Ev (fun k => impl_CalOk.l0 k l (l.length : Int) (i : Int) off l) false
      refine Ev.step (fun k => by rw [impl_CalOk.l0]) ?_
      exact ev_pos (by omega) (ev_pos (by omega) (ev_pos (by omega) (ev_bind0 (impl_isDay_eq _) (ev_neg (by rw [decide_eq_true_eq]; exact c) (Ev.now _)))))
    · show Ev (fun k => impl_CalOk.l0 k l (l.length : Int) (i : Int) off l) false
      refine Ev.step (fun k => by rw [impl_CalOk.l0]) ?_
      refine ev_pos (by omega) (ev_pos (by omega) (ev_pos (by omega) (ev_bind0 (impl_isDay_eq _) (ev_pos (decide_eq_true c) (ev_pos (by omega) ?_)))))
      simp only [wd i hi]
      exact ev_pos (by omega) (ev_pos (by omega) (ev_pos c3 (Ev.now _)))
    · show Ev (fun k => impl_CalOk.l0 k l (l.length : Int) (i : Int) off l) b
      refine Ev.step (fun k => by rw [impl_CalOk.l0]) ?_
      refine ev_pos (by omega) (ev_pos (by omega) (ev_pos (by omega) (ev_bind0 (impl_isDay_eq _) (ev_pos (decide_eq_true c) ?_))))
      simp only [wi i hi, wd i hi]
      by_cases c0 : (i : Int) > 0
      · have := c2 (by omega)
        exact ev_pos c0 (ev_pos (by omega) (ev_pos (by omega) (ev_neg (by omega) hb)))
      · exact ev_neg c0 hb
    · show Ev (fun k => impl_CalOk.l0 k l (l.length : Int) (l.length : Int) off l) true
      refine Ev.step (fun k => by rw [impl_CalOk.l0]) ?_
      exact ev_neg (by omega) (Ev.now _)
  have ss : Steps l (fun k i => spec_CalOk.l0 k i off l) := by
    refine ⟨fun i hi c => ?_, fun i hi c c2 c3 => ?_, fun i b hi c c2 hb => ?_, ?_⟩
    · show Ev (fun k => spec_CalOk.l0 k (i : Int) off l) false
      refine Ev.step (fun k => by rw [spec_CalOk.l0]) ?_
      exact ev_pos (by omega) (ev_pos (by omega) (ev_bind0 (spec_l2Day_eq _) (ev_neg (by rw [decide_eq_true_eq]; exact c) (Ev.now _))))
    · show Ev (fun k => spec_CalOk.l0 k (i : Int) off l) false
      refine Ev.step (fun k => by rw [spec_CalOk.l0]) ?_
      refine ev_pos (by omega) (ev_pos (by omega) (ev_bind0 (spec_l2Day_eq _) (ev_pos (decide_eq_true c) (ev_pos (by omega) ?_))))
      simp only [wd i hi]
      exact ev_pos (by omega) (ev_pos (by omega) (ev_pos c3 (Ev.now _)))
    · show Ev (fun k => spec_CalOk.l0 k (i : Int) off l) b
      refine Ev.step (fun k => by rw [spec_CalOk.l0]) ?_
      refine ev_pos (by omega) (ev_pos (by omega) (ev_bind0 (spec_l2Day_eq _) (ev_pos (decide_eq_true c) ?_)))
      simp only [wi i hi, wd i hi]
      by_cases c0 : (i : Int) > 0
      · have := c2 (by omega)
        exact ev_pos c0 (ev_pos (by omega) (ev_pos (by omega) (ev_neg (by omega) hb)))
      · exact ev_neg c0 hb
    · show Ev (fun k => spec_CalOk.l0 k (l.length : Int) off l) true
      refine Ev.step (fun k => by rw [spec_CalOk.l0]) ?_
      exact ev_neg (by omega) (Ev.now _)
  refine ⟨b, ev_bind0 (impl_between_eq _ _ _) (ev_pos (decide_eq_true ho) ?_), ev_bind0 (spec_l1In_eq _ _ _) (ev_pos (decide_eq_true ho) ?_), fun hb => ⟨by omega, h2 hb⟩⟩
  · rw [decide_eq_false hl]
    refine Ev.step (fun k => by rw [impl_CalOk.j0]) ?_
    exact ev_neg (by decide) (h1 _ si)
  · rw [decide_eq_false hl]
    refine Ev.step (fun k => by rw [spec_CalOk.j0]) ?_
    exact ev_neg (by decide) (h1 _ ss)
/-- Is a day a holiday, is its weekday off. -/
def holB (l : List Int) (d : Int) : Bool := decide (d ∈ l)
def bitB (off d : Int) : Bool := Go.bits .and .i64 (shr .i64 off (IntKind.u64.wrap (Int.tmod (wrap64 (d + 5)) 7))) 1 == 1
def wkB (off : Int) (l : List Int) (d : Int) : Bool := !(bitB off d) && !(holB l d)
theorem hol_rd {l : List Int} {d : Int} : d ∈ l ↔ ∃ j : Nat, j < l.length ∧ rd l (j : Int) = d := by
  rw [List.mem_iff_getElem]
  constructor
  · rintro ⟨j, hj, h⟩
    exact ⟨j, hj, by rw [rd_at hj]; exact h⟩
  · rintro ⟨j, hj, h⟩
    exact ⟨j, hj, by rw [rd_at hj] at h; exact h⟩
theorem sorted_lt {l : List Int} (h : GoodFrom l 0) : ∀ (m i : Nat), i + m + 1 < l.length → rd l (i : Int) < rd l ((i + m + 1 : Nat) : Int)
  | 0, i, hi => by
    have := (h (i + 1) (by omega) (by omega)).2 (by omega)
    rw [show ((i + 1 : Nat) : Int) - 1 = (i : Int) by omega] at this
    exact this
  | m + 1, i, hi => by
    have h1 := sorted_lt h m i (by omega)
    have h2 := (h (i + (m + 1) + 1) (by omega) (by omega)).2 (by omega)
    rw [show ((i + (m + 1) + 1 : Nat) : Int) - 1 = ((i + m + 1 : Nat) : Int) by omega] at h2
    omega
theorem bs_ev (off d : Int) (l : List Int) (hc : Cal off l) : ∀ (m lo hi : Nat), hi - lo ≤ m → lo ≤ hi → hi ≤ l.length → (∀ j : Nat, j < lo → rd l (j : Int) < d) → (∀ j : Nat, hi ≤ j → j < l.length → d ≤ rd l (j : Int)) →
    Ev (fun k => impl_works.l0 k d (lo : Int) (hi : Int) off l) (!(holB l d)) := by
  have hlen := hc.1
  intro m
  induction m with
  | zero =>
    intro lo hi h0 h1 h2 hlo hhi
    have e : lo = hi := by omega
    subst e
    refine Ev.step (fun k => by rw [impl_works.l0]) (ev_neg (by omega) ?_)
    by_cases c : (lo : Int) = (l.length : Int)
    · have : holB l d = false := by
        unfold holB
        rw [decide_eq_false_iff_not, hol_rd]
        rintro ⟨j, hj, hr⟩
        have := hlo j (by omega)
        omega
      rw [this]
      exact ev_pos c (Ev.now _)
    · have hl : lo < l.length := by omega
      have e2 : (rd l (lo : Int) != d) = !(holB l d) := by
        unfold holB
        by_cases hd : rd l (lo : Int) = d
        · have hm : d ∈ l := hol_rd.2 ⟨lo, hl, hd⟩
          rw [decide_eq_true hm, hd]
          simp
        · have hm : ¬ d ∈ l := by
            rw [hol_rd]
            rintro ⟨j, hj, hr⟩
            rcases Nat.lt_trichotomy j lo with h | h | h
            · have := hlo j h; omega
            · subst h; exact hd hr
            · have h3 := sorted_lt hc.2 (j - lo - 1) lo (by omega)
              rw [show lo + (j - lo - 1) + 1 = j by omega] at h3
              have := hhi lo (Nat.le_refl _) hl
              omega
          rw [decide_eq_false hm]
          simp [hd]
      rw [← e2]
      exact ev_neg c (ev_pos (by omega) (ev_pos (by omega) (Ev.now _)))
  | succ m ih =>
    intro lo hi h0 h1 h2 hlo hhi
    by_cases e : lo = hi
    · exact ih lo hi (by omega) h1 h2 hlo hhi
    have hlt : lo < hi := by omega
    have w1 : wrap64 ((lo : Int) + (hi : Int)) = ((lo + hi : Nat) : Int) := by rw [wrap_id (by omega) (by omega)]; omega
    have w2 : Int.tdiv ((lo + hi : Nat) : Int) 2 = (((lo + hi) / 2 : Nat) : Int) := by rw [Int.tdiv_eq_ediv_of_nonneg (by omega)]; omega
    obtain ⟨md, hmd⟩ : ∃ md : Nat, md = (lo + hi) / 2 := ⟨_, rfl⟩
    have hm1 : lo ≤ md := by omega
    have hm2 : md < hi := by omega
    have w3 : wrap64 (((lo + hi) / 2 : Nat) : Int) = (md : Int) := by rw [← hmd, wrap_id (by omega) (by omega)]
    have w4 : wrap64 ((md : Int) + 1) = ((md + 1 : Nat) : Int) := by rw [wrap_id (by omega) (by omega)]; omega
    have W1 := Aside0.mk w1
    have W2 := Aside0.mk w2
    have W3 := Aside0.mk w3
    have W4 := Aside0.mk w4
    clear w1 w2 w3 w4
    refine Ev.step (fun k => by rw [impl_works.l0]) (ev_pos (by omega) ?_)
    simp only [W1.out, W2.out, W3.out, W4.out]
    refine ev_pos (by omega) (ev_pos (by omega) ?_)
    by_cases c : rd l (md : Int) < d
    · refine ev_pos c (ih (md + 1) hi (by omega) (by omega) h2 ?_ hhi)
      intro j hj
      by_cases ej : j = md
      · rw [ej]; exact c
      · have h3 := sorted_lt hc.2 (md - j - 1) j (by omega)
        rw [show j + (md - j - 1) + 1 = md by omega] at h3
        omega
    · refine ev_neg c (ih lo md (by omega) hm1 (by omega) hlo ?_)
      intro j hj1 hj2
      by_cases ej : j = md
      · rw [ej]; omega
      · have h3 := sorted_lt hc.2 (j - md - 1) md (by omega)
        rw [show md + (j - md - 1) + 1 = j by omega] at h3
        omega
theorem wd_nonneg (x : Int) : 0 ≤ IntKind.u64.wrap x := by
  have hs : IntKind.u64.signed = false := rfl
  simp only [IntKind.wrap]
  rw [hs, Bool.false_and, if_neg (by decide)]
  exact Int.emod_nonneg _ (by decide)
theorem works_ev (off d : Int) (l : List Int) (hc : Cal off l) (hd : day d) : Ev (fun k => impl_works.f k off l d) (wkB off l d) := by
  unfold impl_works.f
  refine ev_bind0 (impl_isDay_eq _) (ev_pos (decide_eq_true hd) ?_)
  have hw : impl_Weekday.f d = some (Int.tmod (wrap64 (d + 5)) 7) := by
    unfold impl_Weekday.f
    rw [impl_isDay_eq, Option.bind_some, if_pos (decide_eq_true (show 0 ≤ d ∧ d ≤ 40000 from hd))]
  refine ev_bind0 hw (ev_pos (wd_nonneg _) ?_)
  refine Ev.step (fun k => by rw [impl_works.j0]) ?_
  by_cases c : bitB off d = true
  · have e : wkB off l d = false := by unfold wkB; rw [c]; rfl
    rw [e]
    exact ev_pos c (Ev.now _)
  · have c' : bitB off d = false := by simpa using c
    have e : wkB off l d = !(holB l d) := by unfold wkB; rw [c']; rfl
    rw [e]
    refine ev_neg c ?_
    exact bs_ev off d l hc l.length 0 l.length (by omega) (by omega) (by omega) (fun j hj => by omega) (fun j h1 h2 => by omega)
theorem works2_ev (off d : Int) (l : List Int) (hc : Cal off l) (hd : day d) : Ev (fun k => spec_l2Work.f k off l d) (wkB off l d) := by
  unfold spec_l2Work.f
  have hw : spec_Weekday.f d = some (Int.tmod (wrap64 (d + 5)) 7) := by
    unfold spec_Weekday.f
    rw [spec_l2Day_eq, Option.bind_some, if_pos (decide_eq_true (show 0 ≤ d ∧ d ≤ 40000 from hd))]
  refine ev_bind0 hw (ev_pos (wd_nonneg _) ?_)
  by_cases c : bitB off d = true
  · have e : wkB off l d = false := by unfold wkB; rw [c]; rfl
    rw [e]
    unfold bitB at c
    exact ev_pos (eq_of_beq c) (Ev.now _)
  · have c' : bitB off d = false := by simpa using c
    have e : wkB off l d = !(holB l d) := by unfold wkB; rw [c']; rfl
    rw [e]
    unfold bitB at c'
    refine ev_neg (fun h => by rw [h] at c'; simp at c') ?_
    have hlen := hc.1
    have key : ∀ (m i : Nat), i + m = l.length → (∀ j : Nat, j < i → rd l (j : Int) ≠ d) → Ev (fun k => spec_l2Work.l0 k d (i : Int) off l) (!(holB l d)) := by
      intro m
      induction m with
      | zero =>
        intro i hi hj
        have : holB l d = false := by
          unfold holB
          rw [decide_eq_false_iff_not, hol_rd]
          rintro ⟨j, h1, h2⟩
          exact hj j (by omega) h2
        rw [this]
        refine Ev.step (fun k => by rw [spec_l2Work.l0]) ?_
        exact ev_neg (by omega) (Ev.now _)
      | succ m ih =>
        intro i hi hj
        refine Ev.step (fun k => by rw [spec_l2Work.l0]) (ev_pos (by omega) (ev_pos (by omega) ?_))
        by_cases c : rd l (i : Int) = d
        · have : holB l d = true := by
            unfold holB
            rw [decide_eq_true_eq, hol_rd]
            exact ⟨i, by omega, c⟩
          rw [this]
          exact ev_pos c (Ev.now _)
        · refine ev_neg c ?_
          rw [show wrap64 ((i : Int) + 1) = ((i + 1 : Nat) : Int) by rw [wrap_id (by omega) (by omega)]; omega]
          refine ih (i + 1) (by omega) (fun j h => ?_)
          by_cases ej : j = i
          · rw [ej]; exact c
          · exact hj j (by omega)
    exact key l.length 0 (by omega) (fun j h => by omega)
theorem uniform {F : Nat → Int → Option Bool} {g : Int → Bool} (h : ∀ d, day d → Ev (fun k => F k d) (g d)) : ∃ K, ∀ k, K ≤ k → ∀ d, day d → F k d = some (g d) := by
  have key : ∀ m : Nat, ∃ K, ∀ k, K ≤ k → ∀ d : Int, 0 ≤ d → d < (m : Int) → d ≤ 40000 → F k d = some (g d) := by
    intro m
    induction m with
    | zero => exact ⟨0, fun k _ d h0 h1 _ => by omega⟩
    | succ m ih =>
      obtain ⟨K, hK⟩ := ih
      by_cases c : (m : Int) ≤ 40000
      · obtain ⟨K2, h2⟩ := h (m : Int) ⟨by omega, c⟩
        refine ⟨max K K2, fun k hk d h0 h1 h3 => ?_⟩
        by_cases e : d = (m : Int)
        · rw [e]; exact h2 k (by omega)
        · exact hK k (by omega) d h0 (by omega) h3
      · exact ⟨K, fun k hk d h0 h1 h3 => hK k hk d h0 (by omega) h3⟩
  obtain ⟨K, hK⟩ := key 40001
  exact ⟨K, fun k hk d hd => hK k hk d hd.1 (by have := hd.2; omega) hd.2⟩
/-- The working days from a day on, and back. -/
def upL (wk : Int → Bool) : Nat → Int → List Int
  | 0, _ => []
  | m + 1, d => if wk d = true then d :: upL wk m (d + 1) else upL wk m (d + 1)
def dnL (wk : Int → Bool) : Nat → Int → List Int
  | 0, _ => []
  | m + 1, d => if wk d = true then d :: dnL wk m (d - 1) else dnL wk m (d - 1)
theorem wdl_up {off : Int} {l : List Int} {k : Nat} (h : ∀ d, day d → impl_works.f k off l d = some (wkB off l d)) : ∀ (m j : Nat) (d : Int), m < j → d + (m : Int) = 40001 → 0 ≤ d → wdl k off l 1 j d = some (upL (wkB off l) m d)
  | 0, j + 1, d, hj, hd, h0 => by
    rw [wdl, impl_isDay_eq, Option.bind_some, if_neg (by rw [decide_eq_true_eq]; omega)]
    rfl
  | m + 1, j + 1, d, hj, hd, h0 => by
    have hday : day d := ⟨h0, by omega⟩
    have w1 : wrap64 (d + 1) = d + 1 := wrap_id (by omega) (by omega)
    rw [wdl, impl_isDay_eq, Option.bind_some, if_pos (decide_eq_true (show 0 ≤ d ∧ d ≤ 40000 from hday)), h d hday, Option.bind_some, w1, wdl_up h m j (d + 1) (by omega) (by omega) (by omega), Option.bind_some]
    rw [upL]
theorem wdl_dn {off : Int} {l : List Int} {k : Nat} (h : ∀ d, day d → impl_works.f k off l d = some (wkB off l d)) : ∀ (m j : Nat) (d : Int), m < j → (m : Int) = d + 1 → d ≤ 40000 → wdl k off l (-1) j d = some (dnL (wkB off l) m d)
  | 0, j + 1, d, hj, hd, h0 => by
    rw [wdl, impl_isDay_eq, Option.bind_some, if_neg (by rw [decide_eq_true_eq]; omega)]
    rfl
  | m + 1, j + 1, d, hj, hd, h0 => by
    have hday : day d := ⟨by omega, h0⟩
    have w1 : wrap64 (d + -1) = d - 1 := by rw [wrap_id (by omega) (by omega)]; omega
    rw [wdl, impl_isDay_eq, Option.bind_some, if_pos (decide_eq_true (show 0 ≤ d ∧ d ≤ 40000 from hday)), h d hday, Option.bind_some, w1, wdl_dn h m j (d - 1) (by omega) (by omega) (by omega), Option.bind_some]
    rw [dnL]
theorem up_mem {wk : Int → Bool} : ∀ {m : Nat} {d x : Int}, x ∈ upL wk m d → d ≤ x ∧ x < d + m ∧ wk x = true
  | 0, _, _, h => by cases h
  | m + 1, d, x, h => by
    rw [upL] at h
    by_cases c : wk d = true
    · rw [if_pos c] at h
      rcases List.mem_cons.1 h with h | h
      · rw [h]; exact ⟨by omega, by omega, c⟩
      · have := up_mem h; exact ⟨by omega, by omega, this.2.2⟩
    · rw [if_neg c] at h
      have := up_mem h
      exact ⟨by omega, by omega, this.2.2⟩
theorem dn_mem {wk : Int → Bool} : ∀ {m : Nat} {d x : Int}, x ∈ dnL wk m d → x ≤ d ∧ d - m < x ∧ wk x = true
  | 0, _, _, h => by cases h
  | m + 1, d, x, h => by
    rw [dnL] at h
    by_cases c : wk d = true
    · rw [if_pos c] at h
      rcases List.mem_cons.1 h with h | h
      · rw [h]; exact ⟨by omega, by omega, c⟩
      · have := dn_mem h; exact ⟨by omega, by omega, this.2.2⟩
    · rw [if_neg c] at h
      have := dn_mem h
      exact ⟨by omega, by omega, this.2.2⟩
/-- Up to a day: those ahead of it. -/
theorem up_take {wk : Int → Bool} {b : Int} : ∀ (m n : Nat) (d : Int), n ≤ m → d + (n : Int) = b + 1 → (upL wk m d).takeWhile (fun x => decide (x ≤ b)) = upL wk n d
  | m, 0, d, _, hd => by
    cases hm : upL wk m d with
    | nil => rfl
    | cons y t =>
      have hy := up_mem (show y ∈ upL wk m d by rw [hm]; simp)
      have : ¬ y ≤ b := by omega
      simp [List.takeWhile_cons, this, upL]
  | 0, n + 1, d, h, _ => by omega
  | m + 1, n + 1, d, h, hd => by
    have ih := up_take (wk := wk) (b := b) m n (d + 1) (by omega) (by omega)
    rw [upL, upL]
    by_cases c : wk d = true
    · have hb : d ≤ b := by omega
      rw [if_pos c, if_pos c]
      simp [List.takeWhile_cons, hb, ih]
    · rw [if_neg c, if_neg c]
      exact ih
theorem up_at {wk : Int → Bool} : ∀ (m : Nat) (d : Int) (i : Nat) (e : Int), (upL wk m d)[i]? = some e → (upL wk (e + 1 - d).toNat d).length = i + 1
  | 0, _, _, _, h => by simp [upL] at h
  | m + 1, d, i, e, h => by
    have he := up_mem (List.mem_of_getElem? h)
    rw [show (e + 1 - d).toNat = (e + 1 - (d + 1)).toNat + 1 by omega]
    rw [upL] at h ⊢
    by_cases c : wk d = true
    · rw [if_pos c] at h ⊢
      cases i with
      | zero =>
        have : d = e := by simpa using h
        rw [← this, show (d + 1 - (d + 1)).toNat = 0 by omega]
        simp [upL]
      | succ i =>
        have h' : (upL wk m (d + 1))[i]? = some e := by simpa using h
        rw [List.length_cons, up_at m (d + 1) i e h']
    · rw [if_neg c] at h ⊢
      exact up_at m (d + 1) i e h
theorem up_snoc {wk : Int → Bool} : ∀ (m : Nat) (d : Int), (upL wk (m + 1) d).length = (upL wk m d).length + (if wk (d + m) = true then 1 else 0)
  | 0, d => by
    rw [upL]
    by_cases c : wk d = true
    · simp [upL, c]
    · simp [upL, c]
  | m + 1, d => by
    have ih := up_snoc (wk := wk) m (d + 1)
    have e : d + ((m + 1 : Nat) : Int) = d + 1 + (m : Int) := by omega
    have e2 : upL wk (m + 1) d = if wk d = true then d :: upL wk m (d + 1) else upL wk m (d + 1) := by rw [upL]
    rw [upL, e, e2]
    by_cases c : wk d = true
    · rw [if_pos c, if_pos c, List.length_cons, List.length_cons, ih]; omega
    · rw [if_neg c, if_neg c, ih]
theorem dn_at {wk : Int → Bool} : ∀ (m : Nat) (b : Int) (i : Nat) (e : Int), (dnL wk m b)[i]? = some e → (upL wk (b + 1 - e).toNat e).length = i + 1
  | 0, _, _, _, h => by simp [dnL] at h
  | m + 1, b, i, e, h => by
    have he := dn_mem (List.mem_of_getElem? h)
    rw [show (b + 1 - e).toNat = (b - 1 + 1 - e).toNat + 1 by omega, up_snoc, show e + (((b - 1 + 1 - e).toNat : Nat) : Int) = b by omega]
    rw [dnL] at h
    by_cases c : wk b = true
    · rw [if_pos c] at h ⊢
      cases i with
      | zero =>
        have : b = e := by simpa using h
        rw [← this, show (b - 1 + 1 - b).toNat = 0 by omega]
        simp [upL]
      | succ i =>
        have h' : (dnL wk m (b - 1))[i]? = some e := by simpa using h
        rw [dn_at m (b - 1) i e h']
    · rw [if_neg c] at h ⊢
      rw [dn_at m (b - 1) i e h]
theorem spec_up {off : Int} {l : List Int} (hc : Cal off l) : ∀ (m : Nat) (d n : Int), d + (m : Int) = 40001 → 0 ≤ d → ((upL (wkB off l) m d).length : Int) < n → n ≤ 2000 → Ev (fun k => spec_AddWork.l0 k (d - 1) n 1 off l) (-1)
  | 0, d, n, hd, h0, hn, h2 => by
    have w1 : wrap64 (d - 1 + 1) = d := by rw [wrap_id (by omega) (by omega)]; omega
    refine Ev.step (fun k => by rw [spec_AddWork.l0]) (ev_pos (by omega) ?_)
    rw [w1]
    exact ev_bind0 (spec_l2Day_eq _) (ev_neg (by rw [decide_eq_true_eq]; omega) (Ev.now _))
  | m + 1, d, n, hd, h0, hn, h2 => by
    have hday : day d := ⟨h0, by omega⟩
    have w1 : wrap64 (d - 1 + 1) = d := by rw [wrap_id (by omega) (by omega)]; omega
    have w2 : wrap64 (n - 1) = n - 1 := wrap_id (by omega) (by omega)
    rw [upL] at hn
    have e := works2_ev off d l hc hday
    refine Ev.step (fun k => by rw [spec_AddWork.l0]) (ev_pos (by by_cases c : wkB off l d = true <;> omega) ?_)
    rw [w1, w2]
    refine ev_bind0 (spec_l2Day_eq _) (ev_pos (decide_eq_true hday) (Ev.bind e ?_))
    by_cases c : wkB off l d = true
    · rw [if_pos c, List.length_cons] at hn
      have ih := spec_up hc m (d + 1) (n - 1) (by omega) (by omega) (by omega) (by omega)
      rw [show d + 1 - 1 = d by omega] at ih
      exact ev_pos c ih
    · rw [if_neg c] at hn
      have ih := spec_up hc m (d + 1) n (by omega) (by omega) hn h2
      rw [show d + 1 - 1 = d by omega] at ih
      exact ev_neg c ih
theorem spec_dn {off : Int} {l : List Int} (hc : Cal off l) : ∀ (m : Nat) (d n : Int), (m : Int) = d + 1 → d ≤ 40000 → ((dnL (wkB off l) m d).length : Int) < n → n ≤ 2000 → Ev (fun k => spec_AddWork.l0 k (d + 1) n (-1) off l) (-1)
  | 0, d, n, hd, h0, hn, h2 => by
    have w1 : wrap64 (d + 1 + -1) = d := by rw [wrap_id (by omega) (by omega)]; omega
    refine Ev.step (fun k => by rw [spec_AddWork.l0]) (ev_pos (by omega) ?_)
    rw [w1]
    exact ev_bind0 (spec_l2Day_eq _) (ev_neg (by rw [decide_eq_true_eq]; omega) (Ev.now _))
  | m + 1, d, n, hd, h0, hn, h2 => by
    have hday : day d := ⟨by omega, h0⟩
    have w1 : wrap64 (d + 1 + -1) = d := by rw [wrap_id (by omega) (by omega)]; omega
    have w2 : wrap64 (n - 1) = n - 1 := wrap_id (by omega) (by omega)
    rw [dnL] at hn
    have e := works2_ev off d l hc hday
    refine Ev.step (fun k => by rw [spec_AddWork.l0]) (ev_pos (by by_cases c : wkB off l d = true <;> omega) ?_)
    rw [w1, w2]
    refine ev_bind0 (spec_l2Day_eq _) (ev_pos (decide_eq_true hday) (Ev.bind e ?_))
    by_cases c : wkB off l d = true
    · rw [if_pos c, List.length_cons] at hn
      have ih := spec_dn hc m (d - 1) (n - 1) (by omega) (by omega) (by omega) (by omega)
      rw [show d - 1 + 1 = d by omega] at ih
      exact ev_pos c ih
    · rw [if_neg c] at hn
      have ih := spec_dn hc m (d - 1) n (by omega) (by omega) hn h2
      rw [show d - 1 + 1 = d by omega] at ih
      exact ev_neg c ih

theorem drawCal_ok (b : List Int) (i h : Int) (hc : Cu b i) : ∃ off l i' h', Ev (fun k => spec_l2DrawCal.f k b i h) (off, l, i', h') ∧ Cu b i' := by
  obtain ⟨off, i1, h1, e1, c1, _⟩ := pickInt_ok b i h ([96, 96, 64, 0, 126, 1, 63] : List Int) (by decide) hc
  obtain ⟨n, i2, h2, e2, c2, n0, n1, _⟩ := below_ok b i1 h1 6 c1
  have n2 := n1 (by decide)
  have fin : ∀ (i h off : Int) (l : List Int), Cu b i → l.length ≤ 6 → ∃ off' l' i' h', Ev (fun k => spec_l2DrawCal.j1 k b i h off l) (off', l', i', h') ∧ Cu b i' := by
    intro i h off l hc hl
    obtain ⟨v, i1, h1, e1, c1⟩ := once_ok b i h 30 hc
    by_cases c : v = true
    · by_cases c2 : (l.length : Int) > 1
      · obtain ⟨x, i2, h2, e2, c3, _⟩ := below_ok b i1 h1 2 c1
        refine ⟨off, l.set (1 : Int).toNat (wrap64 ((rd l 0) - x)), i2, h2, ?_, c3⟩
        refine Ev.step (fun k => by rw [spec_l2DrawCal.j1]) ?_
        exact ev_bind0 e1 (ev_pos c (ev_pos c2 (ev_pos (by omega) (ev_bind0 e2 (ev_pos (by omega) (Ev.now _))))))
      · refine ⟨off, l, i1, h1, ?_, c1⟩
        refine Ev.step (fun k => by rw [spec_l2DrawCal.j1]) ?_
        exact ev_bind0 e1 (ev_pos c (ev_neg c2 (Ev.now _)))
    · refine ⟨off, l, i1, h1, ?_, c1⟩
      refine Ev.step (fun k => by rw [spec_l2DrawCal.j1]) ?_
      exact ev_bind0 e1 (ev_neg c (Ev.now _))
  have key : ∀ (m : Nat) (x i h : Int) (l : List Int), m ≤ 6 → Cu b i → l.length + m ≤ 6 → ∃ off' l' i' h', Ev (fun k => spec_l2DrawCal.l0 k x (m : Int) b i h off l) (off', l', i', h') ∧ Cu b i' := by
    intro m
    induction m with
    | zero =>
      intro x i h l _ hc hl
      obtain ⟨v, i1, h1, e1, c1⟩ := once_ok b i h 30 hc
      by_cases c : v = true
      · obtain ⟨o2, i2, h2, e2, c2, _⟩ := pickInt_ok b i1 h1 ([127, 128, (-1)] : List Int) (by decide) c1
        obtain ⟨o, l', i', h', e, hc'⟩ := fin i2 h2 o2 l c2 (by omega)
        refine ⟨o, l', i', h', ?_, hc'⟩
        refine Ev.step (fun k => by rw [spec_l2DrawCal.l0]) ?_
        exact ev_neg (by omega) (ev_bind0 e1 (ev_pos c (ev_bind0 e2 e)))
      · obtain ⟨o, l', i', h', e, hc'⟩ := fin i1 h1 off l c1 (by omega)
        refine ⟨o, l', i', h', ?_, hc'⟩
        refine Ev.step (fun k => by rw [spec_l2DrawCal.l0]) ?_
        exact ev_neg (by omega) (ev_bind0 e1 (ev_neg c e))
    | succ m ih =>
      intro x i h l hm hc hl
      obtain ⟨y, i1, h1, e1, c1, _⟩ := below_ok b i h 300 hc
      obtain ⟨o, l', i', h', e, hc'⟩ := ih (wrap64 ((wrap64 (x + 1)) + y)) i1 h1 (l ++ [wrap64 ((wrap64 (x + 1)) + y)]) (by omega) c1 (by rw [List.length_append, List.length_singleton]; omega)
      refine ⟨o, l', i', h', ?_, hc'⟩
      have w1 : wrap64 (((m + 1 : Nat) : Int) - 1) = (m : Int) := by rw [wrap_id (by omega) (by omega)]; omega
      refine Ev.step (fun k => by rw [spec_l2DrawCal.l0]) ?_
      refine ev_pos (by omega) (ev_bind0 e1 (ev_pos (by omega) ?_))
      simp only [w1]
      exact e
  obtain ⟨o, l', i', h', e, hc'⟩ := key n.toNat 0 i2 h2 [] (by omega) c2 (by simp; omega)
  rw [show ((n.toNat : Nat) : Int) = n by omega] at e
  refine ⟨o, l', i', h', ?_, hc'⟩
  unfold spec_l2DrawCal.f
  exact ev_bind0 e1 (ev_bind0 e2 e)
theorem draw_ev (l : List Int) (hl : (l.length : Int) ≤ 140737488351232) : ∃ off hs d n, Ev (fun k => spec_DrawAddWork.f k l) (off, hs, d, n) := by
  obtain ⟨h, hn⟩ := new_ok l hl
  obtain ⟨off, hs, i0, h0, e0, c0⟩ := drawCal_ok l 0 h ⟨by decide, by omega, hl⟩
  obtain ⟨d0, i1, h1, e1, c1, _⟩ := drawDay_ok l i0 h0 c0
  obtain ⟨d1, i2, h2, e2, c2⟩ := badDay_ok l i1 h1 d0 c1
  obtain ⟨x, i4, h4, e4, c4, _⟩ := below_ok l i2 h2 30 c2
  obtain ⟨n, i5, h5, e5, c5, _⟩ := spoil_ok l i4 h4 (wrap64 (x - 12)) ([2000, (-2000), 2001, (-2001)] : List Int) (by decide) c4
  unfold spec_DrawAddWork.f
  exact ⟨off, hs, d1, n, Ev.bind hn (Ev.bind e0 (ev_bind0 e1 (ev_bind0 e2 (ev_bind0 e4 (ev_bind0 e5 (Ev.now _))))))⟩
theorem known (d : Int) (b : Bool) (hd : day d) (hb : wkB 96 [] d = b) : Ev (fun k => impl_Work.f k 96 ([] : List Int) d) b := by
  have hg : GoodFrom ([] : List Int) 0 := fun j _ h => absurd h (by simp)
  have hcal : Ev (fun k => impl_CalOk.f k 96 ([] : List Int)) true := by
    unfold impl_CalOk.f
    refine ev_bind0 (impl_between_eq _ _ _) (ev_pos (by decide) ?_)
    refine Ev.step (fun k => by rw [impl_CalOk.j0]) ?_
    refine ev_neg (by decide) ?_
    refine Ev.step (fun k => by rw [impl_CalOk.l0]) ?_
    exact ev_neg (by decide) (Ev.now _)
  have hw := works_ev 96 d [] ⟨by decide, hg⟩ hd
  rw [hb] at hw
  unfold impl_Work.f
  exact Ev.bind hcal (ev_pos rfl (Ev.bind hw (Ev.now _)))
theorem FnWorkBack : laws_FnWorkBack.Pure := by
  intro l0 hg0 hg1 hg2
  apply Ev.rounds
  unfold laws_FnWorkBack.f laws_big.f
  refine ev_bind0 rfl ?_
  by_cases cb : (l0.length : Int) > 1048576
  · exact ev_pos (decide_eq_true cb) (Ev.now _)
  refine ev_neg (by rw [decide_eq_true_eq]; exact cb) ?_
  obtain ⟨off, hs, d, n, hd⟩ := draw_ev l0 (by omega)
  have k2 := known 2 true ⟨by decide, by decide⟩ (by decide +kernel)
  have k1 := known 1 false ⟨by decide, by decide⟩ (by decide +kernel)
  refine Ev.bind hd (Ev.bind k2 (ev_pos rfl (Ev.bind k1 ?_)))
  refine Ev.step (fun k => by rw [laws_FnWorkBack.j0]) (ev_neg (by decide) ?_)
  obtain ⟨bc, ci, cs, hcal⟩ := cal_ev off hs
  -- what ends at once
  have none_ : Ev (fun k => impl_AddWork.f k off hs d n) (-1) → Ev (fun k => spec_AddWork.f k off hs d n) (-1) → Ev (fun k => (impl_AddWork.f k off hs d n).bind fun t257 => (if t257 < 0 then ((spec_AddWork.f k off hs d n).bind fun t258 => (some (decide (t258 < 0)))) else ((impl_Work.f k off hs t257).bind fun t259 => (if t259 = true then (if n > 0 then ((impl_CountWork.f k off hs d t257).bind fun t260 => (some (t260 == n))) else (if n < 0 then ((impl_CountWork.f k off hs (wrap64 (t257 - 1)) (wrap64 (d - 1))).bind fun t261 => (if t261 = (wrap64 (-n)) then (some true) else (some (t257 == 0)))) else (some (decide (t257 ≥ d))))) else (some false))))) true :=
    fun h1 h2 => Ev.bind h1 (ev_pos (by decide) (Ev.bind h2 (Ev.now _)))
  have s0t : Ev (fun k => spec_AddWork.j0 k d n true off hs) (-1) := Ev.step (fun k => by rw [spec_AddWork.j0]) (ev_pos rfl (Ev.now _))
  by_cases hbc : bc = true
  case neg =>
    refine none_ ?_ ?_
    · unfold impl_AddWork.f
      exact Ev.bind ci (ev_neg hbc (Ev.now _))
    · unfold spec_AddWork.f
      exact Ev.bind cs (ev_neg hbc s0t)
  have hc := hcal hbc
  by_cases hday : day d
  case neg =>
    refine none_ ?_ ?_
    · unfold impl_AddWork.f
      exact Ev.bind ci (ev_pos hbc (ev_bind0 (impl_isDay_eq _) (ev_neg (by rw [decide_eq_true_eq]; exact hday) (Ev.now _))))
    · unfold spec_AddWork.f
      exact Ev.bind cs (ev_pos hbc (ev_bind0 (spec_l2Day_eq _) (ev_neg (by rw [decide_eq_true_eq]; exact hday) s0t)))
  by_cases hn : -2000 ≤ n ∧ n ≤ 2000
  case neg =>
    refine none_ ?_ ?_
    · unfold impl_AddWork.f
      exact Ev.bind ci (ev_pos hbc (ev_bind0 (impl_isDay_eq _) (ev_pos (decide_eq_true hday) (ev_bind0 (impl_between_eq _ _ _) (ev_neg (by rw [decide_eq_true_eq]; exact hn) (Ev.now _))))))
    · unfold spec_AddWork.f
      refine Ev.bind cs (ev_pos hbc (ev_bind0 (spec_l2Day_eq _) (ev_pos (decide_eq_true hday) (ev_bind0 (spec_l1In_eq _ _ _) ?_))))
      rw [decide_eq_false hn]
      exact s0t
  obtain ⟨K, hK⟩ := uniform (F := fun k d => impl_works.f k off hs d) (g := wkB off hs) (fun d hd => works_ev off d hs hc hd)
  have hup : ∀ (m : Nat) (a : Int), a + (m : Int) = 40001 → 0 ≤ a → Ev (fun k => wdl k off hs 1 k a) (upL (wkB off hs) m a) := fun m a h1 h2 => ⟨max K (m + 1), fun k hk => wdl_up (hK k (by omega)) m k a (by omega) h1 h2⟩
  have hdn : ∀ (m : Nat) (a : Int), (m : Int) = a + 1 → a ≤ 40000 → Ev (fun k => wdl k off hs (-1) k a) (dnL (wkB off hs) m a) := fun m a h1 h2 => ⟨max K (m + 1), fun k hk => wdl_dn (hK k (by omega)) m k a (by omega) h1 h2⟩
  have hd0 := hday.1
  have hd1 := hday.2
  have add : ∀ (xs : List Int), Ev (fun k => wdl k off hs (awStep n) k (awFrom d n)) xs → Ev (fun k => impl_AddWork.f k off hs d n) ((xs[(awLeft n - 1).toNat]?).getD (-1)) := by
    intro xs h
    unfold impl_AddWork.f
    exact Ev.bind ci (ev_pos hbc (ev_bind0 (impl_isDay_eq _) (ev_pos (decide_eq_true hday) (ev_bind0 (impl_between_eq _ _ _) (ev_pos (decide_eq_true hn) (Ev.bind h (Ev.now _)))))))
  have sadd : ∀ r : Int, Ev (fun k => if n < 0 then (spec_AddWork.j1 k d (wrap64 (-n)) (-1) off hs) else (spec_AddWork.j1 k d n 1 off hs)) r → Ev (fun k => spec_AddWork.f k off hs d n) r := by
    intro r h
    unfold spec_AddWork.f
    refine Ev.bind cs (ev_pos hbc (ev_bind0 (spec_l2Day_eq _) (ev_pos (decide_eq_true hday) (ev_bind0 (spec_l1In_eq _ _ _) ?_))))
    rw [decide_eq_true hn]
    refine Ev.step (fun k => by rw [spec_AddWork.j0]) ?_
    exact ev_neg (by decide) h
  have wrk : ∀ e, day e → wkB off hs e = true → Ev (fun k => impl_Work.f k off hs e) true := by
    intro e he hw
    have h := works_ev off e hs hc he
    rw [hw] at h
    unfold impl_Work.f
    exact Ev.bind ci (ev_pos hbc (Ev.bind h (Ev.now _)))
  have cnt : ∀ (a b : Int) (m : Nat), day a → day b → ¬ b < a → (a + 1) + (m : Int) = 40001 → Ev (fun k => impl_CountWork.f k off hs a b) (wrap64 (1 * wrap64 (((upL (wkB off hs) (b - a).toNat (a + 1)).length : Nat) : Int))) := by
    intro a b m ha hb hab hm
    have ha0 := ha.1
    have ha1 := ha.2
    have hb1 := hb.2
    have w1 : wrap64 (a + 1) = a + 1 := wrap_id (by omega) (by omega)
    have e1 : cwLo a b = a := if_neg hab
    have e2 : cwHi a b = b := if_neg hab
    have e3 : cwSign a b = 1 := if_neg hab
    have ht := up_take (wk := wkB off hs) (b := b) m (b - a).toNat (a + 1) (by omega) (by omega)
    unfold impl_CountWork.f
    rw [e1, e2, e3, w1]
    refine Ev.bind ci (ev_pos hbc (ev_bind0 (impl_isDay_eq _) (ev_pos (decide_eq_true ha) (ev_bind0 (impl_isDay_eq _) (ev_pos (decide_eq_true hb) (Ev.bind (hup m (a + 1) hm (by omega)) ?_))))))
    rw [ht]
    exact Ev.now _
  by_cases n1 : n > 0
  · -- ahead
    have a1 : awStep n = 1 := if_pos n1
    have a2 : awFrom d n = d + 1 := by unfold awFrom; rw [if_pos n1, wrap_id (by omega) (by omega)]
    have a3 : awLeft n = n := if_pos n1
    obtain ⟨m, hm⟩ : ∃ m : Nat, d + 1 + (m : Int) = 40001 := ⟨(40000 - d).toNat, by omega⟩
    have hx := hup m (d + 1) hm (by omega)
    have ha := add (upL (wkB off hs) m (d + 1)) (by rw [a1, a2]; exact hx)
    rw [a3] at ha
    cases hg : (upL (wkB off hs) m (d + 1))[(n - 1).toNat]? with
    | none =>
      rw [hg] at ha
      have hlen := List.getElem?_eq_none_iff.1 hg
      refine none_ ha (sadd _ (ev_neg (by omega) ?_))
      refine Ev.step (fun k => by rw [spec_AddWork.j1]) (ev_neg (by omega) ?_)
      refine Ev.step (fun k => by rw [spec_AddWork.j2]) ?_
      have h := spec_up hc m (d + 1) n hm (by omega) (by omega) hn.2
      rw [show d + 1 - 1 = d by omega] at h
      exact h
    | some e =>
      rw [hg] at ha
      have he := up_mem (List.mem_of_getElem? hg)
      have hl := up_at m (d + 1) _ e hg
      rw [show (e + 1 - (d + 1)).toNat = (e - d).toNat by omega, show (n - 1).toNat + 1 = n.toNat by omega] at hl
      have hc2 := cnt d e m hday ⟨by omega, by omega⟩ (by omega) hm
      rw [hl] at hc2
      refine Ev.bind ha (ev_neg (by show ¬ e < 0; omega) (Ev.bind (wrk e ⟨by omega, by omega⟩ he.2.2) (ev_pos rfl (ev_pos n1 (Ev.bind hc2 ?_)))))
      have hw : wrap64 (1 * wrap64 ((n.toNat : Nat) : Int)) = n := by
        rw [show ((n.toNat : Nat) : Int) = n by omega, Int.one_mul, wrap_id (x := n) (by omega) (by omega), wrap_id (by omega) (by omega)]
      rw [hw, beq_self_eq_true]
      exact Ev.now _
  by_cases n2 : n < 0
  · have a1 : awStep n = -1 := by unfold awStep; rw [if_neg n1, if_pos n2]
    have a2 : awFrom d n = d - 1 := by unfold awFrom; rw [if_neg n1, if_pos n2, wrap_id (by omega) (by omega)]
    have wn : wrap64 (-n) = -n := wrap_id (by omega) (by omega)
    have a3 : awLeft n = -n := by unfold awLeft; rw [if_neg n1, if_pos n2, wn]
    obtain ⟨m, hm⟩ : ∃ m : Nat, (m : Int) = d - 1 + 1 := ⟨d.toNat, by omega⟩
    have hx := hdn m (d - 1) hm (by omega)
    have ha := add (dnL (wkB off hs) m (d - 1)) (by rw [a1, a2]; exact hx)
    rw [a3] at ha
    cases hg : (dnL (wkB off hs) m (d - 1))[(-n - 1).toNat]? with
    | none =>
      rw [hg] at ha
      have hlen := List.getElem?_eq_none_iff.1 hg
      refine none_ ha (sadd _ (ev_pos n2 ?_))
      rw [wn]
      refine Ev.step (fun k => by rw [spec_AddWork.j1]) (ev_neg (by omega) ?_)
      refine Ev.step (fun k => by rw [spec_AddWork.j2]) ?_
      have h := spec_dn hc m (d - 1) (-n) hm (by omega) (by omega) (by omega)
      rw [show d - 1 + 1 = d by omega] at h
      exact h
    | some e =>
      rw [hg] at ha
      have he := dn_mem (List.mem_of_getElem? hg)
      have hl := dn_at m (d - 1) _ e hg
      have w1 : wrap64 (e - 1) = e - 1 := wrap_id (by omega) (by omega)
      have w2 : wrap64 (d - 1) = d - 1 := wrap_id (by omega) (by omega)
      refine Ev.bind ha (ev_neg (by show ¬ e < 0; omega) (Ev.bind (wrk e ⟨by omega, by omega⟩ he.2.2) (ev_pos rfl (ev_neg n1 (ev_pos n2 ?_)))))
      show Ev (fun k => (impl_CountWork.f k off hs (wrap64 (e - 1)) (wrap64 (d - 1))).bind fun t261 => (if t261 = (wrap64 (-n)) then (some true) else (some (e == 0)))) true
      rw [w1, w2, wn]
      by_cases e0 : e = 0
      · have hz : Ev (fun k => impl_CountWork.f k off hs (e - 1) (d - 1)) 0 := by
          unfold impl_CountWork.f
          exact Ev.bind ci (ev_pos hbc (ev_bind0 (impl_isDay_eq _) (ev_neg (by rw [decide_eq_true_eq]; omega) (Ev.now _))))
        refine Ev.bind hz (ev_neg (by omega) ?_)
        rw [e0]
        exact Ev.now _
      · have hc2 := cnt (e - 1) (d - 1) (40001 - e).toNat ⟨by omega, by omega⟩ ⟨by omega, by omega⟩ (by omega) (by omega)
        rw [show (d - 1 - (e - 1)).toNat = (d - 1 + 1 - e).toNat by omega, show e - 1 + 1 = e by omega, hl, show (-n - 1).toNat + 1 = (-n).toNat by omega] at hc2
        have hw : wrap64 (1 * wrap64 (((-n).toNat : Nat) : Int)) = -n := by
          rw [show (((-n).toNat : Nat) : Int) = -n by omega, Int.one_mul, wrap_id (x := -n) (by omega) (by omega), wrap_id (by omega) (by omega)]
        rw [hw] at hc2
        exact Ev.bind hc2 (ev_pos rfl (Ev.now _))
  · have a1 : awStep n = 1 := by unfold awStep; rw [if_neg n1, if_neg n2]
    have a2 : awFrom d n = d := by unfold awFrom; rw [if_neg n1, if_neg n2]
    have a3 : awLeft n = 1 := by unfold awLeft; rw [if_neg n1, if_neg n2]
    have nz : n = 0 := by omega
    obtain ⟨m, hm⟩ : ∃ m : Nat, d + (m : Int) = 40001 := ⟨(40001 - d).toNat, by omega⟩
    have hx := hup m d hm hd0
    have ha := add (upL (wkB off hs) m d) (by rw [a1, a2]; exact hx)
    rw [a3, show ((1 : Int) - 1).toNat = 0 from rfl] at ha
    cases hg : (upL (wkB off hs) m d)[0]? with
    | none =>
      rw [hg] at ha
      have hlen := List.getElem?_eq_none_iff.1 hg
      refine none_ ha (sadd _ (ev_neg n2 ?_))
      refine Ev.step (fun k => by rw [spec_AddWork.j1]) (ev_pos nz ?_)
      refine Ev.step (fun k => by rw [spec_AddWork.j2]) ?_
      have h := spec_up hc m d 1 hm hd0 (by omega) (by decide)
      rw [wrap_id (x := d - 1) (by omega) (by omega)]
      exact h
    | some e =>
      rw [hg] at ha
      have he := up_mem (List.mem_of_getElem? hg)
      refine Ev.bind ha (ev_neg (by show ¬ e < 0; omega) (Ev.bind (wrk e ⟨by omega, by omega⟩ he.2.2) (ev_pos rfl (ev_neg n1 (ev_neg n2 ?_)))))
      show Ev (fun k => some (decide (e ≥ d))) true
      rw [decide_eq_true he.1]
      exact Ev.now _
end Go.Proofs.Ytggfggmmecbdnaa.Pure
