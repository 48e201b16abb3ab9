/- Periods: the program's answer is the reference's, whatever the kind, the first day and the count. -/
import Derived.Test.YtdnenglafphkbaaDoorZPFnExactPeriodsx
import Derived.Test.YtdnenglafphkbaaDoorZHFnExactPeriods
set_option maxHeartbeats 4000000
set_option linter.unusedVariables false
set_option linter.unusedSimpArgs false
namespace Go.Proofs.YtdnenglafphkbaaDoor.Pure
open Go.RowKit Go.Proofs.YtdnenglafphkbaaDoor.PFnExactPeriods Go.Proofs.YtdnenglafphkbaaDoorW.PrintWords Go.Proofs.YtdnenglafphkbaaDoorW.PrintLast Go.Proofs.YtdnenglafphkbaaDoor.XEv
/-! ### Days -/
/-- Whether a year is long. -/
def lyB (y : Int) : Bool := if Int.tmod y 4 = 0 then (if Int.tmod y 100 = 0 then (Int.tmod y 400 == 0) else true) else (Int.tmod y 400 == 0)
theorem impl_ly (y : Int) : impl_longYear.f y = some (lyB y) := by unfold impl_longYear.f lyB; (repeat' split) <;> rfl
theorem spec_ly (y : Int) : spec_l2Leap.f y = some (lyB y) := by unfold spec_l2Leap.f lyB; (repeat' split) <;> rfl
/-- How long a month is. -/
def ml (y m : Int) : Int := if m = 2 then (if lyB y = true then 29 else 28) else if m = 4 then 30 else if m = 6 then 30 else if m = 9 then 30 else if m = 11 then 30 else 31
theorem spec_ml (y m : Int) : spec_l2Long.f y m = some (ml y m) := by
  unfold spec_l2Long.f ml
  rw [spec_ly]
  simp only [Option.bind_some]
  repeat' split
  all_goals rfl
theorem impl_ml (y m : Int) (h0 : 1 ≤ m) (h1 : m ≤ 12) : impl_daysOf.f y m = some (ml y m) := by
  unfold impl_daysOf.f
  rw [impl_ly]
  have hc : m = 1 ∨ m = 2 ∨ m = 3 ∨ m = 4 ∨ m = 5 ∨ m = 6 ∨ m = 7 ∨ m = 8 ∨ m = 9 ∨ m = 10 ∨ m = 11 ∨ m = 12 := by omega
  rcases hc with rfl | rfl | rfl | rfl | rfl | rfl | rfl | rfl | rfl | rfl | rfl | rfl
  · rfl
  · unfold ml
    rw [if_pos rfl, if_pos rfl, Option.bind_some]
    split
    · rfl
    · rfl
  all_goals rfl
theorem ml_b (y m : Int) : 28 ≤ ml y m ∧ ml y m ≤ 31 := by unfold ml; repeat' split <;> omega
/-- How long a year is. -/
def yl (y : Int) : Int := if lyB y = true then 366 else 365
theorem yl_b (y : Int) : 365 ≤ yl y ∧ yl y ≤ 366 := by unfold yl; split <;> omega
/-- The days of the years from 2000 on. -/
def yd : Nat → Int
  | 0 => 0
  | n + 1 => yd n + yl (2000 + (n : Int))
/-- The days of a year's first months. -/
def md (y : Int) : Nat → Int
  | 0 => 0
  | n + 1 => md y n + ml y ((n : Int) + 1)
theorem md12 (y : Int) : md y 12 = yl y := by
  simp only [md, yl, ml]
  cases lyB y <;> decide
theorem md_step (y : Int) {a b : Nat} (h : a ≤ b) : md y a ≤ md y b := by
  induction b with
  | zero => have : a = 0 := by omega
            subst this; exact Int.le_refl _
  | succ b ih =>
    rcases Nat.lt_or_ge b a with h2 | h2
    · have : a = b + 1 := by omega
      subst this; exact Int.le_refl _
    · have := ih h2; have := ml_b y ((b : Int) + 1); simp only [md]; omega
theorem yd_step {a b : Nat} (h : a ≤ b) : yd a ≤ yd b := by
  induction b with
  | zero => have : a = 0 := by omega
            subst this; exact Int.le_refl _
  | succ b ih =>
    rcases Nat.lt_or_ge b a with h2 | h2
    · have : a = b + 1 := by omega
      subst this; exact Int.le_refl _
    · have := ih h2; have := yl_b (2000 + (b : Int)); simp only [yd]; omega
theorem yd_b (n : Nat) : 365 * (n : Int) ≤ yd n ∧ yd n ≤ 366 * (n : Int) := by
  induction n with
  | zero => simp [yd]
  | succ n ih => have := yl_b (2000 + (n : Int)); simp only [yd]; omega
theorem md_b (y : Int) (n : Nat) : 0 ≤ md y n ∧ md y n ≤ 31 * (n : Int) := by
  induction n with
  | zero => simp [md]
  | succ n ih => have := ml_b y ((n : Int) + 1); simp only [md]; omega
/-- A date, by the years since 2000, the months and days ahead of it: which day it is. -/
def DD (Y M : Nat) (D n : Int) : Prop := M < 12 ∧ 0 ≤ D ∧ D < ml (2000 + (Y : Int)) ((M : Int) + 1) ∧ n = yd Y + md (2000 + (Y : Int)) M + D
theorem DD.of_eq {Y M : Nat} {D n n' : Int} (h : DD Y M D n) (e : n = n') : DD Y M D n' := e ▸ h
theorem DD.lt {Y M : Nat} {D n : Int} (h : DD Y M D n) : yd Y ≤ n ∧ n < yd (Y + 1) ∧ md (2000 + (Y : Int)) M ≤ n - yd Y ∧ n - yd Y < md (2000 + (Y : Int)) (M + 1) := by
  obtain ⟨h0, h1, h2, h3⟩ := h
  have a := md_b (2000 + (Y : Int)) M
  have b := md_step (2000 + (Y : Int)) (show M + 1 ≤ 12 by omega)
  rw [md12] at b
  simp only [md, yd] at b ⊢
  omega
theorem DD.unique {Y M Y' M' : Nat} {D D' n : Int} (h : DD Y M D n) (h' : DD Y' M' D' n) : Y = Y' ∧ M = M' ∧ D = D' := by
  obtain ⟨a1, a2, a3, a4⟩ := h.lt
  obtain ⟨b1, b2, b3, b4⟩ := h'.lt
  have hY : Y = Y' := by
    rcases Nat.lt_trichotomy Y Y' with c | c | c
    · have := yd_step (show Y + 1 ≤ Y' by omega); omega
    · exact c
    · have := yd_step (show Y' + 1 ≤ Y by omega); omega
  subst hY
  have hM : M = M' := by
    rcases Nat.lt_trichotomy M M' with c | c | c
    · have := md_step (2000 + (Y : Int)) (show M + 1 ≤ M' by omega); omega
    · exact c
    · have := md_step (2000 + (Y : Int)) (show M' + 1 ≤ M by omega); omega
  subst hM
  have e1 := h.2.2.2
  have e2 := h'.2.2.2
  exact ⟨rfl, rfl, by omega⟩
/-! ### A day's date -/
theorem spec_dl : ∀ (b : Nat) (x : Int) (Y M : Nat), x.toNat ≤ b → 0 ≤ x → (Y : Int) + x ≤ 40000 → M < 12 → ∃ (Y' M' : Nat) (D : Int), DD Y' M' D (x + yd Y + md (2000 + (Y : Int)) M) ∧ Ev (fun k => spec_DateOf.l0 k x (2000 + (Y : Int)) ((M : Int) + 1)) (2000 + (Y' : Int), (M' : Int) + 1, D + 1) := by
  intro b
  induction b with
  | zero =>
    intro x Y M hb h0 h1 hM
    have hm := ml_b (2000 + (Y : Int)) ((M : Int) + 1)
    have hn : ¬ (x ≥ ml (2000 + (Y : Int)) ((M : Int) + 1)) := by omega
    refine ⟨Y, M, x, ⟨hM, h0, by omega, by omega⟩, Ev.step (fun k => by rw [spec_DateOf.l0]) (ev_bind0 (spec_ml _ _) (ev_neg hn ?_))⟩
    rw [wrap_id (x := x + 1) (by omega) (by omega)]
    exact Ev.now _
  | succ b ih =>
    intro x Y M hb h0 h1 hM
    have hm := ml_b (2000 + (Y : Int)) ((M : Int) + 1)
    by_cases c : x ≥ ml (2000 + (Y : Int)) ((M : Int) + 1)
    · by_cases c2 : M = 11
      · subst c2
        obtain ⟨Y', M', D, hd, he⟩ := ih (x - ml (2000 + (Y : Int)) (((11 : Nat) : Int) + 1)) (Y + 1) 0 (by omega) (by omega) (by omega) (by omega)
        refine ⟨Y', M', D, ?_, Ev.step (fun k => by rw [spec_DateOf.l0]) (ev_bind0 (spec_ml _ _) (ev_pos c (ev_bind0 (spec_ml _ _) (ev_pos ?_ ?_))))⟩
        · have e := md12 (2000 + (Y : Int))
          rw [show (12 : Nat) = 11 + 1 from rfl, md] at e
          refine hd.of_eq ?_
          rw [yd, md]
          omega
        · rw [wrap_id (by omega) (by omega)]
          rfl
        · rw [wrap_id (x := x - _) (by omega) (by omega), wrap_id (x := 2000 + (Y : Int) + 1) (by omega) (by omega)]
          rw [show (2000 + ((Y + 1 : Nat) : Int)) = 2000 + (Y : Int) + 1 by omega] at he
          exact he
      · obtain ⟨Y', M', D, hd, he⟩ := ih (x - ml (2000 + (Y : Int)) ((M : Int) + 1)) Y (M + 1) (by omega) (by omega) (by omega) (by omega)
        have ew : wrap64 ((M : Int) + 1 + 1) = ((M + 1 : Nat) : Int) + 1 := by rw [wrap_id (by omega) (by omega)]; omega
        refine ⟨Y', M', D, ?_, Ev.step (fun k => by rw [spec_DateOf.l0]) (ev_bind0 (spec_ml _ _) (ev_pos c (ev_bind0 (spec_ml _ _) (ev_neg ?_ ?_))))⟩
        · refine hd.of_eq ?_
          rw [md]
          omega
        · rw [ew]; omega
        · rw [wrap_id (x := x - _) (by omega) (by omega), ew]
          exact he
    · refine ⟨Y, M, x, ⟨hM, h0, by omega, by omega⟩, Ev.step (fun k => by rw [spec_DateOf.l0]) (ev_bind0 (spec_ml _ _) (ev_neg c ?_))⟩
      rw [wrap_id (x := x + 1) (by omega) (by omega)]
      exact Ev.now _
theorem impl_dm : ∀ (b : Nat) (x : Int) (Y M : Nat), x.toNat ≤ b → 0 ≤ x → x ≤ 40000 → M < 12 → x + md (2000 + (Y : Int)) M < yl (2000 + (Y : Int)) → ∃ (M' : Nat) (D : Int), DD Y M' D (x + yd Y + md (2000 + (Y : Int)) M) ∧ Ev (fun k => impl_DateOf.l1 k x (2000 + (Y : Int)) ((M : Int) + 1) 1) (2000 + (Y : Int), (M' : Int) + 1, D + 1) := by
  intro b
  induction b with
  | zero =>
    intro x Y M hb h0 h1 hM hy
    have hm := ml_b (2000 + (Y : Int)) ((M : Int) + 1)
    have hn : ¬ (x ≥ ml (2000 + (Y : Int)) ((M : Int) + 1)) := by omega
    refine ⟨M, x, ⟨hM, h0, by omega, by omega⟩, Ev.step (fun k => by rw [impl_DateOf.l1]) (ev_bind0 (impl_ml (2000 + (Y : Int)) ((M : Int) + 1) (by omega) (by omega)) (ev_neg hn ?_))⟩
    rw [wrap_id (x := 1 + x) (by omega) (by omega), Int.add_comm 1 x]
    exact Ev.now _
  | succ b ih =>
    intro x Y M hb h0 h1 hM hy
    have hm := ml_b (2000 + (Y : Int)) ((M : Int) + 1)
    by_cases c : x ≥ ml (2000 + (Y : Int)) ((M : Int) + 1)
    · have hM2 : M + 1 < 12 := by
        rcases Nat.lt_or_ge (M + 1) 12 with c2 | c2
        · exact c2
        · have e := md12 (2000 + (Y : Int))
          have : M = 11 := by omega
          subst this
          rw [show (12 : Nat) = 11 + 1 from rfl, md] at e
          omega
      obtain ⟨M', D, hd, he⟩ := ih (x - ml (2000 + (Y : Int)) ((M : Int) + 1)) Y (M + 1) (by omega) (by omega) (by omega) hM2 (by simp only [md]; omega)
      have ew : wrap64 ((M : Int) + 1 + 1) = ((M + 1 : Nat) : Int) + 1 := by rw [wrap_id (by omega) (by omega)]; omega
      refine ⟨M', D, ?_, Ev.step (fun k => by rw [impl_DateOf.l1]) (ev_bind0 (impl_ml (2000 + (Y : Int)) ((M : Int) + 1) (by omega) (by omega)) (ev_pos c (ev_bind0 (impl_ml (2000 + (Y : Int)) ((M : Int) + 1) (by omega) (by omega)) ?_)))⟩
      · refine hd.of_eq ?_
        rw [md]
        omega
      · rw [wrap_id (x := x - _) (by omega) (by omega), ew]
        exact he
    · refine ⟨M, x, ⟨hM, h0, by omega, by omega⟩, Ev.step (fun k => by rw [impl_DateOf.l1]) (ev_bind0 (impl_ml (2000 + (Y : Int)) ((M : Int) + 1) (by omega) (by omega)) (ev_neg c ?_))⟩
      rw [wrap_id (x := 1 + x) (by omega) (by omega), Int.add_comm 1 x]
      exact Ev.now _
theorem impl_dl : ∀ (b : Nat) (x : Int) (Y : Nat), x.toNat ≤ b → 0 ≤ x → (Y : Int) + x ≤ 40000 → ∃ (Y' M' : Nat) (D : Int), DD Y' M' D (x + yd Y) ∧ Ev (fun k => impl_DateOf.l0 k x (2000 + (Y : Int)) 1 1) (2000 + (Y' : Int), (M' : Int) + 1, D + 1) := by
  have last : ∀ (x : Int) (Y : Nat), 0 ≤ x → (Y : Int) + x ≤ 40000 → x < yl (2000 + (Y : Int)) → ∃ (M' : Nat) (D : Int), DD Y M' D (x + yd Y) ∧ Ev (fun k => impl_DateOf.j1 k x (2000 + (Y : Int)) 1 1) (2000 + (Y : Int), (M' : Int) + 1, D + 1) := by
    intro x Y h0 h1 hy
    obtain ⟨M', D, hd, he⟩ := impl_dm x.toNat x Y 0 (Nat.le_refl _) h0 (by omega) (by omega) (by simp only [md]; omega)
    have he2 : Ev (fun k => impl_DateOf.l1 k x (2000 + (Y : Int)) 1 1) (2000 + (Y : Int), (M' : Int) + 1, D + 1) := he
    refine ⟨M', D, hd.of_eq (by rw [md]; omega), Ev.step (fun k => by rw [impl_DateOf.j1]) he2⟩
  intro b
  induction b with
  | zero =>
    intro x Y hb h0 h1
    have hy := yl_b (2000 + (Y : Int))
    obtain ⟨M', D, hd, he⟩ := last x Y h0 h1 (by omega)
    refine ⟨Y, M', D, hd, Ev.step (fun k => by rw [impl_DateOf.l0]) (ev_bind0 (impl_ly _) ?_)⟩
    by_cases c : lyB (2000 + (Y : Int)) = true
    · exact ev_pos c (ev_pos (by omega) he)
    · exact ev_neg c (ev_pos (by omega) he)
  | succ b ih =>
    intro x Y hb h0 h1
    have hy := yl_b (2000 + (Y : Int))
    by_cases cx : x < yl (2000 + (Y : Int))
    · obtain ⟨M', D, hd, he⟩ := last x Y h0 h1 cx
      refine ⟨Y, M', D, hd, Ev.step (fun k => by rw [impl_DateOf.l0]) (ev_bind0 (impl_ly _) ?_)⟩
      by_cases c : lyB (2000 + (Y : Int)) = true
      · rw [yl, if_pos c] at cx
        exact ev_pos c (ev_pos cx he)
      · rw [yl, if_neg c] at cx
        exact ev_neg c (ev_pos cx he)
    · obtain ⟨Y', M', D, hd, he⟩ := ih (x - yl (2000 + (Y : Int))) (Y + 1) (by omega) (by omega) (by omega)
      refine ⟨Y', M', D, ?_, Ev.step (fun k => by rw [impl_DateOf.l0]) (ev_bind0 (impl_ly _) ?_)⟩
      · refine hd.of_eq ?_
        rw [yd]
        omega
      · rw [show (2000 + ((Y + 1 : Nat) : Int)) = 2000 + (Y : Int) + 1 by omega] at he
        by_cases c : lyB (2000 + (Y : Int)) = true
        · rw [yl, if_pos c] at cx he
          refine ev_pos c (ev_neg cx ?_)
          rw [wrap_id (x := x - 366) (by omega) (by omega), wrap_id (x := 2000 + (Y : Int) + 1) (by omega) (by omega)]
          exact he
        · rw [yl, if_neg c] at cx he
          refine ev_neg c (ev_neg cx ?_)
          rw [wrap_id (x := x - 365) (by omega) (by omega), wrap_id (x := 2000 + (Y : Int) + 1) (by omega) (by omega)]
          exact he
theorem between_eq (a b c : Int) : impl_between.f a b c = some (decide (b ≤ a ∧ a ≤ c)) := by
  unfold impl_between.f
  by_cases h : a ≥ b
  · rw [if_pos h]; simp [show b ≤ a from h]
  · rw [if_neg h]; simp [show ¬ b ≤ a from h]
theorem in_eq (a b c : Int) : spec_l1In.f a b c = some (decide (b ≤ a ∧ a ≤ c)) := by
  unfold spec_l1In.f
  by_cases h : a ≥ b
  · rw [if_pos h]; simp [show b ≤ a from h]
  · rw [if_neg h]; simp [show ¬ b ≤ a from h]
theorem isDay_eq (a : Int) : impl_isDay.f a = some (decide (0 ≤ a ∧ a ≤ 40000)) := by unfold impl_isDay.f; rw [between_eq]; rfl
theorem l2Day_eq (a : Int) : spec_l2Day.f a = some (decide (0 ≤ a ∧ a ≤ 40000)) := by unfold spec_l2Day.f; rw [in_eq]; rfl
/-- A day's date, by both. -/
theorem date_ev (n : Int) (h0 : 0 ≤ n) (h1 : n ≤ 40000) : ∃ (Y M : Nat) (D : Int), DD Y M D n ∧ Ev (fun k => spec_DateOf.f k n) (2000 + (Y : Int), (M : Int) + 1, D + 1) ∧ Ev (fun k => impl_DateOf.f k n) (2000 + (Y : Int), (M : Int) + 1, D + 1) := by
  obtain ⟨Y, M, D, hd, he⟩ := spec_dl n.toNat n 0 0 (Nat.le_refl _) h0 (by omega) (by decide)
  obtain ⟨Y', M', D', hd', he'⟩ := impl_dl n.toNat n 0 (Nat.le_refl _) h0 (by omega)
  simp only [yd, md, Int.add_zero] at hd hd'
  obtain ⟨rfl, rfl, rfl⟩ := hd.unique hd'
  refine ⟨Y, M, D, hd, ?_, ?_⟩
  · unfold spec_DateOf.f
    exact ev_bind0 (l2Day_eq n) (ev_pos (decide_eq_true ⟨h0, h1⟩) he)
  · unfold impl_DateOf.f
    exact ev_bind0 (isDay_eq n) (ev_pos (decide_eq_true ⟨h0, h1⟩) he')
theorem date_no (n : Int) (h : ¬ (0 ≤ n ∧ n ≤ 40000)) : Ev (fun k => spec_DateOf.f k n) (0, 0, 0) ∧ Ev (fun k => impl_DateOf.f k n) (0, 0, 0) := by
  constructor
  · unfold spec_DateOf.f
    exact ev_bind0 (l2Day_eq n) (ev_neg (by rw [decide_eq_true_eq]; exact h) (Ev.now _))
  · unfold impl_DateOf.f
    exact ev_bind0 (isDay_eq n) (ev_neg (by rw [decide_eq_true_eq]; exact h) (Ev.now _))
/-! ### A date's day -/
/-- Which day a date is; -1: it is none. -/
def dayOf (y m d : Int) : Int := if (2000 ≤ y ∧ y ≤ 2200) ∧ (1 ≤ m ∧ m ≤ 12) ∧ 1 ≤ d ∧ d ≤ ml y m then (if yd (y - 2000).toNat + md y (m - 1).toNat + (d - 1) ≤ 40000 then yd (y - 2000).toNat + md y (m - 1).toNat + (d - 1) else -1) else -1
theorem spec_dy (y m d : Int) : ∀ (j i : Nat) (x : Int), i + j = (y - 2000).toNat → 2000 ≤ y → y ≤ 2200 → 0 ≤ x → x ≤ 31 + 366 * (i : Int) → ∀ r, Ev (fun k => spec_DayOf.l1 k (x + (yd (y - 2000).toNat - yd i)) 1 y m d) r → Ev (fun k => spec_DayOf.l0 k x (2000 + (i : Int)) y m d) r := by
  intro j
  induction j with
  | zero =>
    intro i x hj hy0 hy1 h0 h1 r hr
    have : i = (y - 2000).toNat := by omega
    subst this
    refine Ev.step (fun k => by rw [spec_DayOf.l0]) (ev_neg (by omega) ?_)
    rw [Int.sub_self, Int.add_zero] at hr
    exact hr
  | succ j ih =>
    intro i x hj hy0 hy1 h0 h1 r hr
    have hb := yl_b (2000 + (i : Int))
    have go := ih (i + 1) (x + yl (2000 + (i : Int))) (by omega) hy0 hy1 (by omega) (by omega) r (by
      rw [show x + yl (2000 + (i : Int)) + (yd (y - 2000).toNat - yd (i + 1)) = x + (yd (y - 2000).toNat - yd i) by simp only [yd]; omega]
      exact hr)
    refine Ev.step (fun k => by rw [spec_DayOf.l0]) (ev_pos (by omega) (ev_bind0 (spec_ly _) ?_))
    rw [show (2000 + ((i + 1 : Nat) : Int)) = 2000 + (i : Int) + 1 by omega] at go
    by_cases c : lyB (2000 + (i : Int)) = true
    · rw [yl, if_pos c] at go
      refine ev_pos c ?_
      rw [wrap_id (x := x + 365) (by omega) (by omega), wrap_id (x := x + 365 + 1) (by omega) (by omega), wrap_id (x := 2000 + (i : Int) + 1) (by omega) (by omega), show x + 365 + 1 = x + 366 by omega]
      exact go
    · rw [yl, if_neg c] at go
      refine ev_neg c ?_
      rw [wrap_id (x := x + 365) (by omega) (by omega), wrap_id (x := 2000 + (i : Int) + 1) (by omega) (by omega)]
      exact go
theorem impl_dy (y m d : Int) : ∀ (j i : Nat) (x : Int), i + j = (y - 2000).toNat → 2000 ≤ y → y ≤ 2200 → 0 ≤ x → x ≤ 31 + 366 * (i : Int) → ∀ r, Ev (fun k => impl_DayOf.l1 k (x + (yd (y - 2000).toNat - yd i)) 1 y m d) r → Ev (fun k => impl_DayOf.l0 k x (2000 + (i : Int)) y m d) r := by
  intro j
  induction j with
  | zero =>
    intro i x hj hy0 hy1 h0 h1 r hr
    have : i = (y - 2000).toNat := by omega
    subst this
    refine Ev.step (fun k => by rw [impl_DayOf.l0]) (ev_neg (by omega) ?_)
    rw [Int.sub_self, Int.add_zero] at hr
    exact hr
  | succ j ih =>
    intro i x hj hy0 hy1 h0 h1 r hr
    have hb := yl_b (2000 + (i : Int))
    have go := ih (i + 1) (x + yl (2000 + (i : Int))) (by omega) hy0 hy1 (by omega) (by omega) r (by
      rw [show x + yl (2000 + (i : Int)) + (yd (y - 2000).toNat - yd (i + 1)) = x + (yd (y - 2000).toNat - yd i) by simp only [yd]; omega]
      exact hr)
    refine Ev.step (fun k => by rw [impl_DayOf.l0]) (ev_pos (by omega) (ev_bind0 (impl_ly _) ?_))
    rw [show (2000 + ((i + 1 : Nat) : Int)) = 2000 + (i : Int) + 1 by omega] at go
    by_cases c : lyB (2000 + (i : Int)) = true
    · rw [yl, if_pos c] at go
      refine ev_pos c ?_
      rw [wrap_id (x := x + 365) (by omega) (by omega), wrap_id (x := x + 365 + 1) (by omega) (by omega), wrap_id (x := 2000 + (i : Int) + 1) (by omega) (by omega), show x + 365 + 1 = x + 366 by omega]
      exact go
    · rw [yl, if_neg c] at go
      refine ev_neg c ?_
      rw [wrap_id (x := x + 365) (by omega) (by omega), wrap_id (x := 2000 + (i : Int) + 1) (by omega) (by omega)]
      exact go
theorem spec_dmm (y m d : Int) (hm0 : 1 ≤ m) (hm1 : m ≤ 12) : ∀ (j i : Nat) (x : Int), i + j = (m - 1).toNat → 0 ≤ x → x ≤ 80000 + 31 * (i : Int) → Ev (fun k => spec_DayOf.l1 k x ((i : Int) + 1) y m d) (if x + (md y (m - 1).toNat - md y i) ≤ 40000 then x + (md y (m - 1).toNat - md y i) else -1) := by
  intro j
  induction j with
  | zero =>
    intro i x hj h0 h1
    have : i = (m - 1).toNat := by omega
    subst this
    refine Ev.step (fun k => by rw [spec_DayOf.l1]) (ev_neg (by omega) (ev_bind0 (l2Day_eq x) ?_))
    rw [Int.sub_self, Int.add_zero]
    by_cases c : x ≤ 40000
    · rw [if_pos c]; exact ev_pos (decide_eq_true ⟨h0, c⟩) (Ev.now _)
    · rw [if_neg c]; exact ev_neg (by rw [decide_eq_true_eq]; exact fun h => c h.2) (Ev.now _)
  | succ j ih =>
    intro i x hj h0 h1
    have hb := ml_b y ((i : Int) + 1)
    have go := ih (i + 1) (x + ml y ((i : Int) + 1)) (by omega) (by omega) (by omega)
    rw [show x + ml y ((i : Int) + 1) + (md y (m - 1).toNat - md y (i + 1)) = x + (md y (m - 1).toNat - md y i) by simp only [md]; omega] at go
    refine Ev.step (fun k => by rw [spec_DayOf.l1]) (ev_pos (by omega) (ev_bind0 (spec_ml _ _) ?_))
    rw [wrap_id (x := x + _) (by omega) (by omega), wrap_id (x := (i : Int) + 1 + 1) (by omega) (by omega)]
    rw [show (((i + 1 : Nat) : Int) + 1) = (i : Int) + 1 + 1 by omega] at go
    exact go
theorem impl_dmm (y m d : Int) (hm0 : 1 ≤ m) (hm1 : m ≤ 12) : ∀ (j i : Nat) (x : Int), i + j = (m - 1).toNat → 0 ≤ x → x ≤ 80000 + 31 * (i : Int) → Ev (fun k => impl_DayOf.l1 k x ((i : Int) + 1) y m d) (if x + (md y (m - 1).toNat - md y i) ≤ 40000 then x + (md y (m - 1).toNat - md y i) else -1) := by
  intro j
  induction j with
  | zero =>
    intro i x hj h0 h1
    have : i = (m - 1).toNat := by omega
    subst this
    refine Ev.step (fun k => by rw [impl_DayOf.l1]) (ev_neg (by omega) (ev_bind0 (isDay_eq x) ?_))
    rw [Int.sub_self, Int.add_zero]
    by_cases c : x ≤ 40000
    · rw [if_pos c]; exact ev_pos (decide_eq_true ⟨h0, c⟩) (Ev.now _)
    · rw [if_neg c]; exact ev_neg (by rw [decide_eq_true_eq]; exact fun h => c h.2) (Ev.now _)
  | succ j ih =>
    intro i x hj h0 h1
    have hb := ml_b y ((i : Int) + 1)
    have go := ih (i + 1) (x + ml y ((i : Int) + 1)) (by omega) (by omega) (by omega)
    rw [show x + ml y ((i : Int) + 1) + (md y (m - 1).toNat - md y (i + 1)) = x + (md y (m - 1).toNat - md y i) by simp only [md]; omega] at go
    refine Ev.step (fun k => by rw [impl_DayOf.l1]) (ev_pos (by omega) (ev_bind0 (impl_ml _ _ (by omega) (by omega)) ?_))
    rw [wrap_id (x := x + _) (by omega) (by omega), wrap_id (x := (i : Int) + 1 + 1) (by omega) (by omega)]
    rw [show (((i + 1 : Nat) : Int) + 1) = (i : Int) + 1 + 1 by omega] at go
    exact go
theorem spec_dayOf_ev (y m d : Int) : Ev (fun k => spec_DayOf.f k y m d) (dayOf y m d) := by
  unfold spec_DayOf.f dayOf
  refine ev_bind0 (in_eq _ _ _) ?_
  by_cases c1 : 2000 ≤ y ∧ y ≤ 2200
  · refine ev_pos (decide_eq_true c1) (ev_bind0 (in_eq _ _ _) ?_)
    by_cases c2 : 1 ≤ m ∧ m ≤ 12
    · refine ev_pos (decide_eq_true c2) (ev_bind0 (spec_ml _ _) (ev_bind0 (in_eq _ _ _) (Ev.step (fun k => by rw [spec_DayOf.j0]) ?_)))
      have hb := ml_b y m
      by_cases c3 : 1 ≤ d ∧ d ≤ ml y m
      · rw [if_pos ⟨c1, c2, c3⟩]
        refine ev_neg (by rw [decide_eq_true c3]; decide) ?_
        rw [wrap_id (by omega) (by omega)]
        have hyb := yd_b (y - 2000).toNat
        have h2 := spec_dmm y m d c2.1 c2.2 (m - 1).toNat 0 (d - 1 + (yd (y - 2000).toNat - yd 0)) (by omega) (by simp only [yd]; omega) (by simp only [yd]; omega)
        have h1 := spec_dy y m d (y - 2000).toNat 0 (d - 1) (by omega) c1.1 c1.2 (by omega) (by omega) _ h2
        simp only [yd, md, Int.sub_zero] at h1
        rw [show d - 1 + yd (y - 2000).toNat + md y (m - 1).toNat = yd (y - 2000).toNat + md y (m - 1).toNat + (d - 1) by omega] at h1
        exact h1
      · rw [if_neg (fun h => c3 h.2.2)]
        exact ev_pos (by rw [decide_eq_false c3]; rfl) (Ev.now _)
    · rw [if_neg (fun h => c2 h.2.1)]
      exact ev_neg (by rw [decide_eq_true_eq]; exact c2) (Ev.step (fun k => by rw [spec_DayOf.j0]) (ev_pos rfl (Ev.now _)))
  · rw [if_neg (fun h => c1 h.1)]
    exact ev_neg (by rw [decide_eq_true_eq]; exact c1) (Ev.step (fun k => by rw [spec_DayOf.j0]) (ev_pos rfl (Ev.now _)))
theorem impl_dayOf_ev (y m d : Int) : Ev (fun k => impl_DayOf.f k y m d) (dayOf y m d) := by
  unfold impl_DayOf.f dayOf
  refine ev_bind0 (between_eq _ _ _) ?_
  by_cases c1 : 2000 ≤ y ∧ y ≤ 2200
  · refine ev_pos (decide_eq_true c1) (ev_bind0 (between_eq _ _ _) ?_)
    by_cases c2 : 1 ≤ m ∧ m ≤ 12
    · refine ev_pos (decide_eq_true c2) (ev_bind0 (impl_ml _ _ c2.1 c2.2) (ev_bind0 (between_eq _ _ _) (Ev.step (fun k => by rw [impl_DayOf.j0]) ?_)))
      have hb := ml_b y m
      by_cases c3 : 1 ≤ d ∧ d ≤ ml y m
      · rw [if_pos ⟨c1, c2, c3⟩]
        refine ev_neg (by rw [decide_eq_true c3]; decide) ?_
        rw [wrap_id (by omega) (by omega)]
        have hyb := yd_b (y - 2000).toNat
        have h2 := impl_dmm y m d c2.1 c2.2 (m - 1).toNat 0 (d - 1 + (yd (y - 2000).toNat - yd 0)) (by omega) (by simp only [yd]; omega) (by simp only [yd]; omega)
        have h1 := impl_dy y m d (y - 2000).toNat 0 (d - 1) (by omega) c1.1 c1.2 (by omega) (by omega) _ h2
        simp only [yd, md, Int.sub_zero] at h1
        rw [show d - 1 + yd (y - 2000).toNat + md y (m - 1).toNat = yd (y - 2000).toNat + md y (m - 1).toNat + (d - 1) by omega] at h1
        exact h1
      · rw [if_neg (fun h => c3 h.2.2)]
        exact ev_pos (by rw [decide_eq_false c3]; rfl) (Ev.now _)
    · rw [if_neg (fun h => c2 h.2.1)]
      exact ev_neg (by rw [decide_eq_true_eq]; exact c2) (Ev.step (fun k => by rw [impl_DayOf.j0]) (ev_pos rfl (Ev.now _)))
  · rw [if_neg (fun h => c1 h.1)]
    exact ev_neg (by rw [decide_eq_true_eq]; exact c1) (Ev.step (fun k => by rw [impl_DayOf.j0]) (ev_pos rfl (Ev.now _)))
theorem DD_dayOf {y m d : Int} (h : 0 ≤ dayOf y m d) : (2000 ≤ y ∧ y ≤ 2200) ∧ (1 ≤ m ∧ m ≤ 12) ∧ (1 ≤ d ∧ d ≤ ml y m) ∧ dayOf y m d ≤ 40000 ∧ DD (y - 2000).toNat (m - 1).toNat (d - 1) (dayOf y m d) := by
  unfold dayOf at h ⊢
  by_cases c : (2000 ≤ y ∧ y ≤ 2200) ∧ (1 ≤ m ∧ m ≤ 12) ∧ 1 ≤ d ∧ d ≤ ml y m
  · rw [if_pos c] at h ⊢
    by_cases c2 : yd (y - 2000).toNat + md y (m - 1).toNat + (d - 1) ≤ 40000
    · rw [if_pos c2] at h ⊢
      refine ⟨c.1, c.2.1, c.2.2, c2, by omega, by omega, ?_, ?_⟩
      · rw [show 2000 + ((y - 2000).toNat : Int) = y by omega, show ((m - 1).toNat : Int) + 1 = m by omega]; omega
      · rw [show 2000 + ((y - 2000).toNat : Int) = y by omega]
    · rw [if_neg c2] at h; omega
  · rw [if_neg c] at h; omega
/-- The last day of a day's month, by both. -/
theorem end_ev (n : Int) : ∃ e, Ev (fun k => spec_MonthEnd.f k n) e ∧ Ev (fun k => impl_MonthEnd.f k n) e ∧ ((¬ (0 ≤ n ∧ n ≤ 40000) ∧ e = -1) ∨ ∃ (Y M : Nat) (D : Int), (0 ≤ n ∧ n ≤ 40000) ∧ DD Y M D n ∧ e = dayOf (2000 + (Y : Int)) ((M : Int) + 1) (ml (2000 + (Y : Int)) ((M : Int) + 1))) := by
  by_cases c : 0 ≤ n ∧ n ≤ 40000
  · obtain ⟨Y, M, D, hd, h1, h2⟩ := date_ev n c.1 c.2
    refine ⟨_, ?_, ?_, .inr ⟨Y, M, D, c, hd, rfl⟩⟩
    · unfold spec_MonthEnd.f
      exact ev_bind0 (l2Day_eq n) (ev_pos (decide_eq_true c) (Ev.bind h1 (ev_bind0 (spec_ml _ _) (Ev.bind (spec_dayOf_ev _ _ _) (Ev.now _)))))
    · unfold impl_MonthEnd.f
      refine Ev.bind h2 (ev_neg ?_ (ev_bind0 (impl_ml (2000 + (Y : Int)) ((M : Int) + 1) (by omega) (by have := hd.1; omega)) (Ev.bind (impl_dayOf_ev _ _ _) (Ev.now _))))
      simp only [Bool.and_eq_true, beq_iff_eq]
      omega
  · obtain ⟨h1, h2⟩ := date_no n c
    refine ⟨-1, ?_, ?_, .inl ⟨c, rfl⟩⟩
    · unfold spec_MonthEnd.f
      exact ev_bind0 (l2Day_eq n) (ev_neg (by rw [decide_eq_true_eq]; exact c) (Ev.now _))
    · unfold impl_MonthEnd.f
      exact Ev.bind h2 (ev_pos (by decide) (Ev.now _))
/-! ### Periods -/
/-- Where the i-th period must begin. -/
def nxt (first : Int) (L : List S39) (i : Nat) : Int := if i = 0 then first else (L.getD (i - 1) z39).f1 + 1
/-- Periods one behind the other, from a first day on; x: the day behind the last. -/
def Ch (first : Int) (L : List S39) (x : Int) : Prop := (∀ i, i < L.length → (L.getD i z39).f0 ≤ (L.getD i z39).f1 ∧ 0 ≤ (L.getD i z39).f0 ∧ (L.getD i z39).f1 ≤ 40000 ∧ (L.getD i z39).f0 = nxt first L i) ∧ x = nxt first L L.length
theorem getD_snoc_lt {L : List S39} {a : S39} {i : Nat} (h : i < L.length) : (L ++ [a]).getD i z39 = L.getD i z39 := by simp [List.getD, List.getElem?_append, h]
theorem getD_snoc_eq {L : List S39} {a : S39} : (L ++ [a]).getD L.length z39 = a := by simp [List.getD]
theorem nxt_snoc {first : Int} {L : List S39} {a : S39} {i : Nat} (h : i ≤ L.length) : nxt first (L ++ [a]) i = nxt first L i := by
  unfold nxt
  by_cases c : i = 0
  · rw [if_pos c, if_pos c]
  · rw [if_neg c, if_neg c, getD_snoc_lt (by omega)]
theorem Ch.nil (first : Int) : Ch first [] first := ⟨fun i hi => absurd hi (by simp), rfl⟩
theorem Ch.snoc {first x e : Int} {L : List S39} (h : Ch first L x) (h0 : 0 ≤ x) (h1 : x ≤ e) (h2 : e ≤ 40000) : Ch first (L ++ [(⟨x, e⟩ : S39)]) (e + 1) := by
  refine ⟨fun i hi => ?_, ?_⟩
  · rcases Nat.lt_or_ge i L.length with c | c
    · rw [getD_snoc_lt c, nxt_snoc (by omega)]
      exact h.1 i c
    · have : i = L.length := by simp at hi; omega
      subst this
      rw [getD_snoc_eq, nxt_snoc (Nat.le_refl _)]
      exact ⟨h1, h0, h2, h.2⟩
  · rw [List.length_append]
    show e + 1 = nxt first _ (L.length + 1)
    unfold nxt
    rw [if_neg (by omega), Nat.add_sub_cancel, getD_snoc_eq]
theorem end_le {n e : Int} (h : (¬ (0 ≤ n ∧ n ≤ 40000) ∧ e = -1) ∨ ∃ (Y M : Nat) (D : Int), (0 ≤ n ∧ n ≤ 40000) ∧ DD Y M D n ∧ e = dayOf (2000 + (Y : Int)) ((M : Int) + 1) (ml (2000 + (Y : Int)) ((M : Int) + 1))) (he : 0 ≤ e) : n ≤ e := by
  rcases h with ⟨_, h⟩ | ⟨Y, M, D, hn, hd, rfl⟩
  · omega
  · obtain ⟨_, _, _, _, hE⟩ := DD_dayOf he
    have e1 := hE.2.2.2
    have e2 := hd.2.2.2
    have e3 := hd.2.2.1
    rw [show (2000 + (Y : Int) - 2000).toNat = Y by omega, show ((M : Int) + 1 - 1).toNat = M by omega] at e1
    omega
theorem per_loop (kind first c : Int) (hk : 1 ≤ kind ∧ kind ≤ 3) (hc : 1 ≤ c ∧ c ≤ 60) : ∀ (d i : Nat) (L : List S39) (x : Int), i + d = c.toNat → L.length = i → Ch first L x → 0 ≤ x → x ≤ 40001 →
    ∃ r, Ev (fun k => spec_Periods.l0 k kind x c L (i : Int)) r ∧ Ev (fun k => impl_Periods.l0 k kind x c L (i : Int)) r ∧ (r = [] ∨ ∃ y, Ch first r y) ∧ r.length ≤ 60 := by
  intro d
  induction d with
  | zero =>
    intro i L x hd hl hch h0 h1
    refine ⟨L, Ev.step (fun k => by rw [spec_Periods.l0]) (ev_neg (by omega) (Ev.now _)), Ev.step (fun k => by rw [impl_Periods.l0]) (ev_neg (by omega) (Ev.now _)), .inr ⟨x, hch⟩, by omega⟩
  | succ d ih =>
    intro i L x hd hl hch h0 h1
    have hi : (i : Int) < c := by omega
    have hll : L.length < 8796093022208 := by omega
    have ew : wrap64 ((i : Int) + 1) = ((i + 1 : Nat) : Int) := by rw [wrap_id (by omega) (by omega)]; omega
    have go : ∀ e, x ≤ e → e ≤ 40000 → ∃ r, Ev (fun k => spec_Periods.l0 k kind (wrap64 (e + 1)) c (L ++ [(⟨x, e⟩ : S39)]) (wrap64 ((i : Int) + 1))) r ∧ Ev (fun k => impl_Periods.l0 k kind (wrap64 (e + 1)) c (L ++ [(⟨x, e⟩ : S39)]) (wrap64 ((i : Int) + 1))) r ∧ (r = [] ∨ ∃ y, Ch first r y) ∧ r.length ≤ 60 := by
      intro e e0 e1
      rw [ew, wrap_id (x := e + 1) (by omega) (by omega)]
      exact ih (i + 1) _ (e + 1) (by omega) (by simp [hl]) (hch.snoc h0 e0 e1) (by omega) (by omega)
    by_cases ck : kind = 1
    · subst ck
      by_cases cx : 0 ≤ x ∧ x ≤ 40000
      · obtain ⟨e, es, ei, he⟩ := end_ev x
        by_cases ce : 0 ≤ e ∧ e ≤ 40000
        · obtain ⟨r, r1, r2, r3⟩ := go e (end_le he ce.1) ce.2
          refine ⟨r, ?_, ?_, r3⟩
          · refine Ev.step (fun k => by rw [spec_Periods.l0]) (ev_pos hi (ev_neg (by decide) (Ev.step (fun k => by rw [spec_Periods.j2]) (ev_neg (by decide) (Ev.step (fun k => by rw [spec_Periods.j3]) (ev_pos rfl (ev_bind0 (l2Day_eq _) (ev_pos (decide_eq_true cx) (Ev.bind es (ev_bind0 (l2Day_eq _) (ev_pos (decide_eq_true ce) (ev_pos hll r1))))))))))))
          · refine Ev.step (fun k => by rw [impl_Periods.l0]) (ev_pos hi (ev_pos rfl (ev_bind0 (isDay_eq _) (ev_pos (decide_eq_true cx) (Ev.bind ei (ev_bind0 (isDay_eq _) (ev_pos (decide_eq_true ce) (ev_pos hll r2))))))))
        · have cn : ¬ (decide (0 ≤ e ∧ e ≤ 40000) = true) := by rw [decide_eq_true_eq]; exact ce
          refine ⟨[], ?_, ?_, .inl rfl, by simp⟩
          · refine Ev.step (fun k => by rw [spec_Periods.l0]) (ev_pos hi (ev_neg (by decide) (Ev.step (fun k => by rw [spec_Periods.j2]) (ev_neg (by decide) (Ev.step (fun k => by rw [spec_Periods.j3]) (ev_pos rfl (ev_bind0 (l2Day_eq _) (ev_pos (decide_eq_true cx) (Ev.bind es (ev_bind0 (l2Day_eq _) (ev_neg cn (Ev.now _))))))))))))
          · refine Ev.step (fun k => by rw [impl_Periods.l0]) (ev_pos hi (ev_pos rfl (ev_bind0 (isDay_eq _) (ev_pos (decide_eq_true cx) (Ev.bind ei (ev_bind0 (isDay_eq _) (ev_neg cn (Ev.now _))))))))
      · have cn : ¬ (decide (0 ≤ x ∧ x ≤ 40000) = true) := by rw [decide_eq_true_eq]; exact cx
        refine ⟨[], ?_, ?_, .inl rfl, by simp⟩
        · refine Ev.step (fun k => by rw [spec_Periods.l0]) (ev_pos hi (ev_neg (by decide) (Ev.step (fun k => by rw [spec_Periods.j2]) (ev_neg (by decide) (Ev.step (fun k => by rw [spec_Periods.j3]) (ev_pos rfl (ev_bind0 (l2Day_eq _) (ev_neg cn (Ev.now _)))))))))
        · refine Ev.step (fun k => by rw [impl_Periods.l0]) (ev_pos hi (ev_pos rfl (ev_bind0 (isDay_eq _) (ev_neg cn (Ev.now _)))))
    · have step : ∀ (b : Bool) (e : Int), x ≤ e → e = (if b = true then x + 34 else x + 27) → ∃ r, Ev (fun k => spec_Periods.j2 k kind x c L (i : Int) (wrap64 (x + 27)) b) r ∧ Ev (fun k => impl_Periods.j2 k kind x c L (i : Int) (wrap64 (x + 27)) b) r ∧ (r = [] ∨ ∃ y, Ch first r y) ∧ r.length ≤ 60 := by
        intro b e e0 ee
        have w27 : wrap64 (x + 27) = x + 27 := wrap_id (by omega) (by omega)
        have w34 : wrap64 (x + 34) = x + 34 := wrap_id (by omega) (by omega)
        by_cases ce : 0 ≤ e ∧ e ≤ 40000
        · obtain ⟨r, r1, r2, r3⟩ := go e e0 ce.2
          refine ⟨r, ?_, ?_, r3⟩
          · refine Ev.step (fun k => by rw [spec_Periods.j2]) ?_
            by_cases cb : b = true
            · rw [if_pos cb] at ee
              subst ee
              refine ev_pos cb (Ev.step (fun k => by rw [spec_Periods.j3]) ?_)
              rw [w34]
              exact ev_neg ck (ev_bind0 (l2Day_eq _) (ev_pos (decide_eq_true ce) (ev_pos hll r1)))
            · rw [if_neg cb] at ee
              subst ee
              refine ev_neg cb (Ev.step (fun k => by rw [spec_Periods.j3]) ?_)
              rw [w27]
              exact ev_neg ck (ev_bind0 (l2Day_eq _) (ev_pos (decide_eq_true ce) (ev_pos hll r1)))
          · refine Ev.step (fun k => by rw [impl_Periods.j2]) ?_
            by_cases cb : b = true
            · rw [if_pos cb] at ee
              subst ee
              refine ev_pos cb ?_
              rw [w34]
              exact ev_bind0 (isDay_eq _) (ev_pos (decide_eq_true ce) (ev_pos hll r2))
            · rw [if_neg cb] at ee
              subst ee
              refine ev_neg cb ?_
              rw [w27]
              exact ev_bind0 (isDay_eq _) (ev_pos (decide_eq_true ce) (ev_pos hll r2))
        · have cn : ¬ (decide (0 ≤ e ∧ e ≤ 40000) = true) := by rw [decide_eq_true_eq]; exact ce
          refine ⟨[], ?_, ?_, .inl rfl, by simp⟩
          · refine Ev.step (fun k => by rw [spec_Periods.j2]) ?_
            by_cases cb : b = true
            · rw [if_pos cb] at ee
              subst ee
              refine ev_pos cb (Ev.step (fun k => by rw [spec_Periods.j3]) ?_)
              rw [w34]
              exact ev_neg ck (ev_bind0 (l2Day_eq _) (ev_neg cn (Ev.now _)))
            · rw [if_neg cb] at ee
              subst ee
              refine ev_neg cb (Ev.step (fun k => by rw [spec_Periods.j3]) ?_)
              rw [w27]
              exact ev_neg ck (ev_bind0 (l2Day_eq _) (ev_neg cn (Ev.now _)))
          · refine Ev.step (fun k => by rw [impl_Periods.j2]) ?_
            by_cases cb : b = true
            · rw [if_pos cb] at ee
              subst ee
              refine ev_pos cb ?_
              rw [w34]
              exact ev_bind0 (isDay_eq _) (ev_neg cn (Ev.now _))
            · rw [if_neg cb] at ee
              subst ee
              refine ev_neg cb ?_
              rw [w27]
              exact ev_bind0 (isDay_eq _) (ev_neg cn (Ev.now _))
      by_cases c2 : kind = 2
      · obtain ⟨r, r1, r2, r3⟩ := step (Int.tmod (i : Int) 3 == 2) _ (by split <;> omega) rfl
        exact ⟨r, Ev.step (fun k => by rw [spec_Periods.l0]) (ev_pos hi (ev_pos c2 r1)), Ev.step (fun k => by rw [impl_Periods.l0]) (ev_pos hi (ev_neg ck (ev_pos c2 r2))), r3⟩
      · obtain ⟨r, r1, r2, r3⟩ := step false _ (by split <;> omega) rfl
        exact ⟨r, Ev.step (fun k => by rw [spec_Periods.l0]) (ev_pos hi (ev_neg c2 r1)), Ev.step (fun k => by rw [impl_Periods.l0]) (ev_pos hi (ev_neg ck (ev_neg c2 r2))), r3⟩
/-- The periods, by both. -/
theorem periods_ev (kind first c : Int) : ∃ r, Ev (fun k => spec_Periods.f k kind first c) r ∧ Ev (fun k => impl_Periods.f k kind first c) r ∧ (r = [] ∨ ∃ y, Ch first r y) ∧ r.length ≤ 60 := by
  have no : ∀ b, b = true → Ev (fun k => spec_Periods.j0 k kind first c [] b) ([] : List S39) ∧ Ev (fun k => impl_Periods.j0 k kind first c b) ([] : List S39) := fun b hb =>
    ⟨Ev.step (fun k => by rw [spec_Periods.j0]) (ev_pos hb (Ev.now _)), Ev.step (fun k => by rw [impl_Periods.j0]) (ev_pos hb (Ev.now _))⟩
  unfold spec_Periods.f impl_Periods.f
  by_cases c1 : 1 ≤ kind ∧ kind ≤ 3
  · by_cases c2 : 1 ≤ c ∧ c ≤ 60
    · by_cases c3 : 0 ≤ first ∧ first ≤ 40000
      · have yes : ∀ b, b = false → ∃ r, Ev (fun k => spec_Periods.j0 k kind first c [] b) r ∧ Ev (fun k => impl_Periods.j0 k kind first c b) r ∧ (r = [] ∨ ∃ y, Ch first r y) ∧ r.length ≤ 60 := fun b hb => by
          subst hb
          obtain ⟨r, r1, r2, r3⟩ := per_loop kind first c c1 c2 c.toNat 0 [] first (by omega) rfl (Ch.nil _) c3.1 (by omega)
          have r1' : Ev (fun k => spec_Periods.l0 k kind first c [] 0) r := r1
          have r2' : Ev (fun k => impl_Periods.l0 k kind first c [] 0) r := r2
          refine ⟨r, ?_, ?_, r3⟩
          · refine Ev.step (fun k => by rw [spec_Periods.j0]) ?_
            exact ev_neg (by decide) r1'
          · refine Ev.step (fun k => by rw [impl_Periods.j0]) ?_
            exact ev_neg (by decide) r2'
        by_cases ck : kind = 1
        · obtain ⟨Y, M, D, hd, d1, d2⟩ := date_ev first c3.1 c3.2
          have both : ∃ r, Ev (fun k => spec_Periods.j0 k kind first c [] (D + 1 != 1)) r ∧ Ev (fun k => impl_Periods.j0 k kind first c (D + 1 != 1)) r ∧ (r = [] ∨ ∃ y, Ch first r y) ∧ r.length ≤ 60 := by
            cases hb : (D + 1 != 1) with
            | true => exact ⟨[], (no true rfl).1, (no true rfl).2, .inl rfl, by simp⟩
            | false => exact yes false rfl
          obtain ⟨r, r1, r2, r3⟩ := both
          exact ⟨r, ev_bind0 rfl (ev_bind0 (in_eq _ _ _) (ev_pos (decide_eq_true c1) (ev_bind0 (in_eq _ _ _) (ev_pos (decide_eq_true c2) (ev_bind0 (l2Day_eq _) (ev_pos (decide_eq_true c3) (ev_pos ck (Ev.bind d1 r1)))))))), ev_bind0 (between_eq _ _ _) (ev_pos (decide_eq_true c1) (ev_bind0 (between_eq _ _ _) (ev_pos (decide_eq_true c2) (ev_bind0 (isDay_eq _) (ev_pos (decide_eq_true c3) (ev_pos ck (Ev.bind d2 r2))))))), r3⟩
        · obtain ⟨r, r1, r2, r3⟩ := yes false rfl
          exact ⟨r, ev_bind0 rfl (ev_bind0 (in_eq _ _ _) (ev_pos (decide_eq_true c1) (ev_bind0 (in_eq _ _ _) (ev_pos (decide_eq_true c2) (ev_bind0 (l2Day_eq _) (ev_pos (decide_eq_true c3) (ev_neg ck r1))))))), ev_bind0 (between_eq _ _ _) (ev_pos (decide_eq_true c1) (ev_bind0 (between_eq _ _ _) (ev_pos (decide_eq_true c2) (ev_bind0 (isDay_eq _) (ev_pos (decide_eq_true c3) (ev_neg ck r2)))))), r3⟩
      · have cn : ¬ (decide (0 ≤ first ∧ first ≤ 40000) = true) := by rw [decide_eq_true_eq]; exact c3
        exact ⟨[], ev_bind0 rfl (ev_bind0 (in_eq _ _ _) (ev_pos (decide_eq_true c1) (ev_bind0 (in_eq _ _ _) (ev_pos (decide_eq_true c2) (ev_bind0 (l2Day_eq _) (ev_neg cn (no true rfl).1)))))), ev_bind0 (between_eq _ _ _) (ev_pos (decide_eq_true c1) (ev_bind0 (between_eq _ _ _) (ev_pos (decide_eq_true c2) (ev_bind0 (isDay_eq _) (ev_neg cn (no true rfl).2))))), .inl rfl, by simp⟩
    · have cn : ¬ (decide (1 ≤ c ∧ c ≤ 60) = true) := by rw [decide_eq_true_eq]; exact c2
      exact ⟨[], ev_bind0 rfl (ev_bind0 (in_eq _ _ _) (ev_pos (decide_eq_true c1) (ev_bind0 (in_eq _ _ _) (ev_neg cn (no true rfl).1)))), ev_bind0 (between_eq _ _ _) (ev_pos (decide_eq_true c1) (ev_bind0 (between_eq _ _ _) (ev_neg cn (no true rfl).2))), .inl rfl, by simp⟩
  · have cn : ¬ (decide (1 ≤ kind ∧ kind ≤ 3) = true) := by rw [decide_eq_true_eq]; exact c1
    exact ⟨[], ev_bind0 rfl (ev_bind0 (in_eq _ _ _) (ev_neg cn (no true rfl).1)), ev_bind0 (between_eq _ _ _) (ev_neg cn (no true rfl).2), .inl rfl, by simp⟩
theorem FnExactPeriods : laws_FnExactPeriods.Pure := by
  intro a0 a1 a2 _ _ _
  apply Ev.rounds
  unfold laws_FnExactPeriods.f
  obtain ⟨r, hs, hi, _, hl⟩ := periods_ev a0 a1 a2
  have er := laws_eqPeriodS_ev r (by omega)
  have hm := laws_markPeriodS_eq r 1 (by omega) (by omega) (by omega)
  have hh := laws_heldPeriodS_eq 1 r.length (by omega) (by omega) (by omega)
  exact Ev.bind hs (Ev.bind hi (Ev.bind er (ev_pos rfl (Ev.bind hm (Ev.bind hh (ev_neg (by omega) (ev_pos rfl (Ev.bind hi (Ev.bind er (ev_pos rfl (Ev.bind hh (ev_neg (by omega) (ev_pos rfl (Ev.now _))))))))))))))
end Go.Proofs.YtdnenglafphkbaaDoor.Pure
