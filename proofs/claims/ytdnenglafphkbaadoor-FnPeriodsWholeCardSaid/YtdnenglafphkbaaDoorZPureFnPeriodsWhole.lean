/- PeriodsWhole: drawn periods stand one behind the other, and each of their days lies in just its own. -/
import Derived.Test.YtdnenglafphkbaaDoorZPFnPeriodsWholex
import Derived.Test.YtdnenglafphkbaaDoorZEv
set_option maxHeartbeats 4000000
set_option linter.unusedVariables false
set_option linter.unusedSimpArgs false
namespace Go.Proofs.YtdnenglafphkbaaDoor.Pure
open Go.RowKit Go.Proofs.YtdnenglafphkbaaDoor.PFnPeriodsWhole Go.Proofs.YtdnenglafphkbaaDoorW.PrintWords Go.Proofs.YtdnenglafphkbaaDoorW.PrintLast Go.Proofs.YtdnenglafphkbaaDoor.XEv
/-! ### Draws -/
theorem and255 (n : Int) : Go.bits .and .i64 n 255 = n % 256 := by
  have h255 : (BitVec.ofInt 64 255).toNat = 2 ^ 8 - 1 := by decide
  have key : (BitVec.ofInt 64 n &&& BitVec.ofInt 64 255).toNat = (n % ((2 ^ 64 : Nat) : Int)).toNat % 2 ^ 8 := by
    rw [BitVec.toNat_and, BitVec.toNat_ofInt, h255, Nat.and_two_pow_sub_one_eq_mod]
  show IntKind.i64.wrap ((BitVec.ofInt 64 n &&& BitVec.ofInt 64 255).toNat : Nat) = n % 256
  rw [key, IntKind.wrap_i64]
  omega
/-- A draw's state: where it stands in its bytes. -/
def Cu (b : List Int) (i : Int) : Prop := 0 ≤ i ∧ i ≤ (b.length : Int) ∧ (b.length : Int) ≤ 140737488351232
theorem byte_ok (b : List Int) (i h : Int) (hc : Cu b i) : ∃ x i' h', spec_l1Byte.f b i h = some (x, i', h') ∧ 0 ≤ x ∧ x ≤ 255 ∧ Cu b i' := by
  obtain ⟨h0, h1, h2⟩ := hc
  unfold spec_l1Byte.f
  simp only [and255]
  by_cases c : i < (b.length : Int)
  · rw [if_pos c, if_pos h0]
    refine ⟨_, _, _, rfl, Int.emod_nonneg _ (by decide), ?_, ?_⟩
    · have := Int.emod_lt_of_pos (wrap64 (Go.bits .xor .i64 ((wrap64 ((wrap64 (h * 6364136223846793005)) + 1442695040888963407)) / 8589934592) ((wrap64 ((wrap64 (h * 6364136223846793005)) + 1442695040888963407)) / 35184372088832) % 256 + (wrap64 (rd b i)))) (show (0 : Int) < 256 by decide)
      exact Int.le_of_lt_add_one this
    · rw [wrap_id (by omega) (by omega)]
      exact ⟨by omega, by omega, h2⟩
  · rw [if_neg c]
    refine ⟨_, _, _, rfl, Int.emod_nonneg _ (by decide), ?_, h0, h1, h2⟩
    exact Int.le_of_lt_add_one (Int.emod_lt_of_pos _ (show (0 : Int) < 256 by decide))
theorem below_ok (b : List Int) (i h n : Int) (hc : Cu b i) : ∃ x i' h', spec_l1Below.f b i h n = some (x, i', h') ∧ Cu b i' ∧ 0 ≤ x ∧ (0 < n → x < n) ∧ (n ≤ 0 → x = 0) := by
  unfold spec_l1Below.f
  by_cases c0 : n ≤ 0
  · exact ⟨0, i, h, if_pos c0, hc, by decide, fun h => by omega, fun _ => rfl⟩
  rw [if_neg c0]
  obtain ⟨x1, i1, h1, e1, a1, b1, c1⟩ := byte_ok b i h hc
  by_cases c : n ≤ 256
  · rw [if_pos c, e1, Option.bind_some, if_neg (by omega)]
    exact ⟨_, _, _, rfl, c1, Int.tmod_nonneg _ a1, fun _ => Int.tmod_lt_of_pos _ (by omega), fun h => absurd h c0⟩
  · obtain ⟨x2, i2, h2, e2, a2, b2, c2⟩ := byte_ok b i1 h1 c1
    obtain ⟨x3, i3, h3, e3, a3, b3, c3⟩ := byte_ok b i2 h2 c2
    obtain ⟨x4, i4, h4, e4, a4, b4, c4⟩ := byte_ok b i3 h3 c3
    rw [if_neg c, e1, Option.bind_some, e2, Option.bind_some, e3, Option.bind_some, e4, Option.bind_some, if_neg (by omega)]
    refine ⟨_, _, _, rfl, c4, Int.tmod_nonneg _ ?_, fun _ => Int.tmod_lt_of_pos _ (by omega), fun h => absurd h c0⟩
    rw [wrap_id (x := x1 * 16777216) (by omega) (by omega), wrap_id (x := x2 * 65536) (by omega) (by omega), wrap_id (x := x3 * 256) (by omega) (by omega), wrap_id (x := x1 * 16777216 + x2 * 65536) (by omega) (by omega), wrap_id (x := x1 * 16777216 + x2 * 65536 + x3 * 256) (by omega) (by omega), wrap_id (by omega) (by omega)]
    omega
theorem once_ok (b : List Int) (i h n : Int) (hc : Cu b i) : ∃ (v : Bool) (i' h' : Int), spec_l1Once.f b i h n = some (v, i', h') ∧ Cu b i' := by
  obtain ⟨x, i', h', e, c, _⟩ := below_ok b i h n hc
  unfold spec_l1Once.f
  rw [e]
  exact ⟨_, _, _, rfl, c⟩
theorem pickInt_ok (b : List Int) (i h : Int) (l : List Int) (hl : 0 < l.length) (hc : Cu b i) : ∃ s i' h', spec_l1PickInt.f b i h l = some (s, i', h') ∧ Cu b i' ∧ s ∈ l := by
  obtain ⟨x, i', h', e, c, x0, x1, _⟩ := below_ok b i h (l.length : Int) hc
  have := x1 (by omega)
  unfold spec_l1PickInt.f
  rw [e, Option.bind_some, if_pos x0, if_pos this]
  refine ⟨_, _, _, rfl, c, ?_⟩
  have hx : x.toNat < l.length := by omega
  have e2 := rd_at hx
  rw [show ((x.toNat : Nat) : Int) = x by omega] at e2
  show rd l x ∈ l
  rw [e2]
  exact List.getElem_mem hx
theorem spoil_ok (b : List Int) (i h a : Int) (l : List Int) (hl : 0 < l.length) (hc : Cu b i) : ∃ s i' h', spec_l1Spoil.f b i h a l = some (s, i', h') ∧ Cu b i' ∧ (s = a ∨ s ∈ l) := by
  obtain ⟨v, i1, h1, e, c⟩ := once_ok b i h 40 hc
  unfold spec_l1Spoil.f
  rw [e, Option.bind_some]
  by_cases cv : v = true
  · obtain ⟨s, i2, h2, e2, c2, m⟩ := pickInt_ok b i1 h1 l hl c
    rw [if_pos cv, e2]
    exact ⟨_, _, _, rfl, c2, .inr m⟩
  · rw [if_neg cv]
    exact ⟨_, _, _, rfl, c, .inl rfl⟩
theorem new_ok (l : List Int) (hl : (l.length : Int) ≤ 140737488351232) : ∃ h, Ev (fun k => spec_l1New.f k l) (l, 0, h) := by
  have go : ∀ (d i : Nat) (h : Int), i + d = l.length → ∃ h', Ev (fun k => spec_l1New.l0 k l h (i : Int)) (l, 0, h') := by
    intro d
    induction d with
    | zero =>
      intro i h hd
      refine ⟨h, Ev.step (fun k => by rw [spec_l1New.l0]) ?_⟩
      exact ev_neg (by omega) (Ev.now _)
    | succ d ih =>
      intro i h hd
      have hw : wrap64 ((i : Int) + 1) = ((i + 1 : Nat) : Int) := wrap_id (by omega) (by omega)
      by_cases c : (i : Int) < 4000
      · obtain ⟨h', hh⟩ := ih (i + 1) (Go.bits .and .i64 (wrap64 ((wrap64 ((wrap64 (h * 131)) + (wrap64 (rd l (i : Int))))) + 7)) 1073741823) (by omega)
        refine ⟨h', Ev.step (fun k => by rw [spec_l1New.l0]) ?_⟩
        simp only [hw]
        exact ev_pos (by omega) (ev_pos c (ev_pos (by omega) hh))
      · refine ⟨h, Ev.step (fun k => by rw [spec_l1New.l0]) ?_⟩
        exact ev_pos (by omega) (ev_neg c (Ev.now _))
  obtain ⟨h, hh⟩ := go l.length 0 (wrap64 (71933 + (l.length : Int))) (by omega)
  exact ⟨h, by unfold spec_l1New.f; exact hh⟩
/-! ### What is drawn -/
theorem drawDay_ok (b : List Int) (i h : Int) (hc : Cu b i) : ∃ s i' h', spec_l2DrawDay.f b i h = some (s, i', h') ∧ Cu b i' ∧ 0 ≤ s ∧ s ≤ 40000 := by
  unfold spec_l2DrawDay.f
  obtain ⟨x, i1, h1, e1, c1, _⟩ := below_ok b i h 10 hc
  rw [e1, Option.bind_some]
  by_cases ca : x = 0
  · obtain ⟨y, i2, h2, e2, c2, a2, b2, _⟩ := below_ok b i1 h1 40001 c1
    rw [if_pos ca, e2, Option.bind_some]
    exact ⟨_, _, _, rfl, c2, a2, by have := b2 (by decide); omega⟩
  · rw [if_neg ca]
    by_cases cb : x = 1
    · obtain ⟨y, i2, h2, e2, c2, m⟩ := pickInt_ok b i1 h1 ([0, 1, 30, 31, 58, 59, 60, 365, 366, 36524, 40000, 39999] : List Int) (by decide) c1
      rw [if_pos cb, e2, Option.bind_some]
      have hm : ∀ z ∈ ([0, 1, 30, 31, 58, 59, 60, 365, 366, 36524, 40000, 39999] : List Int), 0 ≤ z ∧ z ≤ 40000 := by decide
      exact ⟨_, _, _, rfl, c2, (hm y m).1, (hm y m).2⟩
    · obtain ⟨y, i2, h2, e2, c2, a2, b2, _⟩ := below_ok b i1 h1 1500 c1
      rw [if_neg cb, e2, Option.bind_some]
      exact ⟨_, _, _, rfl, c2, a2, by have := b2 (by decide); omega⟩
theorem badDay_ok (b : List Int) (i h x : Int) (hc : Cu b i) : ∃ s i' h', spec_l2BadDay.f b i h x = some (s, i', h') ∧ Cu b i' := by
  unfold spec_l2BadDay.f
  obtain ⟨s, i1, h1, e1, c1, _⟩ := spoil_ok b i h x ([(-1), 40001, (-9223372036854775808)] : List Int) (by decide) hc
  rw [e1, Option.bind_some]
  exact ⟨_, _, _, rfl, c1⟩
/-! ### Days -/
/-- Whether a year is long. -/
def lyB (y : Int) : Bool := if Int.tmod y 4 = 0 then (if Int.tmod y 100 = 0 then (Int.tmod y 400 == 0) else true) else (Int.tmod y 400 == 0)
theorem impl_ly (y : Int) : impl_longYear.f y = some (lyB y) := by unfold impl_longYear.f lyB; (repeat' split) <;> rfl
theorem spec_ly (y : Int) : spec_l2Leap.f y = some (lyB y) := by unfold spec_l2Leap.f lyB; (repeat' split) <;> rfl
/-- How long a month is. -/
def ml (y m : Int) : Int := if m = 2 then (if lyB y = true then 29 else 28) else if m = 4 then 30 else if m = 6 then 30 else if m = 9 then 30 else if m = 11 then 30 else 31
theorem spec_ml (y m : Int) : spec_l2Long.f y m = some (ml y m) := by
  unfold spec_l2Long.f ml
  rw [spec_ly]
  simp only [Option.bind_some]
  repeat' split
  all_goals rfl
theorem impl_ml (y m : Int) (h0 : 1 ≤ m) (h1 : m ≤ 12) : impl_daysOf.f y m = some (ml y m) := by
  unfold impl_daysOf.f
  rw [impl_ly]
  have hc : m = 1 ∨ m = 2 ∨ m = 3 ∨ m = 4 ∨ m = 5 ∨ m = 6 ∨ m = 7 ∨ m = 8 ∨ m = 9 ∨ m = 10 ∨ m = 11 ∨ m = 12 := by omega
  rcases hc with rfl | rfl | rfl | rfl | rfl | rfl | rfl | rfl | rfl | rfl | rfl | rfl
  · rfl
  · unfold ml
    rw [if_pos rfl, if_pos rfl, Option.bind_some]
    split
    · rfl
    · rfl
  all_goals rfl
theorem ml_b (y m : Int) : 28 ≤ ml y m ∧ ml y m ≤ 31 := by unfold ml; repeat' split <;> omega
/-- How long a year is. -/
def yl (y : Int) : Int := if lyB y = true then 366 else 365
theorem yl_b (y : Int) : 365 ≤ yl y ∧ yl y ≤ 366 := by unfold yl; split <;> omega
/-- The days of the years from 2000 on. -/
def yd : Nat → Int
  | 0 => 0
  | n + 1 => yd n + yl (2000 + (n : Int))
/-- The days of a year's first months. -/
def md (y : Int) : Nat → Int
  | 0 => 0
  | n + 1 => md y n + ml y ((n : Int) + 1)
theorem md12 (y : Int) : md y 12 = yl y := by
  simp only [md, yl, ml]
  cases lyB y <;> decide
theorem md_step (y : Int) {a b : Nat} (h : a ≤ b) : md y a ≤ md y b := by
  induction b with
  | zero => have : a = 0 := by omega
            subst this; exact Int.le_refl _
  | succ b ih =>
    rcases Nat.lt_or_ge b a with h2 | h2
    · have : a = b + 1 := by omega
      subst this; exact Int.le_refl _
    · have := ih h2; have := ml_b y ((b : Int) + 1); simp only [md]; omega
theorem yd_step {a b : Nat} (h : a ≤ b) : yd a ≤ yd b := by
  induction b with
  | zero => have : a = 0 := by omega
            subst this; exact Int.le_refl _
  | succ b ih =>
    rcases Nat.lt_or_ge b a with h2 | h2
    · have : a = b + 1 := by omega
      subst this; exact Int.le_refl _
    · have := ih h2; have := yl_b (2000 + (b : Int)); simp only [yd]; omega
theorem yd_b (n : Nat) : 365 * (n : Int) ≤ yd n ∧ yd n ≤ 366 * (n : Int) := by
  induction n with
  | zero => simp [yd]
  | succ n ih => have := yl_b (2000 + (n : Int)); simp only [yd]; omega
theorem md_b (y : Int) (n : Nat) : 0 ≤ md y n ∧ md y n ≤ 31 * (n : Int) := by
  induction n with
  | zero => simp [md]
  | succ n ih => have := ml_b y ((n : Int) + 1); simp only [md]; omega
/-- A date, by the years since 2000, the months and days ahead of it: which day it is. -/
def DD (Y M : Nat) (D n : Int) : Prop := M < 12 ∧ 0 ≤ D ∧ D < ml (2000 + (Y : Int)) ((M : Int) + 1) ∧ n = yd Y + md (2000 + (Y : Int)) M + D
theorem DD.of_eq {Y M : Nat} {D n n' : Int} (h : DD Y M D n) (e : n = n') : DD Y M D n' := e ▸ h
theorem DD.lt {Y M : Nat} {D n : Int} (h : DD Y M D n) : yd Y ≤ n ∧ n < yd (Y + 1) ∧ md (2000 + (Y : Int)) M ≤ n - yd Y ∧ n - yd Y < md (2000 + (Y : Int)) (M + 1) := by
  obtain ⟨h0, h1, h2, h3⟩ := h
  have a := md_b (2000 + (Y : Int)) M
  have b := md_step (2000 + (Y : Int)) (show M + 1 ≤ 12 by omega)
  rw [md12] at b
  simp only [md, yd] at b ⊢
  omega
theorem DD.unique {Y M Y' M' : Nat} {D D' n : Int} (h : DD Y M D n) (h' : DD Y' M' D' n) : Y = Y' ∧ M = M' ∧ D = D' := by
  obtain ⟨a1, a2, a3, a4⟩ := h.lt
  obtain ⟨b1, b2, b3, b4⟩ := h'.lt
  have hY : Y = Y' := by
    rcases Nat.lt_trichotomy Y Y' with c | c | c
    · have := yd_step (show Y + 1 ≤ Y' by omega); omega
    · exact c
    · have := yd_step (show Y' + 1 ≤ Y by omega); omega
  subst hY
  have hM : M = M' := by
    rcases Nat.lt_trichotomy M M' with c | c | c
    · have := md_step (2000 + (Y : Int)) (show M + 1 ≤ M' by omega); omega
    · exact c
    · have := md_step (2000 + (Y : Int)) (show M' + 1 ≤ M by omega); omega
  subst hM
  have e1 := h.2.2.2
  have e2 := h'.2.2.2
  exact ⟨rfl, rfl, by omega⟩
/-! ### A day's date -/
theorem spec_dl : ∀ (b : Nat) (x : Int) (Y M : Nat), x.toNat ≤ b → 0 ≤ x → (Y : Int) + x ≤ 40000 → M < 12 → ∃ (Y' M' : Nat) (D : Int), DD Y' M' D (x + yd Y + md (2000 + (Y : Int)) M) ∧ Ev (fun k => spec_DateOf.l0 k x (2000 + (Y : Int)) ((M : Int) + 1)) (2000 + (Y' : Int), (M' : Int) + 1, D + 1) := by
  intro b
  induction b with
  | zero =>
    intro x Y M hb h0 h1 hM
    have hm := ml_b (2000 + (Y : Int)) ((M : Int) + 1)
    have hn : ¬ (x ≥ ml (2000 + (Y : Int)) ((M : Int) + 1)) := by omega
    refine ⟨Y, M, x, ⟨hM, h0, by omega, by omega⟩, Ev.step (fun k => by rw [spec_DateOf.l0]) (ev_bind0 (spec_ml _ _) (ev_neg hn ?_))⟩
    rw [wrap_id (x := x + 1) (by omega) (by omega)]
    exact Ev.now _
  | succ b ih =>
    intro x Y M hb h0 h1 hM
    have hm := ml_b (2000 + (Y : Int)) ((M : Int) + 1)
    by_cases c : x ≥ ml (2000 + (Y : Int)) ((M : Int) + 1)
    · by_cases c2 : M = 11
      · subst c2
        obtain ⟨Y', M', D, hd, he⟩ := ih (x - ml (2000 + (Y : Int)) (((11 : Nat) : Int) + 1)) (Y + 1) 0 (by omega) (by omega) (by omega) (by omega)
        refine ⟨Y', M', D, ?_, Ev.step (fun k => by rw [spec_DateOf.l0]) (ev_bind0 (spec_ml _ _) (ev_pos c (ev_bind0 (spec_ml _ _) (ev_pos ?_ ?_))))⟩
        · have e := md12 (2000 + (Y : Int))
          rw [show (12 : Nat) = 11 + 1 from rfl, md] at e
          refine hd.of_eq ?_
          rw [yd, md]
          omega
        · rw [wrap_id (by omega) (by omega)]
          rfl
        · rw [wrap_id (x := x - _) (by omega) (by omega), wrap_id (x := 2000 + (Y : Int) + 1) (by omega) (by omega)]
          rw [show (2000 + ((Y + 1 : Nat) : Int)) = 2000 + (Y : Int) + 1 by omega] at he
          exact he
      · obtain ⟨Y', M', D, hd, he⟩ := ih (x - ml (2000 + (Y : Int)) ((M : Int) + 1)) Y (M + 1) (by omega) (by omega) (by omega) (by omega)
        have ew : wrap64 ((M : Int) + 1 + 1) = ((M + 1 : Nat) : Int) + 1 := by rw [wrap_id (by omega) (by omega)]; omega
        refine ⟨Y', M', D, ?_, Ev.step (fun k => by rw [spec_DateOf.l0]) (ev_bind0 (spec_ml _ _) (ev_pos c (ev_bind0 (spec_ml _ _) (ev_neg ?_ ?_))))⟩
        · refine hd.of_eq ?_
          rw [md]
          omega
        · rw [ew]; omega
        · rw [wrap_id (x := x - _) (by omega) (by omega), ew]
          exact he
    · refine ⟨Y, M, x, ⟨hM, h0, by omega, by omega⟩, Ev.step (fun k => by rw [spec_DateOf.l0]) (ev_bind0 (spec_ml _ _) (ev_neg c ?_))⟩
      rw [wrap_id (x := x + 1) (by omega) (by omega)]
      exact Ev.now _
theorem impl_dm : ∀ (b : Nat) (x : Int) (Y M : Nat), x.toNat ≤ b → 0 ≤ x → x ≤ 40000 → M < 12 → x + md (2000 + (Y : Int)) M < yl (2000 + (Y : Int)) → ∃ (M' : Nat) (D : Int), DD Y M' D (x + yd Y + md (2000 + (Y : Int)) M) ∧ Ev (fun k => impl_DateOf.l1 k x (2000 + (Y : Int)) ((M : Int) + 1) 1) (2000 + (Y : Int), (M' : Int) + 1, D + 1) := by
  intro b
  induction b with
  | zero =>
    intro x Y M hb h0 h1 hM hy
    have hm := ml_b (2000 + (Y : Int)) ((M : Int) + 1)
    have hn : ¬ (x ≥ ml (2000 + (Y : Int)) ((M : Int) + 1)) := by omega
    refine ⟨M, x, ⟨hM, h0, by omega, by omega⟩, Ev.step (fun k => by rw [impl_DateOf.l1]) (ev_bind0 (impl_ml (2000 + (Y : Int)) ((M : Int) + 1) (by omega) (by omega)) (ev_neg hn ?_))⟩
    rw [wrap_id (x := 1 + x) (by omega) (by omega), Int.add_comm 1 x]
    exact Ev.now _
  | succ b ih =>
    intro x Y M hb h0 h1 hM hy
    have hm := ml_b (2000 + (Y : Int)) ((M : Int) + 1)
    by_cases c : x ≥ ml (2000 + (Y : Int)) ((M : Int) + 1)
    · have hM2 : M + 1 < 12 := by
        rcases Nat.lt_or_ge (M + 1) 12 with c2 | c2
        · exact c2
        · have e := md12 (2000 + (Y : Int))
          have : M = 11 := by omega
          subst this
          rw [show (12 : Nat) = 11 + 1 from rfl, md] at e
          omega
      obtain ⟨M', D, hd, he⟩ := ih (x - ml (2000 + (Y : Int)) ((M : Int) + 1)) Y (M + 1) (by omega) (by omega) (by omega) hM2 (by simp only [md]; omega)
      have ew : wrap64 ((M : Int) + 1 + 1) = ((M + 1 : Nat) : Int) + 1 := by rw [wrap_id (by omega) (by omega)]; omega
      refine ⟨M', D, ?_, Ev.step (fun k => by rw [impl_DateOf.l1]) (ev_bind0 (impl_ml (2000 + (Y : Int)) ((M : Int) + 1) (by omega) (by omega)) (ev_pos c (ev_bind0 (impl_ml (2000 + (Y : Int)) ((M : Int) + 1) (by omega) (by omega)) ?_)))⟩
      · refine hd.of_eq ?_
        rw [md]
        omega
      · rw [wrap_id (x := x - _) (by omega) (by omega), ew]
        exact he
    · refine ⟨M, x, ⟨hM, h0, by omega, by omega⟩, Ev.step (fun k => by rw [impl_DateOf.l1]) (ev_bind0 (impl_ml (2000 + (Y : Int)) ((M : Int) + 1) (by omega) (by omega)) (ev_neg c ?_))⟩
      rw [wrap_id (x := 1 + x) (by omega) (by omega), Int.add_comm 1 x]
      exact Ev.now _
theorem impl_dl : ∀ (b : Nat) (x : Int) (Y : Nat), x.toNat ≤ b → 0 ≤ x → (Y : Int) + x ≤ 40000 → ∃ (Y' M' : Nat) (D : Int), DD Y' M' D (x + yd Y) ∧ Ev (fun k => impl_DateOf.l0 k x (2000 + (Y : Int)) 1 1) (2000 + (Y' : Int), (M' : Int) + 1, D + 1) := by
  have last : ∀ (x : Int) (Y : Nat), 0 ≤ x → (Y : Int) + x ≤ 40000 → x < yl (2000 + (Y : Int)) → ∃ (M' : Nat) (D : Int), DD Y M' D (x + yd Y) ∧ Ev (fun k => impl_DateOf.j1 k x (2000 + (Y : Int)) 1 1) (2000 + (Y : Int), (M' : Int) + 1, D + 1) := by
    intro x Y h0 h1 hy
    obtain ⟨M', D, hd, he⟩ := impl_dm x.toNat x Y 0 (Nat.le_refl _) h0 (by omega) (by omega) (by simp only [md]; omega)
    have he2 : Ev (fun k => impl_DateOf.l1 k x (2000 + (Y : Int)) 1 1) (2000 + (Y : Int), (M' : Int) + 1, D + 1) := he
    refine ⟨M', D, hd.of_eq (by rw [md]; omega), Ev.step (fun k => by rw [impl_DateOf.j1]) he2⟩
  intro b
  induction b with
  | zero =>
    intro x Y hb h0 h1
    have hy := yl_b (2000 + (Y : Int))
    obtain ⟨M', D, hd, he⟩ := last x Y h0 h1 (by omega)
    refine ⟨Y, M', D, hd, Ev.step (fun k => by rw [impl_DateOf.l0]) (ev_bind0 (impl_ly _) ?_)⟩
    by_cases c : lyB (2000 + (Y : Int)) = true
    · exact ev_pos c (ev_pos (by omega) he)
    · exact ev_neg c (ev_pos (by omega) he)
  | succ b ih =>
    intro x Y hb h0 h1
    have hy := yl_b (2000 + (Y : Int))
    by_cases cx : x < yl (2000 + (Y : Int))
    · obtain ⟨M', D, hd, he⟩ := last x Y h0 h1 cx
      refine ⟨Y, M', D, hd, Ev.step (fun k => by rw [impl_DateOf.l0]) (ev_bind0 (impl_ly _) ?_)⟩
      by_cases c : lyB (2000 + (Y : Int)) = true
      · rw [yl, if_pos c] at cx
        exact ev_pos c (ev_pos cx he)
      · rw [yl, if_neg c] at cx
        exact ev_neg c (ev_pos cx he)
    · obtain ⟨Y', M', D, hd, he⟩ := ih (x - yl (2000 + (Y : Int))) (Y + 1) (by omega) (by omega) (by omega)
      refine ⟨Y', M', D, ?_, Ev.step (fun k => by rw [impl_DateOf.l0]) (ev_bind0 (impl_ly _) ?_)⟩
      · refine hd.of_eq ?_
        rw [yd]
        omega
      · rw [show (2000 + ((Y + 1 : Nat) : Int)) = 2000 + (Y : Int) + 1 by omega] at he
        by_cases c : lyB (2000 + (Y : Int)) = true
        · rw [yl, if_pos c] at cx he
          refine ev_pos c (ev_neg cx ?_)
          rw [wrap_id (x := x - 366) (by omega) (by omega), wrap_id (x := 2000 + (Y : Int) + 1) (by omega) (by omega)]
          exact he
        · rw [yl, if_neg c] at cx he
          refine ev_neg c (ev_neg cx ?_)
          rw [wrap_id (x := x - 365) (by omega) (by omega), wrap_id (x := 2000 + (Y : Int) + 1) (by omega) (by omega)]
          exact he
theorem between_eq (a b c : Int) : impl_between.f a b c = some (decide (b ≤ a ∧ a ≤ c)) := by
  unfold impl_between.f
  by_cases h : a ≥ b
  · rw [if_pos h]; simp [show b ≤ a from h]
  · rw [if_neg h]; simp [show ¬ b ≤ a from h]
theorem in_eq (a b c : Int) : spec_l1In.f a b c = some (decide (b ≤ a ∧ a ≤ c)) := by
  unfold spec_l1In.f
  by_cases h : a ≥ b
  · rw [if_pos h]; simp [show b ≤ a from h]
  · rw [if_neg h]; simp [show ¬ b ≤ a from h]
theorem isDay_eq (a : Int) : impl_isDay.f a = some (decide (0 ≤ a ∧ a ≤ 40000)) := by unfold impl_isDay.f; rw [between_eq]; rfl
theorem l2Day_eq (a : Int) : spec_l2Day.f a = some (decide (0 ≤ a ∧ a ≤ 40000)) := by unfold spec_l2Day.f; rw [in_eq]; rfl
/-- A day's date, by both. -/
theorem date_ev (n : Int) (h0 : 0 ≤ n) (h1 : n ≤ 40000) : ∃ (Y M : Nat) (D : Int), DD Y M D n ∧ Ev (fun k => spec_DateOf.f k n) (2000 + (Y : Int), (M : Int) + 1, D + 1) ∧ Ev (fun k => impl_DateOf.f k n) (2000 + (Y : Int), (M : Int) + 1, D + 1) := by
  obtain ⟨Y, M, D, hd, he⟩ := spec_dl n.toNat n 0 0 (Nat.le_refl _) h0 (by omega) (by decide)
  obtain ⟨Y', M', D', hd', he'⟩ := impl_dl n.toNat n 0 (Nat.le_refl _) h0 (by omega)
  simp only [yd, md, Int.add_zero] at hd hd'
  obtain ⟨rfl, rfl, rfl⟩ := hd.unique hd'
  refine ⟨Y, M, D, hd, ?_, ?_⟩
  · unfold spec_DateOf.f
    exact ev_bind0 (l2Day_eq n) (ev_pos (decide_eq_true ⟨h0, h1⟩) he)
  · unfold impl_DateOf.f
    exact ev_bind0 (isDay_eq n) (ev_pos (decide_eq_true ⟨h0, h1⟩) he')
theorem date_no (n : Int) (h : ¬ (0 ≤ n ∧ n ≤ 40000)) : Ev (fun k => spec_DateOf.f k n) (0, 0, 0) ∧ Ev (fun k => impl_DateOf.f k n) (0, 0, 0) := by
  constructor
  · unfold spec_DateOf.f
    exact ev_bind0 (l2Day_eq n) (ev_neg (by rw [decide_eq_true_eq]; exact h) (Ev.now _))
  · unfold impl_DateOf.f
    exact ev_bind0 (isDay_eq n) (ev_neg (by rw [decide_eq_true_eq]; exact h) (Ev.now _))
/-! ### A date's day -/
/-- Which day a date is; -1: it is none. -/
def dayOf (y m d : Int) : Int := if (2000 ≤ y ∧ y ≤ 2200) ∧ (1 ≤ m ∧ m ≤ 12) ∧ 1 ≤ d ∧ d ≤ ml y m then (if yd (y - 2000).toNat + md y (m - 1).toNat + (d - 1) ≤ 40000 then yd (y - 2000).toNat + md y (m - 1).toNat + (d - 1) else -1) else -1
theorem spec_dy (y m d : Int) : ∀ (j i : Nat) (x : Int), i + j = (y - 2000).toNat → 2000 ≤ y → y ≤ 2200 → 0 ≤ x → x ≤ 31 + 366 * (i : Int) → ∀ r, Ev (fun k => spec_DayOf.l1 k (x + (yd (y - 2000).toNat - yd i)) 1 y m d) r → Ev (fun k => spec_DayOf.l0 k x (2000 + (i : Int)) y m d) r := by
  intro j
  induction j with
  | zero =>
    intro i x hj hy0 hy1 h0 h1 r hr
    have : i = (y - 2000).toNat := by omega
    subst this
    refine Ev.step (fun k => by rw [spec_DayOf.l0]) (ev_neg (by omega) ?_)
    rw [Int.sub_self, Int.add_zero] at hr
    exact hr
  | succ j ih =>
    intro i x hj hy0 hy1 h0 h1 r hr
    have hb := yl_b (2000 + (i : Int))
    have go := ih (i + 1) (x + yl (2000 + (i : Int))) (by omega) hy0 hy1 (by omega) (by omega) r (by
      rw [show x + yl (2000 + (i : Int)) + (yd (y - 2000).toNat - yd (i + 1)) = x + (yd (y - 2000).toNat - yd i) by simp only [yd]; omega]
      exact hr)
    refine Ev.step (fun k => by rw [spec_DayOf.l0]) (ev_pos (by omega) (ev_bind0 (spec_ly _) ?_))
    rw [show (2000 + ((i + 1 : Nat) : Int)) = 2000 + (i : Int) + 1 by omega] at go
    by_cases c : lyB (2000 + (i : Int)) = true
    · rw [yl, if_pos c] at go
      refine ev_pos c ?_
      rw [wrap_id (x := x + 365) (by omega) (by omega), wrap_id (x := x + 365 + 1) (by omega) (by omega), wrap_id (x := 2000 + (i : Int) + 1) (by omega) (by omega), show x + 365 + 1 = x + 366 by omega]
      exact go
    · rw [yl, if_neg c] at go
      refine ev_neg c ?_
      rw [wrap_id (x := x + 365) (by omega) (by omega), wrap_id (x := 2000 + (i : Int) + 1) (by omega) (by omega)]
      exact go
theorem impl_dy (y m d : Int) : ∀ (j i : Nat) (x : Int), i + j = (y - 2000).toNat → 2000 ≤ y → y ≤ 2200 → 0 ≤ x → x ≤ 31 + 366 * (i : Int) → ∀ r, Ev (fun k => impl_DayOf.l1 k (x + (yd (y - 2000).toNat - yd i)) 1 y m d) r → Ev (fun k => impl_DayOf.l0 k x (2000 + (i : Int)) y m d) r := by
  intro j
  induction j with
  | zero =>
    intro i x hj hy0 hy1 h0 h1 r hr
    have : i = (y - 2000).toNat := by omega
    subst this
    refine Ev.step (fun k => by rw [impl_DayOf.l0]) (ev_neg (by omega) ?_)
    rw [Int.sub_self, Int.add_zero] at hr
    exact hr
  | succ j ih =>
    intro i x hj hy0 hy1 h0 h1 r hr
    have hb := yl_b (2000 + (i : Int))
    have go := ih (i + 1) (x + yl (2000 + (i : Int))) (by omega) hy0 hy1 (by omega) (by omega) r (by
      rw [show x + yl (2000 + (i : Int)) + (yd (y - 2000).toNat - yd (i + 1)) = x + (yd (y - 2000).toNat - yd i) by simp only [yd]; omega]
      exact hr)
    refine Ev.step (fun k => by rw [impl_DayOf.l0]) (ev_pos (by omega) (ev_bind0 (impl_ly _) ?_))
    rw [show (2000 + ((i + 1 : Nat) : Int)) = 2000 + (i : Int) + 1 by omega] at go
    by_cases c : lyB (2000 + (i : Int)) = true
    · rw [yl, if_pos c] at go
      refine ev_pos c ?_
      rw [wrap_id (x := x + 365) (by omega) (by omega), wrap_id (x := x + 365 + 1) (by omega) (by omega), wrap_id (x := 2000 + (i : Int) + 1) (by omega) (by omega), show x + 365 + 1 = x + 366 by omega]
      exact go
    · rw [yl, if_neg c] at go
      refine ev_neg c ?_
      rw [wrap_id (x := x + 365) (by omega) (by omega), wrap_id (x := 2000 + (i : Int) + 1) (by omega) (by omega)]
      exact go
theorem spec_dmm (y m d : Int) (hm0 : 1 ≤ m) (hm1 : m ≤ 12) : ∀ (j i : Nat) (x : Int), i + j = (m - 1).toNat → 0 ≤ x → x ≤ 80000 + 31 * (i : Int) → Ev (fun k => spec_DayOf.l1 k x ((i : Int) + 1) y m d) (if x + (md y (m - 1).toNat - md y i) ≤ 40000 then x + (md y (m - 1).toNat - md y i) else -1) := by
  intro j
  induction j with
  | zero =>
    intro i x hj h0 h1
    have : i = (m - 1).toNat := by omega
    subst this
    refine Ev.step (fun k => by rw [spec_DayOf.l1]) (ev_neg (by omega) (ev_bind0 (l2Day_eq x) ?_))
    rw [Int.sub_self, Int.add_zero]
    by_cases c : x ≤ 40000
    · rw [if_pos c]; exact ev_pos (decide_eq_true ⟨h0, c⟩) (Ev.now _)
    · rw [if_neg c]; exact ev_neg (by rw [decide_eq_true_eq]; exact fun h => c h.2) (Ev.now _)
  | succ j ih =>
    intro i x hj h0 h1
    have hb := ml_b y ((i : Int) + 1)
    have go := ih (i + 1) (x + ml y ((i : Int) + 1)) (by omega) (by omega) (by omega)
    rw [show x + ml y ((i : Int) + 1) + (md y (m - 1).toNat - md y (i + 1)) = x + (md y (m - 1).toNat - md y i) by simp only [md]; omega] at go
    refine Ev.step (fun k => by rw [spec_DayOf.l1]) (ev_pos (by omega) (ev_bind0 (spec_ml _ _) ?_))
    rw [wrap_id (x := x + _) (by omega) (by omega), wrap_id (x := (i : Int) + 1 + 1) (by omega) (by omega)]
    rw [show (((i + 1 : Nat) : Int) + 1) = (i : Int) + 1 + 1 by omega] at go
    exact go
theorem impl_dmm (y m d : Int) (hm0 : 1 ≤ m) (hm1 : m ≤ 12) : ∀ (j i : Nat) (x : Int), i + j = (m - 1).toNat → 0 ≤ x → x ≤ 80000 + 31 * (i : Int) → Ev (fun k => impl_DayOf.l1 k x ((i : Int) + 1) y m d) (if x + (md y (m - 1).toNat - md y i) ≤ 40000 then x + (md y (m - 1).toNat - md y i) else -1) := by
  intro j
  induction j with
  | zero =>
    intro i x hj h0 h1
    have : i = (m - 1).toNat := by omega
    subst this
    refine Ev.step (fun k => by rw [impl_DayOf.l1]) (ev_neg (by omega) (ev_bind0 (isDay_eq x) ?_))
    rw [Int.sub_self, Int.add_zero]
    by_cases c : x ≤ 40000
    · rw [if_pos c]; exact ev_pos (decide_eq_true ⟨h0, c⟩) (Ev.now _)
    · rw [if_neg c]; exact ev_neg (by rw [decide_eq_true_eq]; exact fun h => c h.2) (Ev.now _)
  | succ j ih =>
    intro i x hj h0 h1
    have hb := ml_b y ((i : Int) + 1)
    have go := ih (i + 1) (x + ml y ((i : Int) + 1)) (by omega) (by omega) (by omega)
    rw [show x + ml y ((i : Int) + 1) + (md y (m - 1).toNat - md y (i + 1)) = x + (md y (m - 1).toNat - md y i) by simp only [md]; omega] at go
    refine Ev.step (fun k => by rw [impl_DayOf.l1]) (ev_pos (by omega) (ev_bind0 (impl_ml _ _ (by omega) (by omega)) ?_))
    rw [wrap_id (x := x + _) (by omega) (by omega), wrap_id (x := (i : Int) + 1 + 1) (by omega) (by omega)]
    rw [show (((i + 1 : Nat) : Int) + 1) = (i : Int) + 1 + 1 by omega] at go
    exact go
theorem spec_dayOf_ev (y m d : Int) : Ev (fun k => spec_DayOf.f k y m d) (dayOf y m d) := by
  unfold spec_DayOf.f dayOf
  refine ev_bind0 (in_eq _ _ _) ?_
  by_cases c1 : 2000 ≤ y ∧ y ≤ 2200
  · refine ev_pos (decide_eq_true c1) (ev_bind0 (in_eq _ _ _) ?_)
    by_cases c2 : 1 ≤ m ∧ m ≤ 12
    · refine ev_pos (decide_eq_true c2) (ev_bind0 (spec_ml _ _) (ev_bind0 (in_eq _ _ _) (Ev.step (fun k => by rw [spec_DayOf.j0]) ?_)))
      have hb := ml_b y m
      by_cases c3 : 1 ≤ d ∧ d ≤ ml y m
      · rw [if_pos ⟨c1, c2, c3⟩]
        refine ev_neg (by rw [decide_eq_true c3]; decide) ?_
        rw [wrap_id (by omega) (by omega)]
        have hyb := yd_b (y - 2000).toNat
        have h2 := spec_dmm y m d c2.1 c2.2 (m - 1).toNat 0 (d - 1 + (yd (y - 2000).toNat - yd 0)) (by omega) (by simp only [yd]; omega) (by simp only [yd]; omega)
        have h1 := spec_dy y m d (y - 2000).toNat 0 (d - 1) (by omega) c1.1 c1.2 (by omega) (by omega) _ h2
        simp only [yd, md, Int.sub_zero] at h1
        rw [show d - 1 + yd (y - 2000).toNat + md y (m - 1).toNat = yd (y - 2000).toNat + md y (m - 1).toNat + (d - 1) by omega] at h1
        exact h1
      · rw [if_neg (fun h => c3 h.2.2)]
        exact ev_pos (by rw [decide_eq_false c3]; rfl) (Ev.now _)
    · rw [if_neg (fun h => c2 h.2.1)]
      exact ev_neg (by rw [decide_eq_true_eq]; exact c2) (Ev.step (fun k => by rw [spec_DayOf.j0]) (ev_pos rfl (Ev.now _)))
  · rw [if_neg (fun h => c1 h.1)]
    exact ev_neg (by rw [decide_eq_true_eq]; exact c1) (Ev.step (fun k => by rw [spec_DayOf.j0]) (ev_pos rfl (Ev.now _)))
theorem impl_dayOf_ev (y m d : Int) : Ev (fun k => impl_DayOf.f k y m d) (dayOf y m d) := by
  unfold impl_DayOf.f dayOf
  refine ev_bind0 (between_eq _ _ _) ?_
  by_cases c1 : 2000 ≤ y ∧ y ≤ 2200
  · refine ev_pos (decide_eq_true c1) (ev_bind0 (between_eq _ _ _) ?_)
    by_cases c2 : 1 ≤ m ∧ m ≤ 12
    · refine ev_pos (decide_eq_true c2) (ev_bind0 (impl_ml _ _ c2.1 c2.2) (ev_bind0 (between_eq _ _ _) (Ev.step (fun k => by rw [impl_DayOf.j0]) ?_)))
      have hb := ml_b y m
      by_cases c3 : 1 ≤ d ∧ d ≤ ml y m
      · rw [if_pos ⟨c1, c2, c3⟩]
        refine ev_neg (by rw [decide_eq_true c3]; decide) ?_
        rw [wrap_id (by omega) (by omega)]
        have hyb := yd_b (y - 2000).toNat
        have h2 := impl_dmm y m d c2.1 c2.2 (m - 1).toNat 0 (d - 1 + (yd (y - 2000).toNat - yd 0)) (by omega) (by simp only [yd]; omega) (by simp only [yd]; omega)
        have h1 := impl_dy y m d (y - 2000).toNat 0 (d - 1) (by omega) c1.1 c1.2 (by omega) (by omega) _ h2
        simp only [yd, md, Int.sub_zero] at h1
        rw [show d - 1 + yd (y - 2000).toNat + md y (m - 1).toNat = yd (y - 2000).toNat + md y (m - 1).toNat + (d - 1) by omega] at h1
        exact h1
      · rw [if_neg (fun h => c3 h.2.2)]
        exact ev_pos (by rw [decide_eq_false c3]; rfl) (Ev.now _)
    · rw [if_neg (fun h => c2 h.2.1)]
      exact ev_neg (by rw [decide_eq_true_eq]; exact c2) (Ev.step (fun k => by rw [impl_DayOf.j0]) (ev_pos rfl (Ev.now _)))
  · rw [if_neg (fun h => c1 h.1)]
    exact ev_neg (by rw [decide_eq_true_eq]; exact c1) (Ev.step (fun k => by rw [impl_DayOf.j0]) (ev_pos rfl (Ev.now _)))
theorem DD_dayOf {y m d : Int} (h : 0 ≤ dayOf y m d) : (2000 ≤ y ∧ y ≤ 2200) ∧ (1 ≤ m ∧ m ≤ 12) ∧ (1 ≤ d ∧ d ≤ ml y m) ∧ dayOf y m d ≤ 40000 ∧ DD (y - 2000).toNat (m - 1).toNat (d - 1) (dayOf y m d) := by
  unfold dayOf at h ⊢
  by_cases c : (2000 ≤ y ∧ y ≤ 2200) ∧ (1 ≤ m ∧ m ≤ 12) ∧ 1 ≤ d ∧ d ≤ ml y m
  · rw [if_pos c] at h ⊢
    by_cases c2 : yd (y - 2000).toNat + md y (m - 1).toNat + (d - 1) ≤ 40000
    · rw [if_pos c2] at h ⊢
      refine ⟨c.1, c.2.1, c.2.2, c2, by omega, by omega, ?_, ?_⟩
      · rw [show 2000 + ((y - 2000).toNat : Int) = y by omega, show ((m - 1).toNat : Int) + 1 = m by omega]; omega
      · rw [show 2000 + ((y - 2000).toNat : Int) = y by omega]
    · rw [if_neg c2] at h; omega
  · rw [if_neg c] at h; omega
/-- The last day of a day's month, by both. -/
theorem end_ev (n : Int) : ∃ e, Ev (fun k => spec_MonthEnd.f k n) e ∧ Ev (fun k => impl_MonthEnd.f k n) e ∧ ((¬ (0 ≤ n ∧ n ≤ 40000) ∧ e = -1) ∨ ∃ (Y M : Nat) (D : Int), (0 ≤ n ∧ n ≤ 40000) ∧ DD Y M D n ∧ e = dayOf (2000 + (Y : Int)) ((M : Int) + 1) (ml (2000 + (Y : Int)) ((M : Int) + 1))) := by
  by_cases c : 0 ≤ n ∧ n ≤ 40000
  · obtain ⟨Y, M, D, hd, h1, h2⟩ := date_ev n c.1 c.2
    refine ⟨_, ?_, ?_, .inr ⟨Y, M, D, c, hd, rfl⟩⟩
    · unfold spec_MonthEnd.f
      exact ev_bind0 (l2Day_eq n) (ev_pos (decide_eq_true c) (Ev.bind h1 (ev_bind0 (spec_ml _ _) (Ev.bind (spec_dayOf_ev _ _ _) (Ev.now _)))))
    · unfold impl_MonthEnd.f
      refine Ev.bind h2 (ev_neg ?_ (ev_bind0 (impl_ml (2000 + (Y : Int)) ((M : Int) + 1) (by omega) (by have := hd.1; omega)) (Ev.bind (impl_dayOf_ev _ _ _) (Ev.now _))))
      simp only [Bool.and_eq_true, beq_iff_eq]
      omega
  · obtain ⟨h1, h2⟩ := date_no n c
    refine ⟨-1, ?_, ?_, .inl ⟨c, rfl⟩⟩
    · unfold spec_MonthEnd.f
      exact ev_bind0 (l2Day_eq n) (ev_neg (by rw [decide_eq_true_eq]; exact c) (Ev.now _))
    · unfold impl_MonthEnd.f
      exact Ev.bind h2 (ev_pos (by decide) (Ev.now _))
/-! ### Periods -/
/-- Where the i-th period must begin. -/
def nxt (first : Int) (L : List S39) (i : Nat) : Int := if i = 0 then first else (L.getD (i - 1) z39).f1 + 1
/-- Periods one behind the other, from a first day on; x: the day behind the last. -/
def Ch (first : Int) (L : List S39) (x : Int) : Prop := (∀ i, i < L.length → (L.getD i z39).f0 ≤ (L.getD i z39).f1 ∧ 0 ≤ (L.getD i z39).f0 ∧ (L.getD i z39).f1 ≤ 40000 ∧ (L.getD i z39).f0 = nxt first L i) ∧ x = nxt first L L.length
theorem getD_snoc_lt {L : List S39} {a : S39} {i : Nat} (h : i < L.length) : (L ++ [a]).getD i z39 = L.getD i z39 := by simp [List.getD, List.getElem?_append, h]
theorem getD_snoc_eq {L : List S39} {a : S39} : (L ++ [a]).getD L.length z39 = a := by simp [List.getD]
theorem nxt_snoc {first : Int} {L : List S39} {a : S39} {i : Nat} (h : i ≤ L.length) : nxt first (L ++ [a]) i = nxt first L i := by
  unfold nxt
  by_cases c : i = 0
  · rw [if_pos c, if_pos c]
  · rw [if_neg c, if_neg c, getD_snoc_lt (by omega)]
theorem Ch.nil (first : Int) : Ch first [] first := ⟨fun i hi => absurd hi (by simp), rfl⟩
theorem Ch.snoc {first x e : Int} {L : List S39} (h : Ch first L x) (h0 : 0 ≤ x) (h1 : x ≤ e) (h2 : e ≤ 40000) : Ch first (L ++ [(⟨x, e⟩ : S39)]) (e + 1) := by
  refine ⟨fun i hi => ?_, ?_⟩
  · rcases Nat.lt_or_ge i L.length with c | c
    · rw [getD_snoc_lt c, nxt_snoc (by omega)]
      exact h.1 i c
    · have : i = L.length := by simp at hi; omega
      subst this
      rw [getD_snoc_eq, nxt_snoc (Nat.le_refl _)]
      exact ⟨h1, h0, h2, h.2⟩
  · rw [List.length_append]
    show e + 1 = nxt first _ (L.length + 1)
    unfold nxt
    rw [if_neg (by omega), Nat.add_sub_cancel, getD_snoc_eq]
theorem end_le {n e : Int} (h : (¬ (0 ≤ n ∧ n ≤ 40000) ∧ e = -1) ∨ ∃ (Y M : Nat) (D : Int), (0 ≤ n ∧ n ≤ 40000) ∧ DD Y M D n ∧ e = dayOf (2000 + (Y : Int)) ((M : Int) + 1) (ml (2000 + (Y : Int)) ((M : Int) + 1))) (he : 0 ≤ e) : n ≤ e := by
  rcases h with ⟨_, h⟩ | ⟨Y, M, D, hn, hd, rfl⟩
  · omega
  · obtain ⟨_, _, _, _, hE⟩ := DD_dayOf he
    have e1 := hE.2.2.2
    have e2 := hd.2.2.2
    have e3 := hd.2.2.1
    rw [show (2000 + (Y : Int) - 2000).toNat = Y by omega, show ((M : Int) + 1 - 1).toNat = M by omega] at e1
    omega
theorem per_loop (kind first c : Int) (hk : 1 ≤ kind ∧ kind ≤ 3) (hc : 1 ≤ c ∧ c ≤ 60) : ∀ (d i : Nat) (L : List S39) (x : Int), i + d = c.toNat → L.length = i → Ch first L x → 0 ≤ x → x ≤ 40001 →
    ∃ r, Ev (fun k => spec_Periods.l0 k kind x c L (i : Int)) r ∧ Ev (fun k => impl_Periods.l0 k kind x c L (i : Int)) r ∧ (r = [] ∨ ∃ y, Ch first r y) ∧ r.length ≤ 60 := by
  intro d
  induction d with
  | zero =>
    intro i L x hd hl hch h0 h1
    refine ⟨L, Ev.step (fun k => by rw [spec_Periods.l0]) (ev_neg (by omega) (Ev.now _)), Ev.step (fun k => by rw [impl_Periods.l0]) (ev_neg (by omega) (Ev.now _)), .inr ⟨x, hch⟩, by omega⟩
  | succ d ih =>
    intro i L x hd hl hch h0 h1
    have hi : (i : Int) < c := by omega
    have hll : L.length < 8796093022208 := by omega
    have ew : wrap64 ((i : Int) + 1) = ((i + 1 : Nat) : Int) := by rw [wrap_id (by omega) (by omega)]; omega
    have go : ∀ e, x ≤ e → e ≤ 40000 → ∃ r, Ev (fun k => spec_Periods.l0 k kind (wrap64 (e + 1)) c (L ++ [(⟨x, e⟩ : S39)]) (wrap64 ((i : Int) + 1))) r ∧ Ev (fun k => impl_Periods.l0 k kind (wrap64 (e + 1)) c (L ++ [(⟨x, e⟩ : S39)]) (wrap64 ((i : Int) + 1))) r ∧ (r = [] ∨ ∃ y, Ch first r y) ∧ r.length ≤ 60 := by
      intro e e0 e1
      rw [ew, wrap_id (x := e + 1) (by omega) (by omega)]
      exact ih (i + 1) _ (e + 1) (by omega) (by simp [hl]) (hch.snoc h0 e0 e1) (by omega) (by omega)
    by_cases ck : kind = 1
    · subst ck
      by_cases cx : 0 ≤ x ∧ x ≤ 40000
      · obtain ⟨e, es, ei, he⟩ := end_ev x
        by_cases ce : 0 ≤ e ∧ e ≤ 40000
        · obtain ⟨r, r1, r2, r3⟩ := go e (end_le he ce.1) ce.2
          refine ⟨r, ?_, ?_, r3⟩
          · refine Ev.step (fun k => by rw [spec_Periods.l0]) (ev_pos hi (ev_neg (by decide) (Ev.step (fun k => by rw [spec_Periods.j2]) (ev_neg (by decide) (Ev.step (fun k => by rw [spec_Periods.j3]) (ev_pos rfl (ev_bind0 (l2Day_eq _) (ev_pos (decide_eq_true cx) (Ev.bind es (ev_bind0 (l2Day_eq _) (ev_pos (decide_eq_true ce) (ev_pos hll r1))))))))))))
          · refine Ev.step (fun k => by rw [impl_Periods.l0]) (ev_pos hi (ev_pos rfl (ev_bind0 (isDay_eq _) (ev_pos (decide_eq_true cx) (Ev.bind ei (ev_bind0 (isDay_eq _) (ev_pos (decide_eq_true ce) (ev_pos hll r2))))))))
        · have cn : ¬ (decide (0 ≤ e ∧ e ≤ 40000) = true) := by rw [decide_eq_true_eq]; exact ce
          refine ⟨[], ?_, ?_, .inl rfl, by simp⟩
          · refine Ev.step (fun k => by rw [spec_Periods.l0]) (ev_pos hi (ev_neg (by decide) (Ev.step (fun k => by rw [spec_Periods.j2]) (ev_neg (by decide) (Ev.step (fun k => by rw [spec_Periods.j3]) (ev_pos rfl (ev_bind0 (l2Day_eq _) (ev_pos (decide_eq_true cx) (Ev.bind es (ev_bind0 (l2Day_eq _) (ev_neg cn (Ev.now _))))))))))))
          · refine Ev.step (fun k => by rw [impl_Periods.l0]) (ev_pos hi (ev_pos rfl (ev_bind0 (isDay_eq _) (ev_pos (decide_eq_true cx) (Ev.bind ei (ev_bind0 (isDay_eq _) (ev_neg cn (Ev.now _))))))))
      · have cn : ¬ (decide (0 ≤ x ∧ x ≤ 40000) = true) := by rw [decide_eq_true_eq]; exact cx
        refine ⟨[], ?_, ?_, .inl rfl, by simp⟩
        · refine Ev.step (fun k => by rw [spec_Periods.l0]) (ev_pos hi (ev_neg (by decide) (Ev.step (fun k => by rw [spec_Periods.j2]) (ev_neg (by decide) (Ev.step (fun k => by rw [spec_Periods.j3]) (ev_pos rfl (ev_bind0 (l2Day_eq _) (ev_neg cn (Ev.now _)))))))))
        · refine Ev.step (fun k => by rw [impl_Periods.l0]) (ev_pos hi (ev_pos rfl (ev_bind0 (isDay_eq _) (ev_neg cn (Ev.now _)))))
    · have step : ∀ (b : Bool) (e : Int), x ≤ e → e = (if b = true then x + 34 else x + 27) → ∃ r, Ev (fun k => spec_Periods.j2 k kind x c L (i : Int) (wrap64 (x + 27)) b) r ∧ Ev (fun k => impl_Periods.j2 k kind x c L (i : Int) (wrap64 (x + 27)) b) r ∧ (r = [] ∨ ∃ y, Ch first r y) ∧ r.length ≤ 60 := by
        intro b e e0 ee
        have w27 : wrap64 (x + 27) = x + 27 := wrap_id (by omega) (by omega)
        have w34 : wrap64 (x + 34) = x + 34 := wrap_id (by omega) (by omega)
        by_cases ce : 0 ≤ e ∧ e ≤ 40000
        · obtain ⟨r, r1, r2, r3⟩ := go e e0 ce.2
          refine ⟨r, ?_, ?_, r3⟩
          · refine Ev.step (fun k => by rw [spec_Periods.j2]) ?_
            by_cases cb : b = true
            · rw [if_pos cb] at ee
              subst ee
              refine ev_pos cb (Ev.step (fun k => by rw [spec_Periods.j3]) ?_)
              rw [w34]
              exact ev_neg ck (ev_bind0 (l2Day_eq _) (ev_pos (decide_eq_true ce) (ev_pos hll r1)))
            · rw [if_neg cb] at ee
              subst ee
              refine ev_neg cb (Ev.step (fun k => by rw [spec_Periods.j3]) ?_)
              rw [w27]
              exact ev_neg ck (ev_bind0 (l2Day_eq _) (ev_pos (decide_eq_true ce) (ev_pos hll r1)))
          · refine Ev.step (fun k => by rw [impl_Periods.j2]) ?_
            by_cases cb : b = true
            · rw [if_pos cb] at ee
              subst ee
              refine ev_pos cb ?_
              rw [w34]
              exact ev_bind0 (isDay_eq _) (ev_pos (decide_eq_true ce) (ev_pos hll r2))
            · rw [if_neg cb] at ee
              subst ee
              refine ev_neg cb ?_
              rw [w27]
              exact ev_bind0 (isDay_eq _) (ev_pos (decide_eq_true ce) (ev_pos hll r2))
        · have cn : ¬ (decide (0 ≤ e ∧ e ≤ 40000) = true) := by rw [decide_eq_true_eq]; exact ce
          refine ⟨[], ?_, ?_, .inl rfl, by simp⟩
          · refine Ev.step (fun k => by rw [spec_Periods.j2]) ?_
            by_cases cb : b = true
            · rw [if_pos cb] at ee
              subst ee
              refine ev_pos cb (Ev.step (fun k => by rw [spec_Periods.j3]) ?_)
              rw [w34]
              exact ev_neg ck (ev_bind0 (l2Day_eq _) (ev_neg cn (Ev.now _)))
            · rw [if_neg cb] at ee
              subst ee
              refine ev_neg cb (Ev.step (fun k => by rw [spec_Periods.j3]) ?_)
              rw [w27]
              exact ev_neg ck (ev_bind0 (l2Day_eq _) (ev_neg cn (Ev.now _)))
          · refine Ev.step (fun k => by rw [impl_Periods.j2]) ?_
            by_cases cb : b = true
            · rw [if_pos cb] at ee
              subst ee
              refine ev_pos cb ?_
              rw [w34]
              exact ev_bind0 (isDay_eq _) (ev_neg cn (Ev.now _))
            · rw [if_neg cb] at ee
              subst ee
              refine ev_neg cb ?_
              rw [w27]
              exact ev_bind0 (isDay_eq _) (ev_neg cn (Ev.now _))
      by_cases c2 : kind = 2
      · obtain ⟨r, r1, r2, r3⟩ := step (Int.tmod (i : Int) 3 == 2) _ (by split <;> omega) rfl
        exact ⟨r, Ev.step (fun k => by rw [spec_Periods.l0]) (ev_pos hi (ev_pos c2 r1)), Ev.step (fun k => by rw [impl_Periods.l0]) (ev_pos hi (ev_neg ck (ev_pos c2 r2))), r3⟩
      · obtain ⟨r, r1, r2, r3⟩ := step false _ (by split <;> omega) rfl
        exact ⟨r, Ev.step (fun k => by rw [spec_Periods.l0]) (ev_pos hi (ev_neg c2 r1)), Ev.step (fun k => by rw [impl_Periods.l0]) (ev_pos hi (ev_neg ck (ev_neg c2 r2))), r3⟩
/-- The periods, by both. -/
theorem periods_ev (kind first c : Int) : ∃ r, Ev (fun k => spec_Periods.f k kind first c) r ∧ Ev (fun k => impl_Periods.f k kind first c) r ∧ (r = [] ∨ ∃ y, Ch first r y) ∧ r.length ≤ 60 := by
  have no : ∀ b, b = true → Ev (fun k => spec_Periods.j0 k kind first c [] b) ([] : List S39) ∧ Ev (fun k => impl_Periods.j0 k kind first c b) ([] : List S39) := fun b hb =>
    ⟨Ev.step (fun k => by rw [spec_Periods.j0]) (ev_pos hb (Ev.now _)), Ev.step (fun k => by rw [impl_Periods.j0]) (ev_pos hb (Ev.now _))⟩
  unfold spec_Periods.f impl_Periods.f
  by_cases c1 : 1 ≤ kind ∧ kind ≤ 3
  · by_cases c2 : 1 ≤ c ∧ c ≤ 60
    · by_cases c3 : 0 ≤ first ∧ first ≤ 40000
      · have yes : ∀ b, b = false → ∃ r, Ev (fun k => spec_Periods.j0 k kind first c [] b) r ∧ Ev (fun k => impl_Periods.j0 k kind first c b) r ∧ (r = [] ∨ ∃ y, Ch first r y) ∧ r.length ≤ 60 := fun b hb => by
          subst hb
          obtain ⟨r, r1, r2, r3⟩ := per_loop kind first c c1 c2 c.toNat 0 [] first (by omega) rfl (Ch.nil _) c3.1 (by omega)
          have r1' : Ev (fun k => spec_Periods.l0 k kind first c [] 0) r := r1
          have r2' : Ev (fun k => impl_Periods.l0 k kind first c [] 0) r := r2
          refine ⟨r, ?_, ?_, r3⟩
          · refine Ev.step (fun k => by rw [spec_Periods.j0]) ?_
            exact ev_neg (by decide) r1'
          · refine Ev.step (fun k => by rw [impl_Periods.j0]) ?_
            exact ev_neg (by decide) r2'
        by_cases ck : kind = 1
        · obtain ⟨Y, M, D, hd, d1, d2⟩ := date_ev first c3.1 c3.2
          have both : ∃ r, Ev (fun k => spec_Periods.j0 k kind first c [] (D + 1 != 1)) r ∧ Ev (fun k => impl_Periods.j0 k kind first c (D + 1 != 1)) r ∧ (r = [] ∨ ∃ y, Ch first r y) ∧ r.length ≤ 60 := by
            cases hb : (D + 1 != 1) with
            | true => exact ⟨[], (no true rfl).1, (no true rfl).2, .inl rfl, by simp⟩
            | false => exact yes false rfl
          obtain ⟨r, r1, r2, r3⟩ := both
          exact ⟨r, ev_bind0 rfl (ev_bind0 (in_eq _ _ _) (ev_pos (decide_eq_true c1) (ev_bind0 (in_eq _ _ _) (ev_pos (decide_eq_true c2) (ev_bind0 (l2Day_eq _) (ev_pos (decide_eq_true c3) (ev_pos ck (Ev.bind d1 r1)))))))), ev_bind0 (between_eq _ _ _) (ev_pos (decide_eq_true c1) (ev_bind0 (between_eq _ _ _) (ev_pos (decide_eq_true c2) (ev_bind0 (isDay_eq _) (ev_pos (decide_eq_true c3) (ev_pos ck (Ev.bind d2 r2))))))), r3⟩
        · obtain ⟨r, r1, r2, r3⟩ := yes false rfl
          exact ⟨r, ev_bind0 rfl (ev_bind0 (in_eq _ _ _) (ev_pos (decide_eq_true c1) (ev_bind0 (in_eq _ _ _) (ev_pos (decide_eq_true c2) (ev_bind0 (l2Day_eq _) (ev_pos (decide_eq_true c3) (ev_neg ck r1))))))), ev_bind0 (between_eq _ _ _) (ev_pos (decide_eq_true c1) (ev_bind0 (between_eq _ _ _) (ev_pos (decide_eq_true c2) (ev_bind0 (isDay_eq _) (ev_pos (decide_eq_true c3) (ev_neg ck r2)))))), r3⟩
      · have cn : ¬ (decide (0 ≤ first ∧ first ≤ 40000) = true) := by rw [decide_eq_true_eq]; exact c3
        exact ⟨[], ev_bind0 rfl (ev_bind0 (in_eq _ _ _) (ev_pos (decide_eq_true c1) (ev_bind0 (in_eq _ _ _) (ev_pos (decide_eq_true c2) (ev_bind0 (l2Day_eq _) (ev_neg cn (no true rfl).1)))))), ev_bind0 (between_eq _ _ _) (ev_pos (decide_eq_true c1) (ev_bind0 (between_eq _ _ _) (ev_pos (decide_eq_true c2) (ev_bind0 (isDay_eq _) (ev_neg cn (no true rfl).2))))), .inl rfl, by simp⟩
    · have cn : ¬ (decide (1 ≤ c ∧ c ≤ 60) = true) := by rw [decide_eq_true_eq]; exact c2
      exact ⟨[], ev_bind0 rfl (ev_bind0 (in_eq _ _ _) (ev_pos (decide_eq_true c1) (ev_bind0 (in_eq _ _ _) (ev_neg cn (no true rfl).1)))), ev_bind0 (between_eq _ _ _) (ev_pos (decide_eq_true c1) (ev_bind0 (between_eq _ _ _) (ev_neg cn (no true rfl).2))), .inl rfl, by simp⟩
  · have cn : ¬ (decide (1 ≤ kind ∧ kind ≤ 3) = true) := by rw [decide_eq_true_eq]; exact c1
    exact ⟨[], ev_bind0 rfl (ev_bind0 (in_eq _ _ _) (ev_neg cn (no true rfl).1)), ev_bind0 (between_eq _ _ _) (ev_neg cn (no true rfl).2), .inl rfl, by simp⟩
theorem rd_nat (L : List S39) (i : Nat) : rd_T39 L (i : Int) = L.getD i z39 := rfl
theorem Ch.mono {first x : Int} {L : List S39} (h : Ch first L x) {i j : Nat} (hij : i < j) (hj : j < L.length) : (L.getD i z39).f1 < (L.getD j z39).f0 := by
  induction j with
  | zero => omega
  | succ j ih =>
    have e := (h.1 (j + 1) hj).2.2.2
    unfold nxt at e
    rw [if_neg (by omega), Nat.add_sub_cancel] at e
    rcases Nat.lt_or_ge i j with c | c
    · have := ih c (by omega)
      have := (h.1 j (by omega)).1
      omega
    · have : i = j := by omega
      subst this
      omega
theorem Ch.first_le {first x : Int} {L : List S39} (h : Ch first L x) {i : Nat} (hi : i < L.length) : first ≤ (L.getD i z39).f0 := by
  have e0 := (h.1 0 (by omega)).2.2.2
  unfold nxt at e0
  rw [if_pos rfl] at e0
  rcases Nat.eq_zero_or_pos i with c | c
  · subst c; omega
  · have := h.mono c hi
    have := (h.1 0 (by omega)).1
    omega
theorem at_ev {first x day : Int} {L : List S39} (h : Ch first L x) (hl : L.length ≤ 60) {i : Nat} (hi : i < L.length) (h0 : (L.getD i z39).f0 ≤ day) (h1 : day ≤ (L.getD i z39).f1) : Ev (fun k => impl_PeriodAt.f k L day) (i : Int) := by
  have go : ∀ (d j : Nat), j + d = i → Ev (fun k => impl_PeriodAt.l0 k day L (L.length : Int) (j : Int)) (i : Int) := by
    intro d
    induction d with
    | zero =>
      intro j hj
      have : j = i := by omega
      subst this
      refine Ev.step (fun k => by rw [impl_PeriodAt.l0]) (ev_pos (by omega) (ev_pos (by omega) (ev_pos (by omega) ?_)))
      rw [rd_nat]
      exact ev_pos h0 (ev_pos h1 (Ev.now _))
    | succ d ih =>
      intro j hj
      have nx := ih (j + 1) (by omega)
      have ew : wrap64 ((j : Int) + 1) = ((j + 1 : Nat) : Int) := by rw [wrap_id (by omega) (by omega)]; omega
      refine Ev.step (fun k => by rw [impl_PeriodAt.l0]) (ev_pos (by omega) (ev_pos (by omega) (ev_pos (by omega) ?_)))
      rw [rd_nat, ew]
      have hlt := h.mono (i := j) (j := i) (by omega) hi
      by_cases c : (L.getD j z39).f0 ≤ day
      · exact ev_pos c (ev_neg (by omega) nx)
      · exact ev_neg c nx
  unfold impl_PeriodAt.f
  exact ev_neg (by omega) (go i 0 (by omega))
theorem at_none {first x day : Int} {L : List S39} (h : Ch first L x) (hl : L.length ≤ 60) (hd : day < first) : Ev (fun k => impl_PeriodAt.f k L day) (-1) := by
  have go : ∀ (d j : Nat), j + d = L.length → Ev (fun k => impl_PeriodAt.l0 k day L (L.length : Int) (j : Int)) (-1) := by
    intro d
    induction d with
    | zero =>
      intro j hj
      exact Ev.step (fun k => by rw [impl_PeriodAt.l0]) (ev_neg (by omega) (Ev.now _))
    | succ d ih =>
      intro j hj
      have nx := ih (j + 1) (by omega)
      have ew : wrap64 ((j : Int) + 1) = ((j + 1 : Nat) : Int) := by rw [wrap_id (by omega) (by omega)]; omega
      refine Ev.step (fun k => by rw [impl_PeriodAt.l0]) (ev_pos (by omega) (ev_pos (by omega) (ev_pos (by omega) ?_)))
      rw [rd_nat, ew]
      have := h.first_le (i := j) (by omega)
      exact ev_neg (by omega) nx
  unfold impl_PeriodAt.f
  exact ev_neg (by omega) (go L.length 0 (by omega))
theorem law_loop {first x : Int} {L : List S39} (h : Ch first L x) (hl : L.length ≤ 60) : ∀ (d i : Nat), i + d = L.length → Ev (fun k => laws_FnPeriodsWhole.l0 k first L (i : Int)) true := by
  intro d
  induction d with
  | zero =>
    intro i hi
    refine Ev.step (fun k => by rw [laws_FnPeriodsWhole.l0]) (ev_neg (by omega) ?_)
    by_cases c : (L.length : Int) = 0
    · exact ev_pos c (Ev.now _)
    · have hp := h.1 0 (by omega)
      have e0 := hp.2.2.2
      unfold nxt at e0
      rw [if_pos rfl] at e0
      have ew : wrap64 (first - 1) = first - 1 := wrap_id (by omega) (by omega)
      refine ev_neg c ?_
      rw [ew]
      exact Ev.bind (at_none h hl (by omega)) (Ev.now _)
  | succ d ih =>
    intro i hi
    have nx := ih (i + 1) (by omega)
    have hp := h.1 i (by omega)
    have ew : wrap64 ((i : Int) + 1) = ((i + 1 : Nat) : Int) := by rw [wrap_id (by omega) (by omega)]; omega
    have two : Ev (fun k => laws_FnPeriodsWhole.j2 k first L (i : Int) false ((L.getD i z39).f0) ((L.getD i z39).f1)) true := by
      refine Ev.step (fun k => by rw [laws_FnPeriodsWhole.j2]) ?_
      refine ev_neg (by decide) (Ev.bind (at_ev h hl (i := i) (by omega) (Int.le_refl _) hp.1) (ev_pos rfl (Ev.bind (at_ev h hl (i := i) (by omega) hp.1 (Int.le_refl _)) (ev_pos rfl ?_))))
      rw [ew]
      exact nx
    refine Ev.step (fun k => by rw [laws_FnPeriodsWhole.l0]) (ev_pos (by omega) (ev_pos (by omega) ?_))
    by_cases c : i = 0
    · subst c
      have e0 := hp.2.2.2
      unfold nxt at e0
      rw [if_pos rfl] at e0
      refine ev_neg (by decide) ?_
      rw [rd_nat]
      refine ev_neg (by omega) (ev_pos rfl ?_)
      have : ((L.getD 0 z39).f0 != first) = false := by rw [e0]; simp
      rw [this]
      exact two
    · have e1 := hp.2.2.2
      unfold nxt at e1
      rw [if_neg c] at e1
      have eq1 : wrap64 ((i : Int) - 1) = ((i - 1 : Nat) : Int) := by rw [wrap_id (by omega) (by omega)]; omega
      have hq := h.1 (i - 1) (by omega)
      refine ev_pos (by omega) ?_
      rw [eq1]
      refine ev_pos (by omega) (ev_pos (by omega) ?_)
      rw [rd_nat, rd_nat, wrap_id (x := (L.getD (i - 1) z39).f1 + 1) (by omega) (by omega)]
      exact ev_pos e1 (ev_neg (by omega) (ev_neg (by omega) two))
theorem known : ∃ r, Ev (fun k => impl_Periods.f k 3 0 13) r ∧ r.length = 13 := by
  have h : (impl_Periods.f 64 3 0 13).map List.length = some 13 := by decide +kernel
  cases e : impl_Periods.f 64 3 0 13 with
  | none => rw [e] at h; exact absurd h (by simp)
  | some r =>
    rw [e] at h
    exact ⟨r, Ev.of (impl_Periods.mono _ _ _) (k := 64) e, Option.some.inj h⟩
theorem draw_ev (l : List Int) (hl : (l.length : Int) ≤ 140737488351232) : ∃ a d n, Ev (fun k => spec_DrawPeriods.f k l) (a, d, n) := by
  obtain ⟨h, hn⟩ := new_ok l hl
  obtain ⟨x0, i0, h0, e0, c0, _⟩ := below_ok l 0 h 3 ⟨by decide, by omega, hl⟩
  obtain ⟨a, i1, h1, e1, c1, _⟩ := spoil_ok l i0 h0 (wrap64 (1 + x0)) ([0, 4] : List Int) (by decide) c0
  obtain ⟨d0, i2, h2, e2, c2, _⟩ := drawDay_ok l i1 h1 c1
  obtain ⟨d1, i3, h3, e3, c3⟩ := badDay_ok l i2 h2 d0 c2
  have last : ∀ (b : Bool) (i : Int) (h : Int), Cu l i → ∃ r, Ev (fun k => spec_DrawPeriods.j0 k a d1 b l i h) r := by
    intro b i h hc
    cases b with
    | true =>
      obtain ⟨x1, j1, g1, f1, k1, _⟩ := below_ok l i h 12 hc
      obtain ⟨x2, j2, g2, f2, k2, _⟩ := below_ok l j1 g1 12 k1
      obtain ⟨x3, j3, g3, f3, k3, _⟩ := below_ok l j2 g2 15 k2
      obtain ⟨x4, j4, g4, f4, k4, _⟩ := spoil_ok l j3 g3 (wrap64 (1 + x3)) ([0, 60, 61] : List Int) (by decide) k3
      refine ⟨(a, dayOf (wrap64 (2000 + x1)) (wrap64 (1 + x2)) 1, x4), ?_⟩
      refine Ev.step (fun k => by rw [spec_DrawPeriods.j0]) ?_
      exact ev_pos rfl (ev_bind0 f1 (ev_bind0 f2 (Ev.bind (spec_dayOf_ev _ _ _) (ev_bind0 f3 (ev_bind0 f4 (Ev.now _))))))
    | false =>
      obtain ⟨x3, j3, g3, f3, k3, _⟩ := below_ok l i h 15 hc
      obtain ⟨x4, j4, g4, f4, k4, _⟩ := spoil_ok l j3 g3 (wrap64 (1 + x3)) ([0, 60, 61] : List Int) (by decide) k3
      refine ⟨(a, d1, x4), ?_⟩
      refine Ev.step (fun k => by rw [spec_DrawPeriods.j0]) ?_
      exact ev_neg (by decide) (ev_bind0 f3 (ev_bind0 f4 (Ev.now _)))
  unfold spec_DrawPeriods.f
  by_cases ca : a = 1
  · obtain ⟨v, i4, h4, e4, c4⟩ := once_ok l i3 h3 5 c3
    obtain ⟨⟨r1, r2, r3⟩, hr⟩ := last (!v) i4 h4 c4
    exact ⟨r1, r2, r3, Ev.bind hn (ev_bind0 e0 (ev_bind0 e1 (ev_bind0 e2 (ev_bind0 e3 (ev_pos ca (ev_bind0 e4 hr))))))⟩
  · obtain ⟨⟨r1, r2, r3⟩, hr⟩ := last false i3 h3 c3
    exact ⟨r1, r2, r3, Ev.bind hn (ev_bind0 e0 (ev_bind0 e1 (ev_bind0 e2 (ev_bind0 e3 (ev_neg ca hr)))))⟩
theorem FnPeriodsWhole : laws_FnPeriodsWhole.Pure := by
  intro l0 hg0 hg1 hg2
  apply Ev.rounds
  unfold laws_FnPeriodsWhole.f laws_big.f
  refine ev_bind0 rfl ?_
  by_cases cb : (l0.length : Int) > 1048576
  · exact ev_pos (decide_eq_true cb) (Ev.now _)
  refine ev_neg (by rw [decide_eq_true_eq]; exact cb) ?_
  obtain ⟨a, d, n, hd⟩ := draw_ev l0 (by omega)
  obtain ⟨r, hs, hi, hr, hl⟩ := periods_ev a d n
  obtain ⟨q, hq, ql⟩ := known
  refine Ev.bind hd (Ev.bind hi (Ev.bind hs (ev_pos rfl (Ev.bind hq ?_))))
  rw [ql]
  have hc : ∃ y, Ch d r y := by
    rcases hr with rfl | h
    · exact ⟨d, Ch.nil d⟩
    · exact h
  obtain ⟨y, hc⟩ := hc
  refine Ev.step (fun k => by rw [laws_FnPeriodsWhole.j0]) ?_
  refine ev_neg (by decide) ?_
  exact law_loop hc hl r.length 0 (by omega)
end Go.Proofs.YtdnenglafphkbaaDoor.Pure
