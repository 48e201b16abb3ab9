/- MonthsOn: of a drawn day so many months on the month is that many further, and the day the same or the month's last. -/
import Derived.Test.YtdnenglafphkbaaDoorZPFnMonthsOnx
import Derived.Test.YtdnenglafphkbaaDoorZEv
set_option maxHeartbeats 4000000
set_option linter.unusedVariables false
set_option linter.unusedSimpArgs false
namespace Go.Proofs.YtdnenglafphkbaaDoor.Pure
open Go.RowKit Go.Proofs.YtdnenglafphkbaaDoor.PFnMonthsOn Go.Proofs.YtdnenglafphkbaaDoorW.PrintWords Go.Proofs.YtdnenglafphkbaaDoorW.PrintLast Go.Proofs.YtdnenglafphkbaaDoor.XEv
/-! ### Draws -/
theorem and255 (n : Int) : Go.bits .and .i64 n 255 = n % 256 := by
  have h255 : (BitVec.ofInt 64 255).toNat = 2 ^ 8 - 1 := by decide
  have key : (BitVec.ofInt 64 n &&& BitVec.ofInt 64 255).toNat = (n % ((2 ^ 64 : Nat) : Int)).toNat % 2 ^ 8 := by
    rw [BitVec.toNat_and, BitVec.toNat_ofInt, h255, Nat.and_two_pow_sub_one_eq_mod]
  show IntKind.i64.wrap ((BitVec.ofInt 64 n &&& BitVec.ofInt 64 255).toNat : Nat) = n % 256
  rw [key, IntKind.wrap_i64]
  omega
/-- A draw's state: where it stands in its bytes. -/
def Cu (b : List Int) (i : Int) : Prop := 0 ≤ i ∧ i ≤ (b.length : Int) ∧ (b.length : Int) ≤ 140737488351232
theorem byte_ok (b : List Int) (i h : Int) (hc : Cu b i) : ∃ x i' h', spec_l1Byte.f b i h = some (x, i', h') ∧ 0 ≤ x ∧ x ≤ 255 ∧ Cu b i' := by
  obtain ⟨h0, h1, h2⟩ := hc
  unfold spec_l1Byte.f
  simp only [and255]
  by_cases c : i < (b.length : Int)
  · rw [if_pos c, if_pos h0]
    refine ⟨_, _, _, rfl, Int.emod_nonneg _ (by decide), ?_, ?_⟩
    · have := Int.emod_lt_of_pos (wrap64 (Go.bits .xor .i64 ((wrap64 ((wrap64 (h * 6364136223846793005)) + 1442695040888963407)) / 8589934592) ((wrap64 ((wrap64 (h * 6364136223846793005)) + 1442695040888963407)) / 35184372088832) % 256 + (wrap64 (rd b i)))) (show (0 : Int) < 256 by decide)
      exact Int.le_of_lt_add_one this
    · rw [wrap_id (by omega) (by omega)]
      exact ⟨by omega, by omega, h2⟩
  · rw [if_neg c]
    refine ⟨_, _, _, rfl, Int.emod_nonneg _ (by decide), ?_, h0, h1, h2⟩
    exact Int.le_of_lt_add_one (Int.emod_lt_of_pos _ (show (0 : Int) < 256 by decide))
theorem below_ok (b : List Int) (i h n : Int) (hc : Cu b i) : ∃ x i' h', spec_l1Below.f b i h n = some (x, i', h') ∧ Cu b i' ∧ 0 ≤ x ∧ (0 < n → x < n) ∧ (n ≤ 0 → x = 0) := by
  unfold spec_l1Below.f
  by_cases c0 : n ≤ 0
  · exact ⟨0, i, h, if_pos c0, hc, by decide, fun h => by omega, fun _ => rfl⟩
  rw [if_neg c0]
  obtain ⟨x1, i1, h1, e1, a1, b1, c1⟩ := byte_ok b i h hc
  by_cases c : n ≤ 256
  · rw [if_pos c, e1, Option.bind_some, if_neg (by omega)]
    exact ⟨_, _, _, rfl, c1, Int.tmod_nonneg _ a1, fun _ => Int.tmod_lt_of_pos _ (by omega), fun h => absurd h c0⟩
  · obtain ⟨x2, i2, h2, e2, a2, b2, c2⟩ := byte_ok b i1 h1 c1
    obtain ⟨x3, i3, h3, e3, a3, b3, c3⟩ := byte_ok b i2 h2 c2
    obtain ⟨x4, i4, h4, e4, a4, b4, c4⟩ := byte_ok b i3 h3 c3
    rw [if_neg c, e1, Option.bind_some, e2, Option.bind_some, e3, Option.bind_some, e4, Option.bind_some, if_neg (by omega)]
    refine ⟨_, _, _, rfl, c4, Int.tmod_nonneg _ ?_, fun _ => Int.tmod_lt_of_pos _ (by omega), fun h => absurd h c0⟩
    rw [wrap_id (x := x1 * 16777216) (by omega) (by omega), wrap_id (x := x2 * 65536) (by omega) (by omega), wrap_id (x := x3 * 256) (by omega) (by omega), wrap_id (x := x1 * 16777216 + x2 * 65536) (by omega) (by omega), wrap_id (x := x1 * 16777216 + x2 * 65536 + x3 * 256) (by omega) (by omega), wrap_id (by omega) (by omega)]
    omega
theorem once_ok (b : List Int) (i h n : Int) (hc : Cu b i) : ∃ (v : Bool) (i' h' : Int), spec_l1Once.f b i h n = some (v, i', h') ∧ Cu b i' := by
  obtain ⟨x, i', h', e, c, _⟩ := below_ok b i h n hc
  unfold spec_l1Once.f
  rw [e]
  exact ⟨_, _, _, rfl, c⟩
theorem pickInt_ok (b : List Int) (i h : Int) (l : List Int) (hl : 0 < l.length) (hc : Cu b i) : ∃ s i' h', spec_l1PickInt.f b i h l = some (s, i', h') ∧ Cu b i' ∧ s ∈ l := by
  obtain ⟨x, i', h', e, c, x0, x1, _⟩ := below_ok b i h (l.length : Int) hc
  have := x1 (by omega)
  unfold spec_l1PickInt.f
  rw [e, Option.bind_some, if_pos x0, if_pos this]
  refine ⟨_, _, _, rfl, c, ?_⟩
  have hx : x.toNat < l.length := by omega
  have e2 := rd_at hx
  rw [show ((x.toNat : Nat) : Int) = x by omega] at e2
  show rd l x ∈ l
  rw [e2]
  exact List.getElem_mem hx
theorem spoil_ok (b : List Int) (i h a : Int) (l : List Int) (hl : 0 < l.length) (hc : Cu b i) : ∃ s i' h', spec_l1Spoil.f b i h a l = some (s, i', h') ∧ Cu b i' ∧ (s = a ∨ s ∈ l) := by
  obtain ⟨v, i1, h1, e, c⟩ := once_ok b i h 40 hc
  unfold spec_l1Spoil.f
  rw [e, Option.bind_some]
  by_cases cv : v = true
  · obtain ⟨s, i2, h2, e2, c2, m⟩ := pickInt_ok b i1 h1 l hl c
    rw [if_pos cv, e2]
    exact ⟨_, _, _, rfl, c2, .inr m⟩
  · rw [if_neg cv]
    exact ⟨_, _, _, rfl, c, .inl rfl⟩
theorem new_ok (l : List Int) (hl : (l.length : Int) ≤ 140737488351232) : ∃ h, Ev (fun k => spec_l1New.f k l) (l, 0, h) := by
  have go : ∀ (d i : Nat) (h : Int), i + d = l.length → ∃ h', Ev (fun k => spec_l1New.l0 k l h (i : Int)) (l, 0, h') := by
    intro d
    induction d with
    | zero =>
      intro i h hd
      refine ⟨h, Ev.step (fun k => by rw [spec_l1New.l0]) ?_⟩
      exact ev_neg (by omega) (Ev.now _)
    | succ d ih =>
      intro i h hd
      have hw : wrap64 ((i : Int) + 1) = ((i + 1 : Nat) : Int) := wrap_id (by omega) (by omega)
      by_cases c : (i : Int) < 4000
      · obtain ⟨h', hh⟩ := ih (i + 1) (Go.bits .and .i64 (wrap64 ((wrap64 ((wrap64 (h * 131)) + (wrap64 (rd l (i : Int))))) + 7)) 1073741823) (by omega)
        refine ⟨h', Ev.step (fun k => by rw [spec_l1New.l0]) ?_⟩
        simp only [hw]
        exact ev_pos (by omega) (ev_pos c (ev_pos (by omega) hh))
      · refine ⟨h, Ev.step (fun k => by rw [spec_l1New.l0]) ?_⟩
        exact ev_pos (by omega) (ev_neg c (Ev.now _))
  obtain ⟨h, hh⟩ := go l.length 0 (wrap64 (71933 + (l.length : Int))) (by omega)
  exact ⟨h, by unfold spec_l1New.f; exact hh⟩
/-! ### Days -/
/-- Whether a year is long. -/
def lyB (y : Int) : Bool := if Int.tmod y 4 = 0 then (if Int.tmod y 100 = 0 then (Int.tmod y 400 == 0) else true) else (Int.tmod y 400 == 0)
theorem impl_ly (y : Int) : impl_longYear.f y = some (lyB y) := by unfold impl_longYear.f lyB; (repeat' split) <;> rfl
theorem spec_ly (y : Int) : spec_l2Leap.f y = some (lyB y) := by unfold spec_l2Leap.f lyB; (repeat' split) <;> rfl
/-- How long a month is. -/
def ml (y m : Int) : Int := if m = 2 then (if lyB y = true then 29 else 28) else if m = 4 then 30 else if m = 6 then 30 else if m = 9 then 30 else if m = 11 then 30 else 31
theorem spec_ml (y m : Int) : spec_l2Long.f y m = some (ml y m) := by
  unfold spec_l2Long.f ml
  rw [spec_ly]
  simp only [Option.bind_some]
  repeat' split
  all_goals rfl
theorem impl_ml (y m : Int) (h0 : 1 ≤ m) (h1 : m ≤ 12) : impl_daysOf.f y m = some (ml y m) := by
  unfold impl_daysOf.f
  rw [impl_ly]
  have hc : m = 1 ∨ m = 2 ∨ m = 3 ∨ m = 4 ∨ m = 5 ∨ m = 6 ∨ m = 7 ∨ m = 8 ∨ m = 9 ∨ m = 10 ∨ m = 11 ∨ m = 12 := by omega
  rcases hc with rfl | rfl | rfl | rfl | rfl | rfl | rfl | rfl | rfl | rfl | rfl | rfl
  · rfl
  · unfold ml
    rw [if_pos rfl, if_pos rfl, Option.bind_some]
    split
    · rfl
    · rfl
  all_goals rfl
theorem ml_b (y m : Int) : 28 ≤ ml y m ∧ ml y m ≤ 31 := by unfold ml; repeat' split <;> omega
/-- How long a year is. -/
def yl (y : Int) : Int := if lyB y = true then 366 else 365
theorem yl_b (y : Int) : 365 ≤ yl y ∧ yl y ≤ 366 := by unfold yl; split <;> omega
/-- The days of the years from 2000 on. -/
def yd : Nat → Int
  | 0 => 0
  | n + 1 => yd n + yl (2000 + (n : Int))
/-- The days of a year's first months. -/
def md (y : Int) : Nat → Int
  | 0 => 0
  | n + 1 => md y n + ml y ((n : Int) + 1)
theorem md12 (y : Int) : md y 12 = yl y := by
  simp only [md, yl, ml]
  cases lyB y <;> decide
theorem md_step (y : Int) {a b : Nat} (h : a ≤ b) : md y a ≤ md y b := by
  induction b with
  | zero => have : a = 0 := by omega
            subst this; exact Int.le_refl _
  | succ b ih =>
    rcases Nat.lt_or_ge b a with h2 | h2
    · have : a = b + 1 := by omega
      subst this; exact Int.le_refl _
    · have := ih h2; have := ml_b y ((b : Int) + 1); simp only [md]; omega
theorem yd_step {a b : Nat} (h : a ≤ b) : yd a ≤ yd b := by
  induction b with
  | zero => have : a = 0 := by omega
            subst this; exact Int.le_refl _
  | succ b ih =>
    rcases Nat.lt_or_ge b a with h2 | h2
    · have : a = b + 1 := by omega
      subst this; exact Int.le_refl _
    · have := ih h2; have := yl_b (2000 + (b : Int)); simp only [yd]; omega
theorem yd_b (n : Nat) : 365 * (n : Int) ≤ yd n ∧ yd n ≤ 366 * (n : Int) := by
  induction n with
  | zero => simp [yd]
  | succ n ih => have := yl_b (2000 + (n : Int)); simp only [yd]; omega
theorem md_b (y : Int) (n : Nat) : 0 ≤ md y n ∧ md y n ≤ 31 * (n : Int) := by
  induction n with
  | zero => simp [md]
  | succ n ih => have := ml_b y ((n : Int) + 1); simp only [md]; omega
/-- A date, by the years since 2000, the months and days ahead of it: which day it is. -/
def DD (Y M : Nat) (D n : Int) : Prop := M < 12 ∧ 0 ≤ D ∧ D < ml (2000 + (Y : Int)) ((M : Int) + 1) ∧ n = yd Y + md (2000 + (Y : Int)) M + D
theorem DD.of_eq {Y M : Nat} {D n n' : Int} (h : DD Y M D n) (e : n = n') : DD Y M D n' := e ▸ h
theorem DD.lt {Y M : Nat} {D n : Int} (h : DD Y M D n) : yd Y ≤ n ∧ n < yd (Y + 1) ∧ md (2000 + (Y : Int)) M ≤ n - yd Y ∧ n - yd Y < md (2000 + (Y : Int)) (M + 1) := by
  obtain ⟨h0, h1, h2, h3⟩ := h
  have a := md_b (2000 + (Y : Int)) M
  have b := md_step (2000 + (Y : Int)) (show M + 1 ≤ 12 by omega)
  rw [md12] at b
  simp only [md, yd] at b ⊢
  omega
theorem DD.unique {Y M Y' M' : Nat} {D D' n : Int} (h : DD Y M D n) (h' : DD Y' M' D' n) : Y = Y' ∧ M = M' ∧ D = D' := by
  obtain ⟨a1, a2, a3, a4⟩ := h.lt
  obtain ⟨b1, b2, b3, b4⟩ := h'.lt
  have hY : Y = Y' := by
    rcases Nat.lt_trichotomy Y Y' with c | c | c
    · have := yd_step (show Y + 1 ≤ Y' by omega); omega
    · exact c
    · have := yd_step (show Y' + 1 ≤ Y by omega); omega
  subst hY
  have hM : M = M' := by
    rcases Nat.lt_trichotomy M M' with c | c | c
    · have := md_step (2000 + (Y : Int)) (show M + 1 ≤ M' by omega); omega
    · exact c
    · have := md_step (2000 + (Y : Int)) (show M' + 1 ≤ M by omega); omega
  subst hM
  have e1 := h.2.2.2
  have e2 := h'.2.2.2
  exact ⟨rfl, rfl, by omega⟩
theorem DD.year {Y M : Nat} {D n : Int} (h : DD Y M D n) (hn : n ≤ 40000) : Y ≤ 109 := by
  have := (yd_b Y).1
  have := h.lt.1
  omega
/-! ### A day's date -/
theorem spec_dl : ∀ (b : Nat) (x : Int) (Y M : Nat), x.toNat ≤ b → 0 ≤ x → (Y : Int) + x ≤ 40000 → M < 12 → ∃ (Y' M' : Nat) (D : Int), DD Y' M' D (x + yd Y + md (2000 + (Y : Int)) M) ∧ Ev (fun k => spec_DateOf.l0 k x (2000 + (Y : Int)) ((M : Int) + 1)) (2000 + (Y' : Int), (M' : Int) + 1, D + 1) := by
  intro b
  induction b with
  | zero =>
    intro x Y M hb h0 h1 hM
    have hm := ml_b (2000 + (Y : Int)) ((M : Int) + 1)
    have hn : ¬ (x ≥ ml (2000 + (Y : Int)) ((M : Int) + 1)) := by omega
    refine ⟨Y, M, x, ⟨hM, h0, by omega, by omega⟩, Ev.step (fun k => by rw [spec_DateOf.l0]) (ev_bind0 (spec_ml _ _) (ev_neg hn ?_))⟩
    rw [wrap_id (x := x + 1) (by omega) (by omega)]
    exact Ev.now _
  | succ b ih =>
    intro x Y M hb h0 h1 hM
    have hm := ml_b (2000 + (Y : Int)) ((M : Int) + 1)
    by_cases c : x ≥ ml (2000 + (Y : Int)) ((M : Int) + 1)
    · by_cases c2 : M = 11
      · subst c2
        obtain ⟨Y', M', D, hd, he⟩ := ih (x - ml (2000 + (Y : Int)) (((11 : Nat) : Int) + 1)) (Y + 1) 0 (by omega) (by omega) (by omega) (by omega)
        refine ⟨Y', M', D, ?_, Ev.step (fun k => by rw [spec_DateOf.l0]) (ev_bind0 (spec_ml _ _) (ev_pos c (ev_bind0 (spec_ml _ _) (ev_pos ?_ ?_))))⟩
        · have e := md12 (2000 + (Y : Int))
          rw [show (12 : Nat) = 11 + 1 from rfl, md] at e
          refine hd.of_eq ?_
          rw [yd, md]
          omega
        · rw [wrap_id (by omega) (by omega)]
          rfl
        · rw [wrap_id (x := x - _) (by omega) (by omega), wrap_id (x := 2000 + (Y : Int) + 1) (by omega) (by omega)]
          rw [show (2000 + ((Y + 1 : Nat) : Int)) = 2000 + (Y : Int) + 1 by omega] at he
          exact he
      · obtain ⟨Y', M', D, hd, he⟩ := ih (x - ml (2000 + (Y : Int)) ((M : Int) + 1)) Y (M + 1) (by omega) (by omega) (by omega) (by omega)
        have ew : wrap64 ((M : Int) + 1 + 1) = ((M + 1 : Nat) : Int) + 1 := by rw [wrap_id (by omega) (by omega)]; omega
        refine ⟨Y', M', D, ?_, Ev.step (fun k => by rw [spec_DateOf.l0]) (ev_bind0 (spec_ml _ _) (ev_pos c (ev_bind0 (spec_ml _ _) (ev_neg ?_ ?_))))⟩
        · refine hd.of_eq ?_
          rw [md]
          omega
        · rw [ew]; omega
        · rw [wrap_id (x := x - _) (by omega) (by omega), ew]
          exact he
    · refine ⟨Y, M, x, ⟨hM, h0, by omega, by omega⟩, Ev.step (fun k => by rw [spec_DateOf.l0]) (ev_bind0 (spec_ml _ _) (ev_neg c ?_))⟩
      rw [wrap_id (x := x + 1) (by omega) (by omega)]
      exact Ev.now _
theorem impl_dm : ∀ (b : Nat) (x : Int) (Y M : Nat), x.toNat ≤ b → 0 ≤ x → x ≤ 40000 → M < 12 → x + md (2000 + (Y : Int)) M < yl (2000 + (Y : Int)) → ∃ (M' : Nat) (D : Int), DD Y M' D (x + yd Y + md (2000 + (Y : Int)) M) ∧ Ev (fun k => impl_DateOf.l1 k x (2000 + (Y : Int)) ((M : Int) + 1) 1) (2000 + (Y : Int), (M' : Int) + 1, D + 1) := by
  intro b
  induction b with
  | zero =>
    intro x Y M hb h0 h1 hM hy
    have hm := ml_b (2000 + (Y : Int)) ((M : Int) + 1)
    have hn : ¬ (x ≥ ml (2000 + (Y : Int)) ((M : Int) + 1)) := by omega
    refine ⟨M, x, ⟨hM, h0, by omega, by omega⟩, Ev.step (fun k => by rw [impl_DateOf.l1]) (ev_bind0 (impl_ml (2000 + (Y : Int)) ((M : Int) + 1) (by omega) (by omega)) (ev_neg hn ?_))⟩
    rw [wrap_id (x := 1 + x) (by omega) (by omega), Int.add_comm 1 x]
    exact Ev.now _
  | succ b ih =>
    intro x Y M hb h0 h1 hM hy
    have hm := ml_b (2000 + (Y : Int)) ((M : Int) + 1)
    by_cases c : x ≥ ml (2000 + (Y : Int)) ((M : Int) + 1)
    · have hM2 : M + 1 < 12 := by
        rcases Nat.lt_or_ge (M + 1) 12 with c2 | c2
        · exact c2
        · have e := md12 (2000 + (Y : Int))
          have : M = 11 := by omega
          subst this
          rw [show (12 : Nat) = 11 + 1 from rfl, md] at e
          omega
      obtain ⟨M', D, hd, he⟩ := ih (x - ml (2000 + (Y : Int)) ((M : Int) + 1)) Y (M + 1) (by omega) (by omega) (by omega) hM2 (by simp only [md]; omega)
      have ew : wrap64 ((M : Int) + 1 + 1) = ((M + 1 : Nat) : Int) + 1 := by rw [wrap_id (by omega) (by omega)]; omega
      refine ⟨M', D, ?_, Ev.step (fun k => by rw [impl_DateOf.l1]) (ev_bind0 (impl_ml (2000 + (Y : Int)) ((M : Int) + 1) (by omega) (by omega)) (ev_pos c (ev_bind0 (impl_ml (2000 + (Y : Int)) ((M : Int) + 1) (by omega) (by omega)) ?_)))⟩
      · refine hd.of_eq ?_
        rw [md]
        omega
      · rw [wrap_id (x := x - _) (by omega) (by omega), ew]
        exact he
    · refine ⟨M, x, ⟨hM, h0, by omega, by omega⟩, Ev.step (fun k => by rw [impl_DateOf.l1]) (ev_bind0 (impl_ml (2000 + (Y : Int)) ((M : Int) + 1) (by omega) (by omega)) (ev_neg c ?_))⟩
      rw [wrap_id (x := 1 + x) (by omega) (by omega), Int.add_comm 1 x]
      exact Ev.now _
theorem impl_dl : ∀ (b : Nat) (x : Int) (Y : Nat), x.toNat ≤ b → 0 ≤ x → (Y : Int) + x ≤ 40000 → ∃ (Y' M' : Nat) (D : Int), DD Y' M' D (x + yd Y) ∧ Ev (fun k => impl_DateOf.l0 k x (2000 + (Y : Int)) 1 1) (2000 + (Y' : Int), (M' : Int) + 1, D + 1) := by
  have last : ∀ (x : Int) (Y : Nat), 0 ≤ x → (Y : Int) + x ≤ 40000 → x < yl (2000 + (Y : Int)) → ∃ (M' : Nat) (D : Int), DD Y M' D (x + yd Y) ∧ Ev (fun k => impl_DateOf.j1 k x (2000 + (Y : Int)) 1 1) (2000 + (Y : Int), (M' : Int) + 1, D + 1) := by
    intro x Y h0 h1 hy
    obtain ⟨M', D, hd, he⟩ := impl_dm x.toNat x Y 0 (Nat.le_refl _) h0 (by omega) (by omega) (by simp only [md]; omega)
    have he2 : Ev (fun k => impl_DateOf.l1 k x (2000 + (Y : Int)) 1 1) (2000 + (Y : Int), (M' : Int) + 1, D + 1) := he
    refine ⟨M', D, hd.of_eq (by rw [md]; omega), Ev.step (fun k => by rw [impl_DateOf.j1]) he2⟩
  intro b
  induction b with
  | zero =>
    intro x Y hb h0 h1
    have hy := yl_b (2000 + (Y : Int))
    obtain ⟨M', D, hd, he⟩ := last x Y h0 h1 (by omega)
    refine ⟨Y, M', D, hd, Ev.step (fun k => by rw [impl_DateOf.l0]) (ev_bind0 (impl_ly _) ?_)⟩
    by_cases c : lyB (2000 + (Y : Int)) = true
    · exact ev_pos c (ev_pos (by omega) he)
    · exact ev_neg c (ev_pos (by omega) he)
  | succ b ih =>
    intro x Y hb h0 h1
    have hy := yl_b (2000 + (Y : Int))
    by_cases cx : x < yl (2000 + (Y : Int))
    · obtain ⟨M', D, hd, he⟩ := last x Y h0 h1 cx
      refine ⟨Y, M', D, hd, Ev.step (fun k => by rw [impl_DateOf.l0]) (ev_bind0 (impl_ly _) ?_)⟩
      by_cases c : lyB (2000 + (Y : Int)) = true
      · rw [yl, if_pos c] at cx
        exact ev_pos c (ev_pos cx he)
      · rw [yl, if_neg c] at cx
        exact ev_neg c (ev_pos cx he)
    · obtain ⟨Y', M', D, hd, he⟩ := ih (x - yl (2000 + (Y : Int))) (Y + 1) (by omega) (by omega) (by omega)
      refine ⟨Y', M', D, ?_, Ev.step (fun k => by rw [impl_DateOf.l0]) (ev_bind0 (impl_ly _) ?_)⟩
      · refine hd.of_eq ?_
        rw [yd]
        omega
      · rw [show (2000 + ((Y + 1 : Nat) : Int)) = 2000 + (Y : Int) + 1 by omega] at he
        by_cases c : lyB (2000 + (Y : Int)) = true
        · rw [yl, if_pos c] at cx he
          refine ev_pos c (ev_neg cx ?_)
          rw [wrap_id (x := x - 366) (by omega) (by omega), wrap_id (x := 2000 + (Y : Int) + 1) (by omega) (by omega)]
          exact he
        · rw [yl, if_neg c] at cx he
          refine ev_neg c (ev_neg cx ?_)
          rw [wrap_id (x := x - 365) (by omega) (by omega), wrap_id (x := 2000 + (Y : Int) + 1) (by omega) (by omega)]
          exact he
theorem between_eq (a b c : Int) : impl_between.f a b c = some (decide (b ≤ a ∧ a ≤ c)) := by
  unfold impl_between.f
  by_cases h : a ≥ b
  · rw [if_pos h]; simp [show b ≤ a from h]
  · rw [if_neg h]; simp [show ¬ b ≤ a from h]
theorem in_eq (a b c : Int) : spec_l1In.f a b c = some (decide (b ≤ a ∧ a ≤ c)) := by
  unfold spec_l1In.f
  by_cases h : a ≥ b
  · rw [if_pos h]; simp [show b ≤ a from h]
  · rw [if_neg h]; simp [show ¬ b ≤ a from h]
theorem isDay_eq (a : Int) : impl_isDay.f a = some (decide (0 ≤ a ∧ a ≤ 40000)) := by unfold impl_isDay.f; rw [between_eq]; rfl
theorem l2Day_eq (a : Int) : spec_l2Day.f a = some (decide (0 ≤ a ∧ a ≤ 40000)) := by unfold spec_l2Day.f; rw [in_eq]; rfl
/-- A day's date, by both. -/
theorem date_ev (n : Int) (h0 : 0 ≤ n) (h1 : n ≤ 40000) : ∃ (Y M : Nat) (D : Int), DD Y M D n ∧ Ev (fun k => spec_DateOf.f k n) (2000 + (Y : Int), (M : Int) + 1, D + 1) ∧ Ev (fun k => impl_DateOf.f k n) (2000 + (Y : Int), (M : Int) + 1, D + 1) := by
  obtain ⟨Y, M, D, hd, he⟩ := spec_dl n.toNat n 0 0 (Nat.le_refl _) h0 (by omega) (by decide)
  obtain ⟨Y', M', D', hd', he'⟩ := impl_dl n.toNat n 0 (Nat.le_refl _) h0 (by omega)
  simp only [yd, md, Int.add_zero] at hd hd'
  obtain ⟨rfl, rfl, rfl⟩ := hd.unique hd'
  refine ⟨Y, M, D, hd, ?_, ?_⟩
  · unfold spec_DateOf.f
    exact ev_bind0 (l2Day_eq n) (ev_pos (decide_eq_true ⟨h0, h1⟩) he)
  · unfold impl_DateOf.f
    exact ev_bind0 (isDay_eq n) (ev_pos (decide_eq_true ⟨h0, h1⟩) he')
theorem date_no (n : Int) (h : ¬ (0 ≤ n ∧ n ≤ 40000)) : Ev (fun k => spec_DateOf.f k n) (0, 0, 0) ∧ Ev (fun k => impl_DateOf.f k n) (0, 0, 0) := by
  constructor
  · unfold spec_DateOf.f
    exact ev_bind0 (l2Day_eq n) (ev_neg (by rw [decide_eq_true_eq]; exact h) (Ev.now _))
  · unfold impl_DateOf.f
    exact ev_bind0 (isDay_eq n) (ev_neg (by rw [decide_eq_true_eq]; exact h) (Ev.now _))
/-! ### A date's day -/
/-- Which day a date is; -1: it is none. -/
def dayOf (y m d : Int) : Int := if (2000 ≤ y ∧ y ≤ 2200) ∧ (1 ≤ m ∧ m ≤ 12) ∧ 1 ≤ d ∧ d ≤ ml y m then (if yd (y - 2000).toNat + md y (m - 1).toNat + (d - 1) ≤ 40000 then yd (y - 2000).toNat + md y (m - 1).toNat + (d - 1) else -1) else -1
theorem spec_dy (y m d : Int) : ∀ (j i : Nat) (x : Int), i + j = (y - 2000).toNat → 2000 ≤ y → y ≤ 2200 → 0 ≤ x → x ≤ 31 + 366 * (i : Int) → ∀ r, Ev (fun k => spec_DayOf.l1 k (x + (yd (y - 2000).toNat - yd i)) 1 y m d) r → Ev (fun k => spec_DayOf.l0 k x (2000 + (i : Int)) y m d) r := by
  intro j
  induction j with
  | zero =>
    intro i x hj hy0 hy1 h0 h1 r hr
    have : i = (y - 2000).toNat := by omega
    subst this
    refine Ev.step (fun k => by rw [spec_DayOf.l0]) (ev_neg (by omega) ?_)
    rw [Int.sub_self, Int.add_zero] at hr
    exact hr
  | succ j ih =>
    intro i x hj hy0 hy1 h0 h1 r hr
    have hb := yl_b (2000 + (i : Int))
    have go := ih (i + 1) (x + yl (2000 + (i : Int))) (by omega) hy0 hy1 (by omega) (by omega) r (by
      rw [show x + yl (2000 + (i : Int)) + (yd (y - 2000).toNat - yd (i + 1)) = x + (yd (y - 2000).toNat - yd i) by simp only [yd]; omega]
      exact hr)
    refine Ev.step (fun k => by rw [spec_DayOf.l0]) (ev_pos (by omega) (ev_bind0 (spec_ly _) ?_))
    rw [show (2000 + ((i + 1 : Nat) : Int)) = 2000 + (i : Int) + 1 by omega] at go
    by_cases c : lyB (2000 + (i : Int)) = true
    · rw [yl, if_pos c] at go
      refine ev_pos c ?_
      rw [wrap_id (x := x + 365) (by omega) (by omega), wrap_id (x := x + 365 + 1) (by omega) (by omega), wrap_id (x := 2000 + (i : Int) + 1) (by omega) (by omega), show x + 365 + 1 = x + 366 by omega]
      exact go
    · rw [yl, if_neg c] at go
      refine ev_neg c ?_
      rw [wrap_id (x := x + 365) (by omega) (by omega), wrap_id (x := 2000 + (i : Int) + 1) (by omega) (by omega)]
      exact go
theorem impl_dy (y m d : Int) : ∀ (j i : Nat) (x : Int), i + j = (y - 2000).toNat → 2000 ≤ y → y ≤ 2200 → 0 ≤ x → x ≤ 31 + 366 * (i : Int) → ∀ r, Ev (fun k => impl_DayOf.l1 k (x + (yd (y - 2000).toNat - yd i)) 1 y m d) r → Ev (fun k => impl_DayOf.l0 k x (2000 + (i : Int)) y m d) r := by
  intro j
  induction j with
  | zero =>
    intro i x hj hy0 hy1 h0 h1 r hr
    have : i = (y - 2000).toNat := by omega
    subst this
    refine Ev.step (fun k => by rw [impl_DayOf.l0]) (ev_neg (by omega) ?_)
    rw [Int.sub_self, Int.add_zero] at hr
    exact hr
  | succ j ih =>
    intro i x hj hy0 hy1 h0 h1 r hr
    have hb := yl_b (2000 + (i : Int))
    have go := ih (i + 1) (x + yl (2000 + (i : Int))) (by omega) hy0 hy1 (by omega) (by omega) r (by
      rw [show x + yl (2000 + (i : Int)) + (yd (y - 2000).toNat - yd (i + 1)) = x + (yd (y - 2000).toNat - yd i) by simp only [yd]; omega]
      exact hr)
    refine Ev.step (fun k => by rw [impl_DayOf.l0]) (ev_pos (by omega) (ev_bind0 (impl_ly _) ?_))
    rw [show (2000 + ((i + 1 : Nat) : Int)) = 2000 + (i : Int) + 1 by omega] at go
    by_cases c : lyB (2000 + (i : Int)) = true
    · rw [yl, if_pos c] at go
      refine ev_pos c ?_
      rw [wrap_id (x := x + 365) (by omega) (by omega), wrap_id (x := x + 365 + 1) (by omega) (by omega), wrap_id (x := 2000 + (i : Int) + 1) (by omega) (by omega), show x + 365 + 1 = x + 366 by omega]
      exact go
    · rw [yl, if_neg c] at go
      refine ev_neg c ?_
      rw [wrap_id (x := x + 365) (by omega) (by omega), wrap_id (x := 2000 + (i : Int) + 1) (by omega) (by omega)]
      exact go
theorem spec_dmm (y m d : Int) (hm0 : 1 ≤ m) (hm1 : m ≤ 12) : ∀ (j i : Nat) (x : Int), i + j = (m - 1).toNat → 0 ≤ x → x ≤ 80000 + 31 * (i : Int) → Ev (fun k => spec_DayOf.l1 k x ((i : Int) + 1) y m d) (if x + (md y (m - 1).toNat - md y i) ≤ 40000 then x + (md y (m - 1).toNat - md y i) else -1) := by
  intro j
  induction j with
  | zero =>
    intro i x hj h0 h1
    have : i = (m - 1).toNat := by omega
    subst this
    refine Ev.step (fun k => by rw [spec_DayOf.l1]) (ev_neg (by omega) (ev_bind0 (l2Day_eq x) ?_))
    rw [Int.sub_self, Int.add_zero]
    by_cases c : x ≤ 40000
    · rw [if_pos c]; exact ev_pos (decide_eq_true ⟨h0, c⟩) (Ev.now _)
    · rw [if_neg c]; exact ev_neg (by rw [decide_eq_true_eq]; exact fun h => c h.2) (Ev.now _)
  | succ j ih =>
    intro i x hj h0 h1
    have hb := ml_b y ((i : Int) + 1)
    have go := ih (i + 1) (x + ml y ((i : Int) + 1)) (by omega) (by omega) (by omega)
    rw [show x + ml y ((i : Int) + 1) + (md y (m - 1).toNat - md y (i + 1)) = x + (md y (m - 1).toNat - md y i) by simp only [md]; omega] at go
    refine Ev.step (fun k => by rw [spec_DayOf.l1]) (ev_pos (by omega) (ev_bind0 (spec_ml _ _) ?_))
    rw [wrap_id (x := x + _) (by omega) (by omega), wrap_id (x := (i : Int) + 1 + 1) (by omega) (by omega)]
    rw [show (((i + 1 : Nat) : Int) + 1) = (i : Int) + 1 + 1 by omega] at go
    exact go
theorem impl_dmm (y m d : Int) (hm0 : 1 ≤ m) (hm1 : m ≤ 12) : ∀ (j i : Nat) (x : Int), i + j = (m - 1).toNat → 0 ≤ x → x ≤ 80000 + 31 * (i : Int) → Ev (fun k => impl_DayOf.l1 k x ((i : Int) + 1) y m d) (if x + (md y (m - 1).toNat - md y i) ≤ 40000 then x + (md y (m - 1).toNat - md y i) else -1) := by
  intro j
  induction j with
  | zero =>
    intro i x hj h0 h1
    have : i = (m - 1).toNat := by omega
    subst this
    refine Ev.step (fun k => by rw [impl_DayOf.l1]) (ev_neg (by omega) (ev_bind0 (isDay_eq x) ?_))
    rw [Int.sub_self, Int.add_zero]
    by_cases c : x ≤ 40000
    · rw [if_pos c]; exact ev_pos (decide_eq_true ⟨h0, c⟩) (Ev.now _)
    · rw [if_neg c]; exact ev_neg (by rw [decide_eq_true_eq]; exact fun h => c h.2) (Ev.now _)
  | succ j ih =>
    intro i x hj h0 h1
    have hb := ml_b y ((i : Int) + 1)
    have go := ih (i + 1) (x + ml y ((i : Int) + 1)) (by omega) (by omega) (by omega)
    rw [show x + ml y ((i : Int) + 1) + (md y (m - 1).toNat - md y (i + 1)) = x + (md y (m - 1).toNat - md y i) by simp only [md]; omega] at go
    refine Ev.step (fun k => by rw [impl_DayOf.l1]) (ev_pos (by omega) (ev_bind0 (impl_ml _ _ (by omega) (by omega)) ?_))
    rw [wrap_id (x := x + _) (by omega) (by omega), wrap_id (x := (i : Int) + 1 + 1) (by omega) (by omega)]
    rw [show (((i + 1 : Nat) : Int) + 1) = (i : Int) + 1 + 1 by omega] at go
    exact go
theorem spec_dayOf_ev (y m d : Int) : Ev (fun k => spec_DayOf.f k y m d) (dayOf y m d) := by
  unfold spec_DayOf.f dayOf
  refine ev_bind0 (in_eq _ _ _) ?_
  by_cases c1 : 2000 ≤ y ∧ y ≤ 2200
  · refine ev_pos (decide_eq_true c1) (ev_bind0 (in_eq _ _ _) ?_)
    by_cases c2 : 1 ≤ m ∧ m ≤ 12
    · refine ev_pos (decide_eq_true c2) (ev_bind0 (spec_ml _ _) (ev_bind0 (in_eq _ _ _) (Ev.step (fun k => by rw [spec_DayOf.j0]) ?_)))
      have hb := ml_b y m
      by_cases c3 : 1 ≤ d ∧ d ≤ ml y m
      · rw [if_pos ⟨c1, c2, c3⟩]
        refine ev_neg (by rw [decide_eq_true c3]; decide) ?_
        rw [wrap_id (by omega) (by omega)]
        have hyb := yd_b (y - 2000).toNat
        have h2 := spec_dmm y m d c2.1 c2.2 (m - 1).toNat 0 (d - 1 + (yd (y - 2000).toNat - yd 0)) (by omega) (by simp only [yd]; omega) (by simp only [yd]; omega)
        have h1 := spec_dy y m d (y - 2000).toNat 0 (d - 1) (by omega) c1.1 c1.2 (by omega) (by omega) _ h2
        simp only [yd, md, Int.sub_zero] at h1
        rw [show d - 1 + yd (y - 2000).toNat + md y (m - 1).toNat = yd (y - 2000).toNat + md y (m - 1).toNat + (d - 1) by omega] at h1
        exact h1
      · rw [if_neg (fun h => c3 h.2.2)]
        exact ev_pos (by rw [decide_eq_false c3]; rfl) (Ev.now _)
    · rw [if_neg (fun h => c2 h.2.1)]
      exact ev_neg (by rw [decide_eq_true_eq]; exact c2) (Ev.step (fun k => by rw [spec_DayOf.j0]) (ev_pos rfl (Ev.now _)))
  · rw [if_neg (fun h => c1 h.1)]
    exact ev_neg (by rw [decide_eq_true_eq]; exact c1) (Ev.step (fun k => by rw [spec_DayOf.j0]) (ev_pos rfl (Ev.now _)))
theorem impl_dayOf_ev (y m d : Int) : Ev (fun k => impl_DayOf.f k y m d) (dayOf y m d) := by
  unfold impl_DayOf.f dayOf
  refine ev_bind0 (between_eq _ _ _) ?_
  by_cases c1 : 2000 ≤ y ∧ y ≤ 2200
  · refine ev_pos (decide_eq_true c1) (ev_bind0 (between_eq _ _ _) ?_)
    by_cases c2 : 1 ≤ m ∧ m ≤ 12
    · refine ev_pos (decide_eq_true c2) (ev_bind0 (impl_ml _ _ c2.1 c2.2) (ev_bind0 (between_eq _ _ _) (Ev.step (fun k => by rw [impl_DayOf.j0]) ?_)))
      have hb := ml_b y m
      by_cases c3 : 1 ≤ d ∧ d ≤ ml y m
      · rw [if_pos ⟨c1, c2, c3⟩]
        refine ev_neg (by rw [decide_eq_true c3]; decide) ?_
        rw [wrap_id (by omega) (by omega)]
        have hyb := yd_b (y - 2000).toNat
        have h2 := impl_dmm y m d c2.1 c2.2 (m - 1).toNat 0 (d - 1 + (yd (y - 2000).toNat - yd 0)) (by omega) (by simp only [yd]; omega) (by simp only [yd]; omega)
        have h1 := impl_dy y m d (y - 2000).toNat 0 (d - 1) (by omega) c1.1 c1.2 (by omega) (by omega) _ h2
        simp only [yd, md, Int.sub_zero] at h1
        rw [show d - 1 + yd (y - 2000).toNat + md y (m - 1).toNat = yd (y - 2000).toNat + md y (m - 1).toNat + (d - 1) by omega] at h1
        exact h1
      · rw [if_neg (fun h => c3 h.2.2)]
        exact ev_pos (by rw [decide_eq_false c3]; rfl) (Ev.now _)
    · rw [if_neg (fun h => c2 h.2.1)]
      exact ev_neg (by rw [decide_eq_true_eq]; exact c2) (Ev.step (fun k => by rw [impl_DayOf.j0]) (ev_pos rfl (Ev.now _)))
  · rw [if_neg (fun h => c1 h.1)]
    exact ev_neg (by rw [decide_eq_true_eq]; exact c1) (Ev.step (fun k => by rw [impl_DayOf.j0]) (ev_pos rfl (Ev.now _)))
theorem DD_dayOf {y m d : Int} (h : 0 ≤ dayOf y m d) : (2000 ≤ y ∧ y ≤ 2200) ∧ (1 ≤ m ∧ m ≤ 12) ∧ (1 ≤ d ∧ d ≤ ml y m) ∧ dayOf y m d ≤ 40000 ∧ DD (y - 2000).toNat (m - 1).toNat (d - 1) (dayOf y m d) := by
  unfold dayOf at h ⊢
  by_cases c : (2000 ≤ y ∧ y ≤ 2200) ∧ (1 ≤ m ∧ m ≤ 12) ∧ 1 ≤ d ∧ d ≤ ml y m
  · rw [if_pos c] at h ⊢
    by_cases c2 : yd (y - 2000).toNat + md y (m - 1).toNat + (d - 1) ≤ 40000
    · rw [if_pos c2] at h ⊢
      refine ⟨c.1, c.2.1, c.2.2, c2, by omega, by omega, ?_, ?_⟩
      · rw [show 2000 + ((y - 2000).toNat : Int) = y by omega, show ((m - 1).toNat : Int) + 1 = m by omega]; omega
      · rw [show 2000 + ((y - 2000).toNat : Int) = y by omega]
    · rw [if_neg c2] at h; omega
  · rw [if_neg c] at h; omega
/-- The last day of a day's month, by both. -/
theorem end_ev (n : Int) : ∃ e, Ev (fun k => spec_MonthEnd.f k n) e ∧ Ev (fun k => impl_MonthEnd.f k n) e ∧ ((¬ (0 ≤ n ∧ n ≤ 40000) ∧ e = -1) ∨ ∃ (Y M : Nat) (D : Int), (0 ≤ n ∧ n ≤ 40000) ∧ DD Y M D n ∧ e = dayOf (2000 + (Y : Int)) ((M : Int) + 1) (ml (2000 + (Y : Int)) ((M : Int) + 1))) := by
  by_cases c : 0 ≤ n ∧ n ≤ 40000
  · obtain ⟨Y, M, D, hd, h1, h2⟩ := date_ev n c.1 c.2
    refine ⟨_, ?_, ?_, .inr ⟨Y, M, D, c, hd, rfl⟩⟩
    · unfold spec_MonthEnd.f
      exact ev_bind0 (l2Day_eq n) (ev_pos (decide_eq_true c) (Ev.bind h1 (ev_bind0 (spec_ml _ _) (Ev.bind (spec_dayOf_ev _ _ _) (Ev.now _)))))
    · unfold impl_MonthEnd.f
      refine Ev.bind h2 (ev_neg ?_ (ev_bind0 (impl_ml (2000 + (Y : Int)) ((M : Int) + 1) (by omega) (by have := hd.1; omega)) (Ev.bind (impl_dayOf_ev _ _ _) (Ev.now _))))
      simp only [Bool.and_eq_true, beq_iff_eq]
      omega
  · obtain ⟨h1, h2⟩ := date_no n c
    refine ⟨-1, ?_, ?_, .inl ⟨c, rfl⟩⟩
    · unfold spec_MonthEnd.f
      exact ev_bind0 (l2Day_eq n) (ev_neg (by rw [decide_eq_true_eq]; exact c) (Ev.now _))
    · unfold impl_MonthEnd.f
      exact Ev.bind h2 (ev_pos (by decide) (Ev.now _))
/-! ### Months on -/
/-- A day n months on, by both; -1 where there is none. -/
theorem add_ev (day n : Int) : ∃ e, Ev (fun k => impl_AddMonths.f k day n) e ∧ Ev (fun k => spec_AddMonths.f k day n) e ∧ ((e = -1 ∧ ¬ ((0 ≤ day ∧ day ≤ 40000) ∧ (-1200 ≤ n ∧ n ≤ 1200))) ∨ ∃ (Y M : Nat) (D : Int), ((0 ≤ day ∧ day ≤ 40000) ∧ (-1200 ≤ n ∧ n ≤ 1200)) ∧ DD Y M D day ∧ Y ≤ 109 ∧ e = dayOf ((24000 + 12 * (Y : Int) + (M : Int) + n) / 12) ((24000 + 12 * (Y : Int) + (M : Int) + n) % 12 + 1) (if D + 1 > ml ((24000 + 12 * (Y : Int) + (M : Int) + n) / 12) ((24000 + 12 * (Y : Int) + (M : Int) + n) % 12 + 1) then ml ((24000 + 12 * (Y : Int) + (M : Int) + n) / 12) ((24000 + 12 * (Y : Int) + (M : Int) + n) % 12 + 1) else D + 1)) := by
  by_cases c : 0 ≤ day ∧ day ≤ 40000
  · obtain ⟨Y, M, D, hd, h1, h2⟩ := date_ev day c.1 c.2
    have hY := hd.year c.2
    have hM := hd.1
    have hne : ¬ (((2000 + (Y : Int)) == 0 && ((M : Int) + 1 == 0 && (D + 1 == 0))) = true) := by
      simp only [Bool.and_eq_true, beq_iff_eq]
      omega
    by_cases c2 : -1200 ≤ n ∧ n ≤ 1200
    · have ek : wrap64 ((wrap64 ((wrap64 ((wrap64 ((2000 + (Y : Int)) * 12)) + ((M : Int) + 1))) - 1)) + n) = 24000 + 12 * (Y : Int) + (M : Int) + n := by
        rw [wrap_id (x := (2000 + (Y : Int)) * 12) (by omega) (by omega), wrap_id (x := (2000 + (Y : Int)) * 12 + ((M : Int) + 1)) (by omega) (by omega), wrap_id (x := (2000 + (Y : Int)) * 12 + ((M : Int) + 1) - 1) (by omega) (by omega), wrap_id (by omega) (by omega)]
        omega
      generalize hK : 24000 + 12 * (Y : Int) + (M : Int) + n = K at ek
      have hK0 : 22800 ≤ K := by omega
      have hK1 : K ≤ 26600 := by omega
      have e12 : wrap64 (Int.tdiv K 12) = K / 12 := by rw [Int.tdiv_eq_ediv_of_nonneg (by omega), wrap_id (by omega) (by omega)]
      have em : wrap64 (Int.tmod K 12 + 1) = K % 12 + 1 := by rw [Int.tmod_eq_emod_of_nonneg (by omega), wrap_id (by omega) (by omega)]
      have hm0 : 1 ≤ K % 12 + 1 := by omega
      have hm1 : K % 12 + 1 ≤ 12 := by omega
      refine ⟨_, ?_, ?_, .inr ⟨Y, M, D, ⟨c, c2⟩, hd, hY, rfl⟩⟩
      · unfold impl_AddMonths.f
        refine Ev.bind h2 (ev_neg hne (ev_bind0 (between_eq _ _ _) (Ev.step (fun k => by rw [impl_AddMonths.j0]) (ev_neg (by rw [decide_eq_true c2]; decide) ?_))))
        simp only [ek, e12, em, hK]
        refine ev_bind0 (impl_ml _ _ hm0 hm1) ?_
        by_cases c3 : D + 1 > ml (K / 12) (K % 12 + 1)
        · rw [if_pos c3]
          exact ev_pos c3 (Ev.bind (impl_dayOf_ev _ _ _) (Ev.now _))
        · rw [if_neg c3]
          exact ev_neg c3 (Ev.bind (impl_dayOf_ev _ _ _) (Ev.now _))
      · unfold spec_AddMonths.f
        refine ev_bind0 (l2Day_eq _) (ev_pos (decide_eq_true c) (ev_bind0 (in_eq _ _ _) (Ev.step (fun k => by rw [spec_AddMonths.j0]) (ev_neg (by rw [decide_eq_true c2]; decide) (Ev.bind h1 ?_)))))
        simp only [ek, e12, em, hK]
        refine ev_bind0 (in_eq _ _ _) ?_
        by_cases cy : 2000 ≤ K / 12 ∧ K / 12 ≤ 2200
        · refine ev_pos (decide_eq_true cy) (ev_bind0 (spec_ml _ _) ?_)
          by_cases c3 : D + 1 > ml (K / 12) (K % 12 + 1)
          · rw [if_pos c3]
            exact ev_pos c3 (ev_bind0 (spec_ml _ _) (Ev.bind (spec_dayOf_ev _ _ _) (Ev.now _)))
          · rw [if_neg c3]
            exact ev_neg c3 (Ev.bind (spec_dayOf_ev _ _ _) (Ev.now _))
        · rw [show ∀ d, dayOf (K / 12) (K % 12 + 1) d = -1 from fun d => if_neg (fun h => cy h.1)]
          exact ev_neg (by rw [decide_eq_true_eq]; exact cy) (Ev.now _)
    · refine ⟨-1, ?_, ?_, .inl ⟨rfl, fun h => c2 h.2⟩⟩
      · unfold impl_AddMonths.f
        exact Ev.bind h2 (ev_neg hne (ev_bind0 (between_eq _ _ _) (Ev.step (fun k => by rw [impl_AddMonths.j0]) (ev_pos (by rw [decide_eq_false c2]; rfl) (Ev.now _)))))
      · unfold spec_AddMonths.f
        exact ev_bind0 (l2Day_eq _) (ev_pos (decide_eq_true c) (ev_bind0 (in_eq _ _ _) (Ev.step (fun k => by rw [spec_AddMonths.j0]) (ev_pos (by rw [decide_eq_false c2]; rfl) (Ev.now _)))))
  · obtain ⟨h1, h2⟩ := date_no day c
    refine ⟨-1, ?_, ?_, .inl ⟨rfl, fun h => c h.1⟩⟩
    · unfold impl_AddMonths.f
      exact Ev.bind h2 (ev_pos (by decide) (Ev.step (fun k => by rw [impl_AddMonths.j0]) (ev_pos rfl (Ev.now _))))
    · unfold spec_AddMonths.f
      exact ev_bind0 (l2Day_eq _) (ev_neg (by rw [decide_eq_true_eq]; exact c) (Ev.step (fun k => by rw [spec_AddMonths.j0]) (ev_pos rfl (Ev.now _))))
/-! ### What is drawn -/
theorem drawDay_ok (b : List Int) (i h : Int) (hc : Cu b i) : ∃ s i' h', spec_l2DrawDay.f b i h = some (s, i', h') ∧ Cu b i' ∧ 0 ≤ s ∧ s ≤ 40000 := by
  unfold spec_l2DrawDay.f
  obtain ⟨x, i1, h1, e1, c1, _⟩ := below_ok b i h 10 hc
  rw [e1, Option.bind_some]
  by_cases ca : x = 0
  · obtain ⟨y, i2, h2, e2, c2, a2, b2, _⟩ := below_ok b i1 h1 40001 c1
    rw [if_pos ca, e2, Option.bind_some]
    exact ⟨_, _, _, rfl, c2, a2, by have := b2 (by decide); omega⟩
  · rw [if_neg ca]
    by_cases cb : x = 1
    · obtain ⟨y, i2, h2, e2, c2, m⟩ := pickInt_ok b i1 h1 ([0, 1, 30, 31, 58, 59, 60, 365, 366, 36524, 40000, 39999] : List Int) (by decide) c1
      rw [if_pos cb, e2, Option.bind_some]
      have hm : ∀ z ∈ ([0, 1, 30, 31, 58, 59, 60, 365, 366, 36524, 40000, 39999] : List Int), 0 ≤ z ∧ z ≤ 40000 := by decide
      exact ⟨_, _, _, rfl, c2, (hm y m).1, (hm y m).2⟩
    · obtain ⟨y, i2, h2, e2, c2, a2, b2, _⟩ := below_ok b i1 h1 1500 c1
      rw [if_neg cb, e2, Option.bind_some]
      exact ⟨_, _, _, rfl, c2, a2, by have := b2 (by decide); omega⟩
theorem badDay_ok (b : List Int) (i h x : Int) (hc : Cu b i) : ∃ s i' h', spec_l2BadDay.f b i h x = some (s, i', h') ∧ Cu b i' := by
  unfold spec_l2BadDay.f
  obtain ⟨s, i1, h1, e1, c1, _⟩ := spoil_ok b i h x ([(-1), 40001, (-9223372036854775808)] : List Int) (by decide) hc
  rw [e1, Option.bind_some]
  exact ⟨_, _, _, rfl, c1⟩
theorem draw_ev (l : List Int) (hl : (l.length : Int) ≤ 140737488351232) : ∃ d n, Ev (fun k => spec_DrawAddMonths.f k l) (d, n) := by
  obtain ⟨h, hn⟩ := new_ok l hl
  obtain ⟨d0, i1, h1, e1, c1, _⟩ := drawDay_ok l 0 h ⟨by decide, by omega, hl⟩
  obtain ⟨d1, i2, h2, e2, c2⟩ := badDay_ok l i1 h1 d0 c1
  obtain ⟨v, i3, h3, e3, c3⟩ := once_ok l i2 h2 3 c2
  obtain ⟨x, i4, h4, e4, c4, _⟩ := below_ok l i3 h3 40 c3
  obtain ⟨n, i5, h5, e5, c5, _⟩ := spoil_ok l i4 h4 (wrap64 (x - 10)) ([1200, (-1200), 1201, (-1201), 600] : List Int) (by decide) c4
  obtain ⟨e, he, _⟩ := end_ev d1
  unfold spec_DrawAddMonths.f
  by_cases c : v = true
  · exact ⟨e, n, Ev.bind hn (ev_bind0 e1 (ev_bind0 e2 (ev_bind0 e3 (ev_pos c (Ev.bind he (ev_bind0 e4 (ev_bind0 e5 (Ev.now _))))))))⟩
  · exact ⟨d1, n, Ev.bind hn (ev_bind0 e1 (ev_bind0 e2 (ev_bind0 e3 (ev_neg c (ev_bind0 e4 (ev_bind0 e5 (Ev.now _)))))))⟩
theorem known : Ev (fun k => impl_AddMonths.f k 30 1) 59 := by
  obtain ⟨e, h1, _, h⟩ := add_ev 30 1
  rcases h with ⟨_, h⟩ | ⟨Y, M, D, _, hd, _, he⟩
  · exact absurd ⟨⟨by decide, by decide⟩, by decide, by decide⟩ h
  · have h0 : DD 0 0 30 30 := ⟨by decide, by decide, by decide, by decide⟩
    obtain ⟨rfl, rfl, rfl⟩ := hd.unique h0
    have : e = 59 := he.trans (by decide)
    rw [← this]
    exact h1
theorem FnMonthsOn : laws_FnMonthsOn.Pure := by
  intro l0 hg0 hg1 hg2
  apply Ev.rounds
  unfold laws_FnMonthsOn.f laws_big.f
  refine ev_bind0 rfl ?_
  by_cases cb : (l0.length : Int) > 1048576
  · exact ev_pos (decide_eq_true cb) (Ev.now _)
  refine ev_neg (by rw [decide_eq_true_eq]; exact cb) ?_
  obtain ⟨d, n, hd⟩ := draw_ev l0 (by omega)
  obtain ⟨e, hi, hs, h⟩ := add_ev d n
  refine Ev.bind hd (Ev.bind known (ev_pos rfl (Ev.bind hi ?_)))
  by_cases ce : e < 0
  · refine ev_pos ce (Ev.bind hs ?_)
    rw [decide_eq_true ce]
    exact Ev.now _
  refine ev_neg ce ?_
  rcases h with ⟨h, _⟩ | ⟨Y, M, D, hr, hD, hY, he⟩
  · omega
  have hM := hD.1
  obtain ⟨Y0, M0, D0, hD0, _, hx⟩ := date_ev d hr.1.1 hr.1.2
  obtain ⟨rfl, rfl, rfl⟩ := hD0.unique hD
  generalize hK : 24000 + 12 * (Y0 : Int) + (M0 : Int) + n = K at he
  have hK0 : 22800 ≤ K := by omega
  have hK1 : K ≤ 26600 := by omega
  generalize hd' : (if D0 + 1 > ml (K / 12) (K % 12 + 1) then ml (K / 12) (K % 12 + 1) else D0 + 1) = d' at he
  have hq := DD_dayOf (y := K / 12) (m := K % 12 + 1) (d := d') (by omega)
  rw [← he] at hq
  obtain ⟨hy, hm, hdd, h4, hE⟩ := hq
  obtain ⟨Y1, M1, D1, hD1, _, hz⟩ := date_ev e (by omega) h4
  obtain ⟨e1, e2, e3⟩ := hD1.unique hE
  have f1 : 2000 + (Y1 : Int) = K / 12 := by omega
  have f2 : (M1 : Int) + 1 = K % 12 + 1 := by omega
  have f3 : D1 + 1 = d' := by omega
  rw [f1, f2, f3] at hz
  refine Ev.bind hx (Ev.bind hz ?_)
  have ew : wrap64 ((wrap64 ((wrap64 ((wrap64 (K / 12 * 12)) + (K % 12 + 1))) - (wrap64 ((2000 + (Y0 : Int)) * 12)))) - ((M0 : Int) + 1)) = n := by
    rw [wrap_id (x := K / 12 * 12) (by omega) (by omega), wrap_id (x := K / 12 * 12 + (K % 12 + 1)) (by omega) (by omega), wrap_id (x := (2000 + (Y0 : Int)) * 12) (by omega) (by omega), wrap_id (x := K / 12 * 12 + (K % 12 + 1) - (2000 + (Y0 : Int)) * 12) (by omega) (by omega), wrap_id (by omega) (by omega)]
    omega
  refine ev_pos ew ?_
  by_cases c5 : d' = D0 + 1
  · exact ev_pos c5 (Ev.now _)
  refine ev_neg c5 ?_
  have c6 : D0 + 1 > ml (K / 12) (K % 12 + 1) := by
    by_cases c : D0 + 1 > ml (K / 12) (K % 12 + 1)
    · exact c
    · rw [if_neg c] at hd'; omega
  rw [if_pos c6] at hd'
  refine ev_pos (show d' < D0 + 1 by omega) ?_
  obtain ⟨e', _, hm', hh⟩ := end_ev e
  rcases hh with ⟨hh, _⟩ | ⟨Y2, M2, D2, _, hD2, he'⟩
  · exact absurd ⟨by omega, h4⟩ hh
  obtain ⟨g1, g2, g3⟩ := hD2.unique hE
  have k1 : 2000 + (Y2 : Int) = K / 12 := by omega
  have k2 : (M2 : Int) + 1 = K % 12 + 1 := by omega
  rw [k1, k2, hd', ← he] at he'
  subst he'
  exact Ev.bind hm' (ev_pos rfl (Ev.now _))
end Go.Proofs.YtdnenglafphkbaaDoor.Pure
