/- Levelled: in drawn right items each part stands at least one step lower than what it is part of, and one just so. -/
import Derived.Test.YtkkdmmefnicmaaaZPFnLevelledx
import Derived.Test.YtkkdmmefnicmaaaZHFnLevelled
set_option maxHeartbeats 4000000
set_option linter.unusedVariables false
set_option linter.unusedSimpArgs false
namespace Go.Proofs.Ytkkdmmefnicmaaa.Pure
open Go.RowKit Go.Proofs.Ytkkdmmefnicmaaa.PFnLevelled Go.Proofs.YtkkdmmefnicmaaaW.PrintWords Go.Proofs.YtkkdmmefnicmaaaW.PrintLast Go.Proofs.Ytkkdmmefnicmaaa.XEv
/-! ### A number's digits -/
/-- One digit's text. -/
def digB (d : Nat) : ByteArray := (⟨#[48, 49, 50, 51, 52, 53, 54, 55, 56, 57]⟩ : ByteArray).extract d (d + 1)
theorem digB_size (d : Nat) (h : d < 10) : (digB d).size = 1 := by
  unfold digB
  rw [ByteArray.size_extract]
  have : (⟨#[48, 49, 50, 51, 52, 53, 54, 55, 56, 57]⟩ : ByteArray).size = 10 := rfl
  omega
/-- A number's text. -/
def dec (n : Nat) : ByteArray := if h : n < 10 then digB n else dec (n / 10) ++ digB (n % 10)
termination_by n
decreasing_by omega
theorem dec_lt {n : Nat} (h : n < 10) : dec n = digB n := by rw [dec, dif_pos h]
theorem dec_ge {n : Nat} (h : ¬ n < 10) : dec n = dec (n / 10) ++ digB (n % 10) := by rw [dec, dif_neg h]
theorem dec_size (n : Nat) : (dec n).size ≤ n + 1 := by
  induction n using Nat.strongRecOn with
  | ind n ih =>
    by_cases c : n < 10
    · rw [dec_lt c, digB_size n c]; omega
    · rw [dec_ge c, ByteArray.size_append, digB_size (n % 10) (by omega)]
      have := ih (n / 10) (by omega)
      omega
theorem tmod_nat (n : Nat) : Int.tmod (n : Int) 10 = ((n % 10 : Nat) : Int) := by rw [Int.tmod_eq_emod_of_nonneg (by omega)]; omega
theorem tdiv_nat (n : Nat) : Int.tdiv (n : Int) 10 = ((n / 10 : Nat) : Int) := by rw [Int.tdiv_eq_ediv_of_nonneg (by omega)]; omega
theorem l1Text_ev (n : Nat) (hn : n < 1000000000) : Ev (fun k => spec_l1Text.f k (n : Int)) (dec n) := by
  induction n using Nat.strongRecOn with
  | ind n ih =>
    by_cases c : n < 10
    · rw [dec_lt c]
      refine Ev.step (fun k => by rw [spec_l1Text.f]) ?_
      have hw : wrap64 ((n : Int) + 1) = ((n + 1 : Nat) : Int) := by rw [wrap_id (by omega) (by omega)]; omega
      simp only [hw]
      exact ev_neg (by omega) (ev_pos (by omega) (ev_pos (by omega) (ev_pos (by omega) (ev_pos (by omega) (Ev.now _)))))
    · rw [dec_ge c]
      refine Ev.step (fun k => by rw [spec_l1Text.f]) ?_
      have hw : wrap64 ((n / 10 : Nat) : Int) = ((n / 10 : Nat) : Int) := wrap_id (by omega) (by omega)
      have hw2 : wrap64 (((n % 10 : Nat) : Int) + 1) = ((n % 10 + 1 : Nat) : Int) := by rw [wrap_id (by omega) (by omega)]; omega
      simp only [tdiv_nat, tmod_nat, hw, hw2]
      have h1 := ih (n / 10) (by omega) (by omega)
      have hz := digB_size (n % 10) (by omega)
      have hs := dec_size (n / 10)
      have hz' : ((⟨#[48, 49, 50, 51, 52, 53, 54, 55, 56, 57]⟩ : ByteArray).extract (((n % 10 : Nat) : Int)).toNat (((n % 10 + 1 : Nat) : Int)).toNat).size = 1 := hz
      exact ev_neg (by omega) (ev_neg (by omega) (Ev.bind h1 (ev_pos (by omega) (ev_pos (by omega) (ev_pos (by omega) (ev_pos (by omega) (Ev.now _)))))))
/-! ### Draws -/
theorem and255 (n : Int) : Go.bits .and .i64 n 255 = n % 256 := by
  have h255 : (BitVec.ofInt 64 255).toNat = 2 ^ 8 - 1 := by decide
  have key : (BitVec.ofInt 64 n &&& BitVec.ofInt 64 255).toNat = (n % ((2 ^ 64 : Nat) : Int)).toNat % 2 ^ 8 := by
    rw [BitVec.toNat_and, BitVec.toNat_ofInt, h255, Nat.and_two_pow_sub_one_eq_mod]
  show IntKind.i64.wrap ((BitVec.ofInt 64 n &&& BitVec.ofInt 64 255).toNat : Nat) = n % 256
  rw [key, IntKind.wrap_i64]
  omega
/-- A draw's state: where it stands in its bytes. -/
def Cu (b : List Int) (i : Int) : Prop := 0 ≤ i ∧ i ≤ (b.length : Int) ∧ (b.length : Int) ≤ 140737488351232
theorem byte_ok (b : List Int) (i h : Int) (hc : Cu b i) : ∃ x i' h', spec_l1Byte.f b i h = some (x, i', h') ∧ 0 ≤ x ∧ x ≤ 255 ∧ Cu b i' := by
  obtain ⟨h0, h1, h2⟩ := hc
  unfold spec_l1Byte.f
  simp only [and255]
  by_cases c : i < (b.length : Int)
  · rw [if_pos c, if_pos h0]
    refine ⟨_, _, _, rfl, Int.emod_nonneg _ (by decide), ?_, ?_⟩
    · have := Int.emod_lt_of_pos (wrap64 (Go.bits .xor .i64 ((wrap64 ((wrap64 (h * 6364136223846793005)) + 1442695040888963407)) / 8589934592) ((wrap64 ((wrap64 (h * 6364136223846793005)) + 1442695040888963407)) / 35184372088832) % 256 + (wrap64 (rd b i)))) (show (0 : Int) < 256 by decide)
      exact Int.le_of_lt_add_one this
    · rw [wrap_id (by omega) (by omega)]
      exact ⟨by omega, by omega, h2⟩
  · rw [if_neg c]
    refine ⟨_, _, _, rfl, Int.emod_nonneg _ (by decide), ?_, h0, h1, h2⟩
    exact Int.le_of_lt_add_one (Int.emod_lt_of_pos _ (show (0 : Int) < 256 by decide))
theorem below_ok (b : List Int) (i h n : Int) (hc : Cu b i) : ∃ x i' h', spec_l1Below.f b i h n = some (x, i', h') ∧ Cu b i' ∧ 0 ≤ x ∧ (0 < n → x < n) ∧ (n ≤ 0 → x = 0) := by
  unfold spec_l1Below.f
  by_cases c0 : n ≤ 0
  · exact ⟨0, i, h, if_pos c0, hc, by decide, fun h => by omega, fun _ => rfl⟩
  rw [if_neg c0]
  obtain ⟨x1, i1, h1, e1, a1, b1, c1⟩ := byte_ok b i h hc
  by_cases c : n ≤ 256
  · rw [if_pos c, e1, Option.bind_some, if_neg (by omega)]
    exact ⟨_, _, _, rfl, c1, Int.tmod_nonneg _ a1, fun _ => Int.tmod_lt_of_pos _ (by omega), fun h => absurd h c0⟩
  · obtain ⟨x2, i2, h2, e2, a2, b2, c2⟩ := byte_ok b i1 h1 c1
    obtain ⟨x3, i3, h3, e3, a3, b3, c3⟩ := byte_ok b i2 h2 c2
    obtain ⟨x4, i4, h4, e4, a4, b4, c4⟩ := byte_ok b i3 h3 c3
    rw [if_neg c, e1, Option.bind_some, e2, Option.bind_some, e3, Option.bind_some, e4, Option.bind_some, if_neg (by omega)]
    refine ⟨_, _, _, rfl, c4, Int.tmod_nonneg _ ?_, fun _ => Int.tmod_lt_of_pos _ (by omega), fun h => absurd h c0⟩
    rw [wrap_id (x := x1 * 16777216) (by omega) (by omega), wrap_id (x := x2 * 65536) (by omega) (by omega), wrap_id (x := x3 * 256) (by omega) (by omega), wrap_id (x := x1 * 16777216 + x2 * 65536) (by omega) (by omega), wrap_id (x := x1 * 16777216 + x2 * 65536 + x3 * 256) (by omega) (by omega), wrap_id (by omega) (by omega)]
    omega
theorem once_ok (b : List Int) (i h n : Int) (hc : Cu b i) : ∃ (v : Bool) (i' h' : Int), spec_l1Once.f b i h n = some (v, i', h') ∧ Cu b i' := by
  obtain ⟨x, i', h', e, c, _⟩ := below_ok b i h n hc
  unfold spec_l1Once.f
  rw [e]
  exact ⟨_, _, _, rfl, c⟩
theorem pickInt_ok (b : List Int) (i h : Int) (l : List Int) (hl : 0 < l.length) (hc : Cu b i) : ∃ s i' h', spec_l1PickInt.f b i h l = some (s, i', h') ∧ Cu b i' ∧ s ∈ l := by
  obtain ⟨x, i', h', e, c, x0, x1, _⟩ := below_ok b i h (l.length : Int) hc
  have := x1 (by omega)
  unfold spec_l1PickInt.f
  rw [e, Option.bind_some, if_pos x0, if_pos this]
  refine ⟨_, _, _, rfl, c, ?_⟩
  have hx : x.toNat < l.length := by omega
  have e2 := rd_at hx
  rw [show ((x.toNat : Nat) : Int) = x by omega] at e2
  show rd l x ∈ l
  rw [e2]
  exact List.getElem_mem hx
theorem new_ok (l : List Int) (hl : (l.length : Int) ≤ 140737488351232) : ∃ h, Ev (fun k => spec_l1New.f k l) (l, 0, h) := by
  have go : ∀ (d i : Nat) (h : Int), i + d = l.length → ∃ h', Ev (fun k => spec_l1New.l0 k l h (i : Int)) (l, 0, h') := by
    intro d
    induction d with
    | zero =>
      intro i h hd
      refine ⟨h, Ev.step (fun k => by rw [spec_l1New.l0]) ?_⟩
      exact ev_neg (by omega) (Ev.now _)
    | succ d ih =>
      intro i h hd
      have hw : wrap64 ((i : Int) + 1) = ((i + 1 : Nat) : Int) := wrap_id (by omega) (by omega)
      by_cases c : (i : Int) < 4000
      · obtain ⟨h', hh⟩ := ih (i + 1) (Go.bits .and .i64 (wrap64 ((wrap64 ((wrap64 (h * 131)) + (wrap64 (rd l (i : Int))))) + 7)) 1073741823) (by omega)
        refine ⟨h', Ev.step (fun k => by rw [spec_l1New.l0]) ?_⟩
        simp only [hw]
        exact ev_pos (by omega) (ev_pos c (ev_pos (by omega) hh))
      · refine ⟨h, Ev.step (fun k => by rw [spec_l1New.l0]) ?_⟩
        exact ev_pos (by omega) (ev_neg c (Ev.now _))
  obtain ⟨h, hh⟩ := go l.length 0 (wrap64 (71933 + (l.length : Int))) (by omega)
  exact ⟨h, by unfold spec_l1New.f; exact hh⟩
/-! ### A text is picked -/
theorem pick_ok (b : List Int) (i h : Int) (l : List ByteArray) (hl : 0 < l.length) (hc : Cu b i) : ∃ s i' h', spec_l1Pick.f b i h l = some (s, i', h') ∧ Cu b i' ∧ s ∈ l := by
  obtain ⟨x, i', h', e, c, x0, x1, _⟩ := below_ok b i h (l.length : Int) hc
  have := x1 (by omega)
  unfold spec_l1Pick.f
  rw [e, Option.bind_some, if_pos x0, if_pos this]
  refine ⟨_, _, _, rfl, c, ?_⟩
  have hx : x.toNat < l.length := by omega
  have e2 := rdOf_at hx ByteArray.empty
  rw [show ((x.toNat : Nat) : Int) = x by omega] at e2
  show rdOf ByteArray.empty l x ∈ l
  rw [e2]
  exact List.getElem_mem hx
theorem size_ok (l : List Int) (a : Int) (ha : 2 ≤ a) (hl : (l.length : Int) ≤ 1048576) : ∃ s, spec_l1Size.f l a = some s ∧ 2 ≤ s ∧ s ≤ a := by
  have ew : wrap64 (2 + (wrap64 ((l.length : Int) / 20))) = 2 + (l.length : Int) / 20 := by
    rw [wrap_id (x := (l.length : Int) / 20) (by omega) (by omega), wrap_id (by omega) (by omega)]
  unfold spec_l1Size.f
  rw [ew]
  clear ew
  by_cases g : 2 + (l.length : Int) / 20 > a
  · rw [if_pos g]
    exact ⟨a, rfl, ha, Int.le_refl _⟩
  · rw [if_neg g]
    exact ⟨_, rfl, by omega, by omega⟩
abbrev PP := S54
abbrev II := S52
def PartIs (i n : Int) (p : PP) : Prop := (i + 1 ≤ p.f0 ∧ p.f0 ≤ n - 1) ∧ (1 ≤ p.f1 ∧ p.f1 ≤ 1000000) ∧ (0 ≤ p.f2 ∧ p.f2 ≤ 100) ∧ (0 ≤ p.f3 ∧ p.f3 ≤ 40000) ∧ (0 ≤ p.f4 ∧ p.f4 ≤ 40000) ∧ p.f3 ≤ p.f4 ∧ (0 ≤ p.f5 ∧ p.f5 ≤ 9)
def AlsoIs (i n : Int) (p : PP) : Prop := PartIs i n p ∧ p.f2 = 0 ∧ p.f5 = 0
/-- What an item's own fields must be. -/
def HeadIs (x : II) : Prop := NameIs x.f0 ∧ (1 ≤ x.f1 ∧ x.f1 ≤ 1000000) ∧ ¬ (x.f3.length : Int) > 30 ∧ ¬ (x.f4.length : Int) > 30 ∧ (x.f2 = true → (x.f3.length : Int) ≠ 0 ∧ ¬ (x.f4.length : Int) > 0)
/-- What an item must be at its place. -/
def ItemIs (l : List II) (i : Nat) (x : II) : Prop := HeadIs x ∧ (∀ (j : Nat) (y : II), j < i → l[j]? = some y → y.f0 ≠ x.f0) ∧ (∀ p ∈ x.f3, PartIs (i : Int) (l.length : Int) p) ∧ ∀ p ∈ x.f4, AlsoIs (i : Int) (l.length : Int) p
theorem spec_part_ev (p : PP) (i n : Int) (hi0 : 0 ≤ i) (hi : i ≤ 1048576) (hn0 : 0 ≤ n) (hn : n ≤ 1048576) : ∃ b, spec_l17Part.f p.f0 p.f1 p.f2 p.f3 p.f4 p.f5 i n = some b ∧ (b = true ↔ PartIs i n p) := by
  unfold spec_l17Part.f PartIs
  have w1 : wrap64 (i + 1) = i + 1 := wrap_id (by omega) (by omega)
  have w2 : wrap64 (n - 1) = n - 1 := wrap_id (by omega) (by omega)
  simp only [w1, w2, spec_l1In_eq, spec_l2Day_eq, Option.bind_some, decide_eq_true_eq]
  clear w1 w2
  repeat' split
  all_goals (refine ⟨_, rfl, ?_⟩; (try simp only [decide_eq_true_eq, Bool.false_eq_true, false_iff]); omega)
theorem impl_part_ev (p : PP) (i n : Int) (also : Bool) (hi0 : 0 ≤ i) (hi : i ≤ 1048576) (hn0 : 0 ≤ n) (hn : n ≤ 1048576) : ∃ b, impl_partOk.f p.f0 p.f1 p.f2 p.f3 p.f4 p.f5 i n also = some b ∧ (b = true ↔ PartIs i n p ∧ (also = true → p.f2 = 0 ∧ p.f5 = 0)) := by
  unfold impl_partOk.f PartIs
  have w1 : wrap64 (i + 1) = i + 1 := wrap_id (by omega) (by omega)
  have w2 : wrap64 (n - 1) = n - 1 := wrap_id (by omega) (by omega)
  simp only [w1, w2, impl_between_eq, impl_isDay_eq, Option.bind_some, decide_eq_true_eq]
  clear w1 w2
  cases also with
  | true =>
    simp only [if_true, true_implies]
    repeat' split
    all_goals (refine ⟨_, rfl, ?_⟩; (try simp only [beq_iff_eq, decide_eq_true_eq, Bool.false_eq_true, false_iff]); omega)
  | false =>
    simp only [Bool.false_eq_true, if_false, false_implies, and_true]
    repeat' split
    all_goals (refine ⟨_, rfl, ?_⟩; (try simp only [decide_eq_true_eq, Bool.false_eq_true, false_iff, true_iff]); omega)
theorem spec_max (a b : Int) : spec_l9Max.f a b = some (if a > b then a else b) := by
  unfold spec_l9Max.f
  split <;> rfl
/-- Both sides reckon the same levels. -/
theorem levels_in (l : List II) (hl : (l.length : Int) ≤ 60) (i : Nat) (hi : i < l.length) (hp : ∀ p ∈ l[i].f3, PartIs (i : Int) (l.length : Int) p) (h30 : (l[i].f3.length : Int) ≤ 30) (R : List Int → Prop)
    (hk : ∀ lv : List Int, lv.length = l.length → (∀ v ∈ lv, 0 ≤ v ∧ v ≤ (i + 1 : Nat)) → ∃ r, R r ∧ Ev (fun k => spec_l17Levels.l0 k l lv ((i + 1 : Nat) : Int)) r ∧ Ev (fun k => impl_levels.l0 k lv l (l.length : Int) ((i + 1 : Nat) : Int)) r) :
    ∀ (d j : Nat) (lv : List Int), j + d = l[i].f3.length → lv.length = l.length → (∀ v ∈ lv, 0 ≤ v ∧ v ≤ (i + 1 : Nat)) → rd lv (i : Int) ≤ (i : Int) →
      ∃ r, R r ∧ Ev (fun k => spec_l17Levels.l1 k l lv (i : Int) (j : Int)) r ∧ Ev (fun k => impl_levels.l1 k lv (i : Int) l (l.length : Int) (i : Int) l[i].f3 (l[i].f3.length : Int) (j : Int)) r := by
  have hrd : rd_T52 l (i : Int) = l[i] := getD_at hi _
  have hA : (i : Int) < (l.length : Int) := Int.ofNat_lt.2 hi
  have hB : 0 ≤ (i : Int) := Int.natCast_nonneg i
  intro d
  induction d with
  | zero =>
    intro j lv hd hlv hb hbi
    have : j = l[i].f3.length := by omega
    obtain ⟨r, h0, h1, h2⟩ := hk lv hlv hb
    have hw : wrap64 ((i : Int) + 1) = ((i + 1 : Nat) : Int) := wrap_succ hi (by omega)
    refine ⟨r, h0, ?_, ?_⟩
    · refine Ev.step (fun k => by rw [spec_l17Levels.l1]) ?_
      simp only [hrd, hw]
      exact ev_pos hB (ev_pos hA (ev_neg (by omega) h1))
    · refine Ev.step (fun k => by rw [impl_levels.l1]) ?_
      simp only [hw]
      exact ev_neg (by omega) h2
  | succ d ih =>
    intro j lv hd hlv hb hbi
    have hj : j < l[i].f3.length := by omega
    have hrj : rd_T54 l[i].f3 (j : Int) = l[i].f3[j] := getD_at hj _
    obtain ⟨⟨p0, p1⟩, _⟩ := hp _ (List.getElem_mem hj)
    generalize l[i].f3[j] = p at hrj p0 p1
    obtain ⟨q, hq⟩ : ∃ q : Nat, p.f0 = (q : Int) := ⟨p.f0.toNat, by omega⟩
    have hql : q < lv.length := by omega
    have hqi : i < q := by omega
    have hil : i < lv.length := by omega
    have hrq : rd lv (q : Int) = lv[q] := rd_at hql
    have hri : rd lv (i : Int) = lv[i] := rd_at hil
    obtain ⟨v0, v1⟩ := hb _ (List.getElem_mem hql)
    obtain ⟨u0, u1⟩ := hb _ (List.getElem_mem hil)
    have hw1 : wrap64 (lv[i] + 1) = lv[i] + 1 := wrap_id (by omega) (by omega)
    have c1 : (j : Int) < (l[i].f3.length : Int) := Int.ofNat_lt.2 hj
    have c2 : 0 ≤ (j : Int) := Int.natCast_nonneg j
    have c3 : 0 ≤ (q : Int) := Int.natCast_nonneg q
    have c4 : (q : Int) < (lv.length : Int) := Int.ofNat_lt.2 hql
    have c5 : (i : Int) < (lv.length : Int) := Int.ofNat_lt.2 hil
    rw [hri] at hbi
    have go : ∀ v : Int, 0 ≤ v → v ≤ (i : Int) + 1 → ∃ r, R r ∧ Ev (fun k => spec_l17Levels.l1 k l (lv.set q v) (i : Int) ((j + 1 : Nat) : Int)) r ∧ Ev (fun k => impl_levels.l1 k (lv.set q v) (i : Int) l (l.length : Int) (i : Int) l[i].f3 (l[i].f3.length : Int) ((j + 1 : Nat) : Int)) r := by
      intro v w0 w1
      refine ih (j + 1) (lv.set q v) (by omega) (by rw [List.length_set]; exact hlv) (fun z hz => ?_) ?_
      · rcases List.mem_or_eq_of_mem_set hz with h | h
        · exact hb z h
        · rw [h]; omega
      · have : i < (lv.set q v).length := by rw [List.length_set]; exact hil
        rw [rd_at this, List.getElem_set_ne (by omega)]
        exact hbi
    have hw : wrap64 ((j : Int) + 1) = ((j + 1 : Nat) : Int) := wrap_succ hj (by omega)
    by_cases c : lv[q] < lv[i] + 1
    · obtain ⟨r, h0, h1, h2⟩ := go (lv[i] + 1) (by omega) (by omega)
      have e : (if lv[q] > lv[i] + 1 then lv[q] else lv[i] + 1) = lv[i] + 1 := if_neg (by omega)
      refine ⟨r, h0, ?_, ?_⟩
      · refine Ev.step (fun k => by rw [spec_l17Levels.l1]) ?_
        simp only [hrd, hrj, hq, hrq, hri, hw1, hw, spec_max, Option.bind_some, e, Int.toNat_natCast]
        exact ev_pos hB (ev_pos hA (ev_pos c1 (ev_pos c2 (ev_pos c3 (ev_pos c4 (ev_pos c5 h1))))))
      · refine Ev.step (fun k => by rw [impl_levels.l1]) ?_
        simp only [hrj, hq, hrq, hri, hw1, hw, Int.toNat_natCast]
        exact ev_pos c1 (ev_pos c2 (ev_pos c1 (ev_pos c3 (ev_pos c4 (ev_pos hB (ev_pos c5 (ev_pos c h2)))))))
    · obtain ⟨r, h0, h1, h2⟩ := go lv[q] (by omega) (by
        by_cases c6 : lv[q] = lv[i] + 1
        · omega
        · omega)
      have hset : lv.set q lv[q] = lv := by
        apply List.ext_getElem?
        intro z
        by_cases cz : q = z
        · subst cz; rw [List.getElem?_set_self hql, List.getElem?_eq_getElem hql]
        · rw [List.getElem?_set_ne cz]
      rw [hset] at h1 h2
      have e : (if lv[q] > lv[i] + 1 then lv[q] else lv[i] + 1) = lv[q] := by split <;> omega
      refine ⟨r, h0, ?_, ?_⟩
      · refine Ev.step (fun k => by rw [spec_l17Levels.l1]) ?_
        simp only [hrd, hrj, hq, hrq, hri, hw1, hw, spec_max, Option.bind_some, e, Int.toNat_natCast, hset]
        exact ev_pos hB (ev_pos hA (ev_pos c1 (ev_pos c2 (ev_pos c3 (ev_pos c4 (ev_pos c5 h1))))))
      · refine Ev.step (fun k => by rw [impl_levels.l1]) ?_
        simp only [hrj, hq, hrq, hri, hw1, hw]
        exact ev_pos c1 (ev_pos c2 (ev_pos c1 (ev_pos c3 (ev_pos c4 (ev_pos hB (ev_pos c5 (ev_neg c h2)))))))
/-- The levels as both sides reckon them. -/
theorem levels_out (l : List II) (hl : (l.length : Int) ≤ 60) (hp : ∀ (i : Nat) (hi : i < l.length), (∀ p ∈ l[i].f3, PartIs (i : Int) (l.length : Int) p) ∧ (l[i].f3.length : Int) ≤ 30) :
    ∀ (d i : Nat) (lv : List Int), i + d = l.length → lv.length = l.length → (∀ v ∈ lv, 0 ≤ v ∧ v ≤ (i : Int)) →
      ∃ r : List Int, r.length = l.length ∧ Ev (fun k => spec_l17Levels.l0 k l lv (i : Int)) r ∧ Ev (fun k => impl_levels.l0 k lv l (l.length : Int) (i : Int)) r := by
  intro d
  induction d with
  | zero =>
    intro i lv hd hlv _
    refine ⟨lv, hlv, ?_, ?_⟩
    · refine Ev.step (fun k => by rw [spec_l17Levels.l0]) ?_
      exact ev_neg (by omega) (Ev.now _)
    · refine Ev.step (fun k => by rw [impl_levels.l0]) ?_
      exact ev_neg (by omega) (Ev.now _)
  | succ d ih =>
    intro i lv hd hlv hb
    have hi : i < l.length := by omega
    have hil : i < lv.length := by omega
    have hrd : rd_T52 l (i : Int) = l[i] := getD_at hi _
    have hA : (i : Int) < (l.length : Int) := Int.ofNat_lt.2 hi
    have hB : 0 ≤ (i : Int) := Int.natCast_nonneg i
    obtain ⟨r, h0, h1, h2⟩ := levels_in l hl i hi (hp i hi).1 (hp i hi).2 (fun r => r.length = l.length) (fun lv' a b => ih (i + 1) lv' (by omega) a b) l[i].f3.length 0 lv (by omega) hlv
      (fun v hv => ⟨(hb v hv).1, by have := (hb v hv).2; omega⟩) (by rw [rd_at hil]; exact (hb _ (List.getElem_mem hil)).2)
    refine ⟨r, h0, ?_, ?_⟩
    · refine Ev.step (fun k => by rw [spec_l17Levels.l0]) ?_
      exact ev_pos hA h1
    · refine Ev.step (fun k => by rw [impl_levels.l0]) ?_
      simp only [hrd]
      exact ev_pos hA (ev_pos hB (ev_pos hA h2))
theorem levels_ev (l : List II) (hl : (l.length : Int) ≤ 60) (hp : ∀ (i : Nat) (hi : i < l.length), (∀ p ∈ l[i].f3, PartIs (i : Int) (l.length : Int) p) ∧ (l[i].f3.length : Int) ≤ 30) :
    ∃ r : List Int, r.length = l.length ∧ Ev (fun k => spec_l17Levels.f k l) r ∧ Ev (fun k => impl_levels.f k l) r := by
  obtain ⟨r, h0, h1, h2⟩ := levels_out l hl hp l.length 0 (List.replicate l.length 0) (by omega) (by rw [List.length_replicate]) (by
    intro v hv
    have := List.eq_of_mem_replicate hv
    omega)
  have h1' : Ev (fun k => spec_l17Levels.l0 k l (List.replicate ((l.length : Int) : Int).toNat 0) 0) r := by simpa using h1
  have h2' : Ev (fun k => impl_levels.l0 k (List.replicate ((l.length : Int) : Int).toNat 0) l (l.length : Int) 0) r := by simpa using h2
  unfold spec_l17Levels.f impl_levels.f
  exact ⟨r, h0, ev_pos (by omega) (ev_pos (by omega) h1'), ev_pos (by omega) (ev_pos (by omega) h2')⟩
/-- What both ask of the levels. -/
theorem depth_ev (r : List Int) (hr : (r.length : Int) ≤ 60) : ∃ b, Ev (fun k => spec_ItemsOk.l4 k (r.length : Int) r 0) b ∧ Ev (fun k => impl_ItemsOk.l3 k r (r.length : Int) 0) b := by
  obtain ⟨b1, h1, p1⟩ := each_mem r (fun k i => spec_ItemsOk.l4 k (r.length : Int) r i) (fun v => ¬ v > 20) True (by
    intro i hi
    have hri : rd r (i : Int) = r[i] := rd_at hi
    by_cases c : r[i] > 20
    · refine .inr ⟨fun h => h c, Ev.step (fun k => by rw [spec_ItemsOk.l4]) ?_⟩
      simp only [hri]
      exact ev_pos (by omega) (ev_pos (by omega) (ev_pos (by omega) (ev_pos c (Ev.now _))))
    · refine .inl ⟨c, fun v hv => Ev.step (fun k => by rw [spec_ItemsOk.l4]) ?_⟩
      simp only [hri]
      refine ev_pos (by omega) (ev_pos (by omega) (ev_pos (by omega) (ev_neg c ?_)))
      rw [wrap_succ hi (by omega)]
      exact hv) ⟨true, Ev.step (fun k => by rw [spec_ItemsOk.l4]) (ev_neg (by omega) (Ev.now _)), by simp⟩
  obtain ⟨b2, h2, p2⟩ := each_mem r (fun k i => impl_ItemsOk.l3 k r (r.length : Int) i) (fun v => ¬ v > 20) True (by
    intro i hi
    have hri : rd r (i : Int) = r[i] := rd_at hi
    by_cases c : r[i] > 20
    · refine .inr ⟨fun h => h c, Ev.step (fun k => by rw [impl_ItemsOk.l3]) ?_⟩
      simp only [hri]
      exact ev_pos (by omega) (ev_pos (by omega) (ev_pos (by omega) (ev_pos c (Ev.now _))))
    · refine .inl ⟨c, fun v hv => Ev.step (fun k => by rw [impl_ItemsOk.l3]) ?_⟩
      simp only [hri]
      refine ev_pos (by omega) (ev_pos (by omega) (ev_pos (by omega) (ev_neg c ?_)))
      rw [wrap_succ hi (by omega)]
      exact hv) ⟨true, Ev.step (fun k => by rw [impl_ItemsOk.l3]) (ev_neg (by omega) (Ev.now _)), by simp⟩
  have : b1 = b2 := bool_of_iff p1 p2
  subst this
  exact ⟨b1, h1, h2⟩
/-- The names ahead of a place, as the program's map holds them. -/
def seenAt (l : List II) : Nat → List (ByteArray × Bool)
  | 0 => []
  | i + 1 => mset (seenAt l i) (rd_T52 l (i : Int)).f0 true
theorem seenAt_iff (l : List II) (s : ByteArray) : ∀ i : Nat, i ≤ l.length → ((mget (seenAt l i) s).getD false = true ↔ ∃ (j : Nat) (y : II), j < i ∧ l[j]? = some y ∧ y.f0 = s) := by
  intro i
  induction i with
  | zero =>
    intro _
    refine ⟨fun h => by simp [seenAt, mget] at h, fun ⟨j, y, h, _⟩ => absurd h (by omega)⟩
  | succ i ih =>
    intro hi
    have hlt : i < l.length := by omega
    have hrd : rd_T52 l (i : Int) = l[i] := getD_at hlt _
    have hg : l[i]? = some l[i] := List.getElem?_eq_getElem hlt
    rw [seenAt, hrd, mget_set]
    by_cases e : l[i].f0 = s
    · rw [if_pos e]
      exact ⟨fun _ => ⟨i, l[i], by omega, hg, e⟩, fun _ => rfl⟩
    · rw [if_neg e, ih (by omega)]
      refine ⟨fun ⟨j, y, h1, h2, h3⟩ => ⟨j, y, by omega, h2, h3⟩, fun ⟨j, y, h1, h2, h3⟩ => ⟨j, y, ?_, h2, h3⟩⟩
      have : j ≠ i := by
        rintro rfl
        rw [hg] at h2
        injection h2 with h2
        exact e (by rw [h2, h3])
      omega
/-- The reference's loop over the items. -/
theorem spec_items (l : List II) (hl : (l.length : Int) ≤ 60) (hB : ∀ x ∈ l, B52 1048576 x) :
    ((∀ (i : Nat) (hi : i < l.length), ItemIs l i l[i]) ∧ ∀ r, Ev (fun k => (spec_l17Levels.f k l).bind fun t => spec_ItemsOk.l4 k (l.length : Int) t 0) r → Ev (fun k => spec_ItemsOk.l0 k l (l.length : Int) 0) r) ∨
    (¬ (∀ (i : Nat) (hi : i < l.length), ItemIs l i l[i]) ∧ Ev (fun k => spec_ItemsOk.l0 k l (l.length : Int) 0) false) := by
  refine each_go l (fun k i => spec_ItemsOk.l0 k l (l.length : Int) i) (fun i x => ItemIs l i x) _ false ?_ (fun r h => ?_)
  case refine_2 =>
    refine Ev.step (fun k => by rw [spec_ItemsOk.l0]) ?_
    exact ev_neg (by omega) h
  intro i hi
  have hrd : rd_T52 l (i : Int) = l[i] := getD_at hi _
  have hA : (i : Int) < (l.length : Int) := Int.ofNat_lt.2 hi
  have hC : 0 ≤ (i : Int) := Int.natCast_nonneg i
  have hb := hB _ (List.getElem_mem hi)
  have hb3 := hb.2.1
  have hb4 := hb.2.2
  have hw : wrap64 ((i : Int) + 1) = ((i + 1 : Nat) : Int) := wrap_succ hi (by omega)
  obtain ⟨bn, en, pn⟩ := spec_NameOk_ev l[i].f0 hb.1
  have F : Ev (fun k => spec_ItemsOk.j1 k l (l.length : Int) (i : Int) true l[i].f0 l[i].f1 l[i].f2 l[i].f3 l[i].f4) false := by
    refine Ev.step (fun k => by rw [spec_ItemsOk.j1]) ?_
    exact ev_pos rfl (Ev.now _)
  have also := each_mem_go l[i].f4 (fun k j => spec_ItemsOk.l3 k l (l.length : Int) (i : Int) j l[i].f0 l[i].f1 l[i].f2 l[i].f3 l[i].f4) (fun p => AlsoIs (i : Int) (l.length : Int) p) (fun k => spec_ItemsOk.l0 k l (l.length : Int) ((i + 1 : Nat) : Int)) false (by
    intro j hj
    have hrj : rd_T54 l[i].f4 (j : Int) = l[i].f4[j] := getD_at hj _
    obtain ⟨b, e, p⟩ := spec_part_ev l[i].f4[j] (i : Int) (l.length : Int) hC (by omega) (by omega) (by omega)
    have c1 : (j : Int) < (l[i].f4.length : Int) := Int.ofNat_lt.2 hj
    have c2 : 0 ≤ (j : Int) := Int.natCast_nonneg j
    have hwj : wrap64 ((j : Int) + 1) = ((j + 1 : Nat) : Int) := wrap_succ hj (by omega)
    by_cases c : b = true
    · by_cases d : l[i].f4[j].f2 = 0
      · by_cases g : l[i].f4[j].f5 = 0
        · refine .inl ⟨⟨p.1 c, d, g⟩, fun r hr => Ev.step (fun k => by rw [spec_ItemsOk.l3]) ?_⟩
          simp only [hrj, hwj]
          exact ev_pos c1 (ev_pos c2 (ev_bind0 e (ev_pos c (ev_pos d (ev_pos g hr)))))
        · refine .inr ⟨fun h => g h.2.2, Ev.step (fun k => by rw [spec_ItemsOk.l3]) ?_⟩
          simp only [hrj, hwj]
          exact ev_pos c1 (ev_pos c2 (ev_bind0 e (ev_pos c (ev_pos d (ev_neg g (Ev.now _))))))
      · refine .inr ⟨fun h => d h.2.1, Ev.step (fun k => by rw [spec_ItemsOk.l3]) ?_⟩
        simp only [hrj, hwj]
        exact ev_pos c1 (ev_pos c2 (ev_bind0 e (ev_pos c (ev_neg d (Ev.now _)))))
    · refine .inr ⟨fun h => c (p.2 h.1), Ev.step (fun k => by rw [spec_ItemsOk.l3]) ?_⟩
      simp only [hrj, hwj]
      exact ev_pos c1 (ev_pos c2 (ev_bind0 e (ev_neg c (Ev.now _))))) (fun r h => by
    refine Ev.step (fun k => by rw [spec_ItemsOk.l3]) ?_
    simp only [hw]
    exact ev_neg (by omega) h)
  have parts := each_mem_go l[i].f3 (fun k j => spec_ItemsOk.l2 k l (l.length : Int) (i : Int) j l[i].f0 l[i].f1 l[i].f2 l[i].f3 l[i].f4) (fun p => PartIs (i : Int) (l.length : Int) p) (fun k => spec_ItemsOk.l3 k l (l.length : Int) (i : Int) 0 l[i].f0 l[i].f1 l[i].f2 l[i].f3 l[i].f4) false (by
    intro j hj
    have hrj : rd_T54 l[i].f3 (j : Int) = l[i].f3[j] := getD_at hj _
    obtain ⟨b, e, p⟩ := spec_part_ev l[i].f3[j] (i : Int) (l.length : Int) hC (by omega) (by omega) (by omega)
    have c1 : (j : Int) < (l[i].f3.length : Int) := Int.ofNat_lt.2 hj
    have c2 : 0 ≤ (j : Int) := Int.natCast_nonneg j
    have hwj : wrap64 ((j : Int) + 1) = ((j + 1 : Nat) : Int) := wrap_succ hj (by omega)
    by_cases c : b = true
    · refine .inl ⟨p.1 c, fun r hr => Ev.step (fun k => by rw [spec_ItemsOk.l2]) ?_⟩
      simp only [hrj, hwj]
      exact ev_pos c1 (ev_pos c2 (ev_bind0 e (ev_pos c hr)))
    · refine .inr ⟨fun h => c (p.2 h), Ev.step (fun k => by rw [spec_ItemsOk.l2]) ?_⟩
      simp only [hrj, hwj]
      exact ev_pos c1 (ev_pos c2 (ev_bind0 e (ev_neg c (Ev.now _))))) (fun r h => by
    refine Ev.step (fun k => by rw [spec_ItemsOk.l2]) ?_
    exact ev_neg (by omega) h)
  have dup := each_go (List.range i) (fun k j => spec_ItemsOk.l1 k l (l.length : Int) (i : Int) j l[i].f0 l[i].f1 l[i].f2 l[i].f3 l[i].f4) (fun j _ => (rd_T52 l ((j : Nat) : Int)).f0 ≠ l[i].f0) (fun k => spec_ItemsOk.l2 k l (l.length : Int) (i : Int) 0 l[i].f0 l[i].f1 l[i].f2 l[i].f3 l[i].f4) false (by
    intro j hj
    have hj' : j < i := by simpa using hj
    by_cases c : (rd_T52 l ((j : Nat) : Int)).f0 = l[i].f0
    · refine .inr ⟨fun h => h c, ?_⟩
      refine Ev.step (fun k => by rw [spec_ItemsOk.l1]) ?_
      simp only [str_iff]
      exact ev_pos (by omega) (ev_pos (by omega) (ev_pos (by omega) (ev_pos c (Ev.now _))))
    · refine .inl ⟨c, fun r hr => ?_⟩
      refine Ev.step (fun k => by rw [spec_ItemsOk.l1]) ?_
      simp only [str_iff]
      refine ev_pos (by omega) (ev_pos (by omega) (ev_pos (by omega) (ev_neg c ?_)))
      rw [wrap_succ hj' (by omega)]
      exact hr) (by
    intro r hr
    rw [List.length_range]
    refine Ev.step (fun k => by rw [spec_ItemsOk.l1]) ?_
    exact ev_neg (by omega) hr)
  have hD : (∀ (j : Nat) (hj : j < (List.range i).length), (rd_T52 l ((j : Nat) : Int)).f0 ≠ l[i].f0) ↔ ∀ (j : Nat) (y : II), j < i → l[j]? = some y → y.f0 ≠ l[i].f0 := by
    constructor
    · intro h j y h1 h2
      have hjl : j < l.length := by omega
      have e : rd_T52 l ((j : Nat) : Int) = y := by
        rw [List.getElem?_eq_getElem hjl] at h2
        injection h2 with h2
        rw [← h2]
        exact getD_at hjl _
      have := h j (by simpa using h1)
      rw [e] at this
      exact this
    · intro h j hj
      have hj' : j < i := by simpa using hj
      have hjl : j < l.length := by omega
      have e : rd_T52 l ((j : Nat) : Int) = l[j] := getD_at hjl _
      rw [e]
      exact h j l[j] hj' (List.getElem?_eq_getElem hjl)
  -- behind the head
  have tail : HeadIs l[i] → (ItemIs l i l[i] ∧ ∀ r, Ev (fun k => spec_ItemsOk.l0 k l (l.length : Int) ((i + 1 : Nat) : Int)) r → Ev (fun k => spec_ItemsOk.j1 k l (l.length : Int) (i : Int) false l[i].f0 l[i].f1 l[i].f2 l[i].f3 l[i].f4) r) ∨ (¬ ItemIs l i l[i] ∧ Ev (fun k => spec_ItemsOk.j1 k l (l.length : Int) (i : Int) false l[i].f0 l[i].f1 l[i].f2 l[i].f3 l[i].f4) false) := by
    intro hh
    have st : ∀ r, Ev (fun k => spec_ItemsOk.l1 k l (l.length : Int) (i : Int) 0 l[i].f0 l[i].f1 l[i].f2 l[i].f3 l[i].f4) r → Ev (fun k => spec_ItemsOk.j1 k l (l.length : Int) (i : Int) false l[i].f0 l[i].f1 l[i].f2 l[i].f3 l[i].f4) r := by
      intro r hr
      refine Ev.step (fun k => by rw [spec_ItemsOk.j1]) ?_
      exact ev_neg (by simp) hr
    rcases dup with ⟨d1, d2⟩ | ⟨d1, d2⟩
    · rcases parts with ⟨q1, q2⟩ | ⟨q1, q2⟩
      · rcases also with ⟨a1, a2⟩ | ⟨a1, a2⟩
        · exact .inl ⟨⟨hh, hD.1 d1, q1, a1⟩, fun r hr => st r (d2 r (q2 r (a2 r hr)))⟩
        · exact .inr ⟨fun h => a1 h.2.2.2, st _ (d2 _ (q2 _ a2))⟩
      · exact .inr ⟨fun h => q1 h.2.2.1, st _ (d2 _ q2)⟩
    · exact .inr ⟨fun h => d1 (hD.2 h.2.1), st _ d2⟩
  by_cases cn : bn = true
  case neg =>
    refine .inr ⟨fun h => cn (pn.2 h.1.1), Ev.step (fun k => by rw [spec_ItemsOk.l0]) ?_⟩
    simp only [hrd]
    exact ev_pos hA (ev_pos hC (ev_pos hA (Ev.bind en (ev_neg cn F))))
  by_cases c1 : 1 ≤ l[i].f1 ∧ l[i].f1 ≤ 1000000
  case neg =>
    refine .inr ⟨fun h => c1 h.1.2.1, Ev.step (fun k => by rw [spec_ItemsOk.l0]) ?_⟩
    simp only [hrd]
    exact ev_pos hA (ev_pos hC (ev_pos hA (Ev.bind en (ev_pos cn (ev_bind0 (spec_l1In_eq ..) (ev_neg (by rw [decide_eq_true_eq]; exact c1) F))))))
  by_cases c3 : (l[i].f3.length : Int) > 30
  · refine .inr ⟨fun h => h.1.2.2.1 c3, Ev.step (fun k => by rw [spec_ItemsOk.l0]) ?_⟩
    simp only [hrd]
    exact ev_pos hA (ev_pos hC (ev_pos hA (Ev.bind en (ev_pos cn (ev_bind0 (spec_l1In_eq ..) (ev_pos (decide_eq_true c1) (ev_pos c3 F)))))))
  by_cases c4 : (l[i].f4.length : Int) > 30
  · refine .inr ⟨fun h => h.1.2.2.2.1 c4, Ev.step (fun k => by rw [spec_ItemsOk.l0]) ?_⟩
    simp only [hrd]
    exact ev_pos hA (ev_pos hC (ev_pos hA (Ev.bind en (ev_pos cn (ev_bind0 (spec_l1In_eq ..) (ev_pos (decide_eq_true c1) (ev_neg c3 (ev_pos c4 F))))))))
  have into : ∀ r, Ev (fun k => if l[i].f2 = true then (if ((l[i].f3).length : Int) = 0 then (spec_ItemsOk.j1 k l (l.length : Int) (i : Int) true l[i].f0 l[i].f1 l[i].f2 l[i].f3 l[i].f4) else (spec_ItemsOk.j1 k l (l.length : Int) (i : Int) (decide (((l[i].f4).length : Int) > 0)) l[i].f0 l[i].f1 l[i].f2 l[i].f3 l[i].f4)) else (spec_ItemsOk.j1 k l (l.length : Int) (i : Int) false l[i].f0 l[i].f1 l[i].f2 l[i].f3 l[i].f4)) r → Ev (fun k => spec_ItemsOk.l0 k l (l.length : Int) (i : Int)) r := by
    intro r hr
    refine Ev.step (fun k => by rw [spec_ItemsOk.l0]) ?_
    simp only [hrd]
    exact ev_pos hA (ev_pos hC (ev_pos hA (Ev.bind en (ev_pos cn (ev_bind0 (spec_l1In_eq ..) (ev_pos (decide_eq_true c1) (ev_neg c3 (ev_neg c4 hr))))))))
  by_cases c5 : l[i].f2 = true
  · by_cases c6 : (l[i].f3.length : Int) = 0
    · exact .inr ⟨fun h => (h.1.2.2.2.2 c5).1 c6, into _ (ev_pos c5 (ev_pos c6 F))⟩
    · by_cases c7 : (l[i].f4.length : Int) > 0
      · refine .inr ⟨fun h => (h.1.2.2.2.2 c5).2 c7, into _ (ev_pos c5 (ev_neg c6 ?_))⟩
        rw [decide_eq_true c7]
        exact F
      · have hh : HeadIs l[i] := ⟨pn.1 cn, c1, c3, c4, fun _ => ⟨c6, c7⟩⟩
        have e7 := decide_eq_false c7
        rcases tail hh with ⟨t1, t2⟩ | ⟨t1, t2⟩
        · refine .inl ⟨t1, fun r hr => into _ (ev_pos c5 (ev_neg c6 ?_))⟩
          rw [e7]
          exact t2 r hr
        · refine .inr ⟨t1, into _ (ev_pos c5 (ev_neg c6 ?_))⟩
          rw [e7]
          exact t2
  · have hh : HeadIs l[i] := ⟨pn.1 cn, c1, c3, c4, fun h => absurd h c5⟩
    rcases tail hh with ⟨t1, t2⟩ | ⟨t1, t2⟩
    · exact .inl ⟨t1, fun r hr => into _ (ev_neg c5 (t2 r hr))⟩
    · exact .inr ⟨t1, into _ (ev_neg c5 t2)⟩
/-- The program's loop over the items. -/
theorem impl_items (l : List II) (hl : (l.length : Int) ≤ 60) (hB : ∀ x ∈ l, B52 1048576 x) :
    ((∀ (i : Nat) (hi : i < l.length), ItemIs l i l[i]) ∧ ∀ r, Ev (fun k => (impl_levels.f k l).bind fun t => impl_ItemsOk.l3 k t (t.length : Int) 0) r → Ev (fun k => impl_ItemsOk.l0 k l (seenAt l (0 : Int).toNat) l (l.length : Int) 0) r) ∨
    (¬ (∀ (i : Nat) (hi : i < l.length), ItemIs l i l[i]) ∧ Ev (fun k => impl_ItemsOk.l0 k l (seenAt l (0 : Int).toNat) l (l.length : Int) 0) false) := by
  refine each_go l (fun k i => impl_ItemsOk.l0 k l (seenAt l i.toNat) l (l.length : Int) i) (fun i x => ItemIs l i x) _ false ?_ (fun r h => ?_)
  case refine_2 =>
    refine Ev.step (fun k => by rw [impl_ItemsOk.l0]) ?_
    exact ev_neg (by omega) h
  intro i hi
  simp only [Int.toNat_natCast]
  have hrd : rd_T52 l (i : Int) = l[i] := getD_at hi _
  have hA : (i : Int) < (l.length : Int) := Int.ofNat_lt.2 hi
  have hC : 0 ≤ (i : Int) := Int.natCast_nonneg i
  have hb := hB _ (List.getElem_mem hi)
  have hb1 := hb.1
  have hb3 := hb.2.1
  have hb4 := hb.2.2
  have hS : l[i].f0.size ≤ 9223372036854775807 := by omega
  have hw : wrap64 ((i : Int) + 1) = ((i + 1 : Nat) : Int) := wrap_succ hi (by omega)
  have hseen := seenAt_iff l l[i].f0 i (by omega)
  have hm : mset (seenAt l i) l[i].f0 true = seenAt l (i + 1) := by rw [seenAt, hrd]
  generalize seenAt l i = m at hseen hm
  obtain ⟨bn, en, pn⟩ := impl_NameOk_ev l[i].f0
  have F : Ev (fun k => impl_ItemsOk.j2 k l m (i : Int) l (l.length : Int) (i : Int) true l[i].f0 l[i].f1 l[i].f2 l[i].f3 l[i].f4) false := by
    refine Ev.step (fun k => by rw [impl_ItemsOk.j2]) ?_
    exact ev_pos rfl (Ev.now _)
  have also := each_mem_go l[i].f4 (fun k j => impl_ItemsOk.l2 k l (seenAt l (i + 1)) (i : Int) l (l.length : Int) (i : Int) l[i].f4 (l[i].f4.length : Int) j) (fun p => AlsoIs (i : Int) (l.length : Int) p) (fun k => impl_ItemsOk.l0 k l (seenAt l (i + 1)) l (l.length : Int) ((i + 1 : Nat) : Int)) false (by
    intro j hj
    have hrj : rd_T54 l[i].f4 (j : Int) = l[i].f4[j] := getD_at hj _
    obtain ⟨b, e, p⟩ := impl_part_ev l[i].f4[j] (i : Int) (l.length : Int) true hC (by omega) (by omega) (by omega)
    have c1 : (j : Int) < (l[i].f4.length : Int) := Int.ofNat_lt.2 hj
    have c2 : 0 ≤ (j : Int) := Int.natCast_nonneg j
    have hwj : wrap64 ((j : Int) + 1) = ((j + 1 : Nat) : Int) := wrap_succ hj (by omega)
    by_cases c : b = true
    · refine .inl ⟨⟨(p.1 c).1, (p.1 c).2 rfl⟩, fun r hr => Ev.step (fun k => by rw [impl_ItemsOk.l2]) ?_⟩
      simp only [hrj, hwj]
      exact ev_pos c1 (ev_pos c2 (ev_pos c1 (ev_bind0 e (ev_pos c hr))))
    · refine .inr ⟨fun h => c (p.2 ⟨h.1, fun _ => h.2⟩), Ev.step (fun k => by rw [impl_ItemsOk.l2]) ?_⟩
      simp only [hrj, hwj]
      exact ev_pos c1 (ev_pos c2 (ev_pos c1 (ev_bind0 e (ev_neg c (Ev.now _)))))) (fun r h => by
    refine Ev.step (fun k => by rw [impl_ItemsOk.l2]) ?_
    simp only [hw]
    exact ev_neg (by omega) h)
  have parts := each_mem_go l[i].f3 (fun k j => impl_ItemsOk.l1 k l (seenAt l (i + 1)) (i : Int) l (l.length : Int) (i : Int) l[i].f3 (l[i].f3.length : Int) j l[i].f0 l[i].f1 l[i].f2 l[i].f3 l[i].f4) (fun p => PartIs (i : Int) (l.length : Int) p) (fun k => impl_ItemsOk.l2 k l (seenAt l (i + 1)) (i : Int) l (l.length : Int) (i : Int) l[i].f4 (l[i].f4.length : Int) 0) false (by
    intro j hj
    have hrj : rd_T54 l[i].f3 (j : Int) = l[i].f3[j] := getD_at hj _
    obtain ⟨b, e, p⟩ := impl_part_ev l[i].f3[j] (i : Int) (l.length : Int) false hC (by omega) (by omega) (by omega)
    have c1 : (j : Int) < (l[i].f3.length : Int) := Int.ofNat_lt.2 hj
    have c2 : 0 ≤ (j : Int) := Int.natCast_nonneg j
    have hwj : wrap64 ((j : Int) + 1) = ((j + 1 : Nat) : Int) := wrap_succ hj (by omega)
    by_cases c : b = true
    · refine .inl ⟨(p.1 c).1, fun r hr => Ev.step (fun k => by rw [impl_ItemsOk.l1]) ?_⟩
      simp only [hrj, hwj]
      exact ev_pos c1 (ev_pos c2 (ev_pos c1 (ev_bind0 e (ev_pos c hr))))
    · refine .inr ⟨fun h => c (p.2 ⟨h, fun h => (by cases h)⟩), Ev.step (fun k => by rw [impl_ItemsOk.l1]) ?_⟩
      simp only [hrj, hwj]
      exact ev_pos c1 (ev_pos c2 (ev_pos c1 (ev_bind0 e (ev_neg c (Ev.now _)))))) (fun r h => by
    refine Ev.step (fun k => by rw [impl_ItemsOk.l1]) ?_
    exact ev_neg (by omega) h)
  have tail : HeadIs l[i] → (∀ (j : Nat) (y : II), j < i → l[j]? = some y → y.f0 ≠ l[i].f0) → (ItemIs l i l[i] ∧ ∀ r, Ev (fun k => impl_ItemsOk.l0 k l (seenAt l (i + 1)) l (l.length : Int) ((i + 1 : Nat) : Int)) r → Ev (fun k => impl_ItemsOk.j2 k l m (i : Int) l (l.length : Int) (i : Int) false l[i].f0 l[i].f1 l[i].f2 l[i].f3 l[i].f4) r) ∨ (¬ ItemIs l i l[i] ∧ Ev (fun k => impl_ItemsOk.j2 k l m (i : Int) l (l.length : Int) (i : Int) false l[i].f0 l[i].f1 l[i].f2 l[i].f3 l[i].f4) false) := by
    intro hh hd
    have st : ∀ r, Ev (fun k => impl_ItemsOk.l1 k l (seenAt l (i + 1)) (i : Int) l (l.length : Int) (i : Int) l[i].f3 (l[i].f3.length : Int) 0 l[i].f0 l[i].f1 l[i].f2 l[i].f3 l[i].f4) r → Ev (fun k => impl_ItemsOk.j2 k l m (i : Int) l (l.length : Int) (i : Int) false l[i].f0 l[i].f1 l[i].f2 l[i].f3 l[i].f4) r := by
      intro r hr
      refine Ev.step (fun k => by rw [impl_ItemsOk.j2]) ?_
      simp only [hm]
      exact ev_neg (by simp) (ev_pos hS hr)
    rcases parts with ⟨q1, q2⟩ | ⟨q1, q2⟩
    · rcases also with ⟨a1, a2⟩ | ⟨a1, a2⟩
      · exact .inl ⟨⟨hh, hd, q1, a1⟩, fun r hr => st r (q2 r (a2 r hr))⟩
      · exact .inr ⟨fun h => a1 h.2.2.2, st _ (q2 _ a2)⟩
    · exact .inr ⟨fun h => q1 h.2.2.1, st _ q2⟩
  by_cases cn : bn = true
  case neg =>
    refine .inr ⟨fun h => cn (pn.2 h.1.1), Ev.step (fun k => by rw [impl_ItemsOk.l0]) ?_⟩
    simp only [hrd]
    exact ev_pos hA (ev_pos hC (ev_pos hA (Ev.bind en (ev_neg cn F))))
  by_cases cs : (mget m l[i].f0).getD false = true
  · refine .inr ⟨fun h => ?_, Ev.step (fun k => by rw [impl_ItemsOk.l0]) ?_⟩
    · obtain ⟨j, y, h1, h2, h3⟩ := hseen.1 cs
      exact h.2.1 j y h1 h2 h3
    · simp only [hrd]
      exact ev_pos hA (ev_pos hC (ev_pos hA (Ev.bind en (ev_pos cn (ev_pos hS (ev_pos cs F))))))
  have hd : ∀ (j : Nat) (y : II), j < i → l[j]? = some y → y.f0 ≠ l[i].f0 := fun j y h1 h2 h3 => cs (hseen.2 ⟨j, y, h1, h2, h3⟩)
  by_cases c1 : 1 ≤ l[i].f1 ∧ l[i].f1 ≤ 1000000
  case neg =>
    refine .inr ⟨fun h => c1 h.1.2.1, Ev.step (fun k => by rw [impl_ItemsOk.l0]) ?_⟩
    simp only [hrd]
    exact ev_pos hA (ev_pos hC (ev_pos hA (Ev.bind en (ev_pos cn (ev_pos hS (ev_neg cs (ev_bind0 (impl_between_eq ..) (ev_neg (by rw [decide_eq_true_eq]; exact c1) F))))))))
  by_cases c3 : (l[i].f3.length : Int) > 30
  · refine .inr ⟨fun h => h.1.2.2.1 c3, Ev.step (fun k => by rw [impl_ItemsOk.l0]) ?_⟩
    simp only [hrd]
    exact ev_pos hA (ev_pos hC (ev_pos hA (Ev.bind en (ev_pos cn (ev_pos hS (ev_neg cs (ev_bind0 (impl_between_eq ..) (ev_pos (decide_eq_true c1) (ev_pos c3 F)))))))))
  by_cases c4 : (l[i].f4.length : Int) > 30
  · refine .inr ⟨fun h => h.1.2.2.2.1 c4, Ev.step (fun k => by rw [impl_ItemsOk.l0]) ?_⟩
    simp only [hrd]
    exact ev_pos hA (ev_pos hC (ev_pos hA (Ev.bind en (ev_pos cn (ev_pos hS (ev_neg cs (ev_bind0 (impl_between_eq ..) (ev_pos (decide_eq_true c1) (ev_neg c3 (ev_pos c4 F))))))))))
  have into : ∀ r, Ev (fun k => if l[i].f2 = true then (if ((l[i].f3).length : Int) = 0 then (impl_ItemsOk.j2 k l m (i : Int) l (l.length : Int) (i : Int) true l[i].f0 l[i].f1 l[i].f2 l[i].f3 l[i].f4) else (impl_ItemsOk.j2 k l m (i : Int) l (l.length : Int) (i : Int) (decide (((l[i].f4).length : Int) > 0)) l[i].f0 l[i].f1 l[i].f2 l[i].f3 l[i].f4)) else (impl_ItemsOk.j2 k l m (i : Int) l (l.length : Int) (i : Int) false l[i].f0 l[i].f1 l[i].f2 l[i].f3 l[i].f4)) r → Ev (fun k => impl_ItemsOk.l0 k l m l (l.length : Int) (i : Int)) r := by
    intro r hr
    refine Ev.step (fun k => by rw [impl_ItemsOk.l0]) ?_
    simp only [hrd]
    exact ev_pos hA (ev_pos hC (ev_pos hA (Ev.bind en (ev_pos cn (ev_pos hS (ev_neg cs (ev_bind0 (impl_between_eq ..) (ev_pos (decide_eq_true c1) (ev_neg c3 (ev_neg c4 hr))))))))))
  by_cases c5 : l[i].f2 = true
  · by_cases c6 : (l[i].f3.length : Int) = 0
    · exact .inr ⟨fun h => (h.1.2.2.2.2 c5).1 c6, into _ (ev_pos c5 (ev_pos c6 F))⟩
    · by_cases c7 : (l[i].f4.length : Int) > 0
      · refine .inr ⟨fun h => (h.1.2.2.2.2 c5).2 c7, into _ (ev_pos c5 (ev_neg c6 ?_))⟩
        rw [decide_eq_true c7]
        exact F
      · have hh : HeadIs l[i] := ⟨pn.1 cn, c1, c3, c4, fun _ => ⟨c6, c7⟩⟩
        have e7 := decide_eq_false c7
        rcases tail hh hd with ⟨t1, t2⟩ | ⟨t1, t2⟩
        · refine .inl ⟨t1, fun r hr => into _ (ev_pos c5 (ev_neg c6 ?_))⟩
          rw [e7]
          exact t2 r hr
        · refine .inr ⟨t1, into _ (ev_pos c5 (ev_neg c6 ?_))⟩
          rw [e7]
          exact t2
  · have hh : HeadIs l[i] := ⟨pn.1 cn, c1, c3, c4, fun h => absurd h c5⟩
    rcases tail hh hd with ⟨t1, t2⟩ | ⟨t1, t2⟩
    · exact .inl ⟨t1, fun r hr => into _ (ev_neg c5 (t2 r hr))⟩
    · exact .inr ⟨t1, into _ (ev_neg c5 t2)⟩
theorem items_ev (l : List II) (hB : (l.length : Int) ≤ 1048576 ∧ ∀ x ∈ l, B52 1048576 x) : ∃ b, Ev (fun k => spec_ItemsOk.f k l) b ∧ Ev (fun k => impl_ItemsOk.f k l) b := by
  unfold spec_ItemsOk.f impl_ItemsOk.f
  have iF : Ev (fun k => impl_ItemsOk.j0 k l true) false := by
    refine Ev.step (fun k => by rw [impl_ItemsOk.j0]) ?_
    exact ev_pos rfl (Ev.now _)
  by_cases c0 : (l.length : Int) < 1
  · exact ⟨false, ev_bind0 (spec_l1In_eq ..) (ev_neg (by rw [decide_eq_true_eq]; omega) (Ev.now _)), ev_pos c0 iF⟩
  by_cases c1 : (l.length : Int) > 60
  · refine ⟨false, ev_bind0 (spec_l1In_eq ..) (ev_neg (by rw [decide_eq_true_eq]; omega) (Ev.now _)), ev_neg c0 ?_⟩
    rw [decide_eq_true c1]
    exact iF
  have hl : (l.length : Int) ≤ 60 := by omega
  have si : ∀ r, Ev (fun k => spec_ItemsOk.l0 k l (l.length : Int) 0) r → Ev (fun k => (spec_l1In.f (l.length : Int) 1 60).bind fun t125 => (if t125 = true then (spec_ItemsOk.l0 k l (l.length : Int) 0) else (some false))) r :=
    fun r h => ev_bind0 (spec_l1In_eq ..) (ev_pos (by rw [decide_eq_true_eq]; omega) h)
  have ii : ∀ r, Ev (fun k => impl_ItemsOk.l0 k l (seenAt l (0 : Int).toNat) l (l.length : Int) 0) r → Ev (fun k => if (l.length : Int) < 1 then (impl_ItemsOk.j0 k l true) else (impl_ItemsOk.j0 k l (decide ((l.length : Int) > 60)))) r := by
    intro r h
    refine ev_neg c0 ?_
    rw [decide_eq_false c1]
    refine Ev.step (fun k => by rw [impl_ItemsOk.j0]) ?_
    exact ev_neg (by simp) h
  rcases spec_items l hl hB.2 with ⟨p1, s1⟩ | ⟨p1, s1⟩
  · rcases impl_items l hl hB.2 with ⟨_, s2⟩ | ⟨p2, _⟩
    · obtain ⟨r, hr, e1, e2⟩ := levels_ev l hl (fun i hi => ⟨(p1 i hi).2.2.1, by have := (p1 i hi).1.2.2.1; omega⟩)
      obtain ⟨b, d1, d2⟩ := depth_ev r (by omega)
      have d1' : Ev (fun k => spec_ItemsOk.l4 k (l.length : Int) r 0) b := by rw [← hr]; exact d1
      exact ⟨b, si _ (s1 _ (Ev.bind e1 d1')), ii _ (s2 _ (Ev.bind e2 d2))⟩
    · exact absurd p1 p2
  · rcases impl_items l hl hB.2 with ⟨p2, _⟩ | ⟨_, s2⟩
    · exact absurd p2 p1
    · exact ⟨false, si _ s1, ii _ s2⟩
/-! ### Items are drawn -/
abbrev BI := B52
/-- What is drawn: so many items, none of them great. -/
def PI (b : List Int) (N : Nat) (f : Nat → Option (List II × Int × Int)) : Prop := ∃ r i' h', Ev f (r, i', h') ∧ Cu b i' ∧ r.length = N ∧ ∀ x ∈ r, BI 1000 x
theorem PI.step {b : List Int} {N : Nat} {f g : Nat → Option (List II × Int × Int)} (hs : ∀ k, g (k + 1) = f k) (h : PI b N f) : PI b N g := by
  obtain ⟨r, i', h', e, q⟩ := h
  exact ⟨r, i', h', Ev.step hs e, q⟩
theorem PI.bind {β : Type} {b : List Int} {N : Nat} {g : Nat → Option β} {f : Nat → β → Option (List II × Int × Int)} {y : β} (hg : Ev g y) (h : PI b N (fun k => f k y)) : PI b N (fun k => (g k).bind (f k)) := by
  obtain ⟨r, i', h', e, q⟩ := h
  exact ⟨r, i', h', Ev.bind hg e, q⟩
theorem PI.bind0 {β : Type} {b : List Int} {N : Nat} {g : Option β} {f : Nat → β → Option (List II × Int × Int)} {y : β} (hg : g = some y) (h : PI b N (fun k => f k y)) : PI b N (fun k => g.bind (f k)) := PI.bind (ev_eq hg) h
theorem PI.pos {b : List Int} {N : Nat} {c : Prop} [Decidable c] {f g : Nat → Option (List II × Int × Int)} (hc : c) (h : PI b N f) : PI b N (fun k => if c then f k else g k) := by
  obtain ⟨r, i', h', e, q⟩ := h
  exact ⟨r, i', h', ev_pos hc e, q⟩
theorem PI.neg {b : List Int} {N : Nat} {c : Prop} [Decidable c] {f g : Nat → Option (List II × Int × Int)} (hc : ¬ c) (h : PI b N g) : PI b N (fun k => if c then f k else g k) := by
  obtain ⟨r, i', h', e, q⟩ := h
  exact ⟨r, i', h', ev_neg hc e, q⟩
theorem part_j1 (b : List Int) (i h : Int) (hc : Cu b i) (x0 x1 x2 x3 x4 x5 : Int) : ∃ p0 p1 p2 p3 p4 p5 i' h', Ev (fun k => spec_l17DrawPart.j1 k b i h x0 x1 x2 x3 x4 x5) (p0, p1, p2, p3, p4, p5, i', h') ∧ Cu b i' := by
  obtain ⟨v, i1, h1, e1, c1⟩ := once_ok b i h 5 hc
  cases v with
  | true =>
    obtain ⟨y, i2, h2, e2, c2, _⟩ := below_ok b i1 h1 2 c1
    refine ⟨x0, x1, x2, x3, x4, wrap64 (1 + y), i2, h2, Ev.step (fun k => by rw [spec_l17DrawPart.j1]) ?_, c2⟩
    refine ev_bind0 e1 ?_
    refine ev_pos rfl ?_
    refine ev_bind0 e2 ?_
    exact Ev.now _
  | false =>
    refine ⟨x0, x1, x2, x3, x4, x5, i1, h1, Ev.step (fun k => by rw [spec_l17DrawPart.j1]) ?_, c1⟩
    refine ev_bind0 e1 ?_
    exact ev_neg Bool.false_ne_true (Ev.now _)
theorem part_j0 (b : List Int) (i h : Int) (hc : Cu b i) (x0 x1 x2 x3 x4 x5 : Int) : ∃ p0 p1 p2 p3 p4 p5 i' h', Ev (fun k => spec_l17DrawPart.j0 k b i h x0 x1 x2 x3 x4 x5) (p0, p1, p2, p3, p4, p5, i', h') ∧ Cu b i' := by
  obtain ⟨v, i1, h1, e1, c1⟩ := once_ok b i h 4 hc
  cases v with
  | true =>
    obtain ⟨y, i2, h2, e2, c2, _⟩ := below_ok b i1 h1 100 c1
    obtain ⟨z, i3, h3, e3, c3, _⟩ := below_ok b i2 h2 200 c2
    obtain ⟨p0, p1, p2, p3, p4, p5, i4, h4, e4, c4⟩ := part_j1 b i3 h3 c3 x0 x1 x2 y (wrap64 (y + z)) x5
    refine ⟨p0, p1, p2, p3, p4, p5, i4, h4, Ev.step (fun k => by rw [spec_l17DrawPart.j0]) ?_, c4⟩
    refine ev_bind0 e1 ?_
    refine ev_pos rfl ?_
    exact ev_bind0 e2 (ev_bind0 e3 e4)
  | false =>
    obtain ⟨p0, p1, p2, p3, p4, p5, i4, h4, e4, c4⟩ := part_j1 b i1 h1 c1 x0 x1 x2 x3 x4 x5
    refine ⟨p0, p1, p2, p3, p4, p5, i4, h4, Ev.step (fun k => by rw [spec_l17DrawPart.j0]) ?_, c4⟩
    refine ev_bind0 e1 ?_
    exact ev_neg Bool.false_ne_true e4
theorem part_ok (b : List Int) (i h : Int) (hc : Cu b i) (a1 a2 : Int) : ∃ p0 p1 p2 p3 p4 p5 i' h', Ev (fun k => spec_l17DrawPart.f k b i h a1 a2) (p0, p1, p2, p3, p4, p5, i', h') ∧ Cu b i' := by
  obtain ⟨x, i1, h1, e1, c1, _⟩ := below_ok b i h (wrap64 ((wrap64 (a2 - a1)) - 1)) hc
  obtain ⟨y, i2, h2, e2, c2, _⟩ := below_ok b i1 h1 5 c1
  obtain ⟨v, i3, h3, e3, c3⟩ := once_ok b i2 h2 4 c2
  unfold spec_l17DrawPart.f
  cases v with
  | true =>
    obtain ⟨z, i4, h4, e4, c4, _⟩ := below_ok b i3 h3 20 c3
    obtain ⟨p0, p1, p2, p3, p4, p5, i5, h5, e5, c5⟩ := part_j0 b i4 h4 c4 (wrap64 ((wrap64 (a1 + 1)) + x)) (wrap64 (1 + y)) z 0 40000 0
    refine ⟨p0, p1, p2, p3, p4, p5, i5, h5, ?_, c5⟩
    refine ev_bind0 e1 (ev_bind0 e2 (ev_bind0 e3 ?_))
    refine ev_pos rfl ?_
    exact ev_bind0 e4 e5
  | false =>
    obtain ⟨p0, p1, p2, p3, p4, p5, i5, h5, e5, c5⟩ := part_j0 b i3 h3 c3 (wrap64 ((wrap64 (a1 + 1)) + x)) (wrap64 (1 + y)) 0 0 40000 0
    refine ⟨p0, p1, p2, p3, p4, p5, i5, h5, ?_, c5⟩
    refine ev_bind0 e1 (ev_bind0 e2 (ev_bind0 e3 ?_))
    exact ev_neg Bool.false_ne_true e5
section
variable {b : List Int} {n : Int} {i N : Nat} {out : List II} (hl : out.length ≤ 100) (hi : i ≤ 100)
  (next : ∀ (x : II) (bi bh : Int), Cu b bi → BI 1000 x → PI b N (fun k => spec_l17DrawItems.l0 k n (out ++ [x]) ((i + 1 : Nat) : Int) b bi bh))
include hl hi next
theorem items_j3 (bi bh : Int) (hc : Cu b bi) (v : Bool) (nm : ByteArray) (bt : Int) (ph : Bool) (ps : List PP) (hnm : nm.size ≤ 1000) (hps : ps.length ≤ 3) :
    PI b N (fun k => spec_l17DrawItems.j3 k n out (i : Int) v b bi bh nm bt ph ps) := by
  have hw : wrap64 ((i : Int) + 1) = ((i + 1 : Nat) : Int) := by rw [wrap_id (by omega) (by omega)]; omega
  refine PI.step (fun k => by rw [spec_l17DrawItems.j3]) ?_
  simp only [hw]
  cases v with
  | true => exact PI.pos rfl (PI.pos (by omega) (next _ _ _ hc ⟨by show (nm.size : Int) ≤ 1000; omega, by show (ps.length : Int) ≤ 1000; omega, by show ((0 : Nat) : Int) ≤ 1000; omega⟩))
  | false =>
    obtain ⟨u, i1, h1, e1, c1⟩ := once_ok b bi bh 6 hc
    refine PI.neg Bool.false_ne_true (PI.bind0 e1 ?_)
    cases u with
    | false => exact PI.neg Bool.false_ne_true (PI.pos (by omega) (next _ _ _ c1 ⟨by show (nm.size : Int) ≤ 1000; omega, by show (ps.length : Int) ≤ 1000; omega, by show ((0 : Nat) : Int) ≤ 1000; omega⟩))
    | true =>
      refine PI.pos rfl ?_
      by_cases c : (i : Int) < wrap64 (n - 1)
      · obtain ⟨p0, p1, p2, p3, p4, p5, i2, h2, e2, c2⟩ := part_ok b i1 h1 c1 (i : Int) n
        exact PI.pos c (PI.bind e2 (PI.pos (by decide) (PI.pos (by omega) (next _ _ _ c2 ⟨by show (nm.size : Int) ≤ 1000; omega, by show (ps.length : Int) ≤ 1000; omega, by show ((1 : Nat) : Int) ≤ 1000; omega⟩))))
      · exact PI.neg c (PI.pos (by omega) (next _ _ _ c1 ⟨by show (nm.size : Int) ≤ 1000; omega, by show (ps.length : Int) ≤ 1000; omega, by show ((0 : Nat) : Int) ≤ 1000; omega⟩))
theorem items_j2 (bi bh : Int) (hc : Cu b bi) (nm : ByteArray) (bt : Int) (ph : Bool) (ps : List PP) (hnm : nm.size ≤ 1000) (hps : ps.length ≤ 3) :
    PI b N (fun k => spec_l17DrawItems.j2 k n out (i : Int) b bi bh nm bt ph ps) := by
  refine PI.step (fun k => by rw [spec_l17DrawItems.j2]) ?_
  by_cases c : (ps.length : Int) > 0
  · obtain ⟨v, i1, h1, e1, c1⟩ := once_ok b bi bh 4 hc
    exact PI.pos c (PI.bind0 e1 (items_j3 hl hi next _ _ c1 _ _ _ _ _ hnm hps))
  · exact PI.neg c (items_j3 hl hi next _ _ hc _ _ _ _ _ hnm hps)
theorem items_l1 : ∀ (c : Nat) (bi bh : Int), Cu b bi → ∀ (nm : ByteArray) (bt : Int) (ph : Bool) (ps : List PP), nm.size ≤ 1000 → ps.length + c ≤ 3 → PI b N (fun k => spec_l17DrawItems.l1 k n out (i : Int) (c : Int) b bi bh nm bt ph ps)
  | 0, bi, bh, hc, nm, bt, ph, ps, hnm, hps => PI.step (fun k => by rw [spec_l17DrawItems.l1]) (PI.neg (by omega) (items_j2 hl hi next _ _ hc _ _ _ _ hnm (by omega)))
  | c + 1, bi, bh, hc, nm, bt, ph, ps, hnm, hps => by
    have hw : wrap64 (((c + 1 : Nat) : Int) - 1) = (c : Int) := by rw [wrap_id (by omega) (by omega)]; omega
    refine PI.step (fun k => by rw [spec_l17DrawItems.l1]) (PI.pos (by omega) ?_)
    by_cases cc : (i : Int) < wrap64 (n - 1)
    · obtain ⟨p0, p1, p2, p3, p4, p5, i2, h2, e2, c2⟩ := part_ok b bi bh hc (i : Int) n
      refine PI.pos cc (PI.bind e2 (PI.pos (by omega) ?_))
      simp only [hw]
      exact items_l1 c _ _ c2 _ _ _ _ hnm (by rw [List.length_append]; simp only [List.length_cons, List.length_nil]; omega)
    · exact PI.neg cc (items_j2 hl hi next _ _ hc _ _ _ _ hnm (by omega))
end
theorem items_l0 (b : List Int) (n : Nat) (hn : n ≤ 100) : ∀ (d i : Nat) (out : List II) (bi bh : Int), i + d = n → Cu b bi → out.length = i → (∀ x ∈ out, BI 1000 x) → PI b n (fun k => spec_l17DrawItems.l0 k (n : Int) out (i : Int) b bi bh)
  | 0, i, out, bi, bh, hd, hc, hl, hall => ⟨out, bi, bh, Ev.step (fun k => by rw [spec_l17DrawItems.l0]) (ev_neg (by omega) (Ev.now _)), hc, by omega, hall⟩
  | d + 1, i, out, bi, bh, hd, hc, hl, hall => by
    have ht := l1Text_ev i (by omega)
    have hz := dec_size i
    obtain ⟨t, i1, h1, e1, c1, _⟩ := pickInt_ok b bi bh [1, 1, 1, 5, 12] (by decide) hc
    obtain ⟨m, i2, h2, e2, c2, m0, m1, _⟩ := below_ok b i1 h1 4 c1
    have m2 := m1 (by omega)
    obtain ⟨q, rfl⟩ : ∃ q : Nat, m = (q : Int) := ⟨m.toNat, by omega⟩
    refine PI.step (fun k => by rw [spec_l17DrawItems.l0]) (PI.pos (by omega) ?_)
    refine PI.bind ht ?_
    refine PI.pos (by omega) ?_
    refine PI.bind0 e1 ?_
    refine PI.bind0 e2 ?_
    refine items_l1 (by omega) (by omega) (fun x bi' bh' hc' hx => items_l0 b n hn d (i + 1) (out ++ [x]) bi' bh' (by omega) hc' (by rw [List.length_append]; simp only [List.length_cons, List.length_nil]; omega) ?_) q _ _ c2 _ _ _ _ ?_ (by show 0 + q ≤ 3; omega)
    · intro y hy
      rcases List.mem_append.1 hy with hy | hy
      · exact hall y hy
      · rw [List.mem_singleton.1 hy]; exact hx
    · rw [ByteArray.size_append]
      have : (⟨#[105]⟩ : ByteArray).size = 1 := rfl
      omega
theorem items_draw (b : List Int) (bi bh a : Int) (hc : Cu b bi) (ha : 2 ≤ a) (ha1 : a ≤ 50) : ∃ N, 2 ≤ N ∧ N ≤ 100 ∧ PI b N (fun k => spec_l17DrawItems.f k b bi bh a) := by
  obtain ⟨x, i1, h1, e1, c1, x0, x1, _⟩ := below_ok b bi bh a hc
  have x2 := x1 (by omega)
  obtain ⟨n, hn⟩ : ∃ n : Nat, wrap64 (2 + x) = (n : Int) ∧ 2 ≤ n ∧ n ≤ 100 := ⟨(2 + x).toNat, by rw [wrap_id (by omega) (by omega)]; omega, by omega, by omega⟩
  refine ⟨n, hn.2.1, hn.2.2, ?_⟩
  unfold spec_l17DrawItems.f
  refine PI.bind0 e1 ?_
  simp only [hn.1]
  exact items_l0 b n hn.2.2 n 0 [] _ _ (by omega) c1 rfl (fun x hx => by cases hx)
theorem BI.more {n : Int} {x : II} (h : BI 1000 x) : BI 1048576 x := ⟨by have := h.1; omega, by have := h.2.1; omega, by have := h.2.2; omega⟩
theorem set_all {P : II → Prop} {l : List II} (h : ∀ x ∈ l, P x) (i : Nat) {y : II} (hy : P y) : ∀ x ∈ l.set i y, P x := by
  intro x hx
  rcases List.mem_or_eq_of_mem_set hx with hx | hx
  · exact h x hx
  · rw [hx]; exact hy
/-- What was spoiled. -/
theorem spoil_ok (b : List Int) (bi bh : Int) (hc : Cu b bi) (l : List II) (h1 : 2 ≤ l.length) (h2 : l.length ≤ 100) (hall : ∀ x ∈ l, BI 1000 x) :
    ∃ r i' h', spec_l17Spoil.f b bi bh l = some (r, i', h') ∧ r.length ≤ 100 ∧ ∀ x ∈ r, BI 1048576 x := by
  have hall' : ∀ x ∈ l, BI 1048576 x := fun x hx => BI.more (n := 0) (hall x hx)
  obtain ⟨v, i1, h1', e1, c1⟩ := once_ok b bi bh 15 hc
  unfold spec_l17Spoil.f
  rw [e1, Option.bind_some]
  cases v with
  | false => exact ⟨_, _, _, rfl, h2, hall'⟩
  | true =>
    obtain ⟨q, i2, h2', e2, c2, q0, q1, _⟩ := below_ok b i1 h1' (l.length : Int) c1
    have q2 := q1 (by omega)
    obtain ⟨m, i3, h3', e3, c3, m0, m1, _⟩ := below_ok b i2 h2' 7 c2
    rw [if_pos rfl, e2, Option.bind_some, e3, Option.bind_some]
    by_cases c6 : m = 6
    · rw [if_pos c6]
      exact ⟨_, _, _, rfl, by simp, fun x hx => by cases hx⟩
    rw [if_neg c6, if_pos ⟨q0, q2⟩]
    have hq : q.toNat < l.length := by omega
    have hx : rd_T52 l q ∈ l := by
      have : rd_T52 l ((q.toNat : Nat) : Int) = l[q.toNat] := getD_at hq _
      rw [show ((q.toNat : Nat) : Int) = q by omega] at this
      rw [this]
      exact List.getElem_mem hq
    have hb := hall _ hx
    generalize rd_T52 l q = x at hx hb ⊢
    have ln : ∀ y, (l.set q.toNat y).length ≤ 100 := fun y => by rw [List.length_set]; exact h2
    obtain ⟨b0, b1, b2⟩ := hb
    have w0 : (x.f0.size : Int) ≤ 1048576 := by omega
    have w1 : (x.f3.length : Int) ≤ 1048576 := by omega
    have w2 : (x.f4.length : Int) ≤ 1048576 := by omega
    unfold spoilEl
    by_cases d0 : m = 0
    · obtain ⟨s, i4, h4, e4, c4, hs⟩ := pick_ok b i3 h3' [(⟨#[]⟩ : ByteArray), (⟨#[105, 48]⟩ : ByteArray), (⟨#[105, 49]⟩ : ByteArray)] (by decide) c3
      rw [if_pos d0, e4, Option.bind_some]
      refine ⟨_, _, _, rfl, ln _, set_all hall' _ ⟨?_, w1, w2⟩⟩
      show (s.size : Int) ≤ 1048576
      simp only [List.mem_cons, List.not_mem_nil, or_false] at hs
      rcases hs with rfl | rfl | rfl <;> decide
    rw [if_neg d0]
    by_cases d1 : m = 1
    · obtain ⟨s, i4, h4, e4, c4, _⟩ := pickInt_ok b i3 h3' [0, 1000000, 1000001] (by decide) c3
      rw [if_pos d1, e4, Option.bind_some]
      exact ⟨_, _, _, rfl, ln _, set_all hall' _ ⟨w0, w1, w2⟩⟩
    rw [if_neg d1]
    by_cases d2 : m = 2
    · rw [if_pos d2]
      exact ⟨_, _, _, rfl, ln _, set_all hall' _ ⟨w0, w1, w2⟩⟩
    rw [if_neg d2]
    by_cases d3 : m = 3
    · obtain ⟨s, i4, h4, e4, c4, _⟩ := pickInt_ok b i3 h3' [q, 0, (l.length : Int)] (by simp) c3
      rw [if_pos d3, if_pos (by omega), e4, Option.bind_some]
      refine ⟨_, _, _, rfl, ln _, set_all hall' _ ⟨w0, ?_, w2⟩⟩
      show ((x.f3 ++ [_]).length : Int) ≤ 1048576
      rw [List.length_append]
      simp only [List.length_cons, List.length_nil]
      omega
    rw [if_neg d3]
    by_cases d4 : m = 4
    · rw [if_pos d4]
      by_cases cp : 0 < x.f3.length
      · obtain ⟨s, i4, h4, e4, c4, _⟩ := pickInt_ok b i3 h3' [0, 1000000, 1000001] (by decide) c3
        rw [if_pos cp, e4, Option.bind_some]
        exact ⟨_, _, _, rfl, ln _, set_all hall' _ ⟨w0, by show ((x.f3.set 0 _).length : Int) ≤ 1048576; rw [List.length_set]; exact w1, w2⟩⟩
      · rw [if_neg cp]
        exact ⟨_, _, _, rfl, h2, hall'⟩
    rw [if_neg d4]
    by_cases d5 : m = 5
    · rw [if_pos d5]
      by_cases cp : 0 < x.f3.length
      · obtain ⟨s, i4, h4, e4, c4, _⟩ := pickInt_ok b i3 h3' [-1, 100, 101] (by decide) c3
        rw [if_pos cp, e4, Option.bind_some]
        exact ⟨_, _, _, rfl, ln _, set_all hall' _ ⟨w0, by show ((x.f3.set 0 _).length : Int) ≤ 1048576; rw [List.length_set]; exact w1, w2⟩⟩
      · rw [if_neg cp]
        exact ⟨_, _, _, rfl, h2, hall'⟩
    rw [if_neg d5]
    exact ⟨_, _, _, rfl, h2, hall'⟩
theorem levels_draw (code : List Int) (hl : (code.length : Int) ≤ 1048576) : ∃ l, Ev (fun k => spec_DrawLevels.f k code) l ∧ l.length ≤ 100 ∧ ∀ x ∈ l, BI 1048576 x := by
  obtain ⟨h, e1⟩ := new_ok code (by omega)
  have hc : Cu code 0 := ⟨by omega, by omega, by omega⟩
  obtain ⟨s, e2, s0, s1⟩ := size_ok code 8 (by omega) hl
  obtain ⟨N, n0, n1, r, i', h', e3, c3, hr, hb⟩ := items_draw code 0 h s hc s0 (by omega)
  obtain ⟨q, i4, h4, e4, q1, q2⟩ := spoil_ok code i' h' c3 r (by omega) (by omega) hb
  refine ⟨q, ?_, q1, q2⟩
  unfold spec_DrawLevels.f
  exact Ev.bind e1 (ev_bind0 e2 (Ev.bind e3 (ev_bind0 e4 (Ev.now _))))
/-! ### The levels -/
theorem rd_set (lv : List Int) (t : Nat) (v : Int) (h : t < lv.length) (s : Nat) : rd (lv.set t v) (s : Int) = if s = t then v else rd lv (s : Int) := by
  unfold rd
  simp only [Int.toNat_natCast, List.getD_eq_getElem?_getD, List.getElem?_set]
  by_cases c : s = t
  · rw [if_pos c, if_pos c.symm, if_pos h]; rfl
  · rw [if_neg c, if_neg (fun e => c e.symm)]
theorem rdB_set (lv : List Bool) (t : Nat) (v : Bool) (h : t < lv.length) (s : Nat) : rdOf false (lv.set t v) (s : Int) = if s = t then v else rdOf false lv (s : Int) := by
  unfold rdOf
  simp only [Int.toNat_natCast, List.getD_eq_getElem?_getD, List.getElem?_set]
  by_cases c : s = t
  · rw [if_pos c, if_pos c.symm, if_pos h]; rfl
  · rw [if_neg c, if_neg (fun e => c e.symm)]
/-- Item m has t as a part, told before part j of item i. -/
def Ed (l : List II) (i j m t : Nat) : Prop := ∃ (x : II) (q : Nat) (y : PP), l[m]? = some x ∧ x.f3[q]? = some y ∧ y.f0 = (t : Int) ∧ (m < i ∨ m = i ∧ q < j)
theorem Ed.next {l : List II} {i : Nat} (m t : Nat) (hi : i < l.length) : Ed l i l[i].f3.length m t ↔ Ed l (i + 1) 0 m t := by
  constructor
  · rintro ⟨x, q, y, h1, h2, h3, h4⟩
    exact ⟨x, q, y, h1, h2, h3, .inl (by omega)⟩
  · rintro ⟨x, q, y, h1, h2, h3, h4⟩
    refine ⟨x, q, y, h1, h2, h3, ?_⟩
    rcases Nat.lt_or_ge m i with h | h
    · exact .inl h
    · have e : m = i := by omega
      subst e
      rw [List.getElem?_eq_getElem hi] at h1
      obtain rfl := Option.some.inj h1
      exact .inr ⟨rfl, (List.getElem?_eq_some_iff.1 h2).1⟩
theorem Ed.more {l : List II} {i j : Nat} {p : PP} (hi : i < l.length) (hj : l[i].f3[j]? = some p) {t0 : Nat} (ht : p.f0 = (t0 : Int)) (m t : Nat) : Ed l i (j + 1) m t ↔ Ed l i j m t ∨ m = i ∧ t = t0 := by
  constructor
  · rintro ⟨x, q, y, h1, h2, h3, h4⟩
    rcases h4 with h4 | ⟨rfl, h4⟩
    · exact .inl ⟨x, q, y, h1, h2, h3, .inl h4⟩
    · rcases Nat.lt_or_ge q j with h | h
      · exact .inl ⟨x, q, y, h1, h2, h3, .inr ⟨rfl, h⟩⟩
      · have e : q = j := by omega
        subst e
        rw [List.getElem?_eq_getElem hi] at h1
        obtain rfl := Option.some.inj h1
        rw [hj] at h2
        obtain rfl := Option.some.inj h2
        exact .inr ⟨rfl, by omega⟩
  · rintro (⟨x, q, y, h1, h2, h3, h4⟩ | ⟨rfl, rfl⟩)
    · exact ⟨x, q, y, h1, h2, h3, by omega⟩
    · exact ⟨_, j, p, List.getElem?_eq_getElem hi, hj, ht, .inr ⟨rfl, by omega⟩⟩
/-- Every part lies behind what it is part of. -/
def Right (l : List II) : Prop := ∀ (i : Nat) (hi : i < l.length), (∀ p ∈ l[i].f3, PartIs (i : Int) (l.length : Int) p) ∧ (l[i].f3.length : Int) ≤ 30
theorem Ed.lt {l : List II} (hr : Right l) {i j m t : Nat} (h : Ed l i j m t) : m < t ∧ t < l.length ∧ m ≤ i := by
  obtain ⟨x, q, y, h1, h2, h3, h4⟩ := h
  obtain ⟨hm, rfl⟩ := List.getElem?_eq_some_iff.1 h1
  have := ((hr m hm).1 y (List.mem_of_getElem? h2)).1
  omega
/-- The levels so far. -/
structure Lv (l : List II) (i j : Nat) (lv : List Int) : Prop where
  len : lv.length = l.length
  rng : ∀ s, s < l.length → 0 ≤ rd lv (s : Int) ∧ rd lv (s : Int) ≤ (i : Int) + 1
  own : i < l.length → rd lv (i : Int) ≤ (i : Int)
  low : ∀ m t, Ed l i j m t → rd lv (m : Int) + 1 ≤ rd lv (t : Int)
  one : ∀ t, (∃ m, Ed l i j m t) → ∃ m, Ed l i j m t ∧ rd lv (t : Int) = rd lv (m : Int) + 1
  non : ∀ t, t < l.length → (¬ ∃ m, Ed l i j m t) → rd lv (t : Int) = 0
theorem Lv.put {l : List II} (hr : Right l) {i j : Nat} {lv : List Int} (h : Lv l i j lv) (hi : i < l.length) {p : PP} (hj : l[i].f3[j]? = some p) {t : Nat} (ht : p.f0 = (t : Int)) (hit : i < t) (htn : t < l.length) (c : rd lv (t : Int) < rd lv (i : Int) + 1) : Lv l i (j + 1) (lv.set t (rd lv (i : Int) + 1)) := by
  have hs : ∀ s : Nat, rd (lv.set t (rd lv (i : Int) + 1)) (s : Int) = if s = t then rd lv (i : Int) + 1 else rd lv (s : Int) := rd_set lv t _ (by rw [h.len]; exact htn)
  have hm := Ed.more hi hj ht
  have hlt : ∀ m s, Ed l i j m s → m < t := fun m s e => by have := (Ed.lt hr e).2.2; omega
  have hi0 := h.own hi
  have hi1 := (h.rng i hi).1
  refine ⟨by rw [List.length_set]; exact h.len, fun s hs' => ?_, fun _ => ?_, fun m s e => ?_, fun s ⟨m, e⟩ => ?_, fun s hs' hn => ?_⟩
  · rw [hs]
    by_cases q : s = t
    · rw [if_pos q]; omega
    · rw [if_neg q]; exact h.rng s hs'
  · rw [hs, if_neg (by omega)]; exact hi0
  · rcases (hm m s).1 e with e | ⟨rfl, rfl⟩
    · have e1 := h.low m s e
      have e2 := hlt m s e
      rw [hs, hs, if_neg (by omega)]
      by_cases q : s = t
      · subst q; rw [if_pos rfl]; omega
      · rw [if_neg q]; exact e1
    · rw [hs, hs, if_neg (by omega), if_pos rfl]; omega
  · by_cases q : s = t
    · subst q
      exact ⟨i, (hm i s).2 (.inr ⟨rfl, rfl⟩), by rw [hs, hs, if_pos rfl, if_neg (by omega)]⟩
    · have e' : ∃ m, Ed l i j m s := by
        rcases (hm m s).1 e with e | ⟨_, e⟩
        · exact ⟨m, e⟩
        · exact absurd e q
      obtain ⟨m', e1, e2⟩ := h.one s e'
      have e3 := hlt m' s e1
      exact ⟨m', (hm m' s).2 (.inl e1), by rw [hs, hs, if_neg q, if_neg (by omega)]; exact e2⟩
  · have q : s ≠ t := fun q => hn ⟨i, (hm i s).2 (.inr ⟨rfl, q⟩)⟩
    rw [hs, if_neg q]
    exact h.non s hs' (fun ⟨m, e⟩ => hn ⟨m, (hm m s).2 (.inl e)⟩)
theorem Lv.skip {l : List II} (hr : Right l) {i j : Nat} {lv : List Int} (h : Lv l i j lv) (hi : i < l.length) {p : PP} (hj : l[i].f3[j]? = some p) {t : Nat} (ht : p.f0 = (t : Int)) (hit : i < t) (htn : t < l.length) (c : ¬ rd lv (t : Int) < rd lv (i : Int) + 1) : Lv l i (j + 1) lv := by
  have hm := Ed.more hi hj ht
  have hi1 := (h.rng i hi).1
  refine ⟨h.len, h.rng, h.own, fun m s e => ?_, fun s ⟨m, e⟩ => ?_, fun s hs' hn => h.non s hs' (fun ⟨m, e⟩ => hn ⟨m, (hm m s).2 (.inl e)⟩)⟩
  · rcases (hm m s).1 e with e | ⟨rfl, rfl⟩
    · exact h.low m s e
    · omega
  · by_cases q : ∃ m, Ed l i j m s
    · obtain ⟨m', e1, e2⟩ := h.one s q
      exact ⟨m', (hm m' s).2 (.inl e1), e2⟩
    · rcases (hm m s).1 e with e | ⟨rfl, rfl⟩
      · exact absurd ⟨m, e⟩ q
      · have := h.non s htn q
        omega
theorem Lv.next {l : List II} {i : Nat} {lv : List Int} (hi : i < l.length) (h : Lv l i l[i].f3.length lv) : Lv l (i + 1) 0 lv := by
  have hm := fun m t => Ed.next (l := l) m t hi
  refine ⟨h.len, fun s hs => by have := h.rng s hs; omega, fun h1 => by have := (h.rng (i + 1) h1).2; omega, fun m t e => h.low m t ((hm m t).2 e), fun t ⟨m, e⟩ => ?_, fun t ht hn => h.non t ht (fun ⟨m, e⟩ => hn ⟨m, (hm m t).1 e⟩)⟩
  obtain ⟨m', e1, e2⟩ := h.one t ⟨m, (hm m t).2 e⟩
  exact ⟨m', (hm m' t).1 e1, e2⟩
theorem lv_in (l : List II) (hl : (l.length : Int) ≤ 60) (hr : Right l) (i : Nat) (hi : i < l.length) (R : List Int → Prop)
    (hk : ∀ lv : List Int, Lv l (i + 1) 0 lv → ∃ r, R r ∧ Ev (fun k => impl_levels.l0 k lv l (l.length : Int) ((i + 1 : Nat) : Int)) r) :
    ∀ (d j : Nat) (lv : List Int), j + d = l[i].f3.length → Lv l i j lv → ∃ r, R r ∧ Ev (fun k => impl_levels.l1 k lv (i : Int) l (l.length : Int) (i : Int) l[i].f3 (l[i].f3.length : Int) (j : Int)) r := by
  intro d
  induction d with
  | zero =>
    intro j lv hd hlv
    have hj : j = l[i].f3.length := by omega
    rw [hj] at hlv
    obtain ⟨r, h0, h2⟩ := hk lv (hlv.next hi)
    have hw : wrap64 ((i : Int) + 1) = ((i + 1 : Nat) : Int) := wrap_succ hi (by omega)
    refine ⟨r, h0, Ev.step (fun k => by rw [impl_levels.l1]) ?_⟩
    simp only [hw]
    exact ev_neg (by omega) h2
  | succ d ih =>
    intro j lv hd hlv
    have hj : j < l[i].f3.length := by omega
    have hrj : rd_T54 l[i].f3 (j : Int) = l[i].f3[j] := getD_at hj _
    have hp := (hr i hi).1 l[i].f3[j] (List.getElem_mem hj)
    have hp0 := hp.1
    obtain ⟨t, ht⟩ : ∃ t : Nat, l[i].f3[j].f0 = (t : Int) := ⟨l[i].f3[j].f0.toNat, by omega⟩
    have hg : l[i].f3[j]? = some l[i].f3[j] := List.getElem?_eq_getElem hj
    have hit : i < t := by omega
    have htn : t < l.length := by omega
    have h1 := hlv.rng i hi
    have hll := hlv.len
    have c1 : (j : Int) < (l[i].f3.length : Int) := by omega
    have c2 : (0 : Int) ≤ (j : Int) := by omega
    have c3 : (0 : Int) ≤ (t : Int) := by omega
    have c4 : (t : Int) < (lv.length : Int) := by omega
    have c5 : (0 : Int) ≤ (i : Int) := by omega
    have c6 : (i : Int) < (lv.length : Int) := by omega
    have h30 := (hr i hi).2
    have hw : wrap64 ((j : Int) + 1) = ((j + 1 : Nat) : Int) := wrap_succ hj (by omega)
    have hw1 : wrap64 (rd lv (i : Int) + 1) = rd lv (i : Int) + 1 := wrap_id (by omega) (by omega)
    by_cases c : rd lv (t : Int) < rd lv (i : Int) + 1
    · obtain ⟨r, h0, h2⟩ := ih (j + 1) _ (by omega) (hlv.put hr hi hg ht hit htn c)
      refine ⟨r, h0, Ev.step (fun k => by rw [impl_levels.l1]) ?_⟩
      simp only [hrj, ht, hw1, hw, Int.toNat_natCast]
      exact ev_pos c1 (ev_pos c2 (ev_pos c1 (ev_pos c3 (ev_pos c4 (ev_pos c5 (ev_pos c6 (ev_pos c h2)))))))
    · obtain ⟨r, h0, h2⟩ := ih (j + 1) _ (by omega) (hlv.skip hr hi hg ht hit htn c)
      refine ⟨r, h0, Ev.step (fun k => by rw [impl_levels.l1]) ?_⟩
      simp only [hrj, ht, hw1, hw, Int.toNat_natCast]
      exact ev_pos c1 (ev_pos c2 (ev_pos c1 (ev_pos c3 (ev_pos c4 (ev_pos c5 (ev_pos c6 (ev_neg c h2)))))))
theorem lv_out (l : List II) (hl : (l.length : Int) ≤ 60) (hr : Right l) : ∀ (d i : Nat) (lv : List Int), i + d = l.length → Lv l i 0 lv → ∃ r, Lv l l.length 0 r ∧ Ev (fun k => impl_levels.l0 k lv l (l.length : Int) (i : Int)) r := by
  intro d
  induction d with
  | zero =>
    intro i lv hd hlv
    obtain rfl : i = l.length := by omega
    exact ⟨lv, hlv, Ev.step (fun k => by rw [impl_levels.l0]) (ev_neg (by omega) (Ev.now _))⟩
  | succ d ih =>
    intro i lv hd hlv
    have hi : i < l.length := by omega
    have hrd : rd_T52 l (i : Int) = l[i] := getD_at hi _
    obtain ⟨r, h0, h2⟩ := lv_in l hl hr i hi (fun r => Lv l l.length 0 r) (fun lv' h => ih (i + 1) lv' (by omega) h) l[i].f3.length 0 lv (by omega) hlv
    refine ⟨r, h0, Ev.step (fun k => by rw [impl_levels.l0]) ?_⟩
    simp only [hrd]
    exact ev_pos (by omega) (ev_pos (by omega) (ev_pos (by omega) h2))
theorem Ed.none {l : List II} {m t : Nat} : ¬ Ed l 0 0 m t := by
  rintro ⟨x, q, y, _, _, _, h⟩
  omega
theorem rd_zeros (n s : Nat) : rd (List.replicate n 0) (s : Int) = 0 := by
  unfold rd
  rw [Int.toNat_natCast, List.getD_eq_getElem?_getD, List.getElem?_replicate]
  split <;> rfl
theorem rdB_zeros (n s : Nat) : rdOf false (List.replicate n false) (s : Int) = false := by
  unfold rdOf
  rw [Int.toNat_natCast, List.getD_eq_getElem?_getD, List.getElem?_replicate]
  split <;> rfl
theorem lv_ev (l : List II) (hl : (l.length : Int) ≤ 60) (hr : Right l) : ∃ r, Lv l l.length 0 r ∧ Ev (fun k => impl_levels.f k l) r := by
  obtain ⟨r, h0, h2⟩ := lv_out l hl hr l.length 0 (List.replicate l.length 0) (by omega)
    ⟨by rw [List.length_replicate], fun s _ => by rw [rd_zeros]; omega, fun _ => by rw [rd_zeros]; omega, fun m t e => absurd e Ed.none, fun t ⟨m, e⟩ => absurd e Ed.none, fun t _ _ => rd_zeros _ _⟩
  have h2' : Ev (fun k => impl_levels.l0 k (List.replicate ((l.length : Int) : Int).toNat 0) l (l.length : Int) 0) r := by simpa using h2
  unfold impl_levels.f
  exact ⟨r, h0, ev_pos (by omega) (ev_pos (by omega) h2')⟩
/-! ### What the law looks at -/
structure Sn (l : List II) (r : List Int) (i j : Nat) (tg pt : List Bool) : Prop where
  tl : tg.length = l.length
  pl : pt.length = l.length
  part : ∀ t, t < l.length → (rdOf false pt (t : Int) = true ↔ ∃ m, Ed l i j m t)
  tight : ∀ t, t < l.length → (rdOf false tg (t : Int) = true ↔ ∃ m, Ed l i j m t ∧ rd r (t : Int) = rd r (m : Int) + 1)
theorem Sn.next {l : List II} {r : List Int} {i : Nat} {tg pt : List Bool} (hi : i < l.length) (h : Sn l r i l[i].f3.length tg pt) : Sn l r (i + 1) 0 tg pt := by
  have hm := fun m t => Ed.next (l := l) m t hi
  refine ⟨h.tl, h.pl, fun t ht => (h.part t ht).trans ⟨fun ⟨m, e⟩ => ⟨m, (hm m t).1 e⟩, fun ⟨m, e⟩ => ⟨m, (hm m t).2 e⟩⟩, fun t ht => (h.tight t ht).trans ⟨fun ⟨m, e, q⟩ => ⟨m, (hm m t).1 e, q⟩, fun ⟨m, e, q⟩ => ⟨m, (hm m t).2 e, q⟩⟩⟩
theorem law_end (l : List II) (hl : (l.length : Int) ≤ 60) (r : List Int) (hr : Lv l l.length 0 r) (tg pt : List Bool) (h : Sn l r l.length 0 tg pt) : ∀ (d i : Nat), i + d = l.length → Ev (fun k => laws_FnLevelled.l2 k l r tg pt (i : Int)) true := by
  intro d
  induction d with
  | zero =>
    intro i hd
    exact Ev.step (fun k => by rw [laws_FnLevelled.l2]) (ev_neg (by omega) (Ev.now _))
  | succ d ih =>
    intro i hd
    have hi : i < l.length := by omega
    have ht := h.tl
    have hp := h.pl
    have hl' := hr.len
    have g1 := ih (i + 1) (by omega)
    have hw : wrap64 ((i : Int) + 1) = ((i + 1 : Nat) : Int) := wrap_succ hi (by omega)
    rw [← hw] at g1
    have c1 : (i : Int) < (l.length : Int) := by omega
    have c2 : (0 : Int) ≤ (i : Int) := by omega
    have c3 : (i : Int) < (pt.length : Int) := by omega
    have c4 : (i : Int) < (tg.length : Int) := by omega
    have c5 : (i : Int) < (r.length : Int) := by omega
    clear hw
    refine Ev.step (fun k => by rw [laws_FnLevelled.l2]) (ev_pos c1 (ev_pos c2 (ev_pos c3 (ev_pos c4 ?_))))
    by_cases c : ∃ m, Ed l l.length 0 m i
    · have e1 := (h.part i hi).2 c
      have e2 := (h.tight i hi).2 (hr.one i c)
      exact ev_neg (by rw [e1, e2]; decide) (ev_pos e1 g1)
    · have e1 : rdOf false pt (i : Int) = false := by
        rw [Bool.eq_false_iff]
        exact fun e => c ((h.part i hi).1 e)
      have e2 : rdOf false tg (i : Int) = false := by
        rw [Bool.eq_false_iff]
        exact fun e => c (by obtain ⟨m, q, _⟩ := (h.tight i hi).1 e; exact ⟨m, q⟩)
      exact ev_neg (by rw [e1, e2]; decide) (ev_neg (by rw [e1]; decide) (ev_pos c5 (ev_pos (hr.non i hi c) g1)))
theorem law_in (l : List II) (hl : (l.length : Int) ≤ 60) (hR : Right l) (r : List Int) (hr : Lv l l.length 0 r) (i : Nat) (hi : i < l.length)
    (hk : ∀ tg pt, Sn l r (i + 1) 0 tg pt → Ev (fun k => laws_FnLevelled.l0 k l r tg pt ((i + 1 : Nat) : Int)) true) :
    ∀ (d j : Nat) (tg pt : List Bool), j + d = l[i].f3.length → Sn l r i j tg pt → Ev (fun k => laws_FnLevelled.l1 k l r tg pt (i : Int) (j : Int)) true := by
  have hrd : rd_T52 l (i : Int) = l[i] := getD_at hi _
  have c1 : (i : Int) < (l.length : Int) := by omega
  have c2 : (0 : Int) ≤ (i : Int) := by omega
  intro d
  induction d with
  | zero =>
    intro j tg pt hd h
    have hj : j = l[i].f3.length := by omega
    rw [hj] at h
    have hw : wrap64 ((i : Int) + 1) = ((i + 1 : Nat) : Int) := wrap_succ hi (by omega)
    have g1 := hk tg pt (h.next hi)
    rw [← hw] at g1
    clear hw
    refine Ev.step (fun k => by rw [laws_FnLevelled.l1]) ?_
    simp only [hrd]
    exact ev_pos c2 (ev_pos c1 (ev_neg (by omega) g1))
  | succ d ih =>
    intro j tg pt hd h
    have hj : j < l[i].f3.length := by omega
    have h30 := (hR i hi).2
    have hrj : rd_T54 l[i].f3 (j : Int) = l[i].f3[j] := getD_at hj _
    have hp := (hR i hi).1 l[i].f3[j] (List.getElem_mem hj)
    have hp0 := hp.1
    obtain ⟨t, ht⟩ : ∃ t : Nat, l[i].f3[j].f0 = (t : Int) := ⟨l[i].f3[j].f0.toNat, by omega⟩
    have hg : l[i].f3[j]? = some l[i].f3[j] := List.getElem?_eq_getElem hj
    have hit : i < t := by omega
    have htn : t < l.length := by omega
    have hm := Ed.more hi hg ht
    have hT := h.tl
    have hP := h.pl
    have hL := hr.len
    have hri := hr.rng i hi
    have hlow : rd r (i : Int) + 1 ≤ rd r (t : Int) := hr.low i t ⟨_, j, _, List.getElem?_eq_getElem hi, hg, ht, .inl hi⟩
    have d1 : (j : Int) < (l[i].f3.length : Int) := by omega
    have d2 : (0 : Int) ≤ (j : Int) := by omega
    have d3 : (0 : Int) ≤ (t : Int) := by omega
    have d4 : (t : Int) < (pt.length : Int) := by omega
    have d5 : (t : Int) < (r.length : Int) := by omega
    have d6 : (i : Int) < (r.length : Int) := by omega
    have d7 : (t : Int) < (tg.length : Int) := by omega
    have d8 : ¬ rd r (t : Int) < rd r (i : Int) + 1 := by omega
    have hw1 : wrap64 (rd r (i : Int) + 1) = rd r (i : Int) + 1 := wrap_id (by omega) (by omega)
    have hw : wrap64 ((j : Int) + 1) = ((j + 1 : Nat) : Int) := wrap_succ hj (by omega)
    have hpt : ∀ s, s < l.length → (rdOf false (pt.set t true) (s : Int) = true ↔ ∃ m, Ed l i (j + 1) m s) := by
      intro s hs
      rw [rdB_set pt t true (by omega) s]
      by_cases q : s = t
      · subst q; rw [if_pos rfl]; exact ⟨fun _ => ⟨i, (hm i s).2 (.inr ⟨rfl, rfl⟩)⟩, fun _ => rfl⟩
      · rw [if_neg q]
        refine (h.part s hs).trans ⟨fun ⟨m, e⟩ => ⟨m, (hm m s).2 (.inl e)⟩, fun ⟨m, e⟩ => ?_⟩
        rcases (hm m s).1 e with e | ⟨_, e⟩
        · exact ⟨m, e⟩
        · exact absurd e q
    by_cases c : rd r (t : Int) = rd r (i : Int) + 1
    · have g := ih (j + 1) (tg.set t true) (pt.set t true) (by omega) ⟨by rw [List.length_set]; exact hT, by rw [List.length_set]; exact hP, hpt, fun s hs => by
        rw [rdB_set tg t true (by omega) s]
        by_cases q : s = t
        · subst q; rw [if_pos rfl]; exact ⟨fun _ => ⟨i, (hm i s).2 (.inr ⟨rfl, rfl⟩), c⟩, fun _ => rfl⟩
        · rw [if_neg q]
          refine (h.tight s hs).trans ⟨fun ⟨m, e, w⟩ => ⟨m, (hm m s).2 (.inl e), w⟩, fun ⟨m, e, w⟩ => ?_⟩
          rcases (hm m s).1 e with e | ⟨_, e⟩
          · exact ⟨m, e, w⟩
          · exact absurd e q⟩
      refine Ev.step (fun k => by rw [laws_FnLevelled.l1]) ?_
      simp only [hrd, hrj, ht, hw1, hw, Option.bind_some, Int.toNat_natCast]
      exact ev_pos c2 (ev_pos c1 (ev_pos d1 (ev_pos d2 (ev_pos d3 (ev_pos d4 (ev_pos d5 (ev_pos d6 (ev_neg d8 (ev_pos c (ev_pos d7 g))))))))))
    · have g := ih (j + 1) tg (pt.set t true) (by omega) ⟨hT, by rw [List.length_set]; exact hP, hpt, fun s hs => by
        refine (h.tight s hs).trans ⟨fun ⟨m, e, w⟩ => ⟨m, (hm m s).2 (.inl e), w⟩, fun ⟨m, e, w⟩ => ?_⟩
        rcases (hm m s).1 e with e | ⟨rfl, rfl⟩
        · exact ⟨m, e, w⟩
        · exact absurd w c⟩
      refine Ev.step (fun k => by rw [laws_FnLevelled.l1]) ?_
      simp only [hrd, hrj, ht, hw1, hw, Option.bind_some, Int.toNat_natCast]
      exact ev_pos c2 (ev_pos c1 (ev_pos d1 (ev_pos d2 (ev_pos d3 (ev_pos d4 (ev_pos d5 (ev_pos d6 (ev_neg d8 (ev_neg c g)))))))))
theorem law_out (l : List II) (hl : (l.length : Int) ≤ 60) (hR : Right l) (r : List Int) (hr : Lv l l.length 0 r) : ∀ (d i : Nat) (tg pt : List Bool), i + d = l.length → Sn l r i 0 tg pt → Ev (fun k => laws_FnLevelled.l0 k l r tg pt (i : Int)) true := by
  intro d
  induction d with
  | zero =>
    intro i tg pt hd h
    obtain rfl : i = l.length := by omega
    have g := law_end l hl r hr tg pt h l.length 0 (by omega)
    have c : ¬ ((l.length : Nat) : Int) < (l.length : Int) := by omega
    refine Ev.step (fun k => by rw [laws_FnLevelled.l0]) ?_
    exact ev_neg c g
  | succ d ih =>
    intro i tg pt hd h
    have hi : i < l.length := by omega
    have c : (i : Int) < (l.length : Int) := by omega
    refine Ev.step (fun k => by rw [laws_FnLevelled.l0]) ?_
    exact ev_pos c (law_in l hl hR r hr i hi (fun tg' pt' h' => ih (i + 1) tg' pt' (by omega) h') l[i].f3.length 0 tg pt (by omega) h)
theorem items_right (l : List II) (hB : (l.length : Int) ≤ 1048576 ∧ ∀ x ∈ l, BI 1048576 x) (h : Ev (fun k => spec_ItemsOk.f k l) true) : (l.length : Int) ≤ 60 ∧ Right l := by
  unfold spec_ItemsOk.f at h
  by_cases c : 1 ≤ (l.length : Int) ∧ (l.length : Int) ≤ 60
  · rcases spec_items l c.2 hB.2 with ⟨p1, _⟩ | ⟨_, s1⟩
    · exact ⟨c.2, fun i hi => ⟨(p1 i hi).2.2.1, by have := (p1 i hi).1.2.2.1; omega⟩⟩
    · have := ev_unique h (ev_bind0 (spec_l1In_eq ..) (ev_pos (decide_eq_true c) s1))
      cases this
  · have := ev_unique h (ev_bind0 (spec_l1In_eq ..) (ev_neg (by rw [decide_eq_false c]; decide) (Ev.now _)))
    cases this
theorem FnLevelled : laws_FnLevelled.Pure := by
  intro code h0 h1 h2
  apply Ev.rounds
  unfold laws_FnLevelled.f laws_big.f
  refine ev_bind0 rfl ?_
  by_cases cb : (code.length : Int) > 1048576
  · exact ev_pos (decide_eq_true cb) (Ev.now _)
  refine ev_neg (by rw [decide_eq_false cb]; decide) ?_
  obtain ⟨l, e1, l0, l1⟩ := levels_draw code (by omega)
  have hB : (l.length : Int) ≤ 1048576 ∧ ∀ x ∈ l, BI 1048576 x := ⟨by omega, l1⟩
  obtain ⟨b, s1, s2⟩ := items_ev l hB
  refine Ev.bind e1 ?_
  unfold impl_Levels.f
  cases b with
  | false =>
    have el : Ev (fun k => (impl_ItemsOk.f k l).bind fun t259 => (if t259 = true then ((impl_levels.f k l).bind fun t260 => (some t260)) else (some ([] : List Int)))) [] := Ev.bind s2 (ev_neg (by decide) (Ev.now _))
    exact Ev.bind el (Ev.bind s1 (ev_neg (by decide) (Ev.now _)))
  | true =>
    obtain ⟨hl, hR⟩ := items_right l hB s1
    obtain ⟨r, hr, er⟩ := lv_ev l hl hR
    have el : Ev (fun k => (impl_ItemsOk.f k l).bind fun t259 => (if t259 = true then ((impl_levels.f k l).bind fun t260 => (some t260)) else (some ([] : List Int)))) r := Ev.bind s2 (ev_pos rfl (Ev.bind er (Ev.now _)))
    have hlen := hr.len
    refine Ev.bind el (Ev.bind s1 (ev_pos rfl (ev_pos (by omega) (ev_pos (by omega) (ev_pos (by omega) ?_)))))
    have := law_out l hl hR r hr l.length 0 (List.replicate l.length false) (List.replicate l.length false) (by omega)
      ⟨by rw [List.length_replicate], by rw [List.length_replicate], fun t _ => by rw [rdB_zeros]; exact ⟨fun e => (by cases e), fun ⟨m, e⟩ => absurd e Ed.none⟩, fun t _ => by rw [rdB_zeros]; exact ⟨fun e => (by cases e), fun ⟨m, e, _⟩ => absurd e Ed.none⟩⟩
    simpa using this
end Go.Proofs.Ytkkdmmefnicmaaa.Pure
