/- Units: by each of drawn conversions alone a quantity told in the other unit, and back again, is what it was. -/
import Derived.Test.YtkkdmmefnicmaaaZPFnUnitsx9
import Derived.Test.YtkkdmmefnicmaaaZHFnUnits
set_option maxHeartbeats 4000000
set_option linter.unusedVariables false
set_option linter.unusedSimpArgs false
set_option linter.unusedSectionVars false
namespace Go.Proofs.Ytkkdmmefnicmaaa.Pure
open Go.RowKit Go.Proofs.Ytkkdmmefnicmaaa.PFnUnits Go.Proofs.YtkkdmmefnicmaaaW.PrintWords Go.Proofs.YtkkdmmefnicmaaaW.PrintLast Go.Proofs.Ytkkdmmefnicmaaa.XEv
/-! ### Draws -/
theorem and255 (n : Int) : Go.bits .and .i64 n 255 = n % 256 := by
  have h255 : (BitVec.ofInt 64 255).toNat = 2 ^ 8 - 1 := by decide
  have key : (BitVec.ofInt 64 n &&& BitVec.ofInt 64 255).toNat = (n % ((2 ^ 64 : Nat) : Int)).toNat % 2 ^ 8 := by
    rw [BitVec.toNat_and, BitVec.toNat_ofInt, h255, Nat.and_two_pow_sub_one_eq_mod]
  show IntKind.i64.wrap ((BitVec.ofInt 64 n &&& BitVec.ofInt 64 255).toNat : Nat) = n % 256
  rw [key, IntKind.wrap_i64]
  omega
/-- A draw's state: where it stands in its bytes. -/
def Cu (b : List Int) (i : Int) : Prop := 0 ≤ i ∧ i ≤ (b.length : Int) ∧ (b.length : Int) ≤ 140737488351232
theorem byte_ok (b : List Int) (i h : Int) (hc : Cu b i) : ∃ x i' h', spec_l1Byte.f b i h = some (x, i', h') ∧ 0 ≤ x ∧ x ≤ 255 ∧ Cu b i' := by
  obtain ⟨h0, h1, h2⟩ := hc
  unfold spec_l1Byte.f
  simp only [and255]
  by_cases c : i < (b.length : Int)
  · rw [if_pos c, if_pos h0]
    refine ⟨_, _, _, rfl, Int.emod_nonneg _ (by decide), ?_, ?_⟩
    · have := Int.emod_lt_of_pos (wrap64 (Go.bits .xor .i64 ((wrap64 ((wrap64 (h * 6364136223846793005)) + 1442695040888963407)) / 8589934592) ((wrap64 ((wrap64 (h * 6364136223846793005)) + 1442695040888963407)) / 35184372088832) % 256 + (wrap64 (rd b i)))) (show (0 : Int) < 256 by decide)
      exact Int.le_of_lt_add_one this
    · rw [wrap_id (by omega) (by omega)]
      exact ⟨by omega, by omega, h2⟩
  · rw [if_neg c]
    refine ⟨_, _, _, rfl, Int.emod_nonneg _ (by decide), ?_, h0, h1, h2⟩
    exact Int.le_of_lt_add_one (Int.emod_lt_of_pos _ (show (0 : Int) < 256 by decide))
theorem below_ok (b : List Int) (i h n : Int) (hc : Cu b i) : ∃ x i' h', spec_l1Below.f b i h n = some (x, i', h') ∧ Cu b i' ∧ 0 ≤ x ∧ (0 < n → x < n) ∧ (n ≤ 0 → x = 0) := by
  unfold spec_l1Below.f
  by_cases c0 : n ≤ 0
  · exact ⟨0, i, h, if_pos c0, hc, by decide, fun h => by omega, fun _ => rfl⟩
  rw [if_neg c0]
  obtain ⟨x1, i1, h1, e1, a1, b1, c1⟩ := byte_ok b i h hc
  by_cases c : n ≤ 256
  · rw [if_pos c, e1, Option.bind_some, if_neg (by omega)]
    exact ⟨_, _, _, rfl, c1, Int.tmod_nonneg _ a1, fun _ => Int.tmod_lt_of_pos _ (by omega), fun h => absurd h c0⟩
  · obtain ⟨x2, i2, h2, e2, a2, b2, c2⟩ := byte_ok b i1 h1 c1
    obtain ⟨x3, i3, h3, e3, a3, b3, c3⟩ := byte_ok b i2 h2 c2
    obtain ⟨x4, i4, h4, e4, a4, b4, c4⟩ := byte_ok b i3 h3 c3
    rw [if_neg c, e1, Option.bind_some, e2, Option.bind_some, e3, Option.bind_some, e4, Option.bind_some, if_neg (by omega)]
    refine ⟨_, _, _, rfl, c4, Int.tmod_nonneg _ ?_, fun _ => Int.tmod_lt_of_pos _ (by omega), fun h => absurd h c0⟩
    rw [wrap_id (x := x1 * 16777216) (by omega) (by omega), wrap_id (x := x2 * 65536) (by omega) (by omega), wrap_id (x := x3 * 256) (by omega) (by omega), wrap_id (x := x1 * 16777216 + x2 * 65536) (by omega) (by omega), wrap_id (x := x1 * 16777216 + x2 * 65536 + x3 * 256) (by omega) (by omega), wrap_id (by omega) (by omega)]
    omega
theorem once_ok (b : List Int) (i h n : Int) (hc : Cu b i) : ∃ (v : Bool) (i' h' : Int), spec_l1Once.f b i h n = some (v, i', h') ∧ Cu b i' := by
  obtain ⟨x, i', h', e, c, _⟩ := below_ok b i h n hc
  unfold spec_l1Once.f
  rw [e]
  exact ⟨_, _, _, rfl, c⟩
theorem pickInt_ok (b : List Int) (i h : Int) (l : List Int) (hl : 0 < l.length) (hc : Cu b i) : ∃ s i' h', spec_l1PickInt.f b i h l = some (s, i', h') ∧ Cu b i' ∧ s ∈ l := by
  obtain ⟨x, i', h', e, c, x0, x1, _⟩ := below_ok b i h (l.length : Int) hc
  have := x1 (by omega)
  unfold spec_l1PickInt.f
  rw [e, Option.bind_some, if_pos x0, if_pos this]
  refine ⟨_, _, _, rfl, c, ?_⟩
  have hx : x.toNat < l.length := by omega
  have e2 := rd_at hx
  rw [show ((x.toNat : Nat) : Int) = x by omega] at e2
  show rd l x ∈ l
  rw [e2]
  exact List.getElem_mem hx
theorem spoil_ok (b : List Int) (i h a : Int) (l : List Int) (hl : 0 < l.length) (hc : Cu b i) : ∃ s i' h', spec_l1Spoil.f b i h a l = some (s, i', h') ∧ Cu b i' ∧ (s = a ∨ s ∈ l) := by
  obtain ⟨v, i1, h1, e, c⟩ := once_ok b i h 40 hc
  unfold spec_l1Spoil.f
  rw [e, Option.bind_some]
  by_cases cv : v = true
  · obtain ⟨s, i2, h2, e2, c2, m⟩ := pickInt_ok b i1 h1 l hl c
    rw [if_pos cv, e2]
    exact ⟨_, _, _, rfl, c2, .inr m⟩
  · rw [if_neg cv]
    exact ⟨_, _, _, rfl, c, .inl rfl⟩
theorem new_ok (l : List Int) (hl : (l.length : Int) ≤ 140737488351232) : ∃ h, Ev (fun k => spec_l1New.f k l) (l, 0, h) := by
  have go : ∀ (d i : Nat) (h : Int), i + d = l.length → ∃ h', Ev (fun k => spec_l1New.l0 k l h (i : Int)) (l, 0, h') := by
    intro d
    induction d with
    | zero =>
      intro i h hd
      refine ⟨h, Ev.step (fun k => by rw [spec_l1New.l0]) ?_⟩
      exact ev_neg (by omega) (Ev.now _)
    | succ d ih =>
      intro i h hd
      have hw : wrap64 ((i : Int) + 1) = ((i + 1 : Nat) : Int) := wrap_id (by omega) (by omega)
      by_cases c : (i : Int) < 4000
      · obtain ⟨h', hh⟩ := ih (i + 1) (Go.bits .and .i64 (wrap64 ((wrap64 ((wrap64 (h * 131)) + (wrap64 (rd l (i : Int))))) + 7)) 1073741823) (by omega)
        refine ⟨h', Ev.step (fun k => by rw [spec_l1New.l0]) ?_⟩
        simp only [hw]
        exact ev_pos (by omega) (ev_pos c (ev_pos (by omega) hh))
      · refine ⟨h, Ev.step (fun k => by rw [spec_l1New.l0]) ?_⟩
        exact ev_pos (by omega) (ev_neg c (Ev.now _))
  obtain ⟨h, hh⟩ := go l.length 0 (wrap64 (71933 + (l.length : Int))) (by omega)
  exact ⟨h, by unfold spec_l1New.f; exact hh⟩
/-! ### Quantities in other units -/
abbrev CV := S35
abbrev WS := S127
abbrev WI := S118
def ConvIs (x : CV) : Prop := NameIs x.f0 ∧ NameIs x.f1 ∧ x.f0 ≠ x.f1 ∧ (1 ≤ x.f2 ∧ x.f2 ≤ 10000) ∧ (1 ≤ x.f3 ∧ x.f3 ≤ 10000)
def toI (y : WS) : WI := ⟨y.f0, y.f1, y.f2, y.f3⟩
theorem rdC_at {l : List CV} {i : Nat} (h : i < l.length) : rd_T35 l (i : Int) = l[i] := by unfold rd_T35; rw [Int.toNat_natCast, getD_at h]
theorem rdS_at {l : List WS} {i : Nat} (h : i < l.length) : rd_T127 l (i : Int) = l[i] := by unfold rd_T127; rw [Int.toNat_natCast, getD_at h]
/-! ### By how much -/
theorem gcd_ev : ∀ (m : Nat) (a b : Int), b.toNat ≤ m → 0 < a → 0 ≤ b → ∃ g, Ev (fun k => spec_l15Gcd.l0 k a b) g ∧ Ev (fun k => impl_gcd.l0 k a b) g ∧ 0 < g ∧ g ∣ a ∧ g ∣ b ∧ ∀ e, e ∣ a → e ∣ b → e ∣ g := by
  intro m
  induction m with
  | zero =>
    intro a b hm ha hb
    have : b = 0 := by omega
    subst this
    exact ⟨a, Ev.step (fun k => by rw [spec_l15Gcd.l0]) (ev_pos rfl (Ev.now _)), Ev.step (fun k => by rw [impl_gcd.l0]) (ev_pos rfl (Ev.now _)), ha, Int.dvd_refl _, Int.dvd_zero _, fun e h _ => h⟩
  | succ m ih =>
    intro a b hm ha hb
    by_cases c : b = 0
    · subst c
      exact ⟨a, Ev.step (fun k => by rw [spec_l15Gcd.l0]) (ev_pos rfl (Ev.now _)), Ev.step (fun k => by rw [impl_gcd.l0]) (ev_pos rfl (Ev.now _)), ha, Int.dvd_refl _, Int.dvd_zero _, fun e h _ => h⟩
    · have e : Int.tmod a b = a % b := Int.tmod_eq_emod_of_nonneg (by omega)
      have h0 := Int.emod_nonneg a c
      have h1 := Int.emod_lt_of_pos a (show 0 < b by omega)
      obtain ⟨g, g1, g2, g3, g4, g5, g6⟩ := ih b (a % b) (by omega) (by omega) h0
      refine ⟨g, Ev.step (fun k => by rw [spec_l15Gcd.l0]) (ev_neg c ?_), Ev.step (fun k => by rw [impl_gcd.l0]) (ev_neg c ?_), g3, ?_, g4, ?_⟩
      · rw [e]; exact g1
      · rw [e]; exact g2
      · have := Int.dvd_add (Int.dvd_trans g4 (Int.dvd_mul_right b (a / b))) g5
        rw [Int.mul_ediv_add_emod] at this
        exact this
      · intro e h1 h2
        refine g6 e h2 ?_
        have h3 := Int.dvd_sub h1 (Int.dvd_trans h2 (Int.dvd_mul_right b (a / b)))
        rw [show a - b * (a / b) = a % b from by have := Int.mul_ediv_add_emod a b; omega] at h3
        exact h3
/-- What the program reckons at the end. -/
def implBy (k : Nat) (q num den : Int) : Option (Int × Bool) := (impl_gcd.f k num den).bind fun t180 => (if t180 = 0 then (none) else (if (wrap64 (Int.tdiv den t180)) = 0 then (none) else (if (Int.tmod q (wrap64 (Int.tdiv den t180))) = 0 then (if (wrap64 (Int.tdiv q (wrap64 (Int.tdiv den t180)))) > 0 then (if (wrap64 (Int.tdiv q (wrap64 (Int.tdiv den t180)))) = 0 then (none) else (if (wrap64 (Int.tdiv num t180)) > (wrap64 (Int.tdiv (1000000 : Int) (wrap64 (Int.tdiv q (wrap64 (Int.tdiv den t180)))))) then (some (0, false)) else (some (wrap64 ((wrap64 (Int.tdiv q (wrap64 (Int.tdiv den t180)))) * (wrap64 (Int.tdiv num t180))), true)))) else (some (wrap64 ((wrap64 (Int.tdiv q (wrap64 (Int.tdiv den t180)))) * (wrap64 (Int.tdiv num t180))), true))) else (some (0, false)))))
theorem by_ev (q num den : Int) (hq0 : 0 ≤ q) (hq1 : q ≤ 1000000) (hn0 : 1 ≤ num) (hn1 : num ≤ 10000000000000000) (hd0 : 1 ≤ den) (hd1 : den ≤ 10000000000000000) :
    ∃ r, Ev (fun k => spec_l15By.f k q num den) r ∧ Ev (fun k => implBy k q num den) r ∧ ∃ g, 0 < g ∧ g ∣ num ∧ g ∣ den ∧ (∀ e, e ∣ num → e ∣ den → e ∣ g) ∧ ((r = (0, false) ∧ (¬ (den / g) ∣ q ∨ num / g * (q / (den / g)) > 1000000)) ∨ (r = (q / (den / g) * (num / g), true) ∧ (den / g) ∣ q ∧ q / (den / g) * (num / g) ≤ 1000000)) := by
  obtain ⟨g, g1, g2, g3, ⟨n', hn'⟩, ⟨d', hd'⟩, gg⟩ := gcd_ev den.toNat num den (Nat.le_refl _) (by omega) (by omega)
  have hn2 : num / g = n' := by rw [hn', Int.mul_ediv_cancel_left _ (by omega)]
  have hd2 : den / g = d' := by rw [hd', Int.mul_ediv_cancel_left _ (by omega)]
  have pn : 0 < n' := by
    rcases (by omega : 0 < n' ∨ n' ≤ 0) with h | h
    · exact h
    · have := Int.mul_nonpos_of_nonneg_of_nonpos (show 0 ≤ g by omega) h; omega
  have pd : 0 < d' := by
    rcases (by omega : 0 < d' ∨ d' ≤ 0) with h | h
    · exact h
    · have := Int.mul_nonpos_of_nonneg_of_nonpos (show 0 ≤ g by omega) h; omega
  have bn : n' ≤ num := by
    have := Int.mul_le_mul_of_nonneg_right (show 1 ≤ g by omega) (show 0 ≤ n' by omega)
    rw [Int.one_mul] at this; omega
  have bd : d' ≤ den := by
    have := Int.mul_le_mul_of_nonneg_right (show 1 ≤ g by omega) (show 0 ≤ d' by omega)
    rw [Int.one_mul] at this; omega
  have en : wrap64 (Int.tdiv num g) = n' := by rw [Int.tdiv_eq_ediv_of_nonneg (by omega), hn2, wrap_id (by omega) (by omega)]
  have ed : wrap64 (Int.tdiv den g) = d' := by rw [Int.tdiv_eq_ediv_of_nonneg (by omega), hd2, wrap_id (by omega) (by omega)]
  have hx0 := Int.ediv_nonneg hq0 (show 0 ≤ d' by omega)
  have hx1 := Int.ediv_le_self d' hq0
  have eq1 : wrap64 (Int.tdiv q d') = q / d' := by rw [Int.tdiv_eq_ediv_of_nonneg hq0, wrap_id (by omega) (by omega)]
  have em : Int.tmod q d' = q % d' := Int.tmod_eq_emod_of_nonneg hq0
  have key : ∀ x : Int, 0 < x → x ≤ 1000000 → (n' > wrap64 (Int.tdiv 1000000 x) ↔ n' * x > 1000000) := by
    intro x h0 h1
    have := Int.ediv_le_self x (show (0 : Int) ≤ 1000000 by decide)
    have := Int.ediv_nonneg (show (0 : Int) ≤ 1000000 by decide) (show 0 ≤ x by omega)
    rw [Int.tdiv_eq_ediv_of_nonneg (by decide), wrap_id (by omega) (by omega)]
    have := @Int.ediv_lt_iff_lt_mul 1000000 n' x h0
    omega
  unfold spec_l15By.f implBy impl_gcd.f spec_l15Gcd.f
  by_cases c0 : q = 0
  · subst c0
    refine ⟨(0, true), ev_pos rfl (Ev.now _), Ev.bind g2 (ev_neg (by omega) ?_), g, g3, ⟨n', hn'⟩, ⟨d', hd'⟩, gg, .inr ?_⟩
    · simp only [en, ed]
      refine ev_neg (by omega) (ev_pos (by rw [em]; exact Int.zero_emod _) (ev_neg ?_ ?_))
      · rw [eq1, Int.zero_ediv]; omega
      · rw [eq1, Int.zero_ediv, Int.zero_mul, show wrap64 0 = 0 from wrap_id (by decide) (by decide)]; exact Ev.now _
    · rw [hd2, hn2, Int.zero_ediv, Int.zero_mul]
      exact ⟨rfl, Int.dvd_zero _, by decide⟩
  · by_cases c1 : q % d' = 0
    · have hdv : d' ∣ q := Int.dvd_of_emod_eq_zero c1
      have hpos : 0 < q / d' := by
        obtain ⟨y, hy⟩ := hdv
        rw [hy, Int.mul_ediv_cancel_left _ (by omega)]
        rcases (by omega : 0 < y ∨ y ≤ 0) with h | h
        · exact h
        · have := Int.mul_nonpos_of_nonneg_of_nonpos (show 0 ≤ d' by omega) h; omega
      by_cases c2 : n' * (q / d') > 1000000
      · refine ⟨(0, false), ev_neg c0 (Ev.bind g1 (ev_neg (by omega) ?_)), Ev.bind g2 (ev_neg (by omega) ?_), g, g3, ⟨n', hn'⟩, ⟨d', hd'⟩, gg, .inl ⟨rfl, .inr (by rw [hd2, hn2]; exact c2)⟩⟩
        · simp only [en, ed]
          refine ev_neg (by omega) (ev_pos (by rw [em]; exact c1) ?_)
          rw [eq1]
          exact ev_neg (by omega) (ev_pos ((key _ hpos (by omega)).2 c2) (Ev.now _))
        · simp only [en, ed]
          refine ev_neg (by omega) (ev_pos (by rw [em]; exact c1) ?_)
          rw [eq1]
          exact ev_pos hpos (ev_neg (by omega) (ev_pos ((key _ hpos (by omega)).2 c2) (Ev.now _)))
      · have hw : wrap64 (q / d' * n') = q / d' * n' := by
          rw [Int.mul_comm]
          have := Int.mul_nonneg (show 0 ≤ n' by omega) hx0
          exact wrap_id (by omega) (by omega)
        refine ⟨(q / d' * n', true), ev_neg c0 (Ev.bind g1 (ev_neg (by omega) ?_)), Ev.bind g2 (ev_neg (by omega) ?_), g, g3, ⟨n', hn'⟩, ⟨d', hd'⟩, gg, .inr ⟨by rw [hd2, hn2], by rw [hd2]; exact hdv, by rw [hd2, hn2, Int.mul_comm]; omega⟩⟩
        · simp only [en, ed]
          refine ev_neg (by omega) (ev_pos (by rw [em]; exact c1) ?_)
          rw [eq1]
          refine ev_neg (by omega) (ev_neg (fun h => c2 ((key _ hpos (by omega)).1 h)) ?_)
          rw [hw]; exact Ev.now _
        · simp only [en, ed]
          refine ev_neg (by omega) (ev_pos (by rw [em]; exact c1) ?_)
          rw [eq1]
          refine ev_pos hpos (ev_neg (by omega) (ev_neg (fun h => c2 ((key _ hpos (by omega)).1 h)) ?_))
          rw [hw]; exact Ev.now _
    · refine ⟨(0, false), ev_neg c0 (Ev.bind g1 (ev_neg (by omega) ?_)), Ev.bind g2 (ev_neg (by omega) ?_), g, g3, ⟨n', hn'⟩, ⟨d', hd'⟩, gg, .inl ⟨rfl, .inl (by rw [hd2]; exact fun h => c1 (Int.emod_eq_zero_of_dvd h))⟩⟩
      · simp only [en, ed]
        exact ev_neg (by omega) (ev_neg (by rw [em]; exact c1) (Ev.now _))
      · simp only [en, ed]
        exact ev_neg (by omega) (ev_neg (by rw [em]; exact c1) (Ev.now _))
/-! ### Ways -/
/-- How great the numbers of a way may be. -/
def pw (f : Int) : Int := if f = 0 then 1 else if f = 1 then 10000 else if f = 2 then 100000000 else if f = 3 then 1000000000000 else 10000000000000000
theorem pw_b (f : Int) : 1 ≤ pw f ∧ pw f ≤ 10000000000000000 := by unfold pw; repeat' split <;> omega
theorem pw_step {f : Int} (h0 : 0 ≤ f) (h1 : f < 4) : pw f * 10000 = pw (f + 1) := by
  have : f = 0 ∨ f = 1 ∨ f = 2 ∨ f = 3 := by omega
  rcases this with rfl | rfl | rfl | rfl <;> decide
/-- The units that can be met. -/
def UU (l : List CV) (a b : ByteArray) : List ByteArray := a :: b :: l.flatMap fun x => [x.f0, x.f1]
theorem UU_len (l : List CV) (a b : ByteArray) : (UU l a b).length = 2 * l.length + 2 := by
  have : ∀ m : List CV, (m.flatMap fun x => [x.f0, x.f1]).length = 2 * m.length := by
    intro m
    induction m with
    | nil => rfl
    | cons x m ih => rw [List.flatMap_cons, List.length_append, ih]; simp; omega
  unfold UU
  simp only [List.length_cons, this]
theorem UU_mem {l : List CV} {a b : ByteArray} {x : CV} (h : x ∈ l) : x.f0 ∈ UU l a b ∧ x.f1 ∈ UU l a b := by
  unfold UU
  refine ⟨List.mem_cons_of_mem _ (List.mem_cons_of_mem _ (List.mem_flatMap.2 ⟨x, h, by simp⟩)), List.mem_cons_of_mem _ (List.mem_cons_of_mem _ (List.mem_flatMap.2 ⟨x, h, by simp⟩))⟩
def WayIs (U : List ByteArray) (y : WS) : Prop := y.f0 ∈ U ∧ (0 ≤ y.f3 ∧ y.f3 ≤ 4) ∧ (1 ≤ y.f1 ∧ y.f1 ≤ pw y.f3) ∧ (1 ≤ y.f2 ∧ y.f2 ≤ pw y.f3)
/-- How many of the units were not met yet. -/
def cnt (U : List ByteArray) (L : List WS) : Nat := (U.filter fun u => decide (∀ y ∈ L, y.f0 ≠ u)).length
theorem cnt_snoc {U : List ByteArray} {L : List WS} {y : WS} (h : y.f0 ∈ U) (hn : ∀ z ∈ L, z.f0 ≠ y.f0) : cnt U (L ++ [y]) < cnt U L := by
  unfold cnt
  have e : (U.filter fun u => decide (∀ z ∈ L ++ [y], z.f0 ≠ u)) = (U.filter fun u => decide (∀ z ∈ L, z.f0 ≠ u)).filter fun u => decide (y.f0 ≠ u) := by
    rw [List.filter_filter]
    apply List.filter_congr
    intro u _
    rw [Bool.eq_iff_iff]
    simp only [Bool.and_eq_true, decide_eq_true_eq]
    constructor
    · intro hh
      exact ⟨hh y (by simp), fun z hz => hh z (by simp [hz])⟩
    · intro hh z hz
      rcases List.mem_append.1 hz with h1 | h1
      · exact hh.2 z h1
      · rw [List.mem_singleton] at h1
        subst h1
        exact hh.1
  rw [e, List.length_filter_lt_length_iff_exists]
  exact ⟨y.f0, List.mem_filter.2 ⟨h, decide_eq_true hn⟩, by simp⟩
def InvL (U : List ByteArray) (L : List WS) : Prop := (∀ y ∈ L, WayIs U y) ∧ L.length + cnt U L ≤ U.length + 1
theorem InvL.snoc {U : List ByteArray} {L : List WS} {y : WS} (h : InvL U L) (hy : WayIs U y) (hn : ∀ z ∈ L, z.f0 ≠ y.f0) : InvL U (L ++ [y]) := by
  have := cnt_snoc hy.1 hn
  refine ⟨fun z hz => ?_, ?_⟩
  · rcases List.mem_append.1 hz with h1 | h1
    · exact h.1 z h1
    · rw [List.mem_singleton] at h1; subst h1; exact hy
  · have := h.2; simp only [List.length_append, List.length_singleton]; omega
theorem InvL.len {l : List CV} {a b : ByteArray} {L : List WS} (h : InvL (UU l a b) L) (hl : l.length ≤ 40) : L.length ≤ 90 := by
  have h1 := h.2
  have h2 := UU_len l a b
  omega
/-- The next way by a conversion. -/
def nxW (w : WS) (x : CV) : WS := if w.f0 = x.f0 then ⟨x.f1, w.f1 * x.f2, w.f2 * x.f3, w.f3 + 1⟩ else ⟨x.f0, w.f1 * x.f3, w.f2 * x.f2, w.f3 + 1⟩
theorem mul_pw {n m f : Int} (h0 : 1 ≤ n) (h1 : n ≤ pw f) (h2 : 1 ≤ m) (h3 : m ≤ 10000) (h4 : 0 ≤ f) (h5 : f < 4) : 1 ≤ n * m ∧ n * m ≤ pw (f + 1) := by
  have a := Int.mul_le_mul h1 h3 (by omega) (by omega)
  have b := Int.mul_le_mul h0 h2 (by decide) (by omega)
  rw [pw_step h4 h5] at a
  omega
theorem nxW_is {l : List CV} {a b : ByteArray} {w : WS} {x : CV} (hx : x ∈ l) (hc : ConvIs x) (hw : WayIs (UU l a b) w) (h4 : w.f3 < 4) : WayIs (UU l a b) (nxW w x) := by
  obtain ⟨_, _, _, c1, c2⟩ := hc
  obtain ⟨_, w1, w2, w3⟩ := hw
  unfold nxW
  split
  · exact ⟨(UU_mem hx).2, ⟨by simp; omega, by simp; omega⟩, mul_pw w2.1 w2.2 c1.1 c1.2 w1.1 h4, mul_pw w3.1 w3.2 c2.1 c2.2 w1.1 h4⟩
  · exact ⟨(UU_mem hx).1, ⟨by simp; omega, by simp; omega⟩, mul_pw w2.1 w2.2 c2.1 c2.2 w1.1 h4, mul_pw w3.1 w3.2 c1.1 c1.2 w1.1 h4⟩
section
variable (l : List CV) (q : Int) (a b : ByteArray) (hl : l.length ≤ 40) (hl1 : ∀ x ∈ l, ConvIs x)
include hl
theorem scan_known (L : List WS) (n i : Int) (w y : WS) (hL : L.length ≤ 90) : ∀ (d j : Nat) (fl : Bool), j + d = L.length → (fl = true ∨ ∃ t, j ≤ t ∧ ∃ z, L[t]? = some z ∧ z.f0 = y.f0) → ∀ r, Ev (fun k => spec_QtyIn.l2 k l q b L n (wrap64 (i + 1)) w.f0 w.f1 w.f2 w.f3) r → Ev (fun k => spec_QtyIn.l3 k l q b L n i fl (j : Int) w.f0 w.f1 w.f2 w.f3 y.f0 y.f1 y.f2 y.f3) r := by
  intro d
  induction d with
  | zero =>
    intro j fl hj hf r hr
    have : fl = true := by
      rcases hf with h | ⟨t, ht, z, hz, _⟩
      · exact h
      · have := (List.getElem?_eq_some_iff.1 hz).1; omega
    exact Ev.step (fun k => by rw [spec_QtyIn.l3]) (ev_neg (by omega) (ev_pos this hr))
  | succ d ih =>
    intro j fl hj hf r hr
    have hjl : j < L.length := by omega
    have ew : wrap64 ((j : Int) + 1) = ((j + 1 : Nat) : Int) := by rw [wrap_id (by omega) (by omega)]; omega
    refine Ev.step (fun k => by rw [spec_QtyIn.l3]) (ev_pos (by omega) (ev_pos (by omega) ?_))
    rw [rdS_at hjl, ew]
    by_cases c : L[j].f0 = y.f0
    · exact ev_pos (str_iff.2 c) (ih (j + 1) true (by omega) (.inl rfl) r hr)
    · refine ev_neg (fun h => c (str_iff.1 h)) (ih (j + 1) fl (by omega) ?_ r hr)
      rcases hf with h | ⟨t, ht, z, hz, hzy⟩
      · exact .inl h
      · refine .inr ⟨t, ?_, z, hz, hzy⟩
        rcases Nat.lt_or_ge j t with h | h
        · exact h
        · have : t = j := by omega
          subst this
          rw [List.getElem?_eq_getElem hjl] at hz
          injection hz with hz
          rw [hz] at c
          exact absurd hzy c
theorem scan_new (L : List WS) (n i : Int) (w y : WS) (hL : L.length ≤ 90) (hn : ∀ z ∈ L, z.f0 ≠ y.f0) : ∀ (d j : Nat), j + d = L.length → ∀ r, Ev (fun k => spec_QtyIn.l2 k l q b (L ++ [y]) n (wrap64 (i + 1)) w.f0 w.f1 w.f2 w.f3) r → Ev (fun k => spec_QtyIn.l3 k l q b L n i false (j : Int) w.f0 w.f1 w.f2 w.f3 y.f0 y.f1 y.f2 y.f3) r := by
  intro d
  induction d with
  | zero =>
    intro j hj r hr
    exact Ev.step (fun k => by rw [spec_QtyIn.l3]) (ev_neg (by omega) (ev_neg (by decide) (ev_pos (by omega) hr)))
  | succ d ih =>
    intro j hj r hr
    have hjl : j < L.length := by omega
    have ew : wrap64 ((j : Int) + 1) = ((j + 1 : Nat) : Int) := by rw [wrap_id (by omega) (by omega)]; omega
    refine Ev.step (fun k => by rw [spec_QtyIn.l3]) (ev_pos (by omega) (ev_pos (by omega) ?_))
    rw [rdS_at hjl, ew]
    exact ev_neg (fun h => hn _ (List.getElem_mem hjl) (str_iff.1 h)) (ih (j + 1) (by omega) r hr)
include hl1
/-- A conversion that is tried: nothing, what is known, or a way more; by the reference. -/
theorem spec_try (L : List WS) (n : Int) (i : Nat) (w : WS) (hi : i < l.length) (hI : InvL (UU l a b) L) (hw : WayIs (UU l a b) w) (h4 : w.f3 < 4) (r : Int × Bool)
    (h : (¬ (w.f0 = l[i].f0 ∨ w.f0 = l[i].f1) ∨ ∃ z ∈ L, z.f0 = (nxW w l[i]).f0) ∧ Ev (fun k => spec_QtyIn.l2 k l q b L n (wrap64 ((i : Int) + 1)) w.f0 w.f1 w.f2 w.f3) r ∨
      ((w.f0 = l[i].f0 ∨ w.f0 = l[i].f1) ∧ ∀ z ∈ L, z.f0 ≠ (nxW w l[i]).f0) ∧ Ev (fun k => spec_QtyIn.l2 k l q b (L ++ [nxW w l[i]]) n (wrap64 ((i : Int) + 1)) w.f0 w.f1 w.f2 w.f3) r) :
    Ev (fun k => spec_QtyIn.l2 k l q b L n (i : Int) w.f0 w.f1 w.f2 w.f3) r := by
  have hU := UU_len l a b
  have hL : L.length ≤ 90 := by have := hI.2; omega
  have hx := List.getElem_mem hi
  have hc := hl1 _ hx
  have hnw := nxW_is (a := a) (b := b) hx hc hw h4
  refine Ev.step (fun k => by rw [spec_QtyIn.l2]) (ev_pos (by omega) (Ev.step (fun k => by rw [spec_QtyIn.j4]) (ev_pos (decide_eq_true h4) (ev_pos (by omega) (ev_pos (by omega) ?_)))))
  rw [rdC_at hi]
  have w3 : wrap64 (w.f3 + 1) = w.f3 + 1 := by have := hw.2.1; exact wrap_id (by omega) (by omega)
  have fin : ∀ (hm : w.f0 = l[i].f0 ∨ w.f0 = l[i].f1), Ev (fun k => spec_QtyIn.j5 k l q b L n (i : Int) w.f0 w.f1 w.f2 w.f3 (nxW w l[i]).f0 (nxW w l[i]).f1 (nxW w l[i]).f2 (nxW w l[i]).f3) r := by
    intro hm
    refine Ev.step (fun k => by rw [spec_QtyIn.j5]) ?_
    rcases h with ⟨h1, h2⟩ | ⟨h1, h2⟩
    · have hk : ∃ z ∈ L, z.f0 = (nxW w l[i]).f0 := by
        rcases h1 with h1 | h1
        · exact absurd hm h1
        · exact h1
      obtain ⟨z, hz, hzy⟩ := hk
      obtain ⟨t, ht⟩ := List.getElem?_of_mem hz
      exact scan_known l q b hl L n (i : Int) w (nxW w l[i]) hL L.length 0 false (by omega) (.inr ⟨t, by omega, z, ht, hzy⟩) r h2
    · exact scan_new l q b hl L n (i : Int) w (nxW w l[i]) hL h1.2 L.length 0 (by omega) r h2
  have hb := hnw.2.2
  have hpb := pw_b (nxW w l[i]).f3
  by_cases c1 : w.f0 = l[i].f0
  · refine ev_pos (str_iff.2 c1) ?_
    have e : nxW w l[i] = ⟨l[i].f1, w.f1 * l[i].f2, w.f2 * l[i].f3, w.f3 + 1⟩ := if_pos c1
    have f := fin (.inl c1)
    rw [e] at f hb hpb
    simp only at f hb hpb
    rw [wrap_id (x := w.f1 * l[i].f2) (by omega) (by omega), wrap_id (x := w.f2 * l[i].f3) (by omega) (by omega), w3]
    exact f
  · refine ev_neg (fun h => c1 (str_iff.1 h)) ?_
    have e : nxW w l[i] = ⟨l[i].f0, w.f1 * l[i].f3, w.f2 * l[i].f2, w.f3 + 1⟩ := if_neg c1
    by_cases c2 : w.f0 = l[i].f1
    · refine ev_pos (str_iff.2 c2) ?_
      have f := fin (.inr c2)
      rw [e] at f hb hpb
      simp only at f hb hpb
      rw [wrap_id (x := w.f1 * l[i].f3) (by omega) (by omega), wrap_id (x := w.f2 * l[i].f2) (by omega) (by omega), w3]
      exact f
    · refine ev_neg (fun h => c2 (str_iff.1 h)) ?_
      rcases h with ⟨_, h2⟩ | ⟨h1, _⟩
      · exact h2
      · exact absurd h1.1 (by rintro (h | h); exact c1 h; exact c2 h)
/-- The reference goes through all conversions for a way, whatever follows. -/
theorem inner_gen (n : Nat) (w : WS) (hw : WayIs (UU l a b) w) (P : List WS → Prop) (hP : ∀ L y, P L → y.f0 ∈ UU l a b → (∀ z ∈ L, z.f0 ≠ y.f0) → P (L ++ [y]))
    (H : ∀ L, n < L.length → P L → InvL (UU l a b) L → ∃ L', (∃ t, L' = L ++ t) ∧ InvL (UU l a b) L' ∧ ∀ r, Ev (fun k => spec_QtyIn.l4 k q b L' 0) r → Ev (fun k => spec_QtyIn.l1 k l q b L ((n + 1 : Nat) : Int)) r) :
    ∀ (d i : Nat) (L : List WS), i + d = l.length → n < L.length → P L → InvL (UU l a b) L → ∃ L', (∃ t, L' = L ++ t) ∧ InvL (UU l a b) L' ∧ ∀ r, Ev (fun k => spec_QtyIn.l4 k q b L' 0) r → Ev (fun k => spec_QtyIn.l2 k l q b L (n : Int) (i : Int) w.f0 w.f1 w.f2 w.f3) r := by
  have hU := UU_len l a b
  have stop : ∀ (i : Nat) (L : List WS), (i < l.length → ¬ w.f3 < 4) → n < L.length → P L → InvL (UU l a b) L → ∃ L', (∃ t, L' = L ++ t) ∧ InvL (UU l a b) L' ∧ ∀ r, Ev (fun k => spec_QtyIn.l4 k q b L' 0) r → Ev (fun k => spec_QtyIn.l2 k l q b L (n : Int) (i : Int) w.f0 w.f1 w.f2 w.f3) r := by
    intro i L hs hn hPL hI
    obtain ⟨L', h1, h2, h3⟩ := H L hn hPL hI
    have hL : L.length ≤ 90 := by have := hI.2; omega
    have ew : wrap64 ((n : Int) + 1) = ((n + 1 : Nat) : Int) := by rw [wrap_id (by omega) (by omega)]; omega
    refine ⟨L', h1, h2, fun r hr => Ev.step (fun k => by rw [spec_QtyIn.l2]) ?_⟩
    have go : ∀ x : Bool, x = false → Ev (fun k => spec_QtyIn.j4 k l q b L (n : Int) (i : Int) x w.f0 w.f1 w.f2 w.f3) r := fun x hx => by
      refine Ev.step (fun k => by rw [spec_QtyIn.j4]) (ev_neg (by rw [hx]; decide) ?_)
      rw [ew]
      exact h3 r hr
    by_cases c : (i : Int) < (l.length : Int)
    · exact ev_pos c (go _ (decide_eq_false (hs (by omega))))
    · exact ev_neg c (go _ rfl)
  intro d
  induction d with
  | zero => intro i L hd hn hPL hI; exact stop i L (by omega) hn hPL hI
  | succ d ihd =>
    intro i L hd hn hPL hI
    by_cases h4 : w.f3 < 4
    · have hil : i < l.length := by omega
      have ew : wrap64 ((i : Int) + 1) = ((i + 1 : Nat) : Int) := by rw [wrap_id (by omega) (by omega)]; omega
      by_cases c : (w.f0 = l[i].f0 ∨ w.f0 = l[i].f1) ∧ ∀ z ∈ L, z.f0 ≠ (nxW w l[i]).f0
      · have hnw := nxW_is (a := a) (b := b) (List.getElem_mem hil) (hl1 _ (List.getElem_mem hil)) hw h4
        obtain ⟨L', ⟨t, ht⟩, h2, h3⟩ := ihd (i + 1) (L ++ [nxW w l[i]]) (by omega) (by simp; omega) (hP L _ hPL hnw.1 c.2) (hI.snoc hnw c.2)
        refine ⟨L', ⟨_, by rw [ht, List.append_assoc]⟩, h2, fun r hr => spec_try l q a b hl hl1 L (n : Int) i w hil hI hw h4 r (.inr ⟨c, ?_⟩)⟩
        rw [ew]; exact h3 r hr
      · obtain ⟨L', h1, h2, h3⟩ := ihd (i + 1) L (by omega) hn hPL hI
        refine ⟨L', h1, h2, fun r hr => spec_try l q a b hl hl1 L (n : Int) i w hil hI hw h4 r (.inl ⟨?_, ?_⟩)⟩
        · by_cases c1 : w.f0 = l[i].f0 ∨ w.f0 = l[i].f1
          · by_cases c2 : ∃ z ∈ L, z.f0 = (nxW w l[i]).f0
            · exact .inr c2
            · exact absurd ⟨c1, fun z hz e => c2 ⟨z, hz, e⟩⟩ c
          · exact .inl c1
        · rw [ew]; exact h3 r hr
    · exact stop i L (fun _ => h4) hn hPL hI
/-- The reference goes through all ways, whatever they are; what it had it keeps. -/
theorem spec_all : ∀ (B : Nat) (L : List WS) (n : Nat), n ≤ L.length → cnt (UU l a b) L + (L.length - n) ≤ B → InvL (UU l a b) L → ∃ L', (∃ t, L' = L ++ t) ∧ InvL (UU l a b) L' ∧ ∀ r, Ev (fun k => spec_QtyIn.l4 k q b L' 0) r → Ev (fun k => spec_QtyIn.l1 k l q b L (n : Int)) r := by
  have last : ∀ (L : List WS), ∃ L', (∃ t, L' = L ++ t) ∧ (InvL (UU l a b) L → InvL (UU l a b) L') ∧ ∀ r, Ev (fun k => spec_QtyIn.l4 k q b L' 0) r → Ev (fun k => spec_QtyIn.l1 k l q b L (L.length : Int)) r := fun L =>
    ⟨L, ⟨[], by simp⟩, id, fun r hr => Ev.step (fun k => by rw [spec_QtyIn.l1]) (ev_neg (by omega) hr)⟩
  intro B
  induction B with
  | zero =>
    intro L n hn hB hI
    have : n = L.length := by omega
    subst this
    obtain ⟨L', h1, h2, h3⟩ := last L
    exact ⟨L', h1, h2 hI, h3⟩
  | succ B ih =>
    intro L n hn hB hI
    rcases Nat.lt_or_ge n L.length with hlt | hge
    · obtain ⟨L', h1, h2, h3⟩ := inner_gen l q a b hl hl1 n L[n] (hI.1 _ (List.getElem_mem hlt)) (fun L => n < L.length ∧ cnt (UU l a b) L + (L.length - (n + 1)) ≤ B) (fun L y h1 h2 h3 => by
        have := cnt_snoc h2 h3
        simp only [List.length_append, List.length_singleton]
        omega) (fun L h1 h2 h3 => ih L (n + 1) (by omega) h2.2 h3) l.length 0 L (by omega) hlt ⟨hlt, by omega⟩ hI
      refine ⟨L', h1, h2, fun r hr => Ev.step (fun k => by rw [spec_QtyIn.l1]) (ev_pos (by omega) (ev_pos (by omega) ?_))⟩
      rw [rdS_at hlt]
      exact h3 r hr
    · have : n = L.length := by omega
      subst this
      obtain ⟨L', h1, h2, h3⟩ := last L
      exact ⟨L', h1, h2 hI, h3⟩
/-- The rest of it behind a way that was found: what was found first stands first. -/
theorem spec_rest (n i : Nat) (w : WS) (hw : WayIs (UU l a b) w) (L : List WS) (hi : i ≤ l.length) (hn : n < L.length) (hI : InvL (UU l a b) L) (r : Int × Bool) (h : ∀ L', (∃ t, L' = L ++ t) → InvL (UU l a b) L' → Ev (fun k => spec_QtyIn.l4 k q b L' 0) r) : Ev (fun k => spec_QtyIn.l2 k l q b L (n : Int) (i : Int) w.f0 w.f1 w.f2 w.f3) r := by
  obtain ⟨L', h1, h2, h3⟩ := inner_gen l q a b hl hl1 n w hw (fun _ => True) (fun _ _ _ _ _ => trivial) (fun L h1 _ h3 => spec_all l q a b hl hl1 _ L (n + 1) (by omega) (Nat.le_refl _) h3) (l.length - i) i L (by omega) hn trivial hI
  exact h3 r (h L' h1 h2)
end
/-! ### Both sides, step by step -/
def OpenIs (U : List ByteArray) (m : List (ByteArray × Bool)) (L : List WS) : Prop := ∀ u ∈ U, ((mget m u).getD false = true ↔ ∀ y ∈ L, y.f0 ≠ u)
theorem l4_none (q : Int) (b : ByteArray) (L : List WS) (hL : L.length ≤ 90) (hn : ∀ y ∈ L, y.f0 ≠ b) : Ev (fun k => spec_QtyIn.l4 k q b L 0) (0, false) := by
  have go : ∀ (d j : Nat), j + d = L.length → Ev (fun k => spec_QtyIn.l4 k q b L (j : Int)) (0, false) := by
    intro d
    induction d with
    | zero => intro j hj; exact Ev.step (fun k => by rw [spec_QtyIn.l4]) (ev_neg (by omega) (Ev.now _))
    | succ d ih =>
      intro j hj
      have hjl : j < L.length := by omega
      have ew : wrap64 ((j : Int) + 1) = ((j + 1 : Nat) : Int) := by rw [wrap_id (by omega) (by omega)]; omega
      refine Ev.step (fun k => by rw [spec_QtyIn.l4]) (ev_pos (by omega) (ev_pos (by omega) ?_))
      rw [rdS_at hjl, ew]
      exact ev_neg (fun h => hn _ (List.getElem_mem hjl) (str_iff.1 h)) (ih (j + 1) (by omega))
  exact go L.length 0 (by omega)
theorem l4_find (q : Int) (b : ByteArray) (L t : List WS) (y : WS) (hL : (L ++ y :: t).length ≤ 90) (hn : ∀ z ∈ L, z.f0 ≠ b) (hy : y.f0 = b) (r : Int × Bool) (hr : Ev (fun k => spec_l15By.f k q y.f1 y.f2) r) : Ev (fun k => spec_QtyIn.l4 k q b (L ++ y :: t) 0) r := by
  have go : ∀ (d j : Nat), j + d = L.length → Ev (fun k => spec_QtyIn.l4 k q b (L ++ y :: t) (j : Int)) r := by
    intro d
    induction d with
    | zero =>
      intro j hj
      have hjl : j < (L ++ y :: t).length := by simp; omega
      refine Ev.step (fun k => by rw [spec_QtyIn.l4]) (ev_pos (by omega) (ev_pos (by omega) ?_))
      rw [rdS_at hjl, List.getElem_append_right (by omega)]
      simp only [show j - L.length = 0 by omega, List.getElem_cons_zero]
      exact ev_pos (str_iff.2 hy) (Ev.bind hr (Ev.now _))
    | succ d ih =>
      intro j hj
      have hjl : j < (L ++ y :: t).length := by simp; omega
      have ew : wrap64 ((j : Int) + 1) = ((j + 1 : Nat) : Int) := by rw [wrap_id (by omega) (by omega)]; omega
      refine Ev.step (fun k => by rw [spec_QtyIn.l4]) (ev_pos (by omega) (ev_pos (by omega) ?_))
      have hjL : j < L.length := by omega
      rw [rdS_at hjl, List.getElem_append_left hjL, ew]
      exact ev_neg (fun h => hn _ (List.getElem_mem hjL) (str_iff.1 h)) (ih (j + 1) (by omega))
  exact go L.length 0 (by omega)
section
variable (l : List CV) (q : Int) (a b : ByteArray) (hl : l.length ≤ 40) (hl1 : ∀ x ∈ l, ConvIs x)
include hl hl1
/-- A conversion that is tried, by the program. -/
theorem impl_try (m : List (ByteArray × Bool)) (Q : List WI) (L : List WS) (i : Nat) (w : WS) (hi : i < l.length) (hm : OpenIs (UU l a b) m L) (hQ : Q.length ≤ 90) (hw : WayIs (UU l a b) w) (h4 : w.f3 < 4) (r : Int × Bool)
    (h : (¬ (w.f0 = l[i].f0 ∨ w.f0 = l[i].f1) ∨ ∃ z ∈ L, z.f0 = (nxW w l[i]).f0) ∧ Ev (fun k => impl_QtyIn.l2 k l q b m Q l (l.length : Int) (wrap64 ((i : Int) + 1)) w.f0 w.f1 w.f2 w.f3) r ∨
      ((w.f0 = l[i].f0 ∨ w.f0 = l[i].f1) ∧ ∀ z ∈ L, z.f0 ≠ (nxW w l[i]).f0) ∧ (((nxW w l[i]).f0 = b ∧ Ev (fun k => implBy k q (nxW w l[i]).f1 (nxW w l[i]).f2) r) ∨ ((nxW w l[i]).f0 ≠ b ∧ Ev (fun k => impl_QtyIn.l2 k l q b (mdel m (nxW w l[i]).f0) (Q ++ [toI (nxW w l[i])]) l (l.length : Int) (wrap64 ((i : Int) + 1)) w.f0 w.f1 w.f2 w.f3) r))) :
    Ev (fun k => impl_QtyIn.l2 k l q b m Q l (l.length : Int) (i : Int) w.f0 w.f1 w.f2 w.f3) r := by
  have hx := List.getElem_mem hi
  have hc := hl1 _ hx
  have hnw := nxW_is (a := a) (b := b) hx hc hw h4
  have hsz : (nxW w l[i]).f0.size ≤ 9223372036854775807 := by
    have e1 : l[i].f0.size ≤ 20 := by have := hc.1.2.1; omega
    have e2 : l[i].f1.size ≤ 20 := by have := hc.2.1.2.1; omega
    unfold nxW
    split
    · show l[i].f1.size ≤ _; omega
    · show l[i].f0.size ≤ _; omega
  refine Ev.step (fun k => by rw [impl_QtyIn.l2]) (ev_pos (by omega) (ev_pos (by omega) (ev_pos (by omega) ?_)))
  rw [rdC_at hi]
  have w3 : wrap64 (w.f3 + 1) = w.f3 + 1 := by have := hw.2.1; exact wrap_id (by omega) (by omega)
  have fin : ∀ (hmt : w.f0 = l[i].f0 ∨ w.f0 = l[i].f1), Ev (fun k => impl_QtyIn.j4 k l q b m Q l (l.length : Int) (i : Int) w.f0 w.f1 w.f2 w.f3 (nxW w l[i]).f0 (nxW w l[i]).f1 (nxW w l[i]).f2 (nxW w l[i]).f3) r := by
    intro hmt
    have ho := hm _ hnw.1
    refine Ev.step (fun k => by rw [impl_QtyIn.j4]) (ev_pos hsz ?_)
    rcases h with ⟨h1, h2⟩ | ⟨h1, h2⟩
    · have hk : ∃ z ∈ L, z.f0 = (nxW w l[i]).f0 := by
        rcases h1 with h1 | h1
        · exact absurd hmt h1
        · exact h1
      obtain ⟨z, hz, hzy⟩ := hk
      exact ev_neg (fun h => ho.1 h z hz hzy) h2
    · refine ev_pos (ho.2 h1.2) ?_
      rcases h2 with ⟨e, h2⟩ | ⟨e, h2⟩
      · exact ev_pos (str_iff.2 e) h2
      · exact ev_neg (fun h => e (str_iff.1 h)) (ev_pos (by omega) h2)
  have hb := hnw.2.2
  have hpb := pw_b (nxW w l[i]).f3
  by_cases c1 : w.f0 = l[i].f0
  · refine ev_pos (str_iff.2 c1.symm) ?_
    have e : nxW w l[i] = ⟨l[i].f1, w.f1 * l[i].f2, w.f2 * l[i].f3, w.f3 + 1⟩ := if_pos c1
    have f := fin (.inl c1)
    rw [e] at f hb hpb
    simp only at f hb hpb
    rw [wrap_id (x := w.f1 * l[i].f2) (by omega) (by omega), wrap_id (x := w.f2 * l[i].f3) (by omega) (by omega), w3]
    exact f
  · refine ev_neg (fun h => c1 (str_iff.1 h).symm) ?_
    have e : nxW w l[i] = ⟨l[i].f0, w.f1 * l[i].f3, w.f2 * l[i].f2, w.f3 + 1⟩ := if_neg c1
    by_cases c2 : w.f0 = l[i].f1
    · refine ev_pos (str_iff.2 c2.symm) ?_
      have f := fin (.inr c2)
      rw [e] at f hb hpb
      simp only at f hb hpb
      rw [wrap_id (x := w.f1 * l[i].f3) (by omega) (by omega), wrap_id (x := w.f2 * l[i].f2) (by omega) (by omega), w3]
      exact f
    · refine ev_neg (fun h => c2 (str_iff.1 h).symm) ?_
      rcases h with ⟨_, h2⟩ | ⟨h1, _⟩
      · exact h2
      · exact absurd h1.1 (by rintro (h | h); exact c1 h; exact c2 h)
theorem open_snoc {m : List (ByteArray × Bool)} {L : List WS} {y : WS} (h : OpenIs (UU l a b) m L) : OpenIs (UU l a b) (mdel m y.f0) (L ++ [y]) := by
  intro u hu
  rw [mget_del]
  by_cases c : y.f0 = u
  · rw [if_pos c]
    exact ⟨fun h => (by cases h), fun h => absurd c (h y (by simp))⟩
  · rw [if_neg c, h u hu]
    constructor
    · intro hh z hz
      rcases List.mem_append.1 hz with h1 | h1
      · exact hh z h1
      · rw [List.mem_singleton] at h1; subst h1; exact c
    · intro hh z hz
      exact hh z (by simp [hz])
theorem both (hq0 : 0 ≤ q) (hq1 : q ≤ 1000000) : ∀ (B : Nat) (L : List WS) (n : Nat) (m : List (ByteArray × Bool)), n ≤ L.length → cnt (UU l a b) L + (L.length - n) ≤ B → InvL (UU l a b) L → OpenIs (UU l a b) m L → (∀ y ∈ L, y.f0 ≠ b) → ∃ r, Ev (fun k => spec_QtyIn.l1 k l q b L (n : Int)) r ∧ Ev (fun k => impl_QtyIn.l1 k l q b m ((L.drop n).map toI)) r := by
  have hU := UU_len l a b
  have last : ∀ (L : List WS) (m : List (ByteArray × Bool)), InvL (UU l a b) L → (∀ y ∈ L, y.f0 ≠ b) → ∃ r, Ev (fun k => spec_QtyIn.l1 k l q b L (L.length : Int)) r ∧ Ev (fun k => impl_QtyIn.l1 k l q b m ((L.drop L.length).map toI)) r := by
    intro L m hI hb
    have hL : L.length ≤ 90 := by have := hI.2; omega
    rw [List.drop_length]
    exact ⟨(0, false), Ev.step (fun k => by rw [spec_QtyIn.l1]) (ev_neg (by omega) (l4_none q b L hL hb)), Ev.step (fun k => by rw [impl_QtyIn.l1]) (ev_neg (by simp) (Ev.now _))⟩
  intro B
  induction B with
  | zero =>
    intro L n m hn hB hI hm hb
    have : n = L.length := by omega
    subst this
    exact last L m hI hb
  | succ B ih =>
    intro L n m hn hB hI hm hb
    rcases Nat.lt_or_ge n L.length with hlt | hge
    · have inner : ∀ (w : WS), WayIs (UU l a b) w → ∀ (d i : Nat) (L : List WS) (m : List (ByteArray × Bool)), i + d = l.length → n < L.length → cnt (UU l a b) L + (L.length - (n + 1)) ≤ B → InvL (UU l a b) L → OpenIs (UU l a b) m L → (∀ y ∈ L, y.f0 ≠ b) → w.f3 < 4 → ∃ r, Ev (fun k => spec_QtyIn.l2 k l q b L (n : Int) (i : Int) w.f0 w.f1 w.f2 w.f3) r ∧ Ev (fun k => impl_QtyIn.l2 k l q b m ((L.drop (n + 1)).map toI) l (l.length : Int) (i : Int) w.f0 w.f1 w.f2 w.f3) r := by
        intro w hw d
        induction d with
        | zero =>
          intro i L m hd hn hB hI hm hb h4
          obtain ⟨r, r1, r2⟩ := ih L (n + 1) m (by omega) hB hI hm hb
          have hL : L.length ≤ 90 := by have := hI.2; omega
          have ew : wrap64 ((n : Int) + 1) = ((n + 1 : Nat) : Int) := by rw [wrap_id (by omega) (by omega)]; omega
          refine ⟨r, Ev.step (fun k => by rw [spec_QtyIn.l2]) (ev_neg (by omega) (Ev.step (fun k => by rw [spec_QtyIn.j4]) (ev_neg (by decide) ?_))), Ev.step (fun k => by rw [impl_QtyIn.l2]) (ev_neg (by omega) r2)⟩
          rw [ew]
          exact r1
        | succ d ihd =>
          intro i L m hd hn hB hI hm hb h4
          have hil : i < l.length := by omega
          have hL : L.length ≤ 90 := by have := hI.2; omega
          have hQ : ((L.drop (n + 1)).map toI).length ≤ 90 := by rw [List.length_map, List.length_drop]; omega
          have ew : wrap64 ((i : Int) + 1) = ((i + 1 : Nat) : Int) := by rw [wrap_id (by omega) (by omega)]; omega
          by_cases c : (w.f0 = l[i].f0 ∨ w.f0 = l[i].f1) ∧ ∀ z ∈ L, z.f0 ≠ (nxW w l[i]).f0
          · have hnw := nxW_is (a := a) (b := b) (List.getElem_mem hil) (hl1 _ (List.getElem_mem hil)) hw h4
            have hcs := cnt_snoc hnw.1 c.2
            by_cases ce : (nxW w l[i]).f0 = b
            · have hp1 := hnw.2.2
              have hpb := pw_b (nxW w l[i]).f3
              obtain ⟨r, r1, r2, _⟩ := by_ev q (nxW w l[i]).f1 (nxW w l[i]).f2 hq0 hq1 hp1.1.1 (by omega) hp1.2.1 (by omega)
              have hI2 := hI.snoc hnw c.2
              refine ⟨r, spec_try l q a b hl hl1 L (n : Int) i w hil hI hw h4 r (.inr ⟨c, ?_⟩), impl_try l q a b hl hl1 m _ L i w hil hm hQ hw h4 r (.inr ⟨c, .inl ⟨ce, r2⟩⟩)⟩
              rw [ew]
              exact spec_rest l q a b hl hl1 n (i + 1) w hw (L ++ [nxW w l[i]]) (by omega) (by simp; omega) hI2 r (fun L' hp hI' => by
                obtain ⟨t, ht⟩ := hp
                have hL' := hI'.len hl
                rw [ht, List.append_assoc, List.singleton_append] at hL' ⊢
                exact l4_find q b L t _ hL' hb ce r r1)
            · obtain ⟨r, r1, r2⟩ := ihd (i + 1) (L ++ [nxW w l[i]]) (mdel m (nxW w l[i]).f0) (by omega) (by simp; omega) (by simp only [List.length_append, List.length_singleton]; omega) (hI.snoc hnw c.2) (open_snoc l a b hl hl1 hm) (fun y hy => by
                rcases List.mem_append.1 hy with h1 | h1
                · exact hb y h1
                · rw [List.mem_singleton] at h1; subst h1; exact ce) h4
              refine ⟨r, spec_try l q a b hl hl1 L (n : Int) i w hil hI hw h4 r (.inr ⟨c, by rw [ew]; exact r1⟩), impl_try l q a b hl hl1 m _ L i w hil hm hQ hw h4 r (.inr ⟨c, .inr ⟨ce, ?_⟩⟩)⟩
              rw [ew]
              rw [List.drop_append_of_le_length (by omega), List.map_append] at r2
              exact r2
          · obtain ⟨r, r1, r2⟩ := ihd (i + 1) L m (by omega) hn hB hI hm hb h4
            have hk : ¬ (w.f0 = l[i].f0 ∨ w.f0 = l[i].f1) ∨ ∃ z ∈ L, z.f0 = (nxW w l[i]).f0 := by
              by_cases c1 : w.f0 = l[i].f0 ∨ w.f0 = l[i].f1
              · by_cases c2 : ∃ z ∈ L, z.f0 = (nxW w l[i]).f0
                · exact .inr c2
                · exact absurd ⟨c1, fun z hz e => c2 ⟨z, hz, e⟩⟩ c
              · exact .inl c1
            exact ⟨r, spec_try l q a b hl hl1 L (n : Int) i w hil hI hw h4 r (.inl ⟨hk, by rw [ew]; exact r1⟩), impl_try l q a b hl hl1 m _ L i w hil hm hQ hw h4 r (.inl ⟨hk, by rw [ew]; exact r2⟩)⟩
      have hw := hI.1 _ (List.getElem_mem hlt)
      have hL : L.length ≤ 90 := by have := hI.2; omega
      have hd1 : (L.drop n).map toI = toI L[n] :: (L.drop (n + 1)).map toI := by rw [List.drop_eq_getElem_cons hlt, List.map_cons]
      have e0 : rd_T118 (toI L[n] :: (L.drop (n + 1)).map toI) 0 = toI L[n] := rfl
      by_cases h4 : L[n].f3 < 4
      · obtain ⟨r, r1, r2⟩ := inner L[n] hw l.length 0 L m (by omega) hlt (by omega) hI hm hb h4
        refine ⟨r, Ev.step (fun k => by rw [spec_QtyIn.l1]) (ev_pos (by omega) (ev_pos (by omega) ?_)), ?_⟩
        · rw [rdS_at hlt]; exact r1
        · rw [hd1]
          refine Ev.step (fun k => by rw [impl_QtyIn.l1]) (ev_pos (by simp only [List.length_cons]; omega) (ev_pos (by simp only [List.length_cons]; omega) (ev_pos (by simp only [List.length_cons]; omega) (ev_bind0 rfl ?_))))
          rw [e0]
          exact ev_neg (show ¬ (toI L[n]).f3 = 4 by show ¬ L[n].f3 = 4; omega) r2
      · obtain ⟨r, r1, r2⟩ := ih L (n + 1) m (by omega) (by omega) hI hm hb
        have ew : wrap64 ((n : Int) + 1) = ((n + 1 : Nat) : Int) := by rw [wrap_id (by omega) (by omega)]; omega
        refine ⟨r, Ev.step (fun k => by rw [spec_QtyIn.l1]) (ev_pos (by omega) (ev_pos (by omega) ?_)), ?_⟩
        · rw [rdS_at hlt]
          have go : ∀ x : Bool, x = false → Ev (fun k => spec_QtyIn.j4 k l q b L (n : Int) 0 x L[n].f0 L[n].f1 L[n].f2 L[n].f3) r := fun x hx => by
            refine Ev.step (fun k => by rw [spec_QtyIn.j4]) (ev_neg (by rw [hx]; decide) ?_)
            rw [ew]
            exact r1
          refine Ev.step (fun k => by rw [spec_QtyIn.l2]) ?_
          by_cases c : (0 : Int) < (l.length : Int)
          · exact ev_pos c (go _ (decide_eq_false h4))
          · exact ev_neg c (go _ rfl)
        · rw [hd1]
          refine Ev.step (fun k => by rw [impl_QtyIn.l1]) (ev_pos (by simp only [List.length_cons]; omega) (ev_pos (by simp only [List.length_cons]; omega) (ev_pos (by simp only [List.length_cons]; omega) (ev_bind0 rfl ?_))))
          rw [e0]
          have h44 := hw.2.1
          exact ev_pos (show (toI L[n]).f3 = 4 by show L[n].f3 = 4; omega) r2
    · have : n = L.length := by omega
      subst this
      exact last L m hI hb
end
/-- What the map holds behind the first loop. -/
def opn (l : List CV) (a b : ByteArray) : Nat → List (ByteArray × Bool)
  | 0 => mset (mset [] a true) b true
  | n + 1 => mset (mset (opn l a b n) (l.getD n z35).f0 true) (l.getD n z35).f1 true
theorem opn_has (l : List CV) (a b : ByteArray) : ∀ (n : Nat), n ≤ l.length → ∀ u, (u = a ∨ u = b ∨ ∃ j, j < n ∧ (u = (l.getD j z35).f0 ∨ u = (l.getD j z35).f1)) → mget (opn l a b n) u = some true := by
  intro n
  induction n with
  | zero =>
    intro _ u hu
    show mget (mset (mset [] a true) b true) u = _
    rw [mget_set, mget_set]
    by_cases c1 : b = u
    · rw [if_pos c1]
    · rw [if_neg c1]
      by_cases c2 : a = u
      · rw [if_pos c2]
      · rcases hu with h | h | ⟨j, h, _⟩
        · exact absurd h.symm c2
        · exact absurd h.symm c1
        · omega
  | succ n ih =>
    intro hn u hu
    show mget (mset (mset (opn l a b n) _ true) _ true) u = _
    rw [mget_set, mget_set]
    by_cases c1 : (l.getD n z35).f1 = u
    · rw [if_pos c1]
    · rw [if_neg c1]
      by_cases c2 : (l.getD n z35).f0 = u
      · rw [if_pos c2]
      · rw [if_neg c2]
        refine ih (by omega) u ?_
        rcases hu with h | h | ⟨j, h, h2⟩
        · exact .inl h
        · exact .inr (.inl h)
        · rcases Nat.lt_or_ge j n with h3 | h3
          · exact .inr (.inr ⟨j, h3, h2⟩)
          · have : j = n := by omega
            subst this
            rcases h2 with h2 | h2
            · exact absurd h2.symm c2
            · exact absurd h2.symm c1
theorem spec_conv (x : CV) (h0 : (x.f0.size : Int) ≤ 1048576) (h1 : (x.f1.size : Int) ≤ 1048576) (T : Nat → Option (Int × Bool)) : (ConvIs x ∧ ∀ r, Ev T r → Ev (fun k => (spec_NameOk.f k x.f0).bind fun t112 => (if t112 = true then ((spec_NameOk.f k x.f1).bind fun t113 => (if t113 = true then (if x.f0.toList = x.f1.toList then (some (0, false)) else ((spec_l1In.f x.f2 1 10000).bind fun t114 => (if t114 = true then ((spec_l1In.f x.f3 1 10000).bind fun t115 => (if t115 = true then T k else (some (0, false)))) else (some (0, false))))) else (some (0, false)))) else (some (0, false)))) r) ∨ (¬ ConvIs x ∧ Ev (fun k => (spec_NameOk.f k x.f0).bind fun t112 => (if t112 = true then ((spec_NameOk.f k x.f1).bind fun t113 => (if t113 = true then (if x.f0.toList = x.f1.toList then (some (0, false)) else ((spec_l1In.f x.f2 1 10000).bind fun t114 => (if t114 = true then ((spec_l1In.f x.f3 1 10000).bind fun t115 => (if t115 = true then T k else (some (0, false)))) else (some (0, false))))) else (some (0, false)))) else (some (0, false)))) (0, false)) := by
  obtain ⟨b0, e0, q0⟩ := spec_NameOk_ev x.f0 h0
  obtain ⟨b1, e1, q1⟩ := spec_NameOk_ev x.f1 h1
  by_cases c0 : b0 = true
  · by_cases c1 : b1 = true
    · by_cases c2 : x.f0 = x.f1
      · exact .inr ⟨fun h => h.2.2.1 c2, Ev.bind e0 (ev_pos c0 (Ev.bind e1 (ev_pos c1 (ev_pos (str_iff.2 c2) (Ev.now _)))))⟩
      · have c2' : ¬ (x.f0.toList = x.f1.toList) := fun h => c2 (str_iff.1 h)
        by_cases c3 : 1 ≤ x.f2 ∧ x.f2 ≤ 10000
        · by_cases c4 : 1 ≤ x.f3 ∧ x.f3 ≤ 10000
          · exact .inl ⟨⟨q0.1 c0, q1.1 c1, c2, c3, c4⟩, fun r hr => Ev.bind e0 (ev_pos c0 (Ev.bind e1 (ev_pos c1 (ev_neg c2' (ev_bind0 (spec_l1In_eq _ _ _) (ev_pos (decide_eq_true c3) (ev_bind0 (spec_l1In_eq _ _ _) (ev_pos (decide_eq_true c4) hr))))))))⟩
          · exact .inr ⟨fun h => c4 h.2.2.2.2, Ev.bind e0 (ev_pos c0 (Ev.bind e1 (ev_pos c1 (ev_neg c2' (ev_bind0 (spec_l1In_eq _ _ _) (ev_pos (decide_eq_true c3) (ev_bind0 (spec_l1In_eq _ _ _) (ev_neg (by rw [decide_eq_true_eq]; exact c4) (Ev.now _)))))))))⟩
        · exact .inr ⟨fun h => c3 h.2.2.2.1, Ev.bind e0 (ev_pos c0 (Ev.bind e1 (ev_pos c1 (ev_neg c2' (ev_bind0 (spec_l1In_eq _ _ _) (ev_neg (by rw [decide_eq_true_eq]; exact c3) (Ev.now _)))))))⟩
    · exact .inr ⟨fun h => c1 (q1.2 h.2.1), Ev.bind e0 (ev_pos c0 (Ev.bind e1 (ev_neg c1 (Ev.now _))))⟩
  · exact .inr ⟨fun h => c0 (q0.2 h.1), Ev.bind e0 (ev_neg c0 (Ev.now _))⟩
theorem impl_conv (x : CV) : ∃ c, Ev (fun k => impl_convOk.f k x.f0 x.f1 x.f2 x.f3) c ∧ (c = true ↔ ConvIs x) := by
  obtain ⟨b0, e0, q0⟩ := impl_NameOk_ev x.f0
  obtain ⟨b1, e1, q1⟩ := impl_NameOk_ev x.f1
  unfold impl_convOk.f
  by_cases c0 : b0 = true
  · by_cases c1 : b1 = true
    · by_cases c2 : x.f0 = x.f1
      · exact ⟨false, Ev.bind e0 (ev_pos c0 (Ev.bind e1 (ev_pos c1 (ev_pos (str_iff.2 c2) (Ev.now _))))), fun h => (by cases h), fun h => absurd c2 h.2.2.1⟩
      · have c2' : ¬ (x.f0.toList = x.f1.toList) := fun h => c2 (str_iff.1 h)
        by_cases c3 : 1 ≤ x.f2 ∧ x.f2 ≤ 10000
        · refine ⟨decide (1 ≤ x.f3 ∧ x.f3 ≤ 10000), Ev.bind e0 (ev_pos c0 (Ev.bind e1 (ev_pos c1 (ev_neg c2' (ev_bind0 (impl_between_eq _ _ _) (ev_pos (decide_eq_true c3) (ev_bind0 (impl_between_eq _ _ _) (Ev.now _)))))))), ?_⟩
          rw [decide_eq_true_eq]
          exact ⟨fun h => ⟨q0.1 c0, q1.1 c1, c2, c3, h⟩, fun h => h.2.2.2.2⟩
        · exact ⟨false, Ev.bind e0 (ev_pos c0 (Ev.bind e1 (ev_pos c1 (ev_neg c2' (ev_bind0 (impl_between_eq _ _ _) (ev_neg (by rw [decide_eq_true_eq]; exact c3) (Ev.now _))))))), fun h => (by cases h), fun h => absurd h.2.2.2.1 c3⟩
    · exact ⟨false, Ev.bind e0 (ev_pos c0 (Ev.bind e1 (ev_neg c1 (Ev.now _)))), fun h => (by cases h), fun h => absurd (q1.2 h.2.1) c1⟩
  · exact ⟨false, Ev.bind e0 (ev_neg c0 (Ev.now _)), fun h => (by cases h), fun h => absurd (q0.2 h.1) c0⟩
theorem qtyin_ev (l : List CV) (q : Int) (a b : ByteArray) (hB : (l.length : Int) ≤ 1048576 ∧ ∀ x ∈ l, (x.f0.size : Int) ≤ 1048576 ∧ (x.f1.size : Int) ≤ 1048576) (ha : (a.size : Int) ≤ 1048576) (hb : (b.size : Int) ≤ 1048576) :
    ∃ r, Ev (fun k => spec_QtyIn.f k l q a b) r ∧ Ev (fun k => impl_QtyIn.f k l q a b) r := by
  have no : ∀ x, x = true → Ev (fun k => spec_QtyIn.j0 k l q a b x) (0, false) ∧ Ev (fun k => impl_QtyIn.j0 k l q a b x) (0, false) := fun x hx =>
    ⟨Ev.step (fun k => by rw [spec_QtyIn.j0]) (ev_pos hx (Ev.now _)), Ev.step (fun k => by rw [impl_QtyIn.j0]) (ev_pos hx (Ev.now _))⟩
  unfold spec_QtyIn.f impl_QtyIn.f
  by_cases c0 : (l.length : Int) > 40
  · exact ⟨_, ev_pos c0 (no true rfl).1, ev_pos c0 (no true rfl).2⟩
  have hq : impl_quantity.f q = some (decide (0 ≤ q ∧ q ≤ 1000000)) := by unfold impl_quantity.f; rw [impl_between_eq]; rfl
  by_cases c1 : 0 ≤ q ∧ q ≤ 1000000
  rotate_left
  · have cn : ¬ (decide (0 ≤ q ∧ q ≤ 1000000) = true) := by rw [decide_eq_true_eq]; exact c1
    exact ⟨_, ev_neg c0 (ev_bind0 (spec_l12Qty_eq q) (ev_neg cn (no true rfl).1)), ev_neg c0 (ev_bind0 hq (ev_neg cn (no true rfl).2))⟩
  obtain ⟨b0, e0, q0⟩ := spec_NameOk_ev a ha
  obtain ⟨b0', e0', q0'⟩ := impl_NameOk_ev a
  have eb0 : b0' = b0 := by rw [Bool.eq_iff_iff, q0, q0']
  subst eb0
  obtain ⟨b1, e1, q1⟩ := spec_NameOk_ev b hb
  obtain ⟨b1', e1', q1'⟩ := impl_NameOk_ev b
  have eb1 : b1' = b1 := by rw [Bool.eq_iff_iff, q1, q1']
  subst eb1
  by_cases c2 : b0' = true
  rotate_left
  · exact ⟨_, ev_neg c0 (ev_bind0 (spec_l12Qty_eq q) (ev_pos (decide_eq_true c1) (Ev.bind e0 (ev_neg c2 (no true rfl).1)))), ev_neg c0 (ev_bind0 hq (ev_pos (decide_eq_true c1) (Ev.bind e0' (ev_neg c2 (no true rfl).2))))⟩
  by_cases c3 : b1' = true
  rotate_left
  · have hx : (!b1') = true := by cases b1'; rfl; exact absurd rfl c3
    exact ⟨_, ev_neg c0 (ev_bind0 (spec_l12Qty_eq q) (ev_pos (decide_eq_true c1) (Ev.bind e0 (ev_pos c2 (Ev.bind e1 (no _ hx).1))))), ev_neg c0 (ev_bind0 hq (ev_pos (decide_eq_true c1) (Ev.bind e0' (ev_pos c2 (Ev.bind e1' (no _ hx).2)))))⟩
  have hx : ¬ ((!b1') = true) := by rw [c3]; decide
  have hl : l.length ≤ 40 := by omega
  have na := q0.1 c2
  have nb := q1.1 c3
  have fin : ∃ r, Ev (fun k => spec_QtyIn.l0 k l q a b 0) r ∧ Ev (fun k => impl_QtyIn.l0 k l q a b (mset (mset ([] : List (ByteArray × Bool)) a true) b true) l (l.length : Int) 0) r := by
    have s := each_mem_go l (fun k i => spec_QtyIn.l0 k l q a b i) ConvIs (fun k => spec_QtyIn.l1 k l q b ([(⟨a, 1, 1, 0⟩ : WS)] : List WS) 0) (0, false) (by
      intro i hi
      have ew : wrap64 ((i : Int) + 1) = ((i + 1 : Nat) : Int) := by rw [wrap_id (by omega) (by omega)]; omega
      have hs := hB.2 _ (List.getElem_mem hi)
      rcases spec_conv l[i] hs.1 hs.2 (fun k => spec_QtyIn.l0 k l q a b ((i + 1 : Nat) : Int)) with ⟨h1, h2⟩ | ⟨h1, h2⟩
      · refine .inl ⟨h1, fun r hr => Ev.step (fun k => by rw [spec_QtyIn.l0]) (ev_pos (by omega) (ev_pos (by omega) ?_))⟩
        rw [rdC_at hi, ew]
        exact h2 r hr
      · refine .inr ⟨h1, Ev.step (fun k => by rw [spec_QtyIn.l0]) (ev_pos (by omega) (ev_pos (by omega) ?_))⟩
        rw [rdC_at hi, ew]
        exact h2) (fun r hr => Ev.step (fun k => by rw [spec_QtyIn.l0]) (ev_neg (by omega) hr))
    have p := each_mem_go l (fun k i => impl_QtyIn.l0 k l q a b (opn l a b i.toNat) l (l.length : Int) i) ConvIs (fun k => if a.toList = b.toList then (some (q, true)) else (if a.size ≤ 9223372036854775807 then (impl_QtyIn.l1 k l q b (mdel (opn l a b l.length) a) ([(⟨a, 1, 1, 0⟩ : WI)] : List WI)) else none)) (0, false) (by
      intro i hi
      have ew : wrap64 ((i : Int) + 1) = ((i + 1 : Nat) : Int) := by rw [wrap_id (by omega) (by omega)]; omega
      obtain ⟨c, h1, h2⟩ := impl_conv l[i]
      have eg : l.getD i z35 = l[i] := getD_at hi _
      by_cases cc : c = true
      · have hc := h2.1 cc
        refine .inl ⟨hc, fun r hr => Ev.step (fun k => by rw [impl_QtyIn.l0]) (ev_pos (by omega) (ev_pos (by omega) (ev_pos (by omega) ?_)))⟩
        rw [rdC_at hi, ew, Int.toNat_natCast]
        refine Ev.bind h1 (ev_pos cc (ev_pos (by have := hc.1.2.1; omega) (ev_pos (by have := hc.2.1.2.1; omega) ?_)))
        have hr' : Ev (fun k => impl_QtyIn.l0 k l q a b (opn l a b (i + 1)) l (l.length : Int) ((i + 1 : Nat) : Int)) r := hr
        unfold opn at hr'
        rw [eg] at hr'
        exact hr'
      · refine .inr ⟨fun h => cc (h2.2 h), Ev.step (fun k => by rw [impl_QtyIn.l0]) (ev_pos (by omega) (ev_pos (by omega) (ev_pos (by omega) ?_)))⟩
        rw [rdC_at hi]
        exact Ev.bind h1 (ev_neg cc (Ev.now _))) (fun r hr => Ev.step (fun k => by rw [impl_QtyIn.l0]) (ev_neg (by omega) (by rw [Int.toNat_natCast]; exact hr)))
    rcases s with ⟨hc, s⟩ | ⟨hc, s⟩
    rotate_left
    · rcases p with ⟨hc', _⟩ | ⟨_, p⟩
      · exact absurd hc' hc
      · exact ⟨_, s, p⟩
    rcases p with ⟨_, p⟩ | ⟨hc', _⟩
    rotate_left
    · exact absurd hc hc'
    have hU := UU_len l a b
    have I0 : InvL (UU l a b) [(⟨a, 1, 1, 0⟩ : WS)] := by
      refine ⟨fun y hy => ?_, ?_⟩
      · rw [List.mem_singleton] at hy
        subst hy
        exact ⟨by simp [UU], ⟨by show (0 : Int) ≤ 0; decide, by show (0 : Int) ≤ 4; decide⟩, ⟨by show (1 : Int) ≤ 1; decide, by show (1 : Int) ≤ pw 0; decide⟩, ⟨by show (1 : Int) ≤ 1; decide, by show (1 : Int) ≤ pw 0; decide⟩⟩
      · have : cnt (UU l a b) [(⟨a, 1, 1, 0⟩ : WS)] ≤ (UU l a b).length := List.length_filter_le _ _
        simp only [List.length_singleton]; omega
    by_cases cab : a = b
    · subst cab
      obtain ⟨L', ⟨t, ht⟩, hI', h3⟩ := spec_all l q a a hl hc (cnt (UU l a a) [(⟨a, 1, 1, 0⟩ : WS)] + 1) [(⟨a, 1, 1, 0⟩ : WS)] 0 (by simp) (by simp) I0
      obtain ⟨r, r1, _, g, hg, hg1, hg2, _, hr⟩ := by_ev q 1 1 c1.1 c1.2 (by decide) (by decide) (by decide) (by decide)
      have hg3 : g = 1 := Int.le_antisymm (Int.le_of_dvd (by decide) hg1) (by omega)
      subst hg3
      have er : r = (q, true) := by
        rcases hr with ⟨_, h | h⟩ | ⟨h, _⟩
        · exact absurd (Int.one_dvd q) h
        · simp at h; omega
        · rw [h]; simp
      rw [er] at r1
      have hL' : L'.length ≤ 90 := by have := hI'.2; omega
      rw [ht] at h3 hL'
      exact ⟨(q, true), s _ (h3 _ (l4_find q a [] t ⟨a, 1, 1, 0⟩ hL' (by simp) rfl _ r1)), p _ (ev_pos rfl (Ev.now _))⟩
    · have hO : OpenIs (UU l a b) (mdel (opn l a b l.length) a) [(⟨a, 1, 1, 0⟩ : WS)] := by
        intro u hu
        rw [mget_del]
        by_cases c : a = u
        · rw [if_pos c]
          exact ⟨fun h => (by cases h), fun h => absurd c (h ⟨a, 1, 1, 0⟩ (by simp))⟩
        · rw [if_neg c, opn_has l a b l.length (Nat.le_refl _) u (by
            unfold UU at hu
            rcases List.mem_cons.1 hu with h | h
            · exact .inl h
            rcases List.mem_cons.1 h with h | h
            · exact .inr (.inl h)
            obtain ⟨x, hx, h⟩ := List.mem_flatMap.1 h
            obtain ⟨j, hj, rfl⟩ := List.getElem_of_mem hx
            refine .inr (.inr ⟨j, hj, ?_⟩)
            rw [getD_at hj]
            simp at h
            exact h)]
          exact ⟨fun _ y hy => by rw [List.mem_singleton] at hy; subst hy; exact c, fun _ => rfl⟩
      obtain ⟨r, r1, r2⟩ := both l q a b hl hc c1.1 c1.2 (cnt (UU l a b) [(⟨a, 1, 1, 0⟩ : WS)] + 1) [(⟨a, 1, 1, 0⟩ : WS)] 0 _ (by simp) (by simp) I0 hO (fun y hy => by rw [List.mem_singleton] at hy; subst hy; exact cab)
      exact ⟨r, s _ r1, p _ (ev_neg (fun h => cab (str_iff.1 h)) (ev_pos (by have := na.2.1; omega) r2))⟩
  obtain ⟨r, r1, r2⟩ := fin
  exact ⟨r, ev_neg c0 (ev_bind0 (spec_l12Qty_eq q) (ev_pos (decide_eq_true c1) (Ev.bind e0 (ev_pos c2 (Ev.bind e1 (Ev.step (fun k => by rw [spec_QtyIn.j0]) (ev_neg hx r1))))))), ev_neg c0 (ev_bind0 hq (ev_pos (decide_eq_true c1) (Ev.bind e0' (ev_pos c2 (Ev.bind e1' (Ev.step (fun k => by rw [impl_QtyIn.j0]) (ev_neg hx (ev_pos (by have := na.2.1; omega) (ev_pos (by have := nb.2.1; omega) r2)))))))))⟩
/-! ### One conversion alone -/
theorem one_no (c : CV) (q : Int) (h0 : (c.f0.size : Int) ≤ 1048576) (h1 : (c.f1.size : Int) ≤ 1048576) (h : ¬ (ConvIs c ∧ 0 ≤ q ∧ q ≤ 1000000)) : Ev (fun k => spec_QtyIn.f k [c] q c.f0 c.f1) (0, false) := by
  have no : ∀ x, x = true → Ev (fun k => spec_QtyIn.j0 k [c] q c.f0 c.f1 x) (0, false) := fun x hx => Ev.step (fun k => by rw [spec_QtyIn.j0]) (ev_pos hx (Ev.now _))
  unfold spec_QtyIn.f
  refine ev_neg (by simp) (ev_bind0 (spec_l12Qty_eq q) ?_)
  by_cases c1 : 0 ≤ q ∧ q ≤ 1000000
  · refine ev_pos (decide_eq_true c1) ?_
    obtain ⟨b0, e0, q0⟩ := spec_NameOk_ev c.f0 h0
    refine Ev.bind e0 ?_
    by_cases c2 : b0 = true
    · refine ev_pos c2 ?_
      obtain ⟨b1, e1, q1⟩ := spec_NameOk_ev c.f1 h1
      refine Ev.bind e1 ?_
      by_cases c3 : b1 = true
      · subst c3
        refine Ev.step (fun k => by rw [spec_QtyIn.j0]) ?_
        refine ev_neg (by decide) (Ev.step (fun k => by rw [spec_QtyIn.l0]) ?_)
        refine ev_pos (by simp) (ev_pos (by decide) ?_)
        rcases spec_conv c h0 h1 (fun k => spec_QtyIn.l0 k [c] q c.f0 c.f1 (wrap64 (0 + 1))) with ⟨hc, _⟩ | ⟨_, h2⟩
        · exact absurd ⟨hc, c1⟩ h
        · exact h2
      · exact no _ (by cases b1; rfl; exact absurd rfl c3)
    · exact ev_neg c2 (no true rfl)
  · exact ev_neg (by rw [decide_eq_true_eq]; exact c1) (no true rfl)
theorem one_yes (c : CV) (hc : ConvIs c) (q : Int) (hq : 0 ≤ q ∧ q ≤ 1000000) (u v : ByteArray) (n d : Int) (h : (u = c.f0 ∧ v = c.f1 ∧ n = c.f2 ∧ d = c.f3) ∨ (u = c.f1 ∧ v = c.f0 ∧ n = c.f3 ∧ d = c.f2)) (r : Int × Bool) (hr : Ev (fun k => spec_l15By.f k q n d) r) : Ev (fun k => spec_QtyIn.f k [c] q u v) r := by
  have hsz : ∀ s, NameIs s → (s.size : Int) ≤ 1048576 := fun s hs => by have := hs.2.1; omega
  have hu : NameIs u := by rcases h with ⟨rfl, _⟩ | ⟨rfl, _⟩; exact hc.1; exact hc.2.1
  have hv : NameIs v := by rcases h with ⟨_, rfl, _⟩ | ⟨_, rfl, _⟩; exact hc.2.1; exact hc.1
  have huv : u ≠ v := by rcases h with ⟨rfl, rfl, _⟩ | ⟨rfl, rfl, _⟩; exact hc.2.2.1; exact fun e => hc.2.2.1 e.symm
  unfold spec_QtyIn.f
  refine ev_neg (by simp) (ev_bind0 (spec_l12Qty_eq q) (ev_pos (decide_eq_true hq) ?_))
  obtain ⟨b0, e0, q0⟩ := spec_NameOk_ev u (hsz u hu)
  refine Ev.bind e0 (ev_pos (q0.2 hu) ?_)
  obtain ⟨b1, e1, q1⟩ := spec_NameOk_ev v (hsz v hv)
  have hb1 : b1 = true := q1.2 hv
  subst hb1
  refine Ev.bind e1 (Ev.step (fun k => by rw [spec_QtyIn.j0]) (ev_neg (by decide) (Ev.step (fun k => by rw [spec_QtyIn.l0]) (ev_pos (by simp) (ev_pos (by decide) ?_)))))
  rcases spec_conv c (hsz _ hc.1) (hsz _ hc.2.1) (fun k => spec_QtyIn.l0 k [c] q u v (wrap64 (0 + 1))) with ⟨_, h2⟩ | ⟨h2, _⟩
  · refine h2 r ?_
    rw [wrap_id (x := 0 + 1) (by decide) (by decide)]
    refine Ev.step (fun k => by rw [spec_QtyIn.l0]) (ev_neg (by simp) ?_)
    refine Ev.step (fun k => by rw [spec_QtyIn.l1]) (ev_pos (by simp) (ev_pos (by decide) ?_))
    have hl1 : ∀ x ∈ [c], ConvIs x := fun x hx => by rw [List.mem_singleton] at hx; rw [hx]; exact hc
    have hU := UU_len [c] u v
    have I0 : InvL (UU [c] u v) [(⟨u, 1, 1, 0⟩ : WS)] := by
      refine ⟨fun y hy => ?_, ?_⟩
      · rw [List.mem_singleton] at hy
        subst hy
        exact ⟨by simp [UU], ⟨by show (0 : Int) ≤ 0; decide, by show (0 : Int) ≤ 4; decide⟩, ⟨by show (1 : Int) ≤ 1; decide, by show (1 : Int) ≤ pw 0; decide⟩, ⟨by show (1 : Int) ≤ 1; decide, by show (1 : Int) ≤ pw 0; decide⟩⟩
      · have : cnt (UU [c] u v) [(⟨u, 1, 1, 0⟩ : WS)] ≤ (UU [c] u v).length := List.length_filter_le _ _
        simp only [List.length_singleton]; omega
    have hw := I0.1 ⟨u, 1, 1, 0⟩ (by simp)
    have hy : nxW (⟨u, 1, 1, 0⟩ : WS) c = ⟨v, n, d, 1⟩ := by
      unfold nxW
      rcases h with ⟨h1, h2, h3, h4⟩ | ⟨h1, h2, h3, h4⟩
      · rw [if_pos h1, h2, h3, h4]; simp
      · rw [if_neg (fun e => huv (by rw [h2]; exact e)), h2, h3, h4]; simp
    have hm : (⟨u, 1, 1, 0⟩ : WS).f0 = c.f0 ∨ (⟨u, 1, 1, 0⟩ : WS).f0 = c.f1 := by rcases h with ⟨h1, _⟩ | ⟨h1, _⟩; exact .inl h1; exact .inr h1
    have hn : ∀ z ∈ [(⟨u, 1, 1, 0⟩ : WS)], z.f0 ≠ (nxW (⟨u, 1, 1, 0⟩ : WS) c).f0 := fun z hz => by rw [List.mem_singleton] at hz; rw [hz, hy]; exact huv
    have hnw := nxW_is (a := u) (b := v) (l := [c]) (x := c) (by simp) hc hw (by show (0 : Int) < 4; decide)
    refine spec_try [c] q u v (by simp) hl1 [(⟨u, 1, 1, 0⟩ : WS)] 0 0 ⟨u, 1, 1, 0⟩ (by simp) I0 hw (by show (0 : Int) < 4; decide) r (.inr ⟨⟨hm, hn⟩, ?_⟩)
    have e1 : wrap64 (((0 : Nat) : Int) + 1) = ((1 : Nat) : Int) := wrap_id (by decide) (by decide)
    rw [e1]
    refine spec_rest [c] q u v (by simp) hl1 0 1 ⟨u, 1, 1, 0⟩ hw _ (by simp) (by simp) (I0.snoc hnw hn) r (fun L' hp hI' => ?_)
    obtain ⟨t, ht⟩ := hp
    have hL' := hI'.len (show [c].length ≤ 40 by simp)
    rw [ht, List.append_assoc, List.singleton_append] at hL' ⊢
    refine l4_find q v [(⟨u, 1, 1, 0⟩ : WS)] t _ hL' (fun z hz => by rw [List.mem_singleton] at hz; rw [hz]; exact huv) (by show (nxW _ c).f0 = v; rw [hy]) r ?_
    have e2 : nxW (⟨u, 1, 1, 0⟩ : WS) ([c][0]'(by simp)) = ⟨v, n, d, 1⟩ := hy
    have e3 : ∀ y : WS, y = ⟨v, n, d, 1⟩ → Ev (fun k => spec_l15By.f k q y.f1 y.f2) r := fun y hy => by rw [hy]; exact hr
    exact e3 _ e2
  · exact absurd hc h2
theorem units_one (c : CV) (h0 : (c.f0.size : Int) ≤ 1048576) (h1 : (c.f1.size : Int) ≤ 1048576) (q : Int) :
    ∃ r z, Ev (fun k => impl_QtyIn.f k [c] q c.f0 c.f1) r ∧ Ev (fun k => spec_QtyIn.f k [c] q c.f0 c.f1) r ∧ Ev (fun k => impl_QtyIn.f k [c] r.1 c.f1 c.f0) z ∧ (r.2 = true → z.2 = true ∧ z.1 = q ∧ wrap64 (r.1 * c.f3) = wrap64 (q * c.f2)) := by
  have hB : (([c] : List CV).length : Int) ≤ 1048576 ∧ ∀ x ∈ [c], (x.f0.size : Int) ≤ 1048576 ∧ (x.f1.size : Int) ≤ 1048576 := ⟨by simp, fun x hx => by rw [List.mem_singleton] at hx; rw [hx]; exact ⟨h0, h1⟩⟩
  obtain ⟨r, s1, s2⟩ := qtyin_ev [c] q c.f0 c.f1 hB h0 h1
  obtain ⟨z, t1, t2⟩ := qtyin_ev [c] r.1 c.f1 c.f0 hB h1 h0
  refine ⟨r, z, s2, s1, t2, fun hok => ?_⟩
  by_cases hv : ConvIs c ∧ 0 ≤ q ∧ q ≤ 1000000
  · obtain ⟨hc, hq⟩ := hv
    have c2 := hc.2.2.2.1
    have c3 := hc.2.2.2.2
    obtain ⟨r0, e1, _, g, g0, ⟨n', hn'⟩, ⟨d', hd'⟩, gg, hr0⟩ := by_ev q c.f2 c.f3 hq.1 hq.2 c2.1 (by omega) c3.1 (by omega)
    have er : r = r0 := ev_unique s1 (one_yes c hc q hq c.f0 c.f1 c.f2 c.f3 (.inl ⟨rfl, rfl, rfl, rfl⟩) r0 e1)
    subst er
    have en : c.f2 / g = n' := by rw [hn', Int.mul_ediv_cancel_left _ (by omega)]
    have ed : c.f3 / g = d' := by rw [hd', Int.mul_ediv_cancel_left _ (by omega)]
    rw [en, ed] at hr0
    rcases hr0 with ⟨h, _⟩ | ⟨h, ⟨t, ht⟩, hle⟩
    · rw [h] at hok; cases hok
    · have pn : 0 < n' := by
        rcases (by omega : 0 < n' ∨ n' ≤ 0) with h | h
        · exact h
        · have := Int.mul_nonpos_of_nonneg_of_nonpos (show 0 ≤ g by omega) h; omega
      have pd : 0 < d' := by
        rcases (by omega : 0 < d' ∨ d' ≤ 0) with h | h
        · exact h
        · have := Int.mul_nonpos_of_nonneg_of_nonpos (show 0 ≤ g by omega) h; omega
      have et : q / d' = t := by rw [ht, Int.mul_ediv_cancel_left _ (by omega)]
      have pt : 0 ≤ t := by rw [← et]; exact Int.ediv_nonneg hq.1 (by omega)
      rw [et] at h hle
      have ey : r.1 = t * n' := by rw [h]
      have hy0 : 0 ≤ t * n' := Int.mul_nonneg pt (by omega)
      obtain ⟨r1, f1, _, g', g0', gn', gd', gg', hr1⟩ := by_ev r.1 c.f3 c.f2 (by rw [ey]; exact hy0) (by rw [ey]; exact hle) c3.1 (by omega) c2.1 (by omega)
      have eg : g' = g := Int.dvd_antisymm (by omega) (by omega) (gg g' gd' gn') (gg' g ⟨d', hd'⟩ ⟨n', hn'⟩)
      subst eg
      have ez : z = r1 := ev_unique t1 (one_yes c hc r.1 ⟨by rw [ey]; exact hy0, by rw [ey]; exact hle⟩ c.f1 c.f0 c.f3 c.f2 (.inr ⟨rfl, rfl, rfl, rfl⟩) r1 f1)
      subst ez
      rw [en, ed] at hr1
      have edv : r.1 / n' = t := by rw [ey, Int.mul_ediv_cancel _ (by omega)]
      rw [edv] at hr1
      have eq2 : t * d' = q := by rw [ht, Int.mul_comm]
      refine ⟨?_, ?_, ?_⟩
      · rcases hr1 with ⟨_, h | h⟩ | ⟨h, _⟩
        · exact absurd ⟨t, by rw [ey, Int.mul_comm]⟩ h
        · rw [Int.mul_comm, eq2] at h; omega
        · rw [h]
      · rcases hr1 with ⟨_, h | h⟩ | ⟨h, _⟩
        · exact absurd ⟨t, by rw [ey, Int.mul_comm]⟩ h
        · rw [Int.mul_comm, eq2] at h; omega
        · rw [h]; exact eq2
      · rw [ey, ht, hn', hd']
        congr 1
        simp only [Int.mul_assoc, Int.mul_comm, Int.mul_left_comm]
  · have := ev_unique s1 (one_no c q h0 h1 hv)
    rw [this] at hok
    cases hok
/-! ### What is drawn -/
theorem drawConvs_ok (b : List Int) (i h : Int) (hc : Cu b i) : ∃ cs i' h', Ev (fun k => spec_l15DrawConvs.f k b i h) (cs, i', h') ∧ Cu b i' ∧ cs.length ≤ 7 ∧ ∀ x ∈ cs, (x.f0.size : Int) ≤ 1048576 ∧ (x.f1.size : Int) ≤ 1048576 := by
  obtain ⟨n, i1, h1, e1, c1, n0, n1, _⟩ := below_ok b i h 7 hc
  have n2 := n1 (by decide)
  generalize hU : ([(⟨#[112, 99]⟩ : ByteArray), (⟨#[98, 111, 120]⟩ : ByteArray), (⟨#[112, 97, 108]⟩ : ByteArray), (⟨#[107, 103]⟩ : ByteArray), (⟨#[103]⟩ : ByteArray), (⟨#[116]⟩ : ByteArray), (⟨#[109]⟩ : ByteArray)] : List ByteArray) = U
  have hUl : (U.length : Int) = 7 := by rw [← hU]; rfl
  have hUs : ∀ j : Int, 0 ≤ j → j < (U.length : Int) → ((rdOf ByteArray.empty U j).size : Int) ≤ 1048576 := by
    rw [hUl]
    intro j j0 j1
    rw [← hU]
    have : j = 0 ∨ j = 1 ∨ j = 2 ∨ j = 3 ∨ j = 4 ∨ j = 5 ∨ j = 6 := by omega
    rcases this with rfl | rfl | rfl | rfl | rfl | rfl | rfl <;> decide
  have go : ∀ (m : Nat) (cs : List CV) (i h : Int), m ≤ 7 → cs.length + m ≤ 7 → (∀ x ∈ cs, (x.f0.size : Int) ≤ 1048576 ∧ (x.f1.size : Int) ≤ 1048576) → Cu b i → ∃ cs' i' h', Ev (fun k => spec_l15DrawConvs.l0 k U cs (m : Int) b i h) (cs', i', h') ∧ Cu b i' ∧ cs'.length ≤ 7 ∧ ∀ x ∈ cs', (x.f0.size : Int) ≤ 1048576 ∧ (x.f1.size : Int) ≤ 1048576 := by
    intro m
    induction m with
    | zero =>
      intro cs i h _ hl hs hc
      exact ⟨cs, i, h, Ev.step (fun k => by rw [spec_l15DrawConvs.l0]) (ev_neg (by omega) (Ev.now _)), hc, by omega, hs⟩
    | succ m ih =>
      intro cs i h hm hl hs hc
      obtain ⟨x1, j1, g1, f1, k1, a1, b1, _⟩ := below_ok b i h (U.length : Int) hc
      obtain ⟨x2, j2, g2, f2, k2, a2, b2, _⟩ := below_ok b j1 g1 3 k1
      obtain ⟨x3, j3, g3, f3, k3, _⟩ := below_ok b j2 g2 12 k2
      obtain ⟨x4, j4, g4, f4, k4, _⟩ := pickInt_ok b j3 g3 ([1, 1, 2, 1000] : List Int) (by decide) k3
      obtain ⟨v, j5, g5, f5, k5⟩ := once_ok b j4 g4 30 k4
      have m0 : ((m + 1 : Nat) : Int) > 0 := by omega
      have u0 : ¬ ((U.length : Int) = 0) := by omega
      have b1' := b1 (by omega)
      have b2' := b2 (by decide)
      have t0 : 0 ≤ Int.tmod (wrap64 ((wrap64 (x1 + 1)) + x2)) (U.length : Int) := by
        rw [wrap_id (x := x1 + 1) (by omega) (by omega), wrap_id (by omega) (by omega)]
        exact Int.tmod_nonneg _ (by omega)
      have t1 : Int.tmod (wrap64 ((wrap64 (x1 + 1)) + x2)) (U.length : Int) < (U.length : Int) := Int.tmod_lt_of_pos _ (by omega)
      have ew : wrap64 (((m + 1 : Nat) : Int) - 1) = (m : Int) := by rw [wrap_id (by omega) (by omega)]; omega
      have last : ∀ (A B : ByteArray) (n d : Int) (i h : Int), (A.size : Int) ≤ 1048576 → (B.size : Int) ≤ 1048576 → Cu b i → ∃ cs' i' h', Ev (fun k => spec_l15DrawConvs.j1 k U cs ((m + 1 : Nat) : Int) b i h A B n d) (cs', i', h') ∧ Cu b i' ∧ cs'.length ≤ 7 ∧ ∀ x ∈ cs', (x.f0.size : Int) ≤ 1048576 ∧ (x.f1.size : Int) ≤ 1048576 := by
        intro A B n d i h hA hB hc
        obtain ⟨v, j, g, f, k⟩ := once_ok b i h 40 hc
        have cl : cs.length < 2932031007402 := by omega
        have more : ∀ y : CV, (y.f0.size : Int) ≤ 1048576 ∧ (y.f1.size : Int) ≤ 1048576 → ∃ cs' i' h', Ev (fun k => spec_l15DrawConvs.l0 k U (cs ++ [y]) (m : Int) b j g) (cs', i', h') ∧ Cu b i' ∧ cs'.length ≤ 7 ∧ ∀ x ∈ cs', (x.f0.size : Int) ≤ 1048576 ∧ (x.f1.size : Int) ≤ 1048576 := fun y hy => ih (cs ++ [y]) j g (by omega) (by simp; omega) (fun x hx => by
          rcases List.mem_append.1 hx with h | h
          · exact hs x h
          · rw [List.mem_singleton] at h; rw [h]; exact hy) k
        by_cases cv : v = true
        · obtain ⟨cs', i', h', q1, q2⟩ := more ⟨A, A, n, d⟩ ⟨hA, hA⟩
          refine ⟨cs', i', h', Ev.step (fun k => by rw [spec_l15DrawConvs.j1]) (ev_bind0 f (ev_pos cv (ev_pos cl ?_))), q2⟩
          rw [ew]; exact q1
        · obtain ⟨cs', i', h', q1, q2⟩ := more ⟨A, B, n, d⟩ ⟨hA, hB⟩
          refine ⟨cs', i', h', Ev.step (fun k => by rw [spec_l15DrawConvs.j1]) (ev_bind0 f (ev_neg cv (ev_pos cl ?_))), q2⟩
          rw [ew]; exact q1
      by_cases cv : v = true
      · obtain ⟨x6, j6, g6, f6, k6, _⟩ := pickInt_ok b j5 g5 ([0, 10000, 10001] : List Int) (by decide) k5
        obtain ⟨cs', i', h', q1, q2⟩ := last (rdOf ByteArray.empty U x1) (rdOf ByteArray.empty U (Int.tmod (wrap64 ((wrap64 (x1 + 1)) + x2)) (U.length : Int))) x6 x4 j6 g6 (hUs _ a1 b1') (hUs _ t0 t1) k6
        exact ⟨cs', i', h', Ev.step (fun k => by rw [spec_l15DrawConvs.l0]) (ev_pos m0 (ev_bind0 f1 (ev_pos a1 (ev_pos b1' (ev_bind0 f2 (ev_neg u0 (ev_pos t0 (ev_pos t1 (ev_bind0 f3 (ev_bind0 f4 (ev_bind0 f5 (ev_pos cv (ev_bind0 f6 q1))))))))))))), q2⟩
      · obtain ⟨cs', i', h', q1, q2⟩ := last (rdOf ByteArray.empty U x1) (rdOf ByteArray.empty U (Int.tmod (wrap64 ((wrap64 (x1 + 1)) + x2)) (U.length : Int))) (wrap64 (1 + x3)) x4 j5 g5 (hUs _ a1 b1') (hUs _ t0 t1) k5
        exact ⟨cs', i', h', Ev.step (fun k => by rw [spec_l15DrawConvs.l0]) (ev_pos m0 (ev_bind0 f1 (ev_pos a1 (ev_pos b1' (ev_bind0 f2 (ev_neg u0 (ev_pos t0 (ev_pos t1 (ev_bind0 f3 (ev_bind0 f4 (ev_bind0 f5 (ev_neg cv q1)))))))))))), q2⟩
  obtain ⟨cs', i', h', q1, q2⟩ := go n.toNat [] i1 h1 (by omega) (by simp; omega) (by simp) c1
  rw [show ((n.toNat : Nat) : Int) = n by omega] at q1
  refine ⟨cs', i', h', ?_, q2⟩
  unfold spec_l15DrawConvs.f
  rw [hU]
  exact ev_bind0 e1 q1
theorem pick_ok (b : List Int) (i h : Int) (l : List ByteArray) (hl : 0 < l.length) (hc : Cu b i) : ∃ s i' h', spec_l1Pick.f b i h l = some (s, i', h') ∧ Cu b i' := by
  obtain ⟨x, i', h', e, c, x0, x1, _⟩ := below_ok b i h (l.length : Int) hc
  have := x1 (by omega)
  unfold spec_l1Pick.f
  rw [e, Option.bind_some, if_pos x0, if_pos this]
  exact ⟨_, _, _, rfl, c⟩
theorem draw_ev (l : List Int) (hl : (l.length : Int) ≤ 140737488351232) : ∃ cs q a b, Ev (fun k => spec_DrawQtyIn.f k l) (cs, q, a, b) ∧ cs.length ≤ 7 ∧ ∀ x ∈ cs, (x.f0.size : Int) ≤ 1048576 ∧ (x.f1.size : Int) ≤ 1048576 := by
  obtain ⟨h, hn⟩ := new_ok l hl
  obtain ⟨cs, i1, h1, e1, c1, hcl, hcs⟩ := drawConvs_ok l 0 h ⟨by decide, by omega, hl⟩
  obtain ⟨x2, i2, h2, e2, c2, _⟩ := below_ok l i1 h1 50 c1
  obtain ⟨x3, i3, h3, e3, c3, _⟩ := pickInt_ok l i2 h2 ([1, 12, 1000] : List Int) (by decide) c2
  obtain ⟨q, i4, h4, e4, c4, _⟩ := spoil_ok l i3 h3 (wrap64 (x2 * x3)) ([(-1), 1000000, 1000001] : List Int) (by decide) c3
  generalize hU : ([(⟨#[112, 99]⟩ : ByteArray), (⟨#[98, 111, 120]⟩ : ByteArray), (⟨#[112, 97, 108]⟩ : ByteArray), (⟨#[107, 103]⟩ : ByteArray), (⟨#[103]⟩ : ByteArray), (⟨#[116]⟩ : ByteArray), (⟨#[109]⟩ : ByteArray)] : List ByteArray) = U
  have hUl : 0 < U.length := by rw [← hU]; decide
  have last : ∀ (v : Bool) (i h : Int), Cu l i → (v = true → 0 < cs.length) → ∃ a b, Ev (fun k => spec_DrawQtyIn.j0 k cs U q v l i h) (cs, q, a, b) := by
    intro v i h hc hv
    by_cases cv : v = true
    · obtain ⟨x, i', h', e, c, x0, x1, _⟩ := below_ok l i h (cs.length : Int) hc
      have h0 := hv cv
      refine ⟨_, _, Ev.step (fun k => by rw [spec_DrawQtyIn.j0]) (ev_pos cv (ev_pos (by omega) (ev_bind0 e (ev_pos x0 (ev_pos (x1 (by omega)) (Ev.now _))))))⟩
    · obtain ⟨s, i', h', e, c⟩ := pick_ok l i h U hUl hc
      obtain ⟨s2, i2, h2, e2, c2⟩ := pick_ok l i' h' ([(⟨#[112, 99]⟩ : ByteArray), (⟨#[107, 103]⟩ : ByteArray), (⟨#[103]⟩ : ByteArray), (⟨#[]⟩ : ByteArray), (⟨#[112, 97, 108]⟩ : ByteArray)] : List ByteArray) (by decide) c
      refine ⟨s, s2, ?_⟩
      refine Ev.step (fun k => by rw [spec_DrawQtyIn.j0]) ?_
      exact ev_neg cv (ev_bind0 e (ev_bind0 e2 (Ev.now _)))
  unfold spec_DrawQtyIn.f
  rw [hU]
  by_cases c0 : (cs.length : Int) > 0
  · obtain ⟨v, i5, h5, e5, c5⟩ := once_ok l i4 h4 4 c4
    obtain ⟨a, b, hl⟩ := last (!v) i5 h5 c5 (fun _ => by omega)
    exact ⟨cs, q, a, b, Ev.bind hn (Ev.bind e1 (ev_bind0 rfl (ev_bind0 e2 (ev_bind0 e3 (ev_bind0 e4 (ev_pos c0 (ev_bind0 e5 hl))))))), hcl, hcs⟩
  · obtain ⟨a, b, hl⟩ := last false i4 h4 c4 (fun h => by cases h)
    exact ⟨cs, q, a, b, Ev.bind hn (Ev.bind e1 (ev_bind0 rfl (ev_bind0 e2 (ev_bind0 e3 (ev_bind0 e4 (ev_neg c0 hl)))))), hcl, hcs⟩
theorem known : Ev (fun k => impl_QtyIn.f k ([(⟨(⟨#[98, 111, 120]⟩ : ByteArray), (⟨#[112, 99]⟩ : ByteArray), 12, 1⟩ : CV), (⟨(⟨#[112, 97, 108]⟩ : ByteArray), (⟨#[98, 111, 120]⟩ : ByteArray), 10, 1⟩ : CV)] : List CV) 2 (⟨#[112, 97, 108]⟩ : ByteArray) (⟨#[112, 99]⟩ : ByteArray)) (240, true) :=
  Ev.of (impl_QtyIn.mono _ _ _ _) (k := 64) (by decide +kernel)
theorem law_loop (cs : List CV) (q : Int) (hl : cs.length ≤ 7) (hs : ∀ x ∈ cs, (x.f0.size : Int) ≤ 1048576 ∧ (x.f1.size : Int) ≤ 1048576) : ∀ (d i : Nat), i + d = cs.length → Ev (fun k => laws_FnUnits.l0 k cs q (i : Int)) true := by
  intro d
  induction d with
  | zero => intro i hi; exact Ev.step (fun k => by rw [laws_FnUnits.l0]) (ev_neg (by omega) (Ev.now _))
  | succ d ih =>
    intro i hi
    have hil : i < cs.length := by omega
    have ew : wrap64 ((i : Int) + 1) = ((i + 1 : Nat) : Int) := by rw [wrap_id (by omega) (by omega)]; omega
    have h := hs _ (List.getElem_mem hil)
    obtain ⟨r, z, r1, r2, z1, hz⟩ := units_one cs[i] h.1 h.2 q
    refine Ev.step (fun k => by rw [laws_FnUnits.l0]) (ev_pos (by omega) (ev_pos (by omega) ?_))
    rw [rdC_at hil, ew]
    refine Ev.bind r1 (Ev.bind r2 (ev_neg (by simp) (Ev.bind z1 ?_)))
    by_cases c : r.2 = true
    · obtain ⟨a1, a2, a3⟩ := hz c
      exact ev_pos c (ev_pos a1 (ev_pos a2 (ev_pos a3 (ih (i + 1) (by omega)))))
    · exact ev_neg c (ih (i + 1) (by omega))
theorem FnUnits : laws_FnUnits.Pure := by
  intro l0 hg0 hg1 hg2
  apply Ev.rounds
  unfold laws_FnUnits.f laws_big.f
  refine ev_bind0 rfl ?_
  by_cases cb : (l0.length : Int) > 1048576
  · exact ev_pos (decide_eq_true cb) (Ev.now _)
  refine ev_neg (by rw [decide_eq_true_eq]; exact cb) ?_
  obtain ⟨cs, q, a, b, hd, hl, hs⟩ := draw_ev l0 (by omega)
  refine Ev.bind known (ev_pos rfl (Ev.step (fun k => by rw [laws_FnUnits.j0]) ?_))
  exact ev_neg (by decide) (Ev.bind hd (law_loop cs q hl hs cs.length 0 (by omega)))
end Go.Proofs.Ytkkdmmefnicmaaa.Pure
