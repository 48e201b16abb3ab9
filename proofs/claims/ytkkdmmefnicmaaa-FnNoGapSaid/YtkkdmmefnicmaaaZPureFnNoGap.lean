/- NoGap: papers issued into a drawn right register are numbered on without a gap, what is void keeps its number, and each one's text finds it. -/
import Derived.Test.YtkkdmmefnicmaaaZPFnNoGapx14
import Derived.Test.YtkkdmmefnicmaaaZHFnNoGap
set_option maxHeartbeats 4000000
set_option linter.unusedVariables false
set_option linter.unusedSimpArgs false
namespace Go.Proofs.Ytkkdmmefnicmaaa.Pure
open Go.RowKit Go.Proofs.Ytkkdmmefnicmaaa.PFnNoGap Go.Proofs.YtkkdmmefnicmaaaW.PrintWords Go.Proofs.YtkkdmmefnicmaaaW.PrintLast Go.Proofs.Ytkkdmmefnicmaaa.XEv
/-! ### Draws -/
theorem and255 (n : Int) : Go.bits .and .i64 n 255 = n % 256 := by
  have h255 : (BitVec.ofInt 64 255).toNat = 2 ^ 8 - 1 := by decide
  have key : (BitVec.ofInt 64 n &&& BitVec.ofInt 64 255).toNat = (n % ((2 ^ 64 : Nat) : Int)).toNat % 2 ^ 8 := by
    rw [BitVec.toNat_and, BitVec.toNat_ofInt, h255, Nat.and_two_pow_sub_one_eq_mod]
  show IntKind.i64.wrap ((BitVec.ofInt 64 n &&& BitVec.ofInt 64 255).toNat : Nat) = n % 256
  rw [key, IntKind.wrap_i64]
  omega
/-- A draw's state: where it stands in its bytes. -/
def Cu (b : List Int) (i : Int) : Prop := 0 ≤ i ∧ i ≤ (b.length : Int) ∧ (b.length : Int) ≤ 140737488351232
theorem byte_ok (b : List Int) (i h : Int) (hc : Cu b i) : ∃ x i' h', spec_l1Byte.f b i h = some (x, i', h') ∧ 0 ≤ x ∧ x ≤ 255 ∧ Cu b i' := by
  obtain ⟨h0, h1, h2⟩ := hc
  unfold spec_l1Byte.f
  simp only [and255]
  by_cases c : i < (b.length : Int)
  · rw [if_pos c, if_pos h0]
    refine ⟨_, _, _, rfl, Int.emod_nonneg _ (by decide), ?_, ?_⟩
    · have := Int.emod_lt_of_pos (wrap64 (Go.bits .xor .i64 ((wrap64 ((wrap64 (h * 6364136223846793005)) + 1442695040888963407)) / 8589934592) ((wrap64 ((wrap64 (h * 6364136223846793005)) + 1442695040888963407)) / 35184372088832) % 256 + (wrap64 (rd b i)))) (show (0 : Int) < 256 by decide)
      exact Int.le_of_lt_add_one this
    · rw [wrap_id (by omega) (by omega)]
      exact ⟨by omega, by omega, h2⟩
  · rw [if_neg c]
    refine ⟨_, _, _, rfl, Int.emod_nonneg _ (by decide), ?_, h0, h1, h2⟩
    exact Int.le_of_lt_add_one (Int.emod_lt_of_pos _ (show (0 : Int) < 256 by decide))
theorem below_ok (b : List Int) (i h n : Int) (hc : Cu b i) : ∃ x i' h', spec_l1Below.f b i h n = some (x, i', h') ∧ Cu b i' ∧ 0 ≤ x ∧ (0 < n → x < n) ∧ (n ≤ 0 → x = 0) := by
  unfold spec_l1Below.f
  by_cases c0 : n ≤ 0
  · exact ⟨0, i, h, if_pos c0, hc, by decide, fun h => by omega, fun _ => rfl⟩
  rw [if_neg c0]
  obtain ⟨x1, i1, h1, e1, a1, b1, c1⟩ := byte_ok b i h hc
  by_cases c : n ≤ 256
  · rw [if_pos c, e1, Option.bind_some, if_neg (by omega)]
    exact ⟨_, _, _, rfl, c1, Int.tmod_nonneg _ a1, fun _ => Int.tmod_lt_of_pos _ (by omega), fun h => absurd h c0⟩
  · obtain ⟨x2, i2, h2, e2, a2, b2, c2⟩ := byte_ok b i1 h1 c1
    obtain ⟨x3, i3, h3, e3, a3, b3, c3⟩ := byte_ok b i2 h2 c2
    obtain ⟨x4, i4, h4, e4, a4, b4, c4⟩ := byte_ok b i3 h3 c3
    rw [if_neg c, e1, Option.bind_some, e2, Option.bind_some, e3, Option.bind_some, e4, Option.bind_some, if_neg (by omega)]
    refine ⟨_, _, _, rfl, c4, Int.tmod_nonneg _ ?_, fun _ => Int.tmod_lt_of_pos _ (by omega), fun h => absurd h c0⟩
    rw [wrap_id (x := x1 * 16777216) (by omega) (by omega), wrap_id (x := x2 * 65536) (by omega) (by omega), wrap_id (x := x3 * 256) (by omega) (by omega), wrap_id (x := x1 * 16777216 + x2 * 65536) (by omega) (by omega), wrap_id (x := x1 * 16777216 + x2 * 65536 + x3 * 256) (by omega) (by omega), wrap_id (by omega) (by omega)]
    omega
theorem once_ok (b : List Int) (i h n : Int) (hc : Cu b i) : ∃ (v : Bool) (i' h' : Int), spec_l1Once.f b i h n = some (v, i', h') ∧ Cu b i' := by
  obtain ⟨x, i', h', e, c, _⟩ := below_ok b i h n hc
  unfold spec_l1Once.f
  rw [e]
  exact ⟨_, _, _, rfl, c⟩
theorem pickInt_ok (b : List Int) (i h : Int) (l : List Int) (hl : 0 < l.length) (hc : Cu b i) : ∃ s i' h', spec_l1PickInt.f b i h l = some (s, i', h') ∧ Cu b i' ∧ s ∈ l := by
  obtain ⟨x, i', h', e, c, x0, x1, _⟩ := below_ok b i h (l.length : Int) hc
  have := x1 (by omega)
  unfold spec_l1PickInt.f
  rw [e, Option.bind_some, if_pos x0, if_pos this]
  refine ⟨_, _, _, rfl, c, ?_⟩
  have hx : x.toNat < l.length := by omega
  have e2 := rd_at hx
  rw [show ((x.toNat : Nat) : Int) = x by omega] at e2
  show rd l x ∈ l
  rw [e2]
  exact List.getElem_mem hx
theorem new_ok (l : List Int) (hl : (l.length : Int) ≤ 140737488351232) : ∃ h, Ev (fun k => spec_l1New.f k l) (l, 0, h) := by
  have go : ∀ (d i : Nat) (h : Int), i + d = l.length → ∃ h', Ev (fun k => spec_l1New.l0 k l h (i : Int)) (l, 0, h') := by
    intro d
    induction d with
    | zero =>
      intro i h hd
      refine ⟨h, Ev.step (fun k => by rw [spec_l1New.l0]) ?_⟩
      exact ev_neg (by omega) (Ev.now _)
    | succ d ih =>
      intro i h hd
      have hw : wrap64 ((i : Int) + 1) = ((i + 1 : Nat) : Int) := wrap_id (by omega) (by omega)
      by_cases c : (i : Int) < 4000
      · obtain ⟨h', hh⟩ := ih (i + 1) (Go.bits .and .i64 (wrap64 ((wrap64 ((wrap64 (h * 131)) + (wrap64 (rd l (i : Int))))) + 7)) 1073741823) (by omega)
        refine ⟨h', Ev.step (fun k => by rw [spec_l1New.l0]) ?_⟩
        simp only [hw]
        exact ev_pos (by omega) (ev_pos c (ev_pos (by omega) hh))
      · refine ⟨h, Ev.step (fun k => by rw [spec_l1New.l0]) ?_⟩
        exact ev_pos (by omega) (ev_neg c (Ev.now _))
  obtain ⟨h, hh⟩ := go l.length 0 (wrap64 (71933 + (l.length : Int))) (by omega)
  exact ⟨h, by unfold spec_l1New.f; exact hh⟩
/-! ### A text is picked -/
theorem pick_ok (b : List Int) (i h : Int) (l : List ByteArray) (hl : 0 < l.length) (hc : Cu b i) : ∃ s i' h', spec_l1Pick.f b i h l = some (s, i', h') ∧ Cu b i' ∧ s ∈ l := by
  obtain ⟨x, i', h', e, c, x0, x1, _⟩ := below_ok b i h (l.length : Int) hc
  have := x1 (by omega)
  unfold spec_l1Pick.f
  rw [e, Option.bind_some, if_pos x0, if_pos this]
  refine ⟨_, _, _, rfl, c, ?_⟩
  have hx : x.toNat < l.length := by omega
  have e2 := rdOf_at hx ByteArray.empty
  rw [show ((x.toNat : Nat) : Int) = x by omega] at e2
  show rdOf ByteArray.empty l x ∈ l
  rw [e2]
  exact List.getElem_mem hx
/-! ### A number's digits -/
/-- One digit's text. -/
def digB (d : Nat) : ByteArray := (⟨#[48, 49, 50, 51, 52, 53, 54, 55, 56, 57]⟩ : ByteArray).extract d (d + 1)
theorem digB_size (d : Nat) (h : d < 10) : (digB d).size = 1 := by
  unfold digB
  rw [ByteArray.size_extract]
  have : (⟨#[48, 49, 50, 51, 52, 53, 54, 55, 56, 57]⟩ : ByteArray).size = 10 := rfl
  omega
theorem digB_num (d : Nat) (h : d < 10) : strOfNums [(wrap64 (48 + (d : Int))) % 256] = digB d := by
  have hw : (wrap64 (48 + (d : Int))) % 256 = ((48 + d : Nat) : Int) := by rw [wrap_id (by omega) (by omega)]; omega
  rw [hw]
  have : ∀ q : Fin 10, strOfNums [((48 + (q : Nat) : Nat) : Int)] = digB (q : Nat) := by decide +kernel
  exact this ⟨d, h⟩
/-- A number's text. -/
def dec (n : Nat) : ByteArray := if h : n < 10 then digB n else dec (n / 10) ++ digB (n % 10)
termination_by n
decreasing_by omega
theorem dec_lt {n : Nat} (h : n < 10) : dec n = digB n := by rw [dec, dif_pos h]
theorem dec_ge {n : Nat} (h : ¬ n < 10) : dec n = dec (n / 10) ++ digB (n % 10) := by rw [dec, dif_neg h]
theorem dec_size (n : Nat) : (dec n).size ≤ n + 1 := by
  induction n using Nat.strongRecOn with
  | ind n ih =>
    by_cases c : n < 10
    · rw [dec_lt c, digB_size n c]; omega
    · rw [dec_ge c, ByteArray.size_append, digB_size (n % 10) (by omega)]
      have := ih (n / 10) (by omega)
      omega
theorem ba_assoc (a b c : ByteArray) : a ++ b ++ c = a ++ (b ++ c) := by
  apply Go.WideShapes.bytes_inj
  simp [ByteArray.data_append]
theorem tmod_nat (n : Nat) : Int.tmod (n : Int) 10 = ((n % 10 : Nat) : Int) := by rw [Int.tmod_eq_emod_of_nonneg (by omega)]; omega
theorem tdiv_nat (n : Nat) : Int.tdiv (n : Int) 10 = ((n / 10 : Nat) : Int) := by rw [Int.tdiv_eq_ediv_of_nonneg (by omega)]; omega
theorem l1Text_ev (n : Nat) (hn : n < 1000000000) : Ev (fun k => spec_l1Text.f k (n : Int)) (dec n) := by
  induction n using Nat.strongRecOn with
  | ind n ih =>
    by_cases c : n < 10
    · rw [dec_lt c]
      refine Ev.step (fun k => by rw [spec_l1Text.f]) ?_
      have hw : wrap64 ((n : Int) + 1) = ((n + 1 : Nat) : Int) := by rw [wrap_id (by omega) (by omega)]; omega
      simp only [hw]
      exact ev_neg (by omega) (ev_pos (by omega) (ev_pos (by omega) (ev_pos (by omega) (ev_pos (by omega) (Ev.now _)))))
    · rw [dec_ge c]
      refine Ev.step (fun k => by rw [spec_l1Text.f]) ?_
      have hw : wrap64 ((n / 10 : Nat) : Int) = ((n / 10 : Nat) : Int) := wrap_id (by omega) (by omega)
      have hw2 : wrap64 (((n % 10 : Nat) : Int) + 1) = ((n % 10 + 1 : Nat) : Int) := by rw [wrap_id (by omega) (by omega)]; omega
      simp only [tdiv_nat, tmod_nat, hw, hw2]
      have h1 := ih (n / 10) (by omega) (by omega)
      have hz := digB_size (n % 10) (by omega)
      have hs := dec_size (n / 10)
      have hz' : ((⟨#[48, 49, 50, 51, 52, 53, 54, 55, 56, 57]⟩ : ByteArray).extract (((n % 10 : Nat) : Int)).toNat (((n % 10 + 1 : Nat) : Int)).toNat).size = 1 := hz
      exact ev_neg (by omega) (ev_neg (by omega) (Ev.bind h1 (ev_pos (by omega) (ev_pos (by omega) (ev_pos (by omega) (ev_pos (by omega) (Ev.now _)))))))
theorem decimal_l0_ev (n : Nat) : ∀ acc : ByteArray, acc.size + n < 1000000000000 → n < 1000000000 → 0 < n → Ev (fun k => impl_decimal.l0 k (n : Int) acc) (dec n ++ acc) := by
  induction n using Nat.strongRecOn with
  | ind n ih =>
    intro acc ha hn h0
    refine Ev.step (fun k => by rw [impl_decimal.l0]) ?_
    have hw : wrap64 ((n / 10 : Nat) : Int) = ((n / 10 : Nat) : Int) := wrap_id (by omega) (by omega)
    have hz := digB_size (n % 10) (by omega)
    simp only [tdiv_nat, tmod_nat, hw, Option.bind_some, digB_num (n % 10) (by omega)]
    refine ev_pos (by omega) (ev_pos (by omega) ?_)
    by_cases c : n < 10
    · have e0 : n / 10 = 0 := by omega
      have e1 : n % 10 = n := by omega
      rw [e0, e1, dec_lt c]
      exact Ev.step (fun k => by rw [impl_decimal.l0]) (ev_neg (by omega) (Ev.now _))
    · rw [dec_ge c, ba_assoc]
      exact ih (n / 10) (by omega) _ (by rw [ByteArray.size_append]; omega) (by omega) (by omega)
theorem decimal_ev (n : Nat) (hn : n < 1000000000) : Ev (fun k => impl_decimal.f k (n : Int)) (dec n) := by
  refine Ev.step (fun k => by rw [impl_decimal.f]) ?_
  have hw : wrap64 ((n / 10 : Nat) : Int) = ((n / 10 : Nat) : Int) := wrap_id (by omega) (by omega)
  have hz := digB_size (n % 10) (by omega)
  simp only [tdiv_nat, tmod_nat, hw, digB_num (n % 10) (by omega)]
  refine ev_neg (by omega) ?_
  by_cases c : n < 10
  · have e0 : n / 10 = 0 := by omega
    have e1 : n % 10 = n := by omega
    rw [e0, e1, dec_lt c]
    exact Ev.step (fun k => by rw [impl_decimal.l0]) (ev_neg (by omega) (Ev.now _))
  · rw [dec_ge c]
    exact decimal_l0_ev (n / 10) _ (by omega) (by omega) (by omega)
theorem digitsIn_ev (n : Nat) (hn : n < 1000000000) : Ev (fun k => impl_digitsIn.f k (n : Int)) ((dec n).size : Int) := by
  unfold impl_digitsIn.f
  exact Ev.bind (decimal_ev n hn) (Ev.now _)

/-! ### What a register must be -/
/-- How many papers of a series there are. -/
def cntP (l : List S76) (i : Int) : Nat := (l.filter fun x => decide (x.f0 = i)).length
/-- The day of a series' last paper; 0: it has none. -/
def dayP (l : List S76) (i : Int) : Int := ((l.filter fun x => decide (x.f0 = i)).getLast?.map (·.f2)).getD 0
theorem cnt_snoc (l : List S76) (x : S76) (i : Int) : cntP (l ++ [x]) i = cntP l i + if x.f0 = i then 1 else 0 := by
  unfold cntP
  rw [List.filter_append]
  by_cases h : x.f0 = i <;> simp [List.filter_cons, h]
theorem day_snoc (l : List S76) (x : S76) (i : Int) : dayP (l ++ [x]) i = if x.f0 = i then x.f2 else dayP l i := by
  unfold dayP
  rw [List.filter_append]
  by_cases h : x.f0 = i <;> simp [List.filter_cons, h]
theorem cnt_le (l : List S76) (i : Int) : cntP l i ≤ l.length := List.length_filter_le ..
theorem take_snoc {α : Type} (l : List α) (j : Nat) (h : j < l.length) : l.take (j + 1) = l.take j ++ [l[j]] := List.take_succ_eq_append_getElem h
/-- Each series. -/
def SeriesFit (sr : List S156) (i : Nat) (x : S156) : Prop := NameIs x.f0 ∧ (1 ≤ x.f1 ∧ x.f1 ≤ 8) ∧ ∀ (j : Nat) y, j < i → sr[j]? = some y → y.f0 ≠ x.f0
/-- Each paper, by those ahead. -/
def PaperFit (sr : List S156) (l : List S76) (j : Nat) (x : S76) : Prop :=
  x.f1 = (cntP (l.take j) x.f0 : Int) + 1 ∧ dayP (l.take j) x.f0 ≤ x.f2 ∧ ((dec (cntP (l.take j) x.f0 + 1)).size : Int) ≤ (rd_T156 sr x.f0).f1
def InReg (sr : List S156) (x : S76) : Prop := (0 ≤ x.f0 ∧ x.f0 < (sr.length : Int)) ∧ 0 ≤ x.f2 ∧ x.f2 ≤ 40000
/-- A right register. -/
def RegIs (sr : List S156) (l : List S76) : Prop :=
  (∀ (i : Nat) (hi : i < sr.length), SeriesFit sr i sr[i]) ∧ ∀ (j : Nat) (hj : j < l.length), InReg sr l[j] ∧ PaperFit sr l j l[j]

/-! ### The reference -/
theorem spec_l3_ev (sr : List S156) (l : List S76) (hs : sr.length ≤ 20) (hl : l.length ≤ 400) :
    ∃ b, Ev (fun k => spec_RegisterOk.l3 k 0 sr l) b ∧ (b = true ↔ (∀ x ∈ l, InReg sr x) ∧ True) := by
  refine each_mem l (fun k j => spec_RegisterOk.l3 k j sr l) (InReg sr) True (fun j hj => ?_) ⟨true, Ev.step (fun k => by rw [spec_RegisterOk.l3]) (ev_neg (by omega) (Ev.now _)), by simp⟩
  have hrd : rd_T76 l (j : Int) = l[j] := getD_at hj _
  have hw : wrap64 ((sr.length : Int) - 1) = (sr.length : Int) - 1 := wrap_id (by omega) (by omega)
  have hst : ∀ (r : Bool) (f : Nat → Option Bool), (∀ k, (if (j : Int) < (l.length : Int) then (if 0 ≤ (j : Int) then ((spec_l1In.f ((rd_T76 l (j : Int)).f0) 0 (wrap64 ((sr.length : Int) - 1))).bind fun t123 => (if t123 = true then ((spec_l2Day.f ((rd_T76 l (j : Int)).f2)).bind fun t125 => (if t125 = true then (spec_RegisterOk.l3 k (wrap64 ((j : Int) + 1)) sr l) else (some false))) else (some false))) else (none)) else (some true)) = f k) → Ev f r → Ev (fun k => spec_RegisterOk.l3 k (j : Int) sr l) r := by
    intro r f hf h
    refine Ev.step (fun k => by rw [spec_RegisterOk.l3]) ?_
    exact Ev.congr hf h
  by_cases c1 : 0 ≤ l[j].f0 ∧ l[j].f0 ≤ (sr.length : Int) - 1
  · by_cases c2 : 0 ≤ l[j].f2 ∧ l[j].f2 ≤ 40000
    · refine .inl ⟨⟨⟨c1.1, by omega⟩, c2⟩, fun r h => hst r _ (fun _ => rfl) ?_⟩
      simp only [hrd, hw, spec_l1In_eq, spec_l2Day_eq, Option.bind_some, wrap_succ hj (by omega)]
      exact ev_pos (by omega) (ev_pos (by omega) (ev_pos (decide_eq_true c1) (ev_pos (decide_eq_true c2) h)))
    · refine .inr ⟨fun h => c2 h.2, hst _ _ (fun _ => rfl) ?_⟩
      simp only [hrd, hw, spec_l1In_eq, spec_l2Day_eq, Option.bind_some, wrap_succ hj (by omega)]
      exact ev_pos (by omega) (ev_pos (by omega) (ev_pos (decide_eq_true c1) (ev_neg (by rw [decide_eq_false c2]; decide) (Ev.now _))))
  · refine .inr ⟨fun h => c1 ⟨h.1.1, by have := h.1.2; omega⟩, hst _ _ (fun _ => rfl) ?_⟩
    simp only [hrd, hw, spec_l1In_eq, spec_l2Day_eq, Option.bind_some]
    exact ev_pos (by omega) (ev_pos (by omega) (ev_neg (by rw [decide_eq_false c1]; decide) (Ev.now _)))

/-- The papers of one series. -/
theorem spec_l2_ev (sr : List S156) (l : List S76) (hs : sr.length ≤ 20) (hl : l.length ≤ 400) (i : Nat) (hi : i < sr.length) :
    ((∀ (j : Nat) (hj : j < l.length), l[j].f0 = (i : Int) → PaperFit sr l j l[j]) ∧ ∀ r, Ev (fun k => spec_RegisterOk.l0 k ((i + 1 : Nat) : Int) sr l) r → Ev (fun k => spec_RegisterOk.l2 k (i : Int) 0 0 0 sr l) r) ∨
    (¬ (∀ (j : Nat) (hj : j < l.length), l[j].f0 = (i : Int) → PaperFit sr l j l[j]) ∧ Ev (fun k => spec_RegisterOk.l2 k (i : Int) 0 0 0 sr l) false) := by
  have := each_go l (fun k j => spec_RegisterOk.l2 k (i : Int) (cntP (l.take j.toNat) (i : Int) : Int) (dayP (l.take j.toNat) (i : Int)) j sr l) (fun j x => x.f0 = (i : Int) → PaperFit sr l j x)
    (fun k => spec_RegisterOk.l0 k ((i + 1 : Nat) : Int) sr l) false (fun j hj => ?_) (fun r h => ?_)
  · exact this
  · simp only [Int.toNat_natCast]
    have hrd : rd_T76 l (j : Int) = l[j] := getD_at hj _
    have hc := cnt_le (l.take j) (i : Int)
    have ht : (l.take j).length ≤ j := List.length_take_le ..
    have hw : wrap64 ((cntP (l.take j) (i : Int) : Int) + 1) = ((cntP (l.take j) (i : Int) + 1 : Nat) : Int) := by rw [wrap_id (by omega) (by omega)]; omega
    have hsn := take_snoc l j hj
    have hrs : rd_T156 sr (i : Int) = rd_T156 sr (i : Int) := rfl
    by_cases c0 : l[j].f0 = (i : Int)
    · have hc1 : cntP (l.take (j + 1)) (i : Int) = cntP (l.take j) (i : Int) + 1 := by rw [hsn, cnt_snoc, if_pos c0]
      have hd1 : dayP (l.take (j + 1)) (i : Int) = l[j].f2 := by rw [hsn, day_snoc, if_pos c0]
      by_cases c1 : l[j].f1 = ((cntP (l.take j) (i : Int) + 1 : Nat) : Int)
      · by_cases c2 : l[j].f2 < dayP (l.take j) (i : Int)
        · refine .inr ⟨fun h => ?_, Ev.step (fun k => by rw [spec_RegisterOk.l2]) ?_⟩
          · have := (h c0).2.1
            rw [c0] at this
            omega
          · simp only [hrd, hw]
            exact ev_pos (by omega) (ev_pos (by omega) (ev_pos c0 (ev_pos c1 (ev_pos c2 (Ev.step (fun k => by rw [spec_RegisterOk.j5]) (ev_pos rfl (Ev.now _)))))))
        · have htx := l1Text_ev (cntP (l.take j) (i : Int) + 1) (by omega)
          by_cases c3 : ((dec (cntP (l.take j) (i : Int) + 1)).size : Int) > (rd_T156 sr (i : Int)).f1
          · refine .inr ⟨fun h => ?_, Ev.step (fun k => by rw [spec_RegisterOk.l2]) ?_⟩
            · have := (h c0).2.2
              rw [c0] at this
              omega
            · simp only [hrd, hw]
              exact ev_pos (by omega) (ev_pos (by omega) (ev_pos c0 (ev_pos c1 (ev_neg c2 (Ev.bind htx (ev_pos (by omega) (ev_pos (by omega) (Ev.step (fun k => by rw [spec_RegisterOk.j5]) (ev_pos (decide_eq_true c3) (Ev.now _))))))))))
          · refine .inl ⟨fun _ => ⟨by rw [c0]; omega, by rw [c0]; omega, by rw [c0]; omega⟩, fun r h => Ev.step (fun k => by rw [spec_RegisterOk.l2]) ?_⟩
            simp only [Int.toNat_natCast, hc1, hd1] at h
            simp only [hrd, hw]
            refine ev_pos (by omega) (ev_pos (by omega) (ev_pos c0 (ev_pos c1 (ev_neg c2 (Ev.bind htx (ev_pos (by omega) (ev_pos (by omega) (Ev.step (fun k => by rw [spec_RegisterOk.j5]) (ev_neg (by rw [decide_eq_false c3]; decide) ?_)))))))))
            rw [wrap_succ hj (by omega)]
            exact h
      · refine .inr ⟨fun h => ?_, Ev.step (fun k => by rw [spec_RegisterOk.l2]) ?_⟩
        · have := (h c0).1
          rw [c0] at this
          omega
        · simp only [hrd, hw]
          exact ev_pos (by omega) (ev_pos (by omega) (ev_pos c0 (ev_neg c1 (Ev.step (fun k => by rw [spec_RegisterOk.j5]) (ev_pos rfl (Ev.now _))))))
    · have hc1 : cntP (l.take (j + 1)) (i : Int) = cntP (l.take j) (i : Int) := by rw [hsn, cnt_snoc, if_neg c0]; rfl
      have hd1 : dayP (l.take (j + 1)) (i : Int) = dayP (l.take j) (i : Int) := by rw [hsn, day_snoc, if_neg c0]
      refine .inl ⟨fun h => absurd h c0, fun r h => Ev.step (fun k => by rw [spec_RegisterOk.l2]) ?_⟩
      simp only [Int.toNat_natCast, hc1, hd1] at h
      simp only [hrd, hw]
      refine ev_pos (by omega) (ev_pos (by omega) (ev_neg c0 ?_))
      rw [wrap_succ hj (by omega)]
      exact h
  · refine Ev.step (fun k => by rw [spec_RegisterOk.l2]) (ev_neg (by omega) ?_)
    rw [wrap_succ hi (by omega)]
    exact h

/-- A series' prefix among those ahead. -/
theorem spec_l1_ev (sr : List S156) (l : List S76) (hs : sr.length ≤ 20) (i : Nat) (hi : i < sr.length) :
    ((∀ (j : Nat) y, j < i → sr[j]? = some y → y.f0 ≠ sr[i].f0) ∧ ∀ r, Ev (fun k => spec_RegisterOk.l2 k (i : Int) 0 0 0 sr l) r → Ev (fun k => spec_RegisterOk.l1 k (i : Int) 0 sr l) r) ∨
    (¬ (∀ (j : Nat) y, j < i → sr[j]? = some y → y.f0 ≠ sr[i].f0) ∧ Ev (fun k => spec_RegisterOk.l1 k (i : Int) 0 sr l) false) := by
  have hti : (sr.take i).length = i := by rw [List.length_take]; omega
  have hri : rd_T156 sr (i : Int) = sr[i] := getD_at hi _
  have := each_go (sr.take i) (fun k j => spec_RegisterOk.l1 k (i : Int) j sr l) (fun j y => y.f0 ≠ sr[i].f0)
    (fun k => spec_RegisterOk.l2 k (i : Int) 0 0 0 sr l) false (fun j hj => ?_) (fun r h => ?_)
  · have e : (∀ (j : Nat) (hj : j < (sr.take i).length), (sr.take i)[j].f0 ≠ sr[i].f0) ↔ (∀ (j : Nat) y, j < i → sr[j]? = some y → y.f0 ≠ sr[i].f0) := by
      constructor
      · intro h j y h1 h2
        have hj : j < (sr.take i).length := by omega
        have := h j hj
        rw [List.getElem_take] at this
        obtain ⟨hq, e⟩ := List.getElem?_eq_some_iff.1 h2
        rw [← e]
        exact this
      · intro h j hj
        have := h j sr[j] (by omega) (List.getElem?_eq_getElem (by omega))
        rw [List.getElem_take]
        exact this
    rw [e] at this
    exact this
  · have hlt : j < sr.length := by omega
    have hrj : rd_T156 sr (j : Int) = sr[j] := getD_at hlt _
    rw [List.getElem_take]
    by_cases c : sr[j].f0 = sr[i].f0
    · refine .inr ⟨fun h => h c, Ev.step (fun k => by rw [spec_RegisterOk.l1]) ?_⟩
      simp only [hri, hrj, str_iff]
      exact ev_pos (by omega) (ev_pos (by omega) (ev_pos (by omega) (ev_pos (by omega) (ev_pos (by omega) (ev_pos c (Ev.now _))))))
    · refine .inl ⟨c, fun r h => Ev.step (fun k => by rw [spec_RegisterOk.l1]) ?_⟩
      simp only [hri, hrj, str_iff]
      refine ev_pos (by omega) (ev_pos (by omega) (ev_pos (by omega) (ev_pos (by omega) (ev_pos (by omega) (ev_neg c ?_)))))
      rw [wrap_succ hlt (by omega)]
      exact h
  · rw [hti]
    exact Ev.step (fun k => by rw [spec_RegisterOk.l1]) (ev_neg (by omega) h)

/-- The reference says whether a register is right. -/
theorem spec_reg_ev (sr : List S156) (l : List S76) (hb : ∀ x ∈ sr, B156 1048576 x) (hs : sr.length ≤ 20) (hl : l.length ≤ 400) :
    ∃ b, Ev (fun k => spec_RegisterOk.l0 k 0 sr l) b ∧ (b = true ↔ RegIs sr l) := by
  obtain ⟨b3, h3, p3⟩ := spec_l3_ev sr l hs hl
  have key := each_ev sr (fun k i => spec_RegisterOk.l0 k i sr l) (fun i x => SeriesFit sr i x ∧ ∀ (j : Nat) (hj : j < l.length), l[j].f0 = (i : Int) → PaperFit sr l j l[j]) ((∀ x ∈ l, InReg sr x) ∧ True) (fun i hi => ?_)
    ⟨b3, Ev.step (fun k => by rw [spec_RegisterOk.l0]) (ev_neg (by omega) h3), p3⟩
  · obtain ⟨b, h, p⟩ := key
    refine ⟨b, h, p.trans ⟨fun h => ⟨fun i hi => (h.1 i hi).1, fun j hj => ?_⟩, fun h => ⟨fun i hi => ⟨h.1 i hi, fun j hj _ => (h.2 j hj).2⟩, fun x hx => ?_, trivial⟩⟩⟩
    · have hr := h.2.1 l[j] (List.getElem_mem hj)
      refine ⟨hr, ?_⟩
      obtain ⟨q, hq⟩ : ∃ q : Nat, l[j].f0 = (q : Int) := ⟨l[j].f0.toNat, by have := hr.1.1; omega⟩
      exact (h.1 q (by have := hr.1.2; omega)).2 j hj hq
    · obtain ⟨j, hj, rfl⟩ := List.getElem_of_mem hx
      exact (h.2 j hj).1
  · have hri : rd_T156 sr (i : Int) = sr[i] := getD_at hi _
    obtain ⟨bn, hbn, hn⟩ := spec_NameOk_ev sr[i].f0 (hb _ (List.getElem_mem hi))
    by_cases c1 : bn = true
    · by_cases c2 : 1 ≤ sr[i].f1 ∧ sr[i].f1 ≤ 8
      · have hst : ∀ r, Ev (fun k => spec_RegisterOk.l1 k (i : Int) 0 sr l) r → Ev (fun k => spec_RegisterOk.l0 k (i : Int) sr l) r := by
          intro r hr
          refine Ev.step (fun k => by rw [spec_RegisterOk.l0]) ?_
          simp only [hri, spec_l1In_eq, Option.bind_some]
          exact ev_pos (by omega) (ev_pos (by omega) (Ev.bind hbn (ev_pos c1 (Ev.step (fun k => by rw [spec_RegisterOk.j2]) (ev_neg (by rw [decide_eq_true c2]; decide) hr)))))
        rcases spec_l1_ev sr l hs i hi with ⟨u1, g1⟩ | ⟨u1, g1⟩
        · rcases spec_l2_ev sr l hs hl i hi with ⟨u2, g2⟩ | ⟨u2, g2⟩
          · exact .inl ⟨⟨⟨hn.1 c1, c2, u1⟩, u2⟩, fun r hr => hst r (g1 r (g2 r hr))⟩
          · exact .inr ⟨fun h => u2 h.2, hst _ (g1 _ g2)⟩
        · exact .inr ⟨fun h => u1 h.1.2.2, hst _ g1⟩
      · refine .inr ⟨fun h => c2 h.1.2.1, Ev.step (fun k => by rw [spec_RegisterOk.l0]) ?_⟩
        simp only [hri, spec_l1In_eq, Option.bind_some]
        exact ev_pos (by omega) (ev_pos (by omega) (Ev.bind hbn (ev_pos c1 (Ev.step (fun k => by rw [spec_RegisterOk.j2]) (ev_pos (by rw [decide_eq_false c2]; decide) (Ev.now _))))))
    · refine .inr ⟨fun h => c1 (hn.2 h.1.1), Ev.step (fun k => by rw [spec_RegisterOk.l0]) ?_⟩
      simp only [hri, spec_l1In_eq, Option.bind_some]
      exact ev_pos (by omega) (ev_pos (by omega) (Ev.bind hbn (ev_neg c1 (Ev.step (fun k => by rw [spec_RegisterOk.j2]) (ev_pos rfl (Ev.now _))))))
theorem spec_Register_ev (sr : List S156) (l : List S76) (hb : ∀ x ∈ sr, B156 1048576 x) (h0 : (sr.length : Int) ≤ 1048576) (h1 : (l.length : Int) ≤ 1048576) :
    ∃ b, Ev (fun k => spec_RegisterOk.f k sr l) b ∧ (b = true ↔ (sr.length ≤ 20 ∧ l.length ≤ 400) ∧ RegIs sr l) := by
  unfold spec_RegisterOk.f
  by_cases c1 : (sr.length : Int) > 20
  · exact ⟨false, ev_pos c1 (Ev.step (fun k => by rw [spec_RegisterOk.j0]) (ev_pos rfl (Ev.now _))), fun h => (by cases h), fun h => absurd h.1.1 (by omega)⟩
  · by_cases c2 : (l.length : Int) > 400
    · exact ⟨false, ev_neg c1 (Ev.step (fun k => by rw [spec_RegisterOk.j0]) (ev_pos (decide_eq_true c2) (Ev.now _))), fun h => (by cases h), fun h => absurd h.1.2 (by omega)⟩
    · obtain ⟨b, h, p⟩ := spec_reg_ev sr l hb (by omega) (by omega)
      exact ⟨b, ev_neg c1 (Ev.step (fun k => by rw [spec_RegisterOk.j0]) (ev_neg (by rw [decide_eq_false c2]; decide) h)), p.trans ⟨fun h => ⟨⟨by omega, by omega⟩, h⟩, fun h => h.2⟩⟩

/-! ### The program -/
theorem impl_l1_ev (sr : List S156) (l : List S76) (hs : sr.length ≤ 20) (hl : l.length ≤ 400) (d : Nat) : ∀ (j : Nat) (m1 m2 : List (Int × Int)), j + d = l.length →
    (∀ s, (mget m1 s).getD 0 = (cntP (l.take j) s : Int)) → (∀ s, (mget m2 s).getD 0 = dayP (l.take j) s) →
    ∃ b, Ev (fun k => impl_RegisterOk.l1 k m1 m2 l (l.length : Int) (j : Int) sr l) b ∧ (b = true ↔ ∀ (q : Nat) (hq : q < l.length), j ≤ q → InReg sr l[q] ∧ PaperFit sr l q l[q]) := by
  induction d with
  | zero =>
    intro j m1 m2 hd _ _
    exact ⟨true, Ev.step (fun k => by rw [impl_RegisterOk.l1]) (ev_neg (by omega) (Ev.now _)), fun _ q hq h => absurd hq (by omega), fun _ => rfl⟩
  | succ d ih =>
    intro j m1 m2 hd hm1 hm2
    have hj : j < l.length := by omega
    have hrd : rd_T76 l (j : Int) = l[j] := getD_at hj _
    have hno : ∀ b : Bool, (b = true → False) → (b = true ↔ (∀ (q : Nat) (hq : q < l.length), j ≤ q → InReg sr l[q] ∧ PaperFit sr l q l[q])) → True := fun _ _ _ => trivial
    have hbad : Ev (fun k => impl_RegisterOk.j4 k m1 m2 l (l.length : Int) (j : Int) true sr l l[j].f0 l[j].f1 l[j].f2 l[j].f3) false := Ev.step (fun k => by rw [impl_RegisterOk.j4]) (ev_pos rfl (Ev.now _))
    by_cases c1 : l[j].f0 < 0
    · refine ⟨false, Ev.step (fun k => by rw [impl_RegisterOk.l1]) ?_, fun h => (by cases h), fun h => absurd (h j hj (Nat.le_refl _)).1.1.1 (by omega)⟩
      simp only [hrd]
      exact ev_pos (by omega) (ev_pos (by omega) (ev_pos (by omega) (ev_pos c1 hbad)))
    by_cases c2 : l[j].f0 ≥ (sr.length : Int)
    · refine ⟨false, Ev.step (fun k => by rw [impl_RegisterOk.l1]) ?_, fun h => (by cases h), fun h => absurd (h j hj (Nat.le_refl _)).1.1.2 (by omega)⟩
      simp only [hrd]
      exact ev_pos (by omega) (ev_pos (by omega) (ev_pos (by omega) (ev_neg c1 (ev_pos c2 hbad))))
    have hc := cnt_le (l.take j) l[j].f0
    have ht : (l.take j).length ≤ j := List.length_take_le ..
    have hw : wrap64 ((cntP (l.take j) l[j].f0 : Int) + 1) = ((cntP (l.take j) l[j].f0 + 1 : Nat) : Int) := by rw [wrap_id (by omega) (by omega)]; omega
    by_cases c3 : l[j].f1 = ((cntP (l.take j) l[j].f0 + 1 : Nat) : Int)
    · have hdi := digitsIn_ev (cntP (l.take j) l[j].f0 + 1) (by omega)
      rw [← c3] at hdi
      by_cases c4 : ((dec (cntP (l.take j) l[j].f0 + 1)).size : Int) > (rd_T156 sr l[j].f0).f1
      · refine ⟨false, Ev.step (fun k => by rw [impl_RegisterOk.l1]) ?_, fun h => (by cases h), fun h => absurd (h j hj (Nat.le_refl _)).2.2.2 (by omega)⟩
        simp only [hrd, hm1, hm2, hw]
        exact ev_pos (by omega) (ev_pos (by omega) (ev_pos (by omega) (ev_neg c1 (ev_neg c2 (ev_pos (by omega) (ev_pos (by omega) (ev_pos c3 (Ev.bind hdi (ev_pos (by omega) (ev_pos (by omega) (ev_pos c4 hbad)))))))))))
      by_cases c5 : 0 ≤ l[j].f2 ∧ l[j].f2 ≤ 40000
      · by_cases c6 : l[j].f2 < dayP (l.take j) l[j].f0
        · refine ⟨false, Ev.step (fun k => by rw [impl_RegisterOk.l1]) ?_, fun h => (by cases h), fun h => absurd (h j hj (Nat.le_refl _)).2.2.1 (by omega)⟩
          simp only [hrd, hm1, hm2, hw, impl_isDay_eq, Option.bind_some, decide_eq_true c5, decide_eq_true c6]
          exact ev_pos (by omega) (ev_pos (by omega) (ev_pos (by omega) (ev_neg c1 (ev_neg c2 (ev_pos (by omega) (ev_pos (by omega) (ev_pos c3 (Ev.bind hdi (ev_pos (by omega) (ev_pos (by omega) (ev_neg c4 (ev_pos (by first | rfl | trivial) hbad))))))))))))
        · have hsn := take_snoc l j hj
          obtain ⟨b, hb, p⟩ := ih (j + 1) (mset m1 l[j].f0 (((cntP (l.take j) l[j].f0 + 1 : Nat) : Int))) (mset m2 l[j].f0 l[j].f2) (by omega)
            (fun s => by
              rw [mget_set, hsn, cnt_snoc]
              by_cases e : l[j].f0 = s
              · subst e
                simp
              · rw [if_neg e, if_neg e, hm1]; simp)
            (fun s => by
              rw [mget_set, hsn, day_snoc]
              by_cases e : l[j].f0 = s
              · rw [if_pos e, if_pos e]; simp
              · rw [if_neg e, if_neg e, hm2])
          refine ⟨b, Ev.step (fun k => by rw [impl_RegisterOk.l1]) ?_, p.trans ⟨fun h q hq hjq => ?_, fun h q hq hjq => h q hq (by omega)⟩⟩
          · simp only [hrd, hm1, hm2, hw, impl_isDay_eq, Option.bind_some, decide_eq_true c5, decide_eq_false c6]
            refine ev_pos (by omega) (ev_pos (by omega) (ev_pos (by omega) (ev_neg c1 (ev_neg c2 (ev_pos (by omega) (ev_pos (by omega) (ev_pos c3 (Ev.bind hdi (ev_pos (by omega) (ev_pos (by omega) (ev_neg c4 (ev_pos (by first | rfl | trivial) ?_))))))))))))
            refine Ev.step (fun k => by rw [impl_RegisterOk.j4]) (ev_neg (by decide) (ev_pos (by omega) (ev_pos (by omega) ?_)))
            rw [hm1, hw, wrap_succ hj (by omega)]
            exact hb
          · rcases Nat.lt_or_ge j q with g | g
            · exact h q hq (by omega)
            · obtain rfl : j = q := by omega
              exact ⟨⟨⟨by omega, by omega⟩, c5⟩, by omega, by omega, by omega⟩
      · refine ⟨false, Ev.step (fun k => by rw [impl_RegisterOk.l1]) ?_, fun h => (by cases h), fun h => absurd (h j hj (Nat.le_refl _)).1.2 c5⟩
        simp only [hrd, hm1, hm2, hw, impl_isDay_eq, Option.bind_some, decide_eq_false c5]
        exact ev_pos (by omega) (ev_pos (by omega) (ev_pos (by omega) (ev_neg c1 (ev_neg c2 (ev_pos (by omega) (ev_pos (by omega) (ev_pos c3 (Ev.bind hdi (ev_pos (by omega) (ev_pos (by omega) (ev_neg c4 (ev_neg (by decide) hbad))))))))))))
    · refine ⟨false, Ev.step (fun k => by rw [impl_RegisterOk.l1]) ?_, fun h => (by cases h), fun h => absurd (h j hj (Nat.le_refl _)).2.1 (by omega)⟩
      simp only [hrd, hm1, hm2, hw]
      exact ev_pos (by omega) (ev_pos (by omega) (ev_pos (by omega) (ev_neg c1 (ev_neg c2 (ev_pos (by omega) (ev_pos (by omega) (ev_neg c3 hbad)))))))

theorem impl_l0_ev (sr : List S156) (l : List S76) (hb : ∀ x ∈ sr, B156 1048576 x) (hs : sr.length ≤ 20) (hl : l.length ≤ 400) (d : Nat) : ∀ (i : Nat) (m : List (ByteArray × Bool)), i + d = sr.length →
    (∀ s, (mget m s).getD false = true ↔ ∃ (j : Nat) (y : _), j < i ∧ sr[j]? = some y ∧ y.f0 = s) →
    ∃ b, Ev (fun k => impl_RegisterOk.l0 k m sr (sr.length : Int) (i : Int) sr l) b ∧ (b = true ↔ (∀ (q : Nat) (hq : q < sr.length), i ≤ q → SeriesFit sr q sr[q]) ∧ ∀ (j : Nat) (hj : j < l.length), InReg sr l[j] ∧ PaperFit sr l j l[j]) := by
  induction d with
  | zero =>
    intro i m hd _
    obtain ⟨b, h, p⟩ := impl_l1_ev sr l hs hl l.length 0 [] [] (by omega) (fun s => rfl) (fun s => rfl)
    have h' : Ev (fun k => impl_RegisterOk.l1 k [] [] l (l.length : Int) 0 sr l) b := h
    refine ⟨b, Ev.step (fun k => by rw [impl_RegisterOk.l0]) (ev_neg (by omega) h'), p.trans ⟨fun h => ⟨fun q hq hg => absurd hq (by omega), fun j hj => h j hj (Nat.zero_le _)⟩, fun h q hq _ => h.2 q hq⟩⟩
  | succ d ih =>
    intro i m hd hm
    have hi : i < sr.length := by omega
    have hri : rd_T156 sr (i : Int) = sr[i] := getD_at hi _
    have hg : sr[i]? = some sr[i] := List.getElem?_eq_getElem hi
    have hB : sr[i].f0.size ≤ 9223372036854775807 := by
      have h_ : ((sr[i].f0.size : Nat) : Int) ≤ 1048576 := hb _ (List.getElem_mem hi)
      omega
    have hbad : Ev (fun k => impl_RegisterOk.j2 k m sr (sr.length : Int) (i : Int) true sr l sr[i].f0 sr[i].f1) false := Ev.step (fun k => by rw [impl_RegisterOk.j2]) (ev_pos rfl (Ev.now _))
    obtain ⟨bn, hbn, hn⟩ := impl_NameOk_ev sr[i].f0
    by_cases c1 : bn = true
    · by_cases c2 : 1 ≤ sr[i].f1 ∧ sr[i].f1 ≤ 8
      · by_cases c3 : (mget m sr[i].f0).getD false = true
        · refine ⟨false, Ev.step (fun k => by rw [impl_RegisterOk.l0]) ?_, fun h => (by cases h), fun h => ?_⟩
          · simp only [hri, impl_between_eq, Option.bind_some, decide_eq_true c2, c3]
            exact ev_pos (by omega) (ev_pos (by omega) (ev_pos (by omega) (Ev.bind hbn (ev_pos c1 (ev_pos (by first | rfl | trivial) (ev_pos hB hbad))))))
          · obtain ⟨j, y, h1, h2, h3⟩ := (hm _).1 c3
            exact absurd h3 ((h.1 i hi (Nat.le_refl _)).2.2 j y h1 h2)
        · have hfirst : ∀ (j : Nat) y, j < i → sr[j]? = some y → y.f0 ≠ sr[i].f0 := fun j y h1 h2 h3 => c3 ((hm _).2 ⟨j, y, h1, h2, h3⟩)
          have c3' : (mget m sr[i].f0).getD false = false := by simpa using c3
          obtain ⟨b, hb', p⟩ := ih (i + 1) (mset m sr[i].f0 true) (by omega) (fun s => by
            rw [mget_set]
            by_cases e : sr[i].f0 = s
            · rw [if_pos e]
              exact ⟨fun _ => ⟨i, sr[i], by omega, hg, e⟩, fun _ => rfl⟩
            · rw [if_neg e, hm]
              constructor
              · rintro ⟨j, y, h1, h2⟩
                exact ⟨j, y, by omega, h2⟩
              · rintro ⟨j, y, h1, h2, h3⟩
                rcases Nat.lt_or_ge j i with g | g
                · exact ⟨j, y, g, h2, h3⟩
                · obtain rfl : j = i := by omega
                  rw [hg] at h2
                  injection h2 with h2
                  exact absurd (h2 ▸ h3) e)
          refine ⟨b, Ev.step (fun k => by rw [impl_RegisterOk.l0]) ?_, p.trans ⟨fun h => ⟨fun q hq hiq => ?_, h.2⟩, fun h => ⟨fun q hq hiq => h.1 q hq (by omega), h.2⟩⟩⟩
          · simp only [hri, impl_between_eq, Option.bind_some, decide_eq_true c2, c3']
            refine ev_pos (by omega) (ev_pos (by omega) (ev_pos (by omega) (Ev.bind hbn (ev_pos c1 (ev_pos (by first | rfl | trivial) (ev_pos hB ?_))))))
            refine Ev.step (fun k => by rw [impl_RegisterOk.j2]) (ev_neg (by decide) (ev_pos hB ?_))
            rw [wrap_succ hi (by omega)]
            exact hb'
          · rcases Nat.lt_or_ge i q with g | g
            · exact h.1 q hq (by omega)
            · obtain rfl : i = q := by omega
              exact ⟨hn.1 c1, c2, hfirst⟩
      · refine ⟨false, Ev.step (fun k => by rw [impl_RegisterOk.l0]) ?_, fun h => (by cases h), fun h => absurd (h.1 i hi (Nat.le_refl _)).2.1 c2⟩
        simp only [hri, impl_between_eq, Option.bind_some, decide_eq_false c2]
        exact ev_pos (by omega) (ev_pos (by omega) (ev_pos (by omega) (Ev.bind hbn (ev_pos c1 (ev_neg (by decide) hbad)))))
    · refine ⟨false, Ev.step (fun k => by rw [impl_RegisterOk.l0]) ?_, fun h => (by cases h), fun h => absurd (hn.2 (h.1 i hi (Nat.le_refl _)).1) c1⟩
      simp only [hri]
      exact ev_pos (by omega) (ev_pos (by omega) (ev_pos (by omega) (Ev.bind hbn (ev_neg c1 hbad))))
theorem impl_Register_ev (sr : List S156) (l : List S76) (hb : ∀ x ∈ sr, B156 1048576 x) (h0 : (sr.length : Int) ≤ 1048576) (h1 : (l.length : Int) ≤ 1048576) :
    ∃ b, Ev (fun k => impl_RegisterOk.f k sr l) b ∧ (b = true ↔ (sr.length ≤ 20 ∧ l.length ≤ 400) ∧ RegIs sr l) := by
  unfold impl_RegisterOk.f
  by_cases c1 : (sr.length : Int) > 20
  · exact ⟨false, ev_pos c1 (Ev.step (fun k => by rw [impl_RegisterOk.j0]) (ev_pos rfl (Ev.now _))), fun h => (by cases h), fun h => absurd h.1.1 (by omega)⟩
  · by_cases c2 : (l.length : Int) > 400
    · exact ⟨false, ev_neg c1 (Ev.step (fun k => by rw [impl_RegisterOk.j0]) (ev_pos (decide_eq_true c2) (Ev.now _))), fun h => (by cases h), fun h => absurd h.1.2 (by omega)⟩
    · obtain ⟨b, h, p⟩ := impl_l0_ev sr l hb (by omega) (by omega) sr.length 0 [] (by omega) (fun s => by simp [mget])
      have h' : Ev (fun k => impl_RegisterOk.l0 k [] sr (sr.length : Int) 0 sr l) b := h
      exact ⟨b, ev_neg c1 (Ev.step (fun k => by rw [impl_RegisterOk.j0]) (ev_neg (by rw [decide_eq_false c2]; decide) h')), p.trans ⟨fun h => ⟨⟨by omega, by omega⟩, fun i hi => h.1 i hi (Nat.zero_le _), h.2⟩, fun h => ⟨fun i hi _ => h.2.1 i hi, h.2.2⟩⟩⟩
/-- Both answer alike. -/
theorem reg_both (sr : List S156) (l : List S76) (hb : ∀ x ∈ sr, B156 1048576 x) (h0 : (sr.length : Int) ≤ 1048576) (h1 : (l.length : Int) ≤ 1048576) :
    ∃ b, Ev (fun k => spec_RegisterOk.f k sr l) b ∧ Ev (fun k => impl_RegisterOk.f k sr l) b ∧ (b = true ↔ (sr.length ≤ 20 ∧ l.length ≤ 400) ∧ RegIs sr l) := by
  obtain ⟨b1, g1, p1⟩ := spec_Register_ev sr l hb h0 h1
  obtain ⟨b2, g2, p2⟩ := impl_Register_ev sr l hb h0 h1
  have e : b1 = b2 := bool_of_iff p1 p2
  subst e
  exact ⟨b1, g1, g2, p1⟩
/-! ### A paper's text -/
def padTo : Nat → ByteArray → ByteArray
  | 0, s => s
  | n + 1, s => padTo n ((⟨#[48]⟩ : ByteArray) ++ s)
def ptext (sr : List S156) (x : S76) : ByteArray := ((rd_T156 sr x.f0).f0 ++ (⟨#[45]⟩ : ByteArray)) ++ padTo ((rd_T156 sr x.f0).f1 - ((dec x.f1.toNat).size : Int)).toNat (dec x.f1.toNat)
theorem one_size (b : UInt8) : (⟨#[b]⟩ : ByteArray).size = 1 := rfl
theorem impl_pad_ev (sr : List S156) (l : List S76) (x : S76) (h0 : 0 ≤ x.f0) (h1 : x.f0 < (sr.length : Int)) (hw : (rd_T156 sr x.f0).f1 ≤ 8) (hp : (rd_T156 sr x.f0).f0.size ≤ 20) (n : Nat) : ∀ s : ByteArray, n = ((rd_T156 sr x.f0).f1 - (s.size : Int)).toNat → s.size ≤ 1000 →
    Ev (fun k => impl_paperText.l0 k s sr l x.f0 x.f1 x.f2 x.f3) (((rd_T156 sr x.f0).f0 ++ (⟨#[45]⟩ : ByteArray)) ++ padTo n s) := by
  induction n with
  | zero =>
    intro s hn hs
    have h2 := one_size 45
    show Ev _ (((rd_T156 sr x.f0).f0 ++ (⟨#[45]⟩ : ByteArray)) ++ s)
    refine Ev.step (fun k => by rw [impl_paperText.l0]) (ev_pos h0 (ev_pos (by omega) (ev_neg (by omega) (ev_pos (by omega) (ev_pos ?_ (Ev.now _))))))
    rw [ByteArray.size_append]
    omega
  | succ n ih =>
    intro s hn hs
    have h2 := one_size 48
    refine Ev.step (fun k => by rw [impl_paperText.l0]) (ev_pos h0 (ev_pos (by omega) (ev_pos (by omega) (ev_pos (by omega) ?_))))
    exact ih _ (by rw [ByteArray.size_append, h2]; omega) (by rw [ByteArray.size_append, h2]; omega)
/-- What a paper of a right register has. -/
theorem reg_at (sr : List S156) (l : List S76) (hl : l.length ≤ 400) (h : RegIs sr l) (j : Nat) (hj : j < l.length) :
    (0 ≤ l[j].f0 ∧ l[j].f0 < (sr.length : Int)) ∧ (∃ n : Nat, l[j].f1 = (n : Int) ∧ n ≤ 401) ∧ (rd_T156 sr l[j].f0).f1 ≤ 8 ∧ (rd_T156 sr l[j].f0).f0.size ≤ 20 := by
  obtain ⟨⟨h1, h2⟩, h3⟩ := h.2 j hj
  refine ⟨h1, ⟨cntP (l.take j) l[j].f0 + 1, by rw [h3.1]; omega, ?_⟩, ?_⟩
  · have hc := cnt_le (l.take j) l[j].f0
    have ht : (l.take j).length ≤ j := List.length_take_le ..
    omega
  · obtain ⟨q, hq⟩ : ∃ q : Nat, l[j].f0 = (q : Int) := ⟨l[j].f0.toNat, by omega⟩
    have hlt : q < sr.length := by omega
    rw [hq]
    have hr : rd_T156 sr (q : Int) = sr[q] := getD_at hlt _
    rw [hr]
    have hs := h.1 q hlt
    exact ⟨hs.2.1.2, hs.1.2.1⟩
theorem impl_text_ev (sr : List S156) (l : List S76) (hl : l.length ≤ 400) (h : RegIs sr l) (j : Nat) (hj : j < l.length) :
    Ev (fun k => impl_paperText.f k sr l l[j].f0 l[j].f1 l[j].f2 l[j].f3) (ptext sr l[j]) := by
  obtain ⟨h1, ⟨n, hn, hn1⟩, h3, h4⟩ := reg_at sr l hl h j hj
  have hd := decimal_ev n (by omega)
  rw [← hn] at hd
  have e : l[j].f1.toNat = n := by omega
  unfold impl_paperText.f ptext
  rw [e]
  refine Ev.bind hd (impl_pad_ev sr l l[j] h1.1 h1.2 h3 h4 _ _ rfl (by have := dec_size n; omega))
/-! ### A register that grows by issuing -/
def IssueIs (sr : List S156) (l : List S76) (s day : Int) : Prop :=
  (0 ≤ s ∧ s < (sr.length : Int)) ∧ ((0 ≤ day ∧ day ≤ 40000) ∧ dayP l s ≤ day) ∧ l.length < 400 ∧ ((dec (cntP l s + 1)).size : Int) ≤ (rd_T156 sr s).f1
theorem copy_i (sr : List S156) (l : List S76) (h0 : (sr.length : Int) ≤ 1048576) (h1 : (l.length : Int) ≤ 1048576) : impl_copyRegister.f sr l = some (sr, l) := by
  unfold impl_copyRegister.f
  rw [Option.bind_some, if_pos (by simp; omega), Option.bind_some, if_pos (by simp; omega), List.nil_append, List.nil_append]
theorem copy_s (sr : List S156) (l : List S76) (h0 : (sr.length : Int) ≤ 1048576) (h1 : (l.length : Int) ≤ 1048576) : spec_l11Register.f sr l = some (sr, l) := by
  unfold spec_l11Register.f
  rw [Option.bind_some, if_pos (by simp; omega), Option.bind_some, if_pos (by simp; omega), List.nil_append, List.nil_append]
theorem scan_i (sr : List S156) (l : List S76) (s day : Int) (hl : l.length ≤ 400) (b : List S156 × List S76 × Int)
    (hend : Ev (fun k => (impl_isDay.f day).bind fun t351 => (if t351 = true then (impl_Issue.j2 k s day ((cntP l s : Int) + 1) (decide (day < dayP l s)) sr l sr l) else (impl_Issue.j2 k s day ((cntP l s : Int) + 1) true sr l sr l))) b) :
    ∀ (d j : Nat), j + d = l.length → Ev (fun k => impl_Issue.l0 k s day ((cntP (l.take j) s : Int) + 1) (dayP (l.take j) s) l (l.length : Int) (j : Int) sr l sr l) b := by
  intro d
  induction d with
  | zero =>
    intro j hj
    refine Ev.step (fun k => by rw [impl_Issue.l0]) (ev_neg (by omega) ?_)
    rw [List.take_of_length_le (by omega : l.length ≤ j)]
    exact hend
  | succ d ih =>
    intro j hj
    have hlt : j < l.length := by omega
    have hrd : rd_T76 l (j : Int) = l[j] := getD_at hlt _
    have h := ih (j + 1) (by omega)
    have hc := cnt_le (l.take j) s
    have ht : (l.take j).length ≤ j := List.length_take_le ..
    rw [take_snoc l j hlt, cnt_snoc, day_snoc] at h
    refine Ev.step (fun k => by rw [impl_Issue.l0]) (ev_pos (by omega) (ev_pos (by omega) (ev_pos (by omega) ?_)))
    simp only [hrd, wrap_succ hlt (by omega)]
    by_cases c : l[j].f0 = s
    · rw [if_pos c, if_pos c] at h
      refine ev_pos c ?_
      rw [wrap_id (by omega) (by omega), show (cntP (l.take j) s : Int) + 1 + 1 = ((cntP (l.take j) s + 1 : Nat) : Int) + 1 by omega]
      exact h
    · rw [if_neg c, if_neg c] at h
      exact ev_neg c h
theorem scan_s (sr : List S156) (l : List S76) (s day : Int) (hl : l.length ≤ 400) (b : List S156 × List S76 × Int)
    (hend : Ev (fun k => (spec_l2Day.f day).bind fun t228 => (if t228 = true then (spec_Issue.j1 k s day ((cntP l s : Int) + 1) (decide (day < dayP l s)) sr l sr l) else (spec_Issue.j1 k s day ((cntP l s : Int) + 1) true sr l sr l))) b) :
    ∀ (d j : Nat), j + d = l.length → Ev (fun k => spec_Issue.l0 k s day ((cntP (l.take j) s : Int) + 1) (dayP (l.take j) s) (j : Int) sr l sr l) b := by
  intro d
  induction d with
  | zero =>
    intro j hj
    refine Ev.step (fun k => by rw [spec_Issue.l0]) (ev_neg (by omega) ?_)
    rw [List.take_of_length_le (by omega : l.length ≤ j)]
    exact hend
  | succ d ih =>
    intro j hj
    have hlt : j < l.length := by omega
    have hrd : rd_T76 l (j : Int) = l[j] := getD_at hlt _
    have h := ih (j + 1) (by omega)
    have hc := cnt_le (l.take j) s
    have ht : (l.take j).length ≤ j := List.length_take_le ..
    rw [take_snoc l j hlt, cnt_snoc, day_snoc] at h
    refine Ev.step (fun k => by rw [spec_Issue.l0]) (ev_pos (by omega) (ev_pos (by omega) ?_))
    simp only [hrd, wrap_succ hlt (by omega)]
    by_cases c : l[j].f0 = s
    · rw [if_pos c, if_pos c] at h
      refine ev_pos c ?_
      rw [wrap_id (by omega) (by omega), show (cntP (l.take j) s : Int) + 1 + 1 = ((cntP (l.take j) s + 1 : Nat) : Int) + 1 by omega]
      exact h
    · rw [if_neg c, if_neg c] at h
      exact ev_neg c h
theorem issue_both (sr : List S156) (l : List S76) (hb : ∀ x ∈ sr, B156 1048576 x) (h0 : (sr.length : Int) ≤ 1048576) (h1 : (l.length : Int) ≤ 1048576) (s day : Int) :
    ∃ r : List S156 × List S76 × Int, Ev (fun k => impl_Issue.f k sr l s day) r ∧ Ev (fun k => spec_Issue.f k sr l s day) r ∧
      (r.2.2 = 0 → ((sr.length ≤ 20 ∧ l.length ≤ 400) ∧ RegIs sr l) ∧ IssueIs sr l s day ∧ r = (sr, l ++ [⟨s, (cntP l s : Int) + 1, day, false⟩], 0)) := by
  obtain ⟨b, g1, g2, hp⟩ := reg_both sr l hb h0 h1
  by_cases c : b = true
  case neg => exact ⟨([], [], 1), Ev.bind g2 (ev_neg c (Ev.now _)), Ev.bind g1 (ev_neg c (Ev.now _)), fun h => absurd (show (1 : Int) = 0 from h) (by decide)⟩
  have hreg := hp.1 c
  obtain ⟨⟨hs20, hl400⟩, hr⟩ := hreg
  have i0t : Ev (fun k => impl_Issue.j0 k s day true sr l sr l) (sr, l, 2) := Ev.step (fun k => by rw [impl_Issue.j0]) (ev_pos rfl (Ev.now _))
  have pre_i : ∀ r, Ev (fun k => if s < 0 then (impl_Issue.j0 k s day true sr l sr l) else (impl_Issue.j0 k s day (decide (s ≥ (sr.length : Int))) sr l sr l)) r → Ev (fun k => impl_Issue.f k sr l s day) r := by
    intro r h
    unfold impl_Issue.f
    exact Ev.bind g2 (ev_pos c (ev_bind0 (copy_i sr l h0 h1) h))
  have pre_s : ∀ r, Ev (fun k => if decide (0 ≤ s ∧ s ≤ wrap64 ((sr.length : Int) - 1)) = true then (spec_Issue.l0 k s day 1 0 0 sr l sr l) else (some (sr, l, 2))) r → Ev (fun k => spec_Issue.f k sr l s day) r := by
    intro r h
    unfold spec_Issue.f
    exact Ev.bind g1 (ev_pos c (ev_bind0 (copy_s sr l h0 h1) (ev_bind0 (spec_l1In_eq _ _ _) h)))
  have wl : wrap64 ((sr.length : Int) - 1) = (sr.length : Int) - 1 := wrap_id (by omega) (by omega)
  by_cases hs : 0 ≤ s ∧ s < (sr.length : Int)
  case neg =>
    refine ⟨(sr, l, 2), pre_i _ ?_, pre_s _ (ev_neg (by rw [wl, decide_eq_true_eq]; omega) (Ev.now _)), fun h => absurd (show (2 : Int) = 0 from h) (by decide)⟩
    by_cases c1 : s < 0
    · exact ev_pos c1 i0t
    · refine ev_neg c1 ?_
      rw [decide_eq_true (show s ≥ (sr.length : Int) by omega)]
      exact i0t
  have fin : ∀ r, Ev (fun k => (impl_isDay.f day).bind fun t351 => (if t351 = true then (impl_Issue.j2 k s day ((cntP l s : Int) + 1) (decide (day < dayP l s)) sr l sr l) else (impl_Issue.j2 k s day ((cntP l s : Int) + 1) true sr l sr l))) r →
      Ev (fun k => (spec_l2Day.f day).bind fun t228 => (if t228 = true then (spec_Issue.j1 k s day ((cntP l s : Int) + 1) (decide (day < dayP l s)) sr l sr l) else (spec_Issue.j1 k s day ((cntP l s : Int) + 1) true sr l sr l))) r →
      Ev (fun k => impl_Issue.f k sr l s day) r ∧ Ev (fun k => spec_Issue.f k sr l s day) r := by
    intro r e1 e2
    refine ⟨pre_i r (ev_neg (by omega) ?_), pre_s r (ev_pos (by rw [wl, decide_eq_true_eq]; omega) ?_)⟩
    · rw [decide_eq_false (show ¬ s ≥ (sr.length : Int) by omega)]
      refine Ev.step (fun k => by rw [impl_Issue.j0]) ?_
      exact ev_neg (by decide) (scan_i sr l s day hl400 r e1 l.length 0 (by omega))
    · exact scan_s sr l s day hl400 r e2 l.length 0 (by omega)
  have i3 : Ev (fun k => impl_Issue.j2 k s day ((cntP l s : Int) + 1) true sr l sr l) (sr, l, 3) := Ev.step (fun k => by rw [impl_Issue.j2]) (ev_pos rfl (Ev.now _))
  have s3 : Ev (fun k => spec_Issue.j1 k s day ((cntP l s : Int) + 1) true sr l sr l) (sr, l, 3) := Ev.step (fun k => by rw [spec_Issue.j1]) (ev_pos rfl (Ev.now _))
  by_cases hd : 0 ≤ day ∧ day ≤ 40000
  case neg =>
    obtain ⟨e1, e2⟩ := fin (sr, l, 3) (ev_bind0 (impl_isDay_eq _) (ev_neg (by rw [decide_eq_true_eq]; exact hd) i3)) (ev_bind0 (spec_l2Day_eq _) (ev_neg (by rw [decide_eq_true_eq]; exact hd) s3))
    exact ⟨_, e1, e2, fun h => absurd (show (3 : Int) = 0 from h) (by decide)⟩
  by_cases hdl : day < dayP l s
  · obtain ⟨e1, e2⟩ := fin (sr, l, 3) (ev_bind0 (impl_isDay_eq _) (ev_pos (decide_eq_true hd) (by rw [decide_eq_true hdl]; exact i3))) (ev_bind0 (spec_l2Day_eq _) (ev_pos (decide_eq_true hd) (by rw [decide_eq_true hdl]; exact s3)))
    exact ⟨_, e1, e2, fun h => absurd (show (3 : Int) = 0 from h) (by decide)⟩
  have fin2 : ∀ r, Ev (fun k => if (l.length : Int) = 400 then (some (sr, l, 4)) else ((impl_digitsIn.f k ((cntP l s : Int) + 1)).bind fun t352 => (if 0 ≤ s then (if s < (sr.length : Int) then (if t352 > ((rd_T156 sr s).f1) then (some (sr, l, 4)) else (if l.length < 4398046511104 then (some (sr, (l ++ [(⟨s, (cntP l s : Int) + 1, day, false⟩ : S76)]), 0)) else (none))) else (none)) else (none)))) r →
      Ev (fun k => if (l.length : Int) = 400 then (some (sr, l, 4)) else ((spec_l1Text.f k ((cntP l s : Int) + 1)).bind fun t229 => (if 0 ≤ s then (if s < (sr.length : Int) then (if (t229.size : Int) > ((rd_T156 sr s).f1) then (some (sr, l, 4)) else (if l.length < 4398046511104 then (some (sr, (l ++ [(⟨s, (cntP l s : Int) + 1, day, false⟩ : S76)]), 0)) else (none))) else (none)) else (none)))) r →
      Ev (fun k => impl_Issue.f k sr l s day) r ∧ Ev (fun k => spec_Issue.f k sr l s day) r := by
    intro r e1 e2
    refine fin r (ev_bind0 (impl_isDay_eq _) (ev_pos (decide_eq_true hd) ?_)) (ev_bind0 (spec_l2Day_eq _) (ev_pos (decide_eq_true hd) ?_))
    · rw [decide_eq_false hdl]
      refine Ev.step (fun k => by rw [impl_Issue.j2]) ?_
      exact ev_neg (by decide) e1
    · rw [decide_eq_false hdl]
      refine Ev.step (fun k => by rw [spec_Issue.j1]) ?_
      exact ev_neg (by decide) e2
  by_cases h400 : (l.length : Int) = 400
  · obtain ⟨e1, e2⟩ := fin2 (sr, l, 4) (ev_pos h400 (Ev.now _)) (ev_pos h400 (Ev.now _))
    exact ⟨_, e1, e2, fun h => absurd (show (4 : Int) = 0 from h) (by decide)⟩
  have hcl := cnt_le l s
  have ed := digitsIn_ev (cntP l s + 1) (by omega)
  have et := l1Text_ev (cntP l s + 1) (by omega)
  rw [show (((cntP l s + 1 : Nat)) : Int) = (cntP l s : Int) + 1 by omega] at ed et
  by_cases hw : ((dec (cntP l s + 1)).size : Int) > (rd_T156 sr s).f1
  · obtain ⟨e1, e2⟩ := fin2 (sr, l, 4) (ev_neg h400 (Ev.bind ed (ev_pos hs.1 (ev_pos hs.2 (ev_pos hw (Ev.now _)))))) (ev_neg h400 (Ev.bind et (ev_pos hs.1 (ev_pos hs.2 (ev_pos hw (Ev.now _))))))
    exact ⟨_, e1, e2, fun h => absurd (show (4 : Int) = 0 from h) (by decide)⟩
  · obtain ⟨e1, e2⟩ := fin2 (sr, l ++ [⟨s, (cntP l s : Int) + 1, day, false⟩], 0) (ev_neg h400 (Ev.bind ed (ev_pos hs.1 (ev_pos hs.2 (ev_neg hw (ev_pos (by omega) (Ev.now _))))))) (ev_neg h400 (Ev.bind et (ev_pos hs.1 (ev_pos hs.2 (ev_neg hw (ev_pos (by omega) (Ev.now _)))))))
    exact ⟨_, e1, e2, fun _ => ⟨⟨⟨hs20, hl400⟩, hr⟩, ⟨hs, ⟨hd, by omega⟩, by omega, by omega⟩, rfl⟩⟩
/-- A right register stays right by a paper that fits. -/
theorem reg_snoc (sr : List S156) (l : List S76) (s day : Int) (v : Bool) (h : RegIs sr l) (hi : IssueIs sr l s day) : RegIs sr (l ++ [⟨s, (cntP l s : Int) + 1, day, v⟩]) := by
  refine ⟨h.1, fun j hj => ?_⟩
  by_cases e : j < l.length
  · have ht : (l ++ [(⟨s, (cntP l s : Int) + 1, day, v⟩ : S76)]).take j = l.take j := List.take_append_of_le_length (by omega)
    have hg : (l ++ [(⟨s, (cntP l s : Int) + 1, day, v⟩ : S76)])[j] = l[j] := List.getElem_append_left e
    rw [hg]
    refine ⟨(h.2 j e).1, ?_⟩
    have hp := (h.2 j e).2
    unfold PaperFit at hp ⊢
    rw [ht]
    exact hp
  · have ej : j = l.length := by simp at hj; omega
    subst ej
    have ht : (l ++ [(⟨s, (cntP l s : Int) + 1, day, v⟩ : S76)]).take l.length = l := by simp
    have hg : (l ++ [(⟨s, (cntP l s : Int) + 1, day, v⟩ : S76)])[l.length] = ⟨s, (cntP l s : Int) + 1, day, v⟩ := by simp
    rw [hg]
    refine ⟨⟨hi.1, hi.2.1.1⟩, ?_⟩
    unfold PaperFit
    rw [ht]
    exact ⟨rfl, hi.2.1.2, hi.2.2.2⟩
/-! ### A paper's text tells the paper -/
def dl (s : ByteArray) : List UInt8 := s.data.toList
theorem dl_append (a b : ByteArray) : dl (a ++ b) = dl a ++ dl b := by simp [dl, ByteArray.data_append]
def val (l : List UInt8) : Nat := l.foldl (fun a b => 10 * a + (b.toNat - 48)) 0
theorem val_snoc (l : List UInt8) (b : UInt8) : val (l ++ [b]) = 10 * val l + (b.toNat - 48) := by simp [val]
theorem dl_digB (d : Nat) (h : d < 10) : dl (digB d) = [UInt8.ofNat (48 + d)] := by
  have : d = 0 ∨ d = 1 ∨ d = 2 ∨ d = 3 ∨ d = 4 ∨ d = 5 ∨ d = 6 ∨ d = 7 ∨ d = 8 ∨ d = 9 := by omega
  rcases this with rfl | rfl | rfl | rfl | rfl | rfl | rfl | rfl | rfl | rfl <;> decide
theorem dig_nat (d : Nat) (h : d < 10) : (UInt8.ofNat (48 + d)).toNat = 48 + d := by
  rw [UInt8.toNat_ofNat']
  omega
theorem dec_val (n : Nat) : val (dl (dec n)) = n ∧ ∀ b ∈ dl (dec n), 48 ≤ b.toNat := by
  induction n using Nat.strongRecOn with
  | ind n ih =>
    by_cases c : n < 10
    · rw [dec_lt c, dl_digB n c]
      refine ⟨?_, fun b hb => ?_⟩
      · simp only [val, List.foldl_cons, List.foldl_nil, dig_nat n c]; omega
      · rw [List.mem_singleton.1 hb, dig_nat n c]; omega
    · obtain ⟨h1, h2⟩ := ih (n / 10) (by omega)
      rw [dec_ge c, dl_append, dl_digB (n % 10) (by omega)]
      refine ⟨?_, fun b hb => ?_⟩
      · rw [val_snoc, h1, dig_nat _ (by omega)]; omega
      · rcases List.mem_append.1 hb with hb | hb
        · exact h2 b hb
        · rw [List.mem_singleton.1 hb, dig_nat _ (by omega)]; omega
theorem pad_list : ∀ (k : Nat) (s : ByteArray), dl (padTo k s) = List.replicate k 48 ++ dl s
  | 0, s => rfl
  | k + 1, s => by
    have e : dl ((⟨#[48]⟩ : ByteArray) ++ s) = 48 :: dl s := by rw [dl_append]; rfl
    rw [padTo, pad_list k, e, List.replicate_succ']
    simp
theorem val_zeros (l : List UInt8) : ∀ k : Nat, val (List.replicate k 48 ++ l) = val l
  | 0 => rfl
  | k + 1 => by
    have ih := val_zeros l k
    simp only [val, List.replicate_succ, List.cons_append, List.foldl_cons] at ih ⊢
    exact ih
theorem split_last {a b a' b' : List UInt8} (h : a ++ 45 :: b = a' ++ 45 :: b') (h1 : (45 : UInt8) ∉ b) (h2 : (45 : UInt8) ∉ b') : a = a' ∧ b = b' := by
  rcases List.append_eq_append_iff.1 h with ⟨c, e1, e2⟩ | ⟨c, e1, e2⟩
  · cases c with
    | nil => simp at e1 e2; exact ⟨e1.symm, e2⟩
    | cons x c =>
      simp at e2
      exact absurd (by rw [e2.2]; simp) h1
  · cases c with
    | nil => simp at e1 e2; exact ⟨e1, e2.symm⟩
    | cons x c =>
      simp at e2
      exact absurd (by rw [e2.2]; simp) h2
theorem ptext_list (sr : List S156) (x : S76) : dl (ptext sr x) = dl (rd_T156 sr x.f0).f0 ++ 45 :: (List.replicate ((rd_T156 sr x.f0).f1 - ((dec x.f1.toNat).size : Int)).toNat 48 ++ dl (dec x.f1.toNat)) := by
  unfold ptext
  rw [dl_append, dl_append, pad_list]
  simp [dl]
theorem no_dash (k n : Nat) : (45 : UInt8) ∉ List.replicate k 48 ++ dl (dec n) := by
  intro h
  rcases List.mem_append.1 h with h | h
  · have := (List.mem_replicate.1 h).2
    exact absurd this (by decide)
  · have := (dec_val n).2 _ h
    exact absurd this (by decide)
theorem ptext_inj (sr : List S156) (x y : S76) (h : (ptext sr x).toList = (ptext sr y).toList) : (rd_T156 sr x.f0).f0 = (rd_T156 sr y.f0).f0 ∧ x.f1.toNat = y.f1.toNat := by
  rw [toList_data, toList_data] at h
  have h' : dl (ptext sr x) = dl (ptext sr y) := h
  rw [ptext_list, ptext_list] at h'
  obtain ⟨h1, h2⟩ := split_last h' (no_dash _ _) (no_dash _ _)
  refine ⟨?_, ?_⟩
  · apply str_iff.1
    rw [toList_data, toList_data]
    exact h1
  · have h3 := congrArg val h2
    rw [val_zeros, val_zeros, (dec_val _).1, (dec_val _).1] at h3
    exact h3
theorem cnt_mono (l : List S76) (s : Int) {a b : Nat} (h : a ≤ b) : cntP (l.take a) s ≤ cntP (l.take b) s := by
  have e : l.take a = (l.take b).take a := by rw [List.take_take, Nat.min_eq_left h]
  unfold cntP
  rw [e]
  exact ((List.take_sublist a (l.take b)).filter _).length_le
theorem texts_apart (sr : List S156) (l : List S76) (h : RegIs sr l) (hl : l.length ≤ 400) (j k : Nat) (hj : j < k) (hk : k < l.length) : (ptext sr l[j]).toList ≠ (ptext sr l[k]).toList := by
  intro he
  obtain ⟨h1, h2⟩ := ptext_inj sr _ _ he
  have pj := h.2 j (by omega)
  have pk := h.2 k hk
  have s1 := pj.1.1
  have s2 := pk.1.1
  obtain ⟨a, ha⟩ : ∃ a : Nat, l[j].f0 = (a : Int) := ⟨l[j].f0.toNat, by omega⟩
  obtain ⟨b, hb⟩ : ∃ b : Nat, l[k].f0 = (b : Int) := ⟨l[k].f0.toNat, by omega⟩
  have la : a < sr.length := by omega
  have lb : b < sr.length := by omega
  have ra : rd_T156 sr (a : Int) = sr[a] := getD_at la _
  have rb : rd_T156 sr (b : Int) = sr[b] := getD_at lb _
  rw [ha, hb, ra, rb] at h1
  have hab : a = b := by
    rcases Nat.lt_trichotomy a b with c | c | c
    · exact absurd h1 ((h.1 b lb).2.2 a sr[a] c (List.getElem?_eq_getElem la))
    · exact c
    · exact absurd h1.symm ((h.1 a la).2.2 b sr[b] c (List.getElem?_eq_getElem lb))
  have nj := pj.2.1
  have nk := pk.2.1
  rw [ha] at nj
  rw [hb, ← hab] at nk
  have hm := cnt_mono l (a : Int) (show j + 1 ≤ k by omega)
  rw [take_snoc l j (by omega), cnt_snoc, if_pos ha] at hm
  omega
def VReg (sr : List S156) (l : List S76) : Prop := (sr.length ≤ 20 ∧ l.length ≤ 400) ∧ RegIs sr l
theorem reg_yes (sr : List S156) (l : List S76) (hb : ∀ x ∈ sr, B156 1048576 x) (h : VReg sr l) : Ev (fun k => impl_RegisterOk.f k sr l) true := by
  obtain ⟨h1, h2⟩ := h.1
  obtain ⟨b, g1, g2, hp⟩ := reg_both sr l hb (by omega) (by omega)
  rw [hp.2 h] at g2
  exact g2
theorem show_ev (sr : List S156) (l : List S76) (hb : ∀ x ∈ sr, B156 1048576 x) (h : VReg sr l) (j : Nat) (hj : j < l.length) : Ev (fun k => impl_ShowPaper.f k sr l (j : Int)) (ptext sr l[j]) := by
  have hrd : rd_T76 l (j : Int) = l[j] := getD_at hj _
  unfold impl_ShowPaper.f
  refine Ev.bind (reg_yes sr l hb h) (ev_pos rfl (ev_neg (by omega) (ev_neg (by omega) (ev_pos (by omega) (ev_pos (by omega) ?_)))))
  rw [hrd]
  exact Ev.bind (impl_text_ev sr l h.1.2 h.2 j hj) (Ev.now _)
theorem find_ev (sr : List S156) (l : List S76) (hb : ∀ x ∈ sr, B156 1048576 x) (h : VReg sr l) (j : Nat) (hj : j < l.length) : Ev (fun k => impl_FindPaper.f k sr l (ptext sr l[j])) (j : Int) := by
  have hl := h.1.2
  have key : ∀ (d i : Nat), i + d = j → Ev (fun k => impl_FindPaper.l0 k (ptext sr l[j]) l (l.length : Int) (i : Int) sr l) (j : Int) := by
    intro d
    induction d with
    | zero =>
      intro i hi
      have e : i = j := by omega
      subst e
      have hrd : rd_T76 l (i : Int) = l[i] := getD_at hj _
      refine Ev.step (fun k => by rw [impl_FindPaper.l0]) (ev_pos (by omega) (ev_pos (by omega) (ev_pos (by omega) ?_)))
      rw [hrd]
      exact Ev.bind (impl_text_ev sr l hl h.2 i hj) (ev_pos rfl (Ev.now _))
    | succ d ih =>
      intro i hi
      have hil : i < l.length := by omega
      have hrd : rd_T76 l (i : Int) = l[i] := getD_at hil _
      refine Ev.step (fun k => by rw [impl_FindPaper.l0]) (ev_pos (by omega) (ev_pos (by omega) (ev_pos (by omega) ?_)))
      rw [hrd, wrap_succ hil (by omega)]
      exact Ev.bind (impl_text_ev sr l hl h.2 i hil) (ev_neg (texts_apart sr l h.2 hl i j (by omega) hj) (ih (i + 1) (by omega)))
  unfold impl_FindPaper.f
  exact Ev.bind (reg_yes sr l hb h) (ev_pos rfl (key j 0 (by omega)))
theorem end_ev (sr : List S156) (l : List S76) (hb : ∀ x ∈ sr, B156 1048576 x) (h : VReg sr l) : ∀ (d j : Nat), j + d = l.length → Ev (fun k => laws_FnNoGap.l2 k (j : Int) sr l) true := by
  have hl := h.1.2
  intro d
  induction d with
  | zero =>
    intro j hj
    refine Ev.step (fun k => by rw [laws_FnNoGap.l2]) (ev_neg (by omega) ?_)
    exact Ev.bind (reg_yes sr l hb h) (Ev.now _)
  | succ d ih =>
    intro j hj
    have hlt : j < l.length := by omega
    refine Ev.step (fun k => by rw [laws_FnNoGap.l2]) (ev_pos (by omega) (Ev.bind (show_ev sr l hb h j hlt) (ev_neg ?_ (Ev.bind (find_ev sr l hb h j hlt) (ev_pos rfl ?_)))))
    · rw [toList_data]
      have := ptext_list sr l[j]
      unfold dl at this
      rw [this]
      simp
    · rw [wrap_succ hlt (by omega)]
      exact ih (j + 1) (by omega)
theorem void_ev (sr : List S156) (l : List S76) (s n day : Int) (hb : ∀ x ∈ sr, B156 1048576 x) (h : VReg sr (l ++ [⟨s, n, day, false⟩])) : Ev (fun k => impl_Void.f k sr (l ++ [⟨s, n, day, false⟩]) (l.length : Int)) (sr, l ++ [⟨s, n, day, true⟩], true) := by
  obtain ⟨h1, h2⟩ := h.1
  have hlen : ((l ++ [(⟨s, n, day, false⟩ : S76)]).length : Int) = (l.length : Int) + 1 := by simp
  have hrd : rd_T76 (l ++ [(⟨s, n, day, false⟩ : S76)]) (l.length : Int) = ⟨s, n, day, false⟩ := by
    rw [show rd_T76 (l ++ [(⟨s, n, day, false⟩ : S76)]) (l.length : Int) = (l ++ [(⟨s, n, day, false⟩ : S76)])[l.length]'(by simp) from getD_at (by simp) _]
    simp
  unfold impl_Void.f
  refine Ev.bind (reg_yes sr _ hb h) (ev_pos rfl (ev_bind0 (copy_i sr _ (by omega) (by omega)) (ev_neg (by omega) (ev_neg (by omega) (ev_pos (by omega) (ev_pos (by omega) ?_))))))
  simp only [hrd]
  refine ev_neg (by decide) (ev_pos (by omega) ?_)
  have e : (l ++ [(⟨s, n, day, false⟩ : S76)]).set (l.length : Int).toNat ⟨s, n, day, true⟩ = l ++ [⟨s, n, day, true⟩] := by simp
  rw [e]
  exact Ev.now _
theorem at_ok (l : List Int) (hw : ∀ x ∈ l, (Lit.int .u8 x).wf = true) (i : Int) (hi : 0 ≤ i) : ∃ v, laws_at.f l i = some v ∧ 0 ≤ v := by
  unfold laws_at.f
  by_cases c : i < (l.length : Int)
  · obtain ⟨n, rfl⟩ : ∃ n : Nat, i = (n : Int) := ⟨i.toNat, by omega⟩
    have hn : n < l.length := by omega
    have h := hw _ (List.getElem_mem hn)
    have h2 : 0 ≤ l[n] ∧ l[n] ≤ 255 := by
      simp only [Lit.wf, Bool.and_eq_true, decide_eq_true_eq] at h
      exact h
    refine ⟨_, (if_pos c).trans (if_pos (by omega)), ?_⟩
    rw [rd_at hn, wrap_id (by omega) (by omega)]
    exact h2.1
  · exact ⟨0, if_neg c, by decide⟩
theorem main_ev (x0 : List Int) (hw : ∀ x ∈ x0, (Lit.int .u8 x).wf = true) (sr : List S156) (hsr : sr.length ≠ 0) (hb : ∀ x ∈ sr, B156 1048576 x) : ∀ (m i : Nat), i + m = 8 → ∀ l : List S76, VReg sr l → Ev (fun k => laws_FnNoGap.l0 k x0 (i : Int) sr l) true := by
  intro m
  induction m with
  | zero =>
    intro i hi l h
    refine Ev.step (fun k => by rw [laws_FnNoGap.l0]) (ev_neg (by omega) ?_)
    exact end_ev sr l hb h l.length 0 (by omega)
  | succ m ih =>
    intro i hi l h
    obtain ⟨hs20, hl400⟩ := h.1
    obtain ⟨v, ev, v0⟩ := at_ok x0 hw (i : Int) (by omega)
    have t0 := Int.tmod_nonneg (sr.length : Int) v0
    have t1 := Int.tmod_lt_of_pos v (show 0 < (sr.length : Int) by omega)
    refine Ev.step (fun k => by rw [laws_FnNoGap.l0]) (ev_pos (by omega) (ev_bind0 ev (ev_neg (show ¬ ((sr.length : Int) = 0) by omega) ?_)))
    generalize Int.tmod v (sr.length : Int) = s at t0 t1
    have WI := Aside0.mk (show wrap64 ((i : Int) + 1) = ((i + 1 : Nat) : Int) by rw [wrap_id (by omega) (by omega)]; omega)
    have W8 := Aside0.mk (show wrap64 ((i : Int) + 8) = (i : Int) + 8 from wrap_id (by omega) (by omega))
    have scan : ∀ (d j : Nat), j + d = l.length → Ev (fun k => laws_FnNoGap.l1 k x0 (i : Int) s ((cntP (l.take j) s : Nat) : Int) (j : Int) sr l) true := by
      intro d
      induction d with
      | zero =>
        intro j hj
        obtain ⟨r, e1, e2, hr⟩ := issue_both sr l hb (by omega) (by omega) s (wrap64 (1000 + (i : Int)))
        refine Ev.step (fun k => by rw [laws_FnNoGap.l1]) (ev_neg (by omega) (Ev.bind e1 (Ev.bind e2 (ev_pos rfl ?_))))
        rw [List.take_of_length_le (by omega : l.length ≤ j)]
        by_cases c : r.2.2 = 0
        · obtain ⟨_, his, rfl⟩ := hr c
          have hlen : ((l ++ [(⟨s, (cntP l s : Int) + 1, wrap64 (1000 + (i : Int)), false⟩ : S76)]).length : Int) = (l.length : Int) + 1 := by simp
          have hcl := cnt_le l s
          have WL := Aside0.mk (show wrap64 ((l.length : Int) + 1 - 1) = (l.length : Int) by rw [wrap_id (by omega) (by omega)]; omega)
          have WL1 := Aside0.mk (show wrap64 ((l.length : Int) + 1) = (l.length : Int) + 1 from wrap_id (by omega) (by omega))
          have WC := Aside0.mk (show wrap64 ((cntP l s : Int) + 1) = (cntP l s : Int) + 1 from wrap_id (by omega) (by omega))
          have hrd : ∀ b : Bool, rd_T76 (l ++ [(⟨s, (cntP l s : Int) + 1, wrap64 (1000 + (i : Int)), b⟩ : S76)]) (l.length : Int) = ⟨s, (cntP l s : Int) + 1, wrap64 (1000 + (i : Int)), b⟩ := by
            intro b
            rw [show rd_T76 (l ++ [(⟨s, (cntP l s : Int) + 1, wrap64 (1000 + (i : Int)), b⟩ : S76)]) (l.length : Int) = (l ++ [(⟨s, (cntP l s : Int) + 1, wrap64 (1000 + (i : Int)), b⟩ : S76)])[l.length]'(by simp) from getD_at (by simp) _]
            simp
          have hV : ∀ b : Bool, VReg sr (l ++ [⟨s, (cntP l s : Int) + 1, wrap64 (1000 + (i : Int)), b⟩]) := fun b => ⟨⟨hs20, by have := his.2.2.1; simp; omega⟩, reg_snoc sr l s _ b h.2 his⟩
          refine ev_pos rfl ?_
          show Ev _ true
          simp only [hlen, WL.out, hrd, WC.out]
          refine ev_pos (by omega) (ev_pos (by omega) (ev_pos (by trivial) (ev_pos (by trivial) ?_)))
          rw [WL1.out, show ((l.length : Int) + 1 != (l.length : Int) + 1) = false by simp]
          obtain ⟨v2, ev2, v20⟩ := at_ok x0 hw ((i : Int) + 8) (by omega)
          refine Ev.step (fun k => by rw [laws_FnNoGap.j3]) (ev_neg (by decide) ?_)
          simp only [W8.out]
          refine ev_bind0 ev2 ?_
          by_cases c3 : Int.tmod v2 3 = 0
          · refine ev_pos c3 ?_
            simp only [hlen, WL.out]
            refine Ev.bind (void_ev sr l s _ _ hb (hV false)) (ev_pos rfl ?_)
            have hlen2 : ((l ++ [(⟨s, (cntP l s : Int) + 1, wrap64 (1000 + (i : Int)), true⟩ : S76)]).length : Int) = (l.length : Int) + 1 := by simp
            simp only [hlen2, WL.out, hrd, WC.out, WI.out]
            exact ev_pos (by omega) (ev_pos (by omega) (ev_pos (by trivial) (ih (i + 1) (by omega) _ (hV true))))
          · refine ev_neg c3 ?_
            rw [WI.out]
            exact ih (i + 1) (by omega) _ (hV false)
        · refine ev_neg c ?_
          rw [WI.out]
          exact ih (i + 1) (by omega) l h
      | succ d ihd =>
        intro j hj
        have hlt : j < l.length := by omega
        have hrd : rd_T76 l (j : Int) = l[j] := getD_at hlt _
        have hc := cnt_le (l.take j) s
        have ht : (l.take j).length ≤ j := List.length_take_le ..
        have hh := ihd (j + 1) (by omega)
        rw [take_snoc l j hlt, cnt_snoc] at hh
        refine Ev.step (fun k => by rw [laws_FnNoGap.l1]) (ev_pos (by omega) (ev_pos (by omega) ?_))
        rw [hrd, wrap_succ hlt (by omega)]
        by_cases c : l[j].f0 = s
        · rw [if_pos c] at hh
          refine ev_pos c ?_
          rw [wrap_id (by omega) (by omega), show ((cntP (l.take j) s : Nat) : Int) + 1 = ((cntP (l.take j) s + 1 : Nat) : Int) by omega]
          exact hh
        · rw [if_neg c] at hh
          exact ev_neg c hh
    exact scan l.length 0 (by omega)
/-! ### The drawn register -/
theorem size_ok (l : List Int) (a : Int) (ha : 2 ≤ a) (hl : (l.length : Int) ≤ 1048576) : ∃ s, spec_l1Size.f l a = some s ∧ 2 ≤ s ∧ s ≤ a := by
  have w1 : wrap64 ((l.length : Int) / 20) = (l.length : Int) / 20 := wrap_id (by omega) (by omega)
  have w2 : wrap64 (2 + (l.length : Int) / 20) = 2 + (l.length : Int) / 20 := wrap_id (by omega) (by omega)
  unfold spec_l1Size.f
  rw [w1, w2]
  by_cases c : 2 + (l.length : Int) / 20 > a
  · exact ⟨a, if_pos c, ha, Int.le_refl _⟩
  · exact ⟨_, if_neg c, by omega, by omega⟩
theorem papers_ev (b : List Int) (sr : List S156) (hb : ∀ x ∈ sr, B156 1048576 x) (hs : (sr.length : Int) ≤ 1048576) : ∀ (m : Nat) (day i h : Int) (l : List S76), m ≤ 1000 → Cu b i → l.length ≤ 400 →
    ∃ l' i' h', Ev (fun k => spec_l11DrawRegister.l1 k (m : Int) day b i h sr l) (sr, l', i', h') ∧ Cu b i' ∧ l'.length ≤ 400 := by
  intro m
  induction m with
  | zero =>
    intro day i h l _ hc hl
    exact ⟨l, i, h, Ev.step (fun k => by rw [spec_l11DrawRegister.l1]) (ev_neg (by omega) (Ev.now _)), hc, hl⟩
  | succ m ih =>
    intro day i h l hm hc hl
    obtain ⟨x, i1, h1, e1, c1, _⟩ := below_ok b i h 30 hc
    obtain ⟨s, i2, h2, e2, c2, _⟩ := below_ok b i1 h1 (sr.length : Int) c1
    obtain ⟨r, _, e3, hr⟩ := issue_both sr l hb hs (by omega) s (wrap64 (day + x))
    have w1 : wrap64 (((m + 1 : Nat) : Int) - 1) = (m : Int) := by rw [wrap_id (by omega) (by omega)]; omega
    by_cases c : r.2.2 = 0
    · obtain ⟨_, his, rfl⟩ := hr c
      obtain ⟨v, i3, h3, e4, c3⟩ := once_ok b i2 h2 6 c2
      have hlen : ((l ++ [(⟨s, (cntP l s : Int) + 1, wrap64 (day + x), false⟩ : S76)]).length : Int) = (l.length : Int) + 1 := by simp
      have wl : wrap64 ((l.length : Int) + 1 - 1) = (l.length : Int) := by rw [wrap_id (by omega) (by omega)]; omega
      have h4 := his.2.2.1
      by_cases cv : v = true
      · obtain ⟨l', i', h', e5, c5, hl'⟩ := ih (wrap64 (day + x)) i3 h3 ((l ++ [(⟨s, (cntP l s : Int) + 1, wrap64 (day + x), false⟩ : S76)]).set (l.length : Int).toNat (⟨(rd_T76 (l ++ [(⟨s, (cntP l s : Int) + 1, wrap64 (day + x), false⟩ : S76)]) (l.length : Int)).f0, (rd_T76 (l ++ [(⟨s, (cntP l s : Int) + 1, wrap64 (day + x), false⟩ : S76)]) (l.length : Int)).f1, (rd_T76 (l ++ [(⟨s, (cntP l s : Int) + 1, wrap64 (day + x), false⟩ : S76)]) (l.length : Int)).f2, true⟩ : S76)) (by omega) c3 (by rw [List.length_set]; omega)
        refine ⟨l', i', h', ?_, c5, hl'⟩
        refine Ev.step (fun k => by rw [spec_l11DrawRegister.l1]) (ev_pos (by omega) (ev_bind0 e1 (ev_bind0 e2 (Ev.bind e3 (ev_pos rfl (ev_bind0 e4 (ev_pos cv ?_)))))))
        simp only [hlen, wl, w1]
        exact ev_pos (by omega) (ev_pos (by omega) e5)
      · obtain ⟨l', i', h', e5, c5, hl'⟩ := ih (wrap64 (day + x)) i3 h3 (l ++ [(⟨s, (cntP l s : Int) + 1, wrap64 (day + x), false⟩ : S76)]) (by omega) c3 (by omega)
        refine ⟨l', i', h', ?_, c5, hl'⟩
        refine Ev.step (fun k => by rw [spec_l11DrawRegister.l1]) (ev_pos (by omega) (ev_bind0 e1 (ev_bind0 e2 (Ev.bind e3 (ev_pos rfl (ev_bind0 e4 (ev_neg cv ?_)))))))
        simp only [w1]
        exact e5
    · obtain ⟨l', i', h', e5, c5, hl'⟩ := ih (wrap64 (day + x)) i2 h2 l (by omega) c2 hl
      refine ⟨l', i', h', ?_, c5, hl'⟩
      refine Ev.step (fun k => by rw [spec_l11DrawRegister.l1]) (ev_pos (by omega) (ev_bind0 e1 (ev_bind0 e2 (Ev.bind e3 (ev_neg c ?_)))))
      simp only [w1]
      exact e5
abbrev nm4 : List ByteArray := [(⟨#[105, 110, 118]⟩ : ByteArray), (⟨#[111, 114, 100]⟩ : ByteArray), (⟨#[82, 45, 49]⟩ : ByteArray), (⟨#[120]⟩ : ByteArray)]
theorem nm4_small (i : Nat) (h : i < 4) : ((rdOf ByteArray.empty nm4 (i : Int)).size : Int) ≤ 1048576 := by
  have : i = 0 ∨ i = 1 ∨ i = 2 ∨ i = 3 := by omega
  rcases this with rfl | rfl | rfl | rfl <;> decide
theorem series_ev (b : List Int) (t : Int) (ht : 0 ≤ t ∧ t ≤ 1000) : ∀ (m : Nat) (i h : Int) (sr : List S156), sr.length + m ≤ 4 → Cu b i → (∀ x ∈ sr, B156 1048576 x) →
    ∃ sr' l' i' h', Ev (fun k => spec_l11DrawRegister.l0 k t nm4 (m : Int) b i h sr) (sr', l', i', h') ∧ Cu b i' ∧ l'.length ≤ 400 ∧ sr'.length = sr.length + m ∧ ∀ x ∈ sr', B156 1048576 x := by
  intro m
  induction m with
  | zero =>
    intro i h sr hm hc hb
    obtain ⟨tn, rfl⟩ : ∃ tn : Nat, t = (tn : Int) := ⟨t.toNat, by omega⟩
    obtain ⟨l', i', h', e, c, hl⟩ := papers_ev b sr hb (by omega) tn 0 i h [] (by omega) hc (by simp)
    exact ⟨sr, l', i', h', Ev.step (fun k => by rw [spec_l11DrawRegister.l0]) (ev_neg (by omega) e), c, hl, rfl, hb⟩
  | succ m ih =>
    intro i h sr hm hc hb
    obtain ⟨x, i1, h1, e1, c1, _⟩ := below_ok b i h 6 hc
    have w1 : wrap64 (((m + 1 : Nat) : Int) - 1) = (m : Int) := by rw [wrap_id (by omega) (by omega)]; omega
    obtain ⟨sr', l', i', h', e, c, hl, hs', hb'⟩ := ih i1 h1 (sr ++ [(⟨rdOf ByteArray.empty nm4 (sr.length : Int), wrap64 (1 + x)⟩ : S156)]) (by rw [List.length_append, List.length_singleton]; omega) c1 (fun y hy => by
      rcases List.mem_append.1 hy with hy | hy
      · exact hb y hy
      · rw [List.mem_singleton.1 hy]
        exact nm4_small sr.length (by omega))
    refine ⟨sr', l', i', h', ?_, c, hl, by rw [hs', List.length_append, List.length_singleton]; omega, hb'⟩
    have h4 : ((nm4.length : Nat) : Int) = 4 := rfl
    have q1 : (sr.length : Int) < ((nm4.length : Nat) : Int) := by rw [h4]; omega
    have q2 : sr.length < 5864062014805 := by omega
    refine Ev.step (fun k => by rw [spec_l11DrawRegister.l0]) ?_
    refine ev_pos (by omega) (ev_pos (by omega) (ev_pos q1 (ev_bind0 e1 (ev_pos q2 ?_))))
    simp only [w1]
    exact e
theorem spoil_end (b : List Int) (i h : Int) (sr : List S156) (l : List S76) (hc : Cu b i) (hb : ∀ x ∈ sr, B156 1048576 x) (hs : sr.length ≤ 4) (hl : l.length ≤ 400) :
    ∃ sr' l' i' h', Ev (fun k => spec_l11SpoilRegister.j1 k b i h sr l) (sr', l', i', h') ∧ (∀ x ∈ sr', B156 1048576 x) ∧ sr'.length ≤ 4 ∧ l'.length ≤ 400 := by
  obtain ⟨v, i1, h1, e1, c1⟩ := once_ok b i h 30 hc
  by_cases cv : v = true
  · by_cases cl : (sr.length : Int) > 1
    · obtain ⟨s, i2, h2, e2, c2, hm⟩ := pick_ok b i1 h1 ([(rd_T156 sr 0).f0, (⟨#[]⟩ : ByteArray), (⟨#[97, 32, 98]⟩ : ByteArray)] : List ByteArray) (by simp) c1
      have hr0 : rd_T156 sr ((0 : Nat) : Int) = sr[0]'(by omega) := getD_at (by omega) _
      have hsz : (s.size : Int) ≤ 1048576 := by
        simp at hm
        rcases hm with rfl | rfl | rfl
        · have := hb _ (List.getElem_mem (show 0 < sr.length by omega))
          rw [show rd_T156 sr 0 = sr[0]'(by omega) from hr0]
          exact this
        · decide
        · decide
      refine ⟨sr.set (1 : Int).toNat (⟨s, (rd_T156 sr 1).f1⟩ : S156), l, i2, h2, ?_, fun x hx => ?_, by rw [List.length_set]; exact hs, hl⟩
      · have q1 : (0 : Int) < (sr.length : Int) := by omega
        have q2 : (1 : Int) < (sr.length : Int) := by omega
        refine Ev.step (fun k => by rw [spec_l11SpoilRegister.j1]) ?_
        exact ev_bind0 e1 (ev_pos cv (ev_pos cl (ev_pos q1 (ev_bind0 e2 (ev_pos q2 (Ev.now _))))))
      · rcases List.mem_or_eq_of_mem_set hx with hx | rfl
        · exact hb x hx
        · exact hsz
    · exact ⟨sr, l, i1, h1, Ev.step (fun k => by rw [spec_l11SpoilRegister.j1]) (ev_bind0 e1 (ev_pos cv (ev_neg cl (Ev.now _)))), hb, hs, hl⟩
  · exact ⟨sr, l, i1, h1, Ev.step (fun k => by rw [spec_l11SpoilRegister.j1]) (ev_bind0 e1 (ev_neg cv (Ev.now _))), hb, hs, hl⟩
theorem spoil_reg (b : List Int) (i h : Int) (sr : List S156) (l : List S76) (hc : Cu b i) (hb : ∀ x ∈ sr, B156 1048576 x) (hs : sr.length ≤ 4) (hs0 : 0 < sr.length) (hl : l.length ≤ 400) :
    ∃ sr' l' i' h', Ev (fun k => spec_l11SpoilRegister.f k b i h sr l) (sr', l', i', h') ∧ (∀ x ∈ sr', B156 1048576 x) ∧ sr'.length ≤ 4 ∧ l'.length ≤ 400 := by
  obtain ⟨v, i1, h1, e1, c1⟩ := once_ok b i h 12 hc
  have pass : ∀ (f : Bool), f = false → ∃ sr' l' i' h', Ev (fun k => spec_l11SpoilRegister.j0 k f b i1 h1 sr l) (sr', l', i', h') ∧ (∀ x ∈ sr', B156 1048576 x) ∧ sr'.length ≤ 4 ∧ l'.length ≤ 400 := by
    intro f hf
    obtain ⟨sr', l', i', h', e, p⟩ := spoil_end b i1 h1 sr l c1 hb hs hl
    subst hf
    exact ⟨sr', l', i', h', Ev.step (fun k => by rw [spec_l11SpoilRegister.j0]) (ev_neg (by decide) e), p⟩
  unfold spec_l11SpoilRegister.f
  by_cases cv : v = true
  case neg =>
    obtain ⟨sr', l', i', h', e, p⟩ := pass false rfl
    exact ⟨sr', l', i', h', ev_bind0 e1 (ev_neg cv e), p⟩
  by_cases cl : (l.length : Int) > 0
  case neg =>
    obtain ⟨sr', l', i', h', e, p⟩ := pass (decide ((l.length : Int) > 0)) (decide_eq_false cl)
    exact ⟨sr', l', i', h', ev_bind0 e1 (ev_pos cv e), p⟩
  obtain ⟨q, i2, h2, e2, c2, q0, q1, _⟩ := below_ok b i1 h1 (l.length : Int) c1
  have q2 := q1 cl
  obtain ⟨w, i3, h3, e3, c3, w0, w1, _⟩ := below_ok b i2 h2 4 c2
  have start : ∀ r, Ev (fun k => if w = 0 then (if 0 ≤ q then (if q < (l.length : Int) then ((spec_l1PickInt.f b i3 h3 (([1, (-1), 10] : List Int))).bind fun bt146 => (spec_l11SpoilRegister.j1 k b bt146.2.1 bt146.2.2 sr (l.set (q : Int).toNat (⟨(rd_T76 l q).f0, wrap64 (((rd_T76 l q).f1) + bt146.1), (rd_T76 l q).f2, (rd_T76 l q).f3⟩ : S76)))) else (none)) else (none)) else (if w = 1 then ((spec_l1PickInt.f b i3 h3 (([(-1), 40001, 0] : List Int))).bind fun bt153 => (if 0 ≤ q then (if q < (l.length : Int) then (spec_l11SpoilRegister.j1 k b bt153.2.1 bt153.2.2 sr (l.set (q : Int).toNat (⟨(rd_T76 l q).f0, (rd_T76 l q).f1, bt153.1, (rd_T76 l q).f3⟩ : S76))) else (none)) else (none))) else (if w = 2 then ((spec_l1PickInt.f b i3 h3 (([(-1), (sr.length : Int), 0] : List Int))).bind fun bt160 => (if 0 ≤ q then (if q < (l.length : Int) then (spec_l11SpoilRegister.j1 k b bt160.2.1 bt160.2.2 sr (l.set (q : Int).toNat (⟨bt160.1, (rd_T76 l q).f1, (rd_T76 l q).f2, (rd_T76 l q).f3⟩ : S76))) else (none)) else (none))) else (if w = 3 then ((spec_l1PickInt.f b i3 h3 (([0, 1, 8, 9] : List Int))).bind fun bt167 => (if 0 < (sr.length : Int) then (spec_l11SpoilRegister.j1 k b bt167.2.1 bt167.2.2 (sr.set (0 : Int).toNat (⟨(rd_T156 sr 0).f0, bt167.1⟩ : S156)) l) else (none))) else (spec_l11SpoilRegister.j1 k b i3 h3 sr l))))) r →
      Ev (fun k => (spec_l1Once.f b i h 12).bind fun bt133 => (if bt133.1 = true then (spec_l11SpoilRegister.j0 k (decide ((l.length : Int) > 0)) b bt133.2.1 bt133.2.2 sr l) else (spec_l11SpoilRegister.j0 k false b bt133.2.1 bt133.2.2 sr l))) r := by
    intro r hr
    refine ev_bind0 e1 (ev_pos cv ?_)
    rw [decide_eq_true cl]
    exact Ev.step (fun k => by rw [spec_l11SpoilRegister.j0]) (ev_pos rfl (ev_bind0 e2 (ev_bind0 e3 hr)))
  have set_ok : ∀ x : S76, (l.set (q : Int).toNat x).length ≤ 400 := fun x => by rw [List.length_set]; exact hl
  by_cases d0 : w = 0
  · obtain ⟨x, i4, h4, e4, c4, _⟩ := pickInt_ok b i3 h3 ([1, (-1), 10] : List Int) (by decide) c3
    obtain ⟨sr', l', i', h', e, p⟩ := spoil_end b i4 h4 sr _ c4 hb hs (set_ok ⟨(rd_T76 l q).f0, wrap64 (((rd_T76 l q).f1) + x), (rd_T76 l q).f2, (rd_T76 l q).f3⟩)
    exact ⟨sr', l', i', h', start _ (ev_pos d0 (ev_pos q0 (ev_pos q2 (ev_bind0 e4 e)))), p⟩
  by_cases d1 : w = 1
  · obtain ⟨x, i4, h4, e4, c4, _⟩ := pickInt_ok b i3 h3 ([(-1), 40001, 0] : List Int) (by decide) c3
    obtain ⟨sr', l', i', h', e, p⟩ := spoil_end b i4 h4 sr _ c4 hb hs (set_ok ⟨(rd_T76 l q).f0, (rd_T76 l q).f1, x, (rd_T76 l q).f3⟩)
    exact ⟨sr', l', i', h', start _ (ev_neg d0 (ev_pos d1 (ev_bind0 e4 (ev_pos q0 (ev_pos q2 e))))), p⟩
  by_cases d2 : w = 2
  · obtain ⟨x, i4, h4, e4, c4, _⟩ := pickInt_ok b i3 h3 ([(-1), (sr.length : Int), 0] : List Int) (by simp) c3
    obtain ⟨sr', l', i', h', e, p⟩ := spoil_end b i4 h4 sr _ c4 hb hs (set_ok ⟨x, (rd_T76 l q).f1, (rd_T76 l q).f2, (rd_T76 l q).f3⟩)
    exact ⟨sr', l', i', h', start _ (ev_neg d0 (ev_neg d1 (ev_pos d2 (ev_bind0 e4 (ev_pos q0 (ev_pos q2 e)))))), p⟩
  by_cases d3 : w = 3
  · obtain ⟨x, i4, h4, e4, c4, _⟩ := pickInt_ok b i3 h3 ([0, 1, 8, 9] : List Int) (by decide) c3
    have hr0 : rd_T156 sr ((0 : Nat) : Int) = sr[0]'hs0 := getD_at hs0 _
    obtain ⟨sr', l', i', h', e, p⟩ := spoil_end b i4 h4 (sr.set (0 : Int).toNat (⟨(rd_T156 sr 0).f0, x⟩ : S156)) l c4 (fun y hy => by
      rcases List.mem_or_eq_of_mem_set hy with hy | rfl
      · exact hb y hy
      · show ((rd_T156 sr 0).f0.size : Int) ≤ 1048576
        rw [show rd_T156 sr 0 = sr[0]'hs0 from hr0]
        exact hb _ (List.getElem_mem hs0)) (by rw [List.length_set]; exact hs) hl
    exact ⟨sr', l', i', h', start _ (ev_neg d0 (ev_neg d1 (ev_neg d2 (ev_pos d3 (ev_bind0 e4 (ev_pos (by omega) e)))))), p⟩
  · obtain ⟨sr', l', i', h', e, p⟩ := spoil_end b i3 h3 sr l c3 hb hs hl
    exact ⟨sr', l', i', h', start _ (ev_neg d0 (ev_neg d1 (ev_neg d2 (ev_neg d3 e)))), p⟩
theorem draw_ev (l : List Int) (hl : (l.length : Int) ≤ 1048576) : ∃ sr ps, Ev (fun k => spec_DrawRegisterOk.f k l) (sr, ps) ∧ (∀ x ∈ sr, B156 1048576 x) ∧ sr.length ≤ 4 ∧ ps.length ≤ 400 := by
  obtain ⟨h, hn⟩ := new_ok l (by omega)
  obtain ⟨t, et, t0, t1⟩ := size_ok l 25 (by decide) hl
  obtain ⟨n, i1, h1, e1, c1, n0, n1, _⟩ := below_ok l 0 h 4 ⟨by decide, by omega, by omega⟩
  have n2 := n1 (by decide)
  have wn : wrap64 (1 + n) = ((n.toNat + 1 : Nat) : Int) := by rw [wrap_id (by omega) (by omega)]; omega
  obtain ⟨sr, ps, i2, h2, e2, c2, hps, hsr, hb⟩ := series_ev l t ⟨by omega, by omega⟩ (n.toNat + 1) i1 h1 [] (by simp; omega) c1 (fun x hx => by cases hx)
  have hsr' : sr.length = n.toNat + 1 := by rw [hsr]; simp
  obtain ⟨sr', ps', i3, h3, e3, hb', hs', hp'⟩ := spoil_reg l i2 h2 sr ps c2 hb (by omega) (by omega) hps
  refine ⟨sr', ps', ?_, hb', hs', hp'⟩
  unfold spec_DrawRegisterOk.f
  refine Ev.bind hn (ev_bind0 et (Ev.bind (a := (sr, ps, i2, h2)) ?_ (Ev.bind e3 (Ev.now _))))
  unfold spec_l11DrawRegister.f
  refine ev_bind0 e1 ?_
  simp only [wn]
  exact e2
theorem FnNoGap : laws_FnNoGap.Pure := by
  intro l0 hg0 hg1 hg2
  apply Ev.rounds
  unfold laws_FnNoGap.f laws_big.f
  refine ev_bind0 rfl ?_
  by_cases cb : (l0.length : Int) > 1048576
  · exact ev_pos (decide_eq_true cb) (Ev.now _)
  refine ev_neg (by rw [decide_eq_true_eq]; exact cb) ?_
  obtain ⟨sr, l, hd, hb, hs, hl⟩ := draw_ev l0 (by omega)
  obtain ⟨b, g1, g2, hp⟩ := reg_both sr l hb (by omega) (by omega)
  refine Ev.bind hd (Ev.bind g1 ?_)
  have same : Ev (fun k => laws_FnNoGap.j0 k l0 true sr l) true := by
    refine Ev.step (fun k => by rw [laws_FnNoGap.j0]) (ev_pos rfl (Ev.bind g2 (Ev.bind g1 ?_)))
    rw [beq_self_eq_true]
    exact Ev.now _
  by_cases c : b = true
  · refine ev_pos c ?_
    by_cases cs : (sr.length : Int) = 0
    · rw [show ((sr.length : Int) == 0) = true from beq_iff_eq.mpr cs]
      exact same
    · rw [show ((sr.length : Int) == 0) = false from beq_eq_false_iff_ne.mpr cs]
      refine Ev.step (fun k => by rw [laws_FnNoGap.j0]) (ev_neg (by decide) ?_)
      exact main_ev l0 hg2 sr (by omega) hb 8 0 (by omega) l (hp.1 c)
  · exact ev_neg c same
end Go.Proofs.Ytkkdmmefnicmaaa.Pure
