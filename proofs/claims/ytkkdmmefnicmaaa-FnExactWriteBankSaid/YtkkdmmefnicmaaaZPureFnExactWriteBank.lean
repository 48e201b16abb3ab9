/- WriteBank: the program's text is the reference's, whatever the day and the payments. -/
import Derived.Test.YtkkdmmefnicmaaaZPFnExactWriteBankx
import Derived.Test.YtkkdmmefnicmaaaZHFnExactWriteBank
set_option maxHeartbeats 4000000
set_option linter.unusedVariables false
set_option linter.unusedSimpArgs false
namespace Go.Proofs.Ytkkdmmefnicmaaa.Pure
open Go.RowKit Go.Proofs.Ytkkdmmefnicmaaa.PFnExactWriteBank Go.Proofs.YtkkdmmefnicmaaaW.PrintWords Go.Proofs.YtkkdmmefnicmaaaW.PrintLast Go.Proofs.Ytkkdmmefnicmaaa.XEv
/-! ### A number's digits -/
/-- One digit's text. -/
def digB (d : Nat) : ByteArray := (⟨#[48, 49, 50, 51, 52, 53, 54, 55, 56, 57]⟩ : ByteArray).extract d (d + 1)
theorem digB_size (d : Nat) (h : d < 10) : (digB d).size = 1 := by
  unfold digB
  rw [ByteArray.size_extract]
  have : (⟨#[48, 49, 50, 51, 52, 53, 54, 55, 56, 57]⟩ : ByteArray).size = 10 := rfl
  omega
theorem digB_num (d : Nat) (h : d < 10) : strOfNums [(wrap64 (48 + (d : Int))) % 256] = digB d := by
  have hw : (wrap64 (48 + (d : Int))) % 256 = ((48 + d : Nat) : Int) := by rw [wrap_id (by omega) (by omega)]; omega
  rw [hw]
  have : ∀ q : Fin 10, strOfNums [((48 + (q : Nat) : Nat) : Int)] = digB (q : Nat) := by decide +kernel
  exact this ⟨d, h⟩
/-- A number's text. -/
def dec (n : Nat) : ByteArray := if h : n < 10 then digB n else dec (n / 10) ++ digB (n % 10)
termination_by n
decreasing_by omega
theorem dec_lt {n : Nat} (h : n < 10) : dec n = digB n := by rw [dec, dif_pos h]
theorem dec_ge {n : Nat} (h : ¬ n < 10) : dec n = dec (n / 10) ++ digB (n % 10) := by rw [dec, dif_neg h]
theorem dec_size (n : Nat) : (dec n).size ≤ n + 1 := by
  induction n using Nat.strongRecOn with
  | ind n ih =>
    by_cases c : n < 10
    · rw [dec_lt c, digB_size n c]; omega
    · rw [dec_ge c, ByteArray.size_append, digB_size (n % 10) (by omega)]
      have := ih (n / 10) (by omega)
      omega
theorem ba_assoc (a b c : ByteArray) : a ++ b ++ c = a ++ (b ++ c) := by
  apply Go.WideShapes.bytes_inj
  simp [ByteArray.data_append]
theorem tmod_nat (n : Nat) : Int.tmod (n : Int) 10 = ((n % 10 : Nat) : Int) := by rw [Int.tmod_eq_emod_of_nonneg (by omega)]; omega
theorem tdiv_nat (n : Nat) : Int.tdiv (n : Int) 10 = ((n / 10 : Nat) : Int) := by rw [Int.tdiv_eq_ediv_of_nonneg (by omega)]; omega
theorem l1Text_ev (n : Nat) (hn : n < 1000000000000) : Ev (fun k => spec_l1Text.f k (n : Int)) (dec n) := by
  induction n using Nat.strongRecOn with
  | ind n ih =>
    by_cases c : n < 10
    · rw [dec_lt c]
      refine Ev.step (fun k => by rw [spec_l1Text.f]) ?_
      have hw : wrap64 ((n : Int) + 1) = ((n + 1 : Nat) : Int) := by rw [wrap_id (by omega) (by omega)]; omega
      simp only [hw]
      exact ev_neg (by omega) (ev_pos (by omega) (ev_pos (by omega) (ev_pos (by omega) (ev_pos (by omega) (Ev.now _)))))
    · rw [dec_ge c]
      refine Ev.step (fun k => by rw [spec_l1Text.f]) ?_
      have hw : wrap64 ((n / 10 : Nat) : Int) = ((n / 10 : Nat) : Int) := wrap_id (by omega) (by omega)
      have hw2 : wrap64 (((n % 10 : Nat) : Int) + 1) = ((n % 10 + 1 : Nat) : Int) := by rw [wrap_id (by omega) (by omega)]; omega
      simp only [tdiv_nat, tmod_nat, hw, hw2]
      have h1 := ih (n / 10) (by omega) (by omega)
      have hz := digB_size (n % 10) (by omega)
      have hs := dec_size (n / 10)
      have hz' : ((⟨#[48, 49, 50, 51, 52, 53, 54, 55, 56, 57]⟩ : ByteArray).extract (((n % 10 : Nat) : Int)).toNat (((n % 10 + 1 : Nat) : Int)).toNat).size = 1 := hz
      exact ev_neg (by omega) (ev_neg (by omega) (Ev.bind h1 (ev_pos (by omega) (ev_pos (by omega) (ev_pos (by omega) (ev_pos (by omega) (Ev.now _)))))))
theorem decimal_l0_ev (n : Nat) : ∀ acc : ByteArray, acc.size + n < 9000000000000000 → n < 1000000000000 → 0 < n → Ev (fun k => impl_decimal.l0 k (n : Int) acc) (dec n ++ acc) := by
  induction n using Nat.strongRecOn with
  | ind n ih =>
    intro acc ha hn h0
    refine Ev.step (fun k => by rw [impl_decimal.l0]) ?_
    have hw : wrap64 ((n / 10 : Nat) : Int) = ((n / 10 : Nat) : Int) := wrap_id (by omega) (by omega)
    have hz := digB_size (n % 10) (by omega)
    simp only [tdiv_nat, tmod_nat, hw, Option.bind_some, digB_num (n % 10) (by omega)]
    refine ev_pos (by omega) (ev_pos (by omega) ?_)
    by_cases c : n < 10
    · have e0 : n / 10 = 0 := by omega
      have e1 : n % 10 = n := by omega
      rw [e0, e1, dec_lt c]
      exact Ev.step (fun k => by rw [impl_decimal.l0]) (ev_neg (by omega) (Ev.now _))
    · rw [dec_ge c, ba_assoc]
      exact ih (n / 10) (by omega) _ (by rw [ByteArray.size_append]; omega) (by omega) (by omega)
theorem decimal_ev (n : Nat) (hn : n < 1000000000000) : Ev (fun k => impl_decimal.f k (n : Int)) (dec n) := by
  refine Ev.step (fun k => by rw [impl_decimal.f]) ?_
  have hw : wrap64 ((n / 10 : Nat) : Int) = ((n / 10 : Nat) : Int) := wrap_id (by omega) (by omega)
  have hz := digB_size (n % 10) (by omega)
  simp only [tdiv_nat, tmod_nat, hw, digB_num (n % 10) (by omega)]
  refine ev_neg (by omega) ?_
  by_cases c : n < 10
  · have e0 : n / 10 = 0 := by omega
    have e1 : n % 10 = n := by omega
    rw [e0, e1, dec_lt c]
    exact Ev.step (fun k => by rw [impl_decimal.l0]) (ev_neg (by omega) (Ev.now _))
  · rw [dec_ge c]
    exact decimal_l0_ev (n / 10) _ (by omega) (by omega) (by omega)
/-! ### An account's number -/
theorem bt_get (s : ByteArray) (j : Nat) (h : j < s.size) : bt s (j : Int) = ((s[j]'h).toNat : Int) := by simp [bt, h]
theorem bt_extract (s : ByteArray) (i j q : Nat) (h : q < (s.extract i j).size) : bt (s.extract i j) (q : Int) = bt s ((i + q : Nat) : Int) := by
  have hs := ByteArray.size_extract (a := s) (b := i) (e := j)
  rw [bt_get _ q h, bt_get s (i + q) (by omega), ByteArray.getElem_extract]
def okc (c : Int) : Prop := (65 ≤ c ∧ c ≤ 90) ∨ (48 ≤ c ∧ c ≤ 57)
def stp (n c : Int) : Int := if 48 ≤ c ∧ c ≤ 57 then Int.tmod (wrap64 (wrap64 (n * 10) + (c - 48))) 97 else Int.tmod (wrap64 (wrap64 (wrap64 (n * 100) + (c - 65)) + 10)) 97
/-- The rest by 97 of what the bytes are. -/
def mo (t : ByteArray) : Nat → Nat → Int → Int
  | 0, _, n => n
  | b + 1, pos, n => if pos < t.size then mo t b (pos + 1) (stp n (bt t (pos : Int))) else n
theorem r97_go (t : ByteArray) (b pos : Nat) (n : Int) (h : pos < t.size) (ho : okc (bt t (pos : Int))) : r97 t (b + 1) pos n = r97 t b (pos + 1) (stp n (bt t (pos : Int))) := by
  have hb := bt_get t pos h
  have ha : (t[pos]'h).toNat < 128 := by unfold okc at ho; omega
  have hd := Go.decode_ascii t pos h ha
  simp only [r97, if_pos h, hd]
  rw [← hb]
  unfold stp
  by_cases c : 48 ≤ bt t (pos : Int) ∧ bt t (pos : Int) ≤ 57
  · rw [if_pos c, if_pos c]
  · rw [if_neg c, if_neg c, if_pos (by unfold okc at ho; omega)]
theorem r97_no (t : ByteArray) (b pos : Nat) (n : Int) (h : pos < t.size) (ho : ¬ okc (bt t (pos : Int))) : r97 t (b + 1) pos n = -1 := by
  have hb := bt_get t pos h
  unfold okc at ho
  by_cases ha : (t[pos]'h).toNat < 128
  · have hd := Go.decode_ascii t pos h ha
    simp only [r97, if_pos h, hd]
    rw [← hb, if_neg (by omega), if_neg (by omega)]
  · have hd := (Go.decode_high t pos h (by omega)).1
    simp only [r97, if_pos h]
    rw [if_neg (by omega), if_neg (by omega)]
theorem r97_ok (t : ByteArray) (hall : ∀ j, j < t.size → okc (bt t (j : Nat))) : ∀ (b pos : Nat) (n : Int), r97 t b pos n = mo t b pos n
  | 0, _, _ => rfl
  | b + 1, pos, n => by
    by_cases h : pos < t.size
    · rw [r97_go t b pos n h (hall pos h), mo, if_pos h]
      exact r97_ok t hall b _ _
    · rw [r97_end t (b + 1) pos n h, mo, if_neg h]
theorem r97_bad (t : ByteArray) : ∀ (b pos : Nat) (n : Int), t.size ≤ pos + b → (∃ j, pos ≤ j ∧ j < t.size ∧ ¬ okc (bt t (j : Nat))) → r97 t b pos n = -1
  | 0, pos, n, hb, ⟨j, h1, h2, _⟩ => by omega
  | b + 1, pos, n, hb, ⟨j, h1, h2, h3⟩ => by
    have h : pos < t.size := by omega
    by_cases ho : okc (bt t (pos : Int))
    · rw [r97_go t b pos n h ho]
      refine r97_bad t b _ _ (by omega) ⟨j, ?_, h2, h3⟩
      rcases Nat.lt_or_ge pos j with h4 | h4
      · exact h4
      · exact absurd ((show j = pos by omega) ▸ ho) h3
    · exact r97_no t b pos n h ho
theorem big_eq (c : Int) : spec_l14Big.f c = some (decide (65 ≤ c ∧ c ≤ 90)) := by
  unfold spec_l14Big.f
  by_cases h : c ≥ 65
  · rw [if_pos h]; congr 1; rw [decide_eq_decide]; omega
  · rw [if_neg h, decide_eq_false (by omega)]
theorem dig_eq (c : Int) : spec_l9Digit.f c = some (decide (48 ≤ c ∧ c ≤ 57)) := by
  unfold spec_l9Digit.f
  by_cases h : c ≥ 48
  · rw [if_pos h]; congr 1; rw [decide_eq_decide]; omega
  · rw [if_neg h, decide_eq_false (by omega)]
theorem cap_eq (c : Int) : impl_capital.f c = some (decide (65 ≤ c ∧ c ≤ 90)) := by
  unfold impl_capital.f
  by_cases h : c ≥ 65
  · rw [if_pos h]; congr 1; rw [decide_eq_decide]; omega
  · rw [if_neg h, decide_eq_false (by omega)]
theorem digi_eq (c : Int) : impl_digit.f c = some (decide (48 ≤ c ∧ c ≤ 57)) := by
  unfold impl_digit.f
  by_cases h : c ≥ 48
  · rw [if_pos h]; congr 1; rw [decide_eq_decide]; omega
  · rw [if_neg h, decide_eq_false (by omega)]
theorem rest_ev (s : ByteArray) (hs : s.size ≤ 30) : ∃ b, Ev (fun k => spec_l14Rest.f k s) b ∧ (b = true ↔ ∀ j, j < s.size → okc (bt s (j : Nat))) := by
  have hE := each_ev (List.range s.size) (fun k x => spec_l14Rest.l0 k s x) (fun i _ => okc (bt s (i : Nat))) True (fun i hi => ?_) ⟨true, ?_, by simp⟩
  · obtain ⟨b, h1, h2⟩ := hE
    refine ⟨b, h1, h2.trans ⟨fun h j hj => h.1 j (by simpa using hj), fun h => ⟨fun i hi => h i (by simpa using hi), trivial⟩⟩⟩
  · rw [List.length_range] at hi
    have hw := wrap_succ hi (by omega)
    by_cases c1 : 65 ≤ bt s (i : Int) ∧ bt s (i : Int) ≤ 90
    · refine .inl ⟨.inl c1, fun r h => Ev.step (fun k => by rw [spec_l14Rest.l0]) ?_⟩
      simp only [big_eq, Option.bind_some, hw]
      exact ev_pos (by omega) (ev_pos (by omega) (ev_pos (decide_eq_true c1) h))
    · by_cases c2 : 48 ≤ bt s (i : Int) ∧ bt s (i : Int) ≤ 57
      · refine .inl ⟨.inr c2, fun r h => Ev.step (fun k => by rw [spec_l14Rest.l0]) ?_⟩
        simp only [big_eq, dig_eq, Option.bind_some, hw]
        exact ev_pos (by omega) (ev_pos (by omega) (ev_neg (by rw [decide_eq_false c1]; decide) (ev_pos (decide_eq_true c2) h)))
      · refine .inr ⟨fun h => h.elim c1 c2, Ev.step (fun k => by rw [spec_l14Rest.l0]) ?_⟩
        simp only [big_eq, dig_eq, Option.bind_some, hw]
        exact ev_pos (by omega) (ev_pos (by omega) (ev_neg (by rw [decide_eq_false c1]; decide) (ev_neg (by rw [decide_eq_false c2]; decide) (Ev.now _))))
  · rw [List.length_range]
    exact Ev.step (fun k => by rw [spec_l14Rest.l0]) (ev_neg (by omega) (Ev.now _))
theorem mod_ev (t : ByteArray) (hs : t.size ≤ 30) (hall : ∀ j, j < t.size → okc (bt t (j : Nat))) : ∀ (b pos : Nat) (n : Int), pos + b = t.size → Ev (fun k => spec_l14Mod.l0 k t n (pos : Int)) (mo t b pos n)
  | 0, pos, n, h => by
    show Ev _ n
    exact Ev.step (fun k => by rw [spec_l14Mod.l0]) (ev_neg (by omega) (Ev.now _))
  | b + 1, pos, n, h => by
    have hi : pos < t.size := by omega
    have hw := wrap_succ hi (by omega)
    have hr := bt_range t (pos : Int)
    have ho := hall pos hi
    have ih := mod_ev t hs hall b (pos + 1) (stp n (bt t (pos : Int))) (by omega)
    rw [mo, if_pos hi]
    refine Ev.step (fun k => by rw [spec_l14Mod.l0]) ?_
    simp only [dig_eq, Option.bind_some, hw]
    unfold stp at ih ⊢
    by_cases c : 48 ≤ bt t (pos : Int) ∧ bt t (pos : Int) ≤ 57
    · rw [if_pos c] at ih ⊢
      have e : (bt t (pos : Int) - 48) % 256 = bt t (pos : Int) - 48 := Int.emod_eq_of_lt (by omega) (by omega)
      rw [e]
      exact ev_pos (by omega) (ev_pos (by omega) (ev_pos (decide_eq_true c) ih))
    · rw [if_neg c] at ih ⊢
      unfold okc at ho
      have e : (bt t (pos : Int) - 65) % 256 = bt t (pos : Int) - 65 := Int.emod_eq_of_lt (by omega) (by omega)
      rw [e]
      exact ev_pos (by omega) (ev_pos (by omega) (ev_neg (by rw [decide_eq_false c]; decide) ih))
/-- The text turned. -/
def turned (s : ByteArray) : ByteArray := s.extract 4 s.size ++ s.extract 0 4
theorem turned_size (s : ByteArray) (h : 4 ≤ s.size) : (turned s).size = s.size := by
  unfold turned
  rw [ByteArray.size_append, ByteArray.size_extract, ByteArray.size_extract]
  omega
theorem turned_ok (s : ByteArray) (h : 4 ≤ s.size) : (∀ j, j < (turned s).size → okc (bt (turned s) (j : Nat))) ↔ ∀ j, j < s.size → okc (bt s (j : Nat)) := by
  have hz := turned_size s h
  have h1 : (s.extract 4 s.size).size = s.size - 4 := by rw [ByteArray.size_extract]; omega
  have h2 : (s.extract 0 4).size = 4 := by rw [ByteArray.size_extract]; omega
  have hl : ∀ j, j < s.size - 4 → bt (turned s) (j : Nat) = bt s ((4 + j : Nat) : Int) := by
    intro j hj
    have e := bt_extract s 4 s.size j (by omega)
    rw [← e, bt_get _ j (by omega), bt_get _ j (by omega)]
    unfold turned
    rw [ByteArray.getElem_append_left (by omega)]
  have hr : ∀ j, j < 4 → bt (turned s) ((s.size - 4 + j : Nat) : Int) = bt s (j : Nat) := by
    intro j hj
    have e := bt_extract s 0 4 j (by omega)
    rw [Nat.zero_add] at e
    rw [← e, bt_get _ (s.size - 4 + j) (by omega), bt_get _ j (by omega)]
    unfold turned
    rw [ByteArray.getElem_append_right (by omega)]
    simp only [h1, Nat.add_sub_cancel_left]
  constructor
  · intro hh j hj
    rcases Nat.lt_or_ge j 4 with c | c
    · rw [← hr j c]
      exact hh _ (by omega)
    · have := hl (j - 4) (by omega)
      rw [show 4 + (j - 4) = j by omega] at this
      rw [← this]
      exact hh _ (by omega)
  · intro hh j hj
    rcases Nat.lt_or_ge j (s.size - 4) with c | c
    · rw [hl j c]
      exact hh _ (by omega)
    · have := hr (j - (s.size - 4)) (by omega)
      rw [show s.size - 4 + (j - (s.size - 4)) = j by omega] at this
      rw [this]
      exact hh _ (by omega)
theorem w32 (s : ByteArray) (i : Int) : wrap32 (bt s i) = bt s i := by
  have := bt_range s i
  unfold wrap32
  omega
/-- What an account's number must be. -/
def AccIs (s : ByteArray) : Prop := (65 ≤ bt s 0 ∧ bt s 0 ≤ 90) ∧ (65 ≤ bt s 1 ∧ bt s 1 ≤ 90) ∧ (48 ≤ bt s 2 ∧ bt s 2 ≤ 57) ∧ (48 ≤ bt s 3 ∧ bt s 3 ≤ 57)
theorem land_eq (s : ByteArray) (h : 8 ≤ s.size) : impl_landOk.f (s.extract 0 2) = some (decide ((65 ≤ bt s 0 ∧ bt s 0 ≤ 90) ∧ (65 ≤ bt s 1 ∧ bt s 1 ≤ 90))) := by
  have h2 : (s.extract 0 2).size = 2 := by rw [ByteArray.size_extract]; omega
  have e0 : bt (s.extract 0 2) 0 = bt s 0 := bt_extract s 0 2 0 (by omega)
  have e1 : bt (s.extract 0 2) 1 = bt s 1 := bt_extract s 0 2 1 (by omega)
  unfold impl_landOk.f
  rw [if_pos (by omega), if_pos (by omega), w32, w32, e0, e1, cap_eq, Option.bind_some, cap_eq]
  by_cases c : 65 ≤ bt s 0 ∧ bt s 0 ≤ 90
  · rw [if_pos (decide_eq_true c), if_pos (by omega), Option.bind_some]
    congr 1
    rw [decide_eq_decide]
    exact ⟨fun h => ⟨c, h⟩, fun h => h.2⟩
  · rw [if_neg (by rw [decide_eq_false c]; decide), decide_eq_false (fun h => c h.1)]
theorem impl_acc_eq (s : ByteArray) (h : 8 ≤ s.size) (h1 : s.size ≤ 30) : ∃ b, impl_AccountNumber.f s = some b ∧ (b = true ↔ AccIs s ∧ r97 (turned s) (turned s).size 0 0 = 1) := by
  have ht : (s.extract 4 s.size ++ s.extract 0 4) = turned s := rfl
  have hz := turned_size s (by omega)
  have hsz : (s.extract 4 s.size).size + (s.extract 0 4).size ≤ 9223372036854775807 := by rw [ByteArray.size_extract, ByteArray.size_extract]; omega
  unfold impl_AccountNumber.f
  rw [if_neg (by omega), if_neg (by omega), if_pos (by omega), if_pos (by omega), land_eq s h, Option.bind_some]
  by_cases c1 : (65 ≤ bt s 0 ∧ bt s 0 ≤ 90) ∧ (65 ≤ bt s 1 ∧ bt s 1 ≤ 90)
  · rw [if_pos (decide_eq_true c1), if_pos (by omega), digi_eq, Option.bind_some]
    by_cases c2 : 48 ≤ bt s 2 ∧ bt s 2 ≤ 57
    · rw [if_pos (decide_eq_true c2), if_pos (by omega), digi_eq, Option.bind_some]
      by_cases c3 : 48 ≤ bt s 3 ∧ bt s 3 ≤ 57
      · rw [if_pos (decide_eq_true c3), if_pos (by omega), if_pos (by omega), if_pos hsz, ht]
        refine ⟨_, rfl, ?_⟩
        rw [beq_iff_eq]
        exact ⟨fun h => ⟨⟨c1.1, c1.2, c2, c3⟩, h⟩, fun h => h.2⟩
      · rw [if_neg (by rw [decide_eq_false c3]; decide)]
        exact ⟨_, rfl, by simp; exact fun h => absurd h.2.2.2 c3⟩
    · rw [if_neg (by rw [decide_eq_false c2]; decide)]
      exact ⟨_, rfl, by simp; exact fun h => absurd h.2.2.1 c2⟩
  · rw [if_neg (by rw [decide_eq_false c1]; decide)]
    exact ⟨_, rfl, by simp; exact fun h => absurd ⟨h.1, h.2.1⟩ c1⟩
theorem spec_acc_ev (s : ByteArray) (h : 8 ≤ s.size) (h1 : s.size ≤ 30) : ∃ b, Ev (fun k => spec_AccountNumber.f k s) b ∧ (b = true ↔ (∀ j, j < s.size → okc (bt s (j : Nat))) ∧ AccIs s ∧ mo (turned s) (turned s).size 0 0 = 1) := by
  have ht : (s.extract 4 s.size ++ s.extract 0 4) = turned s := rfl
  have hz := turned_size s (by omega)
  have hsz : (s.extract 4 s.size).size + (s.extract 0 4).size ≤ 9223372036854775807 := by rw [ByteArray.size_extract, ByteArray.size_extract]; omega
  obtain ⟨b0, hb0, hp⟩ := rest_ev s h1
  unfold spec_AccountNumber.f
  simp only [spec_l1In_eq, big_eq, dig_eq, Option.bind_some, ht]
  by_cases c0 : b0 = true
  · have hall := hp.1 c0
    have hm : Ev (fun k => spec_l14Mod.f k (turned s)) (mo (turned s) (turned s).size 0 0) := mod_ev (turned s) (by omega) ((turned_ok s (by omega)).2 hall) (turned s).size 0 0 (by omega)
    by_cases c1 : 65 ≤ bt s 0 ∧ bt s 0 ≤ 90
    · by_cases c2 : 65 ≤ bt s 1 ∧ bt s 1 ≤ 90
      · by_cases c3 : 48 ≤ bt s 2 ∧ bt s 2 ≤ 57
        · by_cases c4 : 48 ≤ bt s 3 ∧ bt s 3 ≤ 57
          · refine ⟨_, ev_pos (decide_eq_true (by omega)) (Ev.bind hb0 (ev_pos c0 (ev_pos (by omega) (ev_pos (decide_eq_true c1) (ev_pos (by omega) (ev_pos (decide_eq_true c2) (ev_pos (by omega) (ev_pos (decide_eq_true c3) (ev_pos (by omega) (ev_pos (decide_eq_true c4) (ev_pos (by omega) (ev_pos (by omega) (ev_pos hsz (Ev.bind hm (Ev.now _))))))))))))))), ?_⟩
            rw [beq_iff_eq]
            exact ⟨fun h => ⟨hall, ⟨c1, c2, c3, c4⟩, h⟩, fun h => h.2.2⟩
          · exact ⟨false, ev_pos (decide_eq_true (by omega)) (Ev.bind hb0 (ev_pos c0 (ev_pos (by omega) (ev_pos (decide_eq_true c1) (ev_pos (by omega) (ev_pos (decide_eq_true c2) (ev_pos (by omega) (ev_pos (decide_eq_true c3) (ev_pos (by omega) (ev_neg (by rw [decide_eq_false c4]; decide) (Ev.now _))))))))))), by simp; exact fun _ h => absurd h.2.2.2 c4⟩
        · exact ⟨false, ev_pos (decide_eq_true (by omega)) (Ev.bind hb0 (ev_pos c0 (ev_pos (by omega) (ev_pos (decide_eq_true c1) (ev_pos (by omega) (ev_pos (decide_eq_true c2) (ev_pos (by omega) (ev_neg (by rw [decide_eq_false c3]; decide) (Ev.now _))))))))), by simp; exact fun _ h => absurd h.2.2.1 c3⟩
      · exact ⟨false, ev_pos (decide_eq_true (by omega)) (Ev.bind hb0 (ev_pos c0 (ev_pos (by omega) (ev_pos (decide_eq_true c1) (ev_pos (by omega) (ev_neg (by rw [decide_eq_false c2]; decide) (Ev.now _))))))), by simp; exact fun _ h => absurd h.2.1 c2⟩
    · exact ⟨false, ev_pos (decide_eq_true (by omega)) (Ev.bind hb0 (ev_pos c0 (ev_pos (by omega) (ev_neg (by rw [decide_eq_false c1]; decide) (Ev.now _))))), by simp; exact fun _ h => absurd h.1 c1⟩
  · exact ⟨false, ev_pos (decide_eq_true (by omega)) (Ev.bind hb0 (ev_neg c0 (Ev.now _))), by simp; exact fun h => absurd (hp.2 h) c0⟩
theorem acc_both (s : ByteArray) : ∃ b, Ev (fun k => spec_AccountNumber.f k s) b ∧ impl_AccountNumber.f s = some b ∧ (b = true → s.size ≤ 30) := by
  by_cases h : 8 ≤ s.size ∧ s.size ≤ 30
  · obtain ⟨b, h1, h2⟩ := impl_acc_eq s h.1 h.2
    obtain ⟨b', h3, h4⟩ := spec_acc_ev s h.1 h.2
    have e : b' = b := by
      refine bool_of_iff h4 (h2.trans ?_)
      by_cases hall : ∀ j, j < s.size → okc (bt s (j : Nat))
      · rw [r97_ok _ ((turned_ok s (by omega)).2 hall)]
        exact ⟨fun h => ⟨hall, h⟩, fun h => h.2⟩
      · have hn : ¬ ∀ j, j < (turned s).size → okc (bt (turned s) (j : Nat)) := fun h' => hall ((turned_ok s (by omega)).1 h')
        have : r97 (turned s) (turned s).size 0 0 = -1 := by
          refine r97_bad _ _ _ _ (by omega) ?_
          apply Classical.byContradiction
          intro hx
          exact hn (fun j hj => Classical.byContradiction fun ho => hx ⟨j, Nat.zero_le _, hj, ho⟩)
        rw [this]
        exact ⟨fun h => absurd h.2 (by decide), fun h => absurd h.1 hall⟩
    rw [e] at h3
    exact ⟨b, h3, h1, fun _ => h.2⟩
  · refine ⟨false, ?_, ?_, fun h => by cases h⟩
    · unfold spec_AccountNumber.f
      simp only [spec_l1In_eq, Option.bind_some]
      exact ev_neg (by rw [decide_eq_false (by omega)]; decide) (Ev.now _)
    · unfold impl_AccountNumber.f
      by_cases c : (s.size : Int) < 8
      · rw [if_pos c]
      · rw [if_neg c, if_pos (by omega)]
/-! ### Money with two places -/
theorem dec_pos (n : Nat) : 1 ≤ (dec n).size := by
  by_cases c : n < 10
  · rw [dec_lt c, digB_size n c]; omega
  · rw [dec_ge c, ByteArray.size_append, digB_size (n % 10) (by omega)]; omega
def cents (a : Nat) : ByteArray := digB (a / 10 % 10) ++ digB (a % 10)
theorem cents_size (a : Nat) : (cents a).size = 2 := by unfold cents; rw [ByteArray.size_append, digB_size _ (by omega), digB_size _ (by omega)]
/-- An amount's text. -/
def mon (a : Nat) : ByteArray := (dec (a / 100) ++ (⟨#[46]⟩ : ByteArray)) ++ cents a
theorem sz1 (b : UInt8) : (⟨#[b]⟩ : ByteArray).size = 1 := rfl
theorem sz2 (b c : UInt8) : (⟨#[b, c]⟩ : ByteArray).size = 2 := rfl
theorem mon_size (a : Nat) (h : a ≤ 100000000000) : (mon a).size ≤ 1000000010 := by
  unfold mon
  rw [ByteArray.size_append, ByteArray.size_append, cents_size, sz1]
  have := dec_size (a / 100)
  omega
theorem nil_app (s : ByteArray) : (⟨#[]⟩ : ByteArray) ++ s = s := by
  apply Go.WideShapes.bytes_inj
  simp [ByteArray.data_append]
theorem ten2 : Ev (fun k => spec_l1Ten.f k 2) 100 := by
  refine ⟨3, fun k hk => ?_⟩
  obtain ⟨j, rfl⟩ : ∃ j, k = j + 3 := ⟨k - 3, by omega⟩
  simp [spec_l1Ten.f, spec_l1Ten.l0, wrap64]
theorem dec100 (m : Nat) (h : m < 100) : (dec (100 + m)).extract 1 (dec (100 + m)).size = digB (m / 10) ++ digB (m % 10) := by
  have e : dec (100 + m) = digB 1 ++ (digB (m / 10) ++ digB (m % 10)) := by
    rw [dec_ge (by omega), dec_ge (by omega), show (100 + m) / 10 / 10 = 1 by omega, show (100 + m) / 10 % 10 = m / 10 by omega, show (100 + m) % 10 = m % 10 by omega, dec_lt (by omega), ByteArray.append_assoc]
  rw [e]
  exact ByteArray.extract_append_eq_right (digB_size 1 (by omega)).symm (ByteArray.size_append)
theorem spec_show_ev (a : Nat) (h : a ≤ 100000000000) : Ev (fun k => spec_ShowMoney.f k (a : Int) 2) (mon a) := by
  have hq : wrap64 (Int.tdiv (a : Int) 100) = ((a / 100 : Nat) : Int) := by
    rw [Int.tdiv_eq_ediv_of_nonneg (by omega), wrap_id (by omega) (by omega)]; omega
  have hr : wrap64 (100 + Int.tmod (a : Int) 100) = ((100 + a % 100 : Nat) : Int) := by
    rw [Int.tmod_eq_emod_of_nonneg (by omega), wrap_id (by omega) (by omega)]; omega
  have h1 := l1Text_ev (a / 100) (by omega)
  have h2 := l1Text_ev (100 + a % 100) (by omega)
  have hx := dec100 (a % 100) (by omega)
  have s1 := dec_size (a / 100)
  have s2 := dec_size (100 + a % 100)
  have s3 := dec_pos (100 + a % 100)
  have hc : digB (a % 100 / 10) ++ digB (a % 100 % 10) = cents a := by unfold cents; rw [show a % 100 / 10 = a / 10 % 10 by omega, show a % 100 % 10 = a % 10 by omega]
  have hcs := cents_size a
  refine Ev.step (fun k => by rw [spec_ShowMoney.f]) ?_
  simp only [spec_l1Amount_eq, spec_l1In_eq, Option.bind_some]
  refine ev_pos (decide_eq_true (by omega)) (Ev.step (fun k => by rw [spec_ShowMoney.j0]) (ev_neg (by decide) (ev_neg (by omega) (Ev.bind ten2 ?_))))
  refine ev_neg (by decide) ?_
  simp only [hq, hr]
  refine Ev.bind h1 (ev_pos (by decide) (Ev.bind h2 ?_))
  rw [hx, hc]
  refine ev_pos (by omega) (ev_pos (by omega) (ev_pos ?_ (Ev.now _)))
  rw [ByteArray.size_append, sz1]
  omega
theorem show_end (p q : ByteArray) (hp : 1 ≤ p.size) (hp1 : p.size ≤ 100000000000) (hq : q.size = 2) : Ev (fun k => impl_ShowMoney.l0 k 2 (⟨#[]⟩ : ByteArray) (p ++ q)) ((p ++ (⟨#[46]⟩ : ByteArray)) ++ q) := by
  have hs : (p ++ q).size = p.size + 2 := by rw [ByteArray.size_append, hq]
  have hw : wrap64 (((p ++ q).size : Int) - 2) = (p.size : Int) := by rw [hs, wrap_id (by omega) (by omega)]; omega
  have e1 : (p ++ q).extract 0 ((p.size : Int)).toNat = p := ByteArray.extract_append_eq_left rfl
  have e2 : (p ++ q).extract ((p.size : Int)).toNat (p ++ q).size = q := ByteArray.extract_append_eq_right rfl ByteArray.size_append
  have z0 : (⟨#[]⟩ : ByteArray).size = 0 := rfl
  refine Ev.step (fun k => by rw [impl_ShowMoney.l0]) ?_
  simp only [hw, e1, e2, nil_app]
  refine ev_neg (by omega) (ev_neg (by omega) (ev_pos (by omega) (ev_pos (by omega) (ev_pos (by omega) (ev_pos ?_ (ev_pos ?_ (Ev.now _)))))))
  · omega
  · rw [ByteArray.size_append, sz1]
    omega
theorem dig0 : digB 0 = (⟨#[48]⟩ : ByteArray) := by decide +kernel
theorem show_pad (s r : ByteArray) (h : s.size ≤ 2) (hk : Ev (fun k => impl_ShowMoney.l0 k 2 (⟨#[]⟩ : ByteArray) ((⟨#[48]⟩ : ByteArray) ++ s)) r) : Ev (fun k => impl_ShowMoney.l0 k 2 (⟨#[]⟩ : ByteArray) s) r :=
  Ev.step (fun k => by rw [impl_ShowMoney.l0]) (ev_pos (by omega) (ev_pos (by omega) hk))
theorem impl_show_ev (a : Nat) (h : a ≤ 100000000000) : Ev (fun k => impl_ShowMoney.f k (a : Int) 2) (mon a) := by
  unfold impl_ShowMoney.f
  simp only [impl_amount_eq, impl_between_eq, Option.bind_some]
  refine ev_pos (decide_eq_true (by omega)) (Ev.step (fun k => by rw [impl_ShowMoney.j0]) (ev_neg (by decide) (ev_neg (by omega) (Ev.step (fun k => by rw [impl_ShowMoney.j1]) (Ev.bind (decimal_ev a (by omega)) ?_)))))
  have hz := cents_size a
  have s1 := dec_size (a / 100)
  have s2 := dec_pos (a / 100)
  have hend := show_end (dec (a / 100)) (cents a) s2 (by omega) hz
  by_cases c1 : a < 10
  · rw [dec_lt c1]
    have e : dec (a / 100) ++ cents a = (⟨#[48]⟩ : ByteArray) ++ ((⟨#[48]⟩ : ByteArray) ++ digB a) := by
      unfold cents
      rw [show a / 100 = 0 by omega, show a / 10 % 10 = 0 by omega, show a % 10 = a by omega, dec_lt (by omega), dig0]
    have hd := digB_size a c1
    refine show_pad _ _ (by omega) (show_pad _ _ ?_ ?_)
    · rw [ByteArray.size_append, sz1]; omega
    · rw [← e]; exact hend
  · by_cases c2 : a < 100
    · have e : dec (a / 100) ++ cents a = (⟨#[48]⟩ : ByteArray) ++ dec a := by
        unfold cents
        rw [dec_ge c1, show a / 100 = 0 by omega, show a / 10 % 10 = a / 10 by omega, dec_lt (n := 0) (by omega), dig0, dec_lt (n := a / 10) (by omega)]
      have hd : (dec a).size = 2 := by rw [dec_ge c1, dec_lt (by omega), ByteArray.size_append, digB_size _ (by omega), digB_size _ (by omega)]
      refine show_pad _ _ (by omega) ?_
      rw [← e]; exact hend
    · have e : dec (a / 100) ++ cents a = dec a := by
        unfold cents
        rw [dec_ge c1, dec_ge (n := a / 10) (by omega), Nat.div_div_eq_div_mul, ByteArray.append_assoc]
      rw [← e]
      exact hend
/-! ### The last line's number -/
theorem check_eq (s : ByteArray) : ∀ (k : Nat) (n i : Int), impl_bankCheck.l0 k s n i = spec_l14Check.l0 k s n i
  | 0, _, _ => rfl
  | k + 1, n, i => by
    rw [impl_bankCheck.l0, spec_l14Check.l0]
    simp only [check_eq s k]
theorem check_go (s : ByteArray) (hs : s.size ≤ 9000000000000000000) : ∀ (d i n : Nat), i + d = s.size → n < 65521 → ∃ c : Nat, c < 65521 ∧ Ev (fun k => spec_l14Check.l0 k s (n : Int) (i : Int)) (c : Int)
  | 0, i, n, h, hn => ⟨n, hn, Ev.step (fun k => by rw [spec_l14Check.l0]) (ev_neg (by omega) (Ev.now _))⟩
  | d + 1, i, n, h, hn => by
    have hi : i < s.size := by omega
    have hw := wrap_succ hi (by omega)
    have hb := bt_range s (i : Int)
    obtain ⟨m, hm⟩ : ∃ m : Nat, bt s (i : Int) = (m : Int) := ⟨(bt s (i : Int)).toNat, by omega⟩
    have e : Int.tmod (wrap64 (wrap64 (31 * (n : Int)) + wrap64 (bt s (i : Int)))) 65521 = (((31 * n + m) % 65521 : Nat) : Int) := by
      rw [hm] at hb ⊢
      rw [wrap_id (x := 31 * (n : Int)) (by omega) (by omega), wrap_id (x := (m : Int)) (by omega) (by omega), wrap_id (by omega) (by omega), Int.tmod_eq_emod_of_nonneg (by omega)]
      omega
    obtain ⟨c, h1, h2⟩ := check_go s hs d (i + 1) ((31 * n + m) % 65521) (by omega) (Nat.mod_lt _ (by decide))
    refine ⟨c, h1, Ev.step (fun k => by rw [spec_l14Check.l0]) ?_⟩
    simp only [e, hw]
    exact ev_pos (by omega) (ev_pos (by omega) h2)
theorem check_both (s : ByteArray) (hs : s.size ≤ 9000000000000000000) : ∃ c : Nat, c < 65521 ∧ Ev (fun k => spec_l14Check.f k s) (c : Int) ∧ Ev (fun k => impl_bankCheck.f k s) (c : Int) := by
  obtain ⟨c, h1, h2⟩ := check_go s hs s.size 0 7 (by omega) (by omega)
  refine ⟨c, h1, h2, Ev.congr (fun k => ?_) h2⟩
  exact check_eq s k 7 0
/-! ### The lines -/
theorem bytesOf_app (a b : ByteArray) : bytesOf (a ++ b) = bytesOf a ++ bytesOf b := by simp [bytesOf, ByteArray.data_append]
theorem str_bytes (s : ByteArray) : strOfNums (bytesOf s) = s := by
  apply Go.WideShapes.bytes_inj
  rw [strOfNums_data, bytesOf, List.map_map]
  refine (List.map_congr_left (fun b _ => ?_)).trans (List.map_id _)
  show UInt8.ofNat ((b.toNat : Int)).toNat = b
  rw [Int.toNat_natCast]
  exact UInt8.ofNat_toNat
theorem line4 (p x y m : ByteArray) : lineB [p, x, y, m] = bytesOf (((((((p ++ (⟨#[124]⟩ : ByteArray)) ++ x) ++ (⟨#[124]⟩ : ByteArray)) ++ y) ++ (⟨#[124]⟩ : ByteArray)) ++ m) ++ (⟨#[10]⟩ : ByteArray)) := by
  simp only [lineB, remB, bytesOf_app, List.append_assoc, List.append_nil]
theorem line2 (p x : ByteArray) : lineB [p, x] = bytesOf (((p ++ (⟨#[124]⟩ : ByteArray)) ++ x) ++ (⟨#[10]⟩ : ByteArray)) := by
  simp only [lineB, remB, bytesOf_app, List.append_assoc, List.append_nil]
theorem bk_ok (s t : ByteArray) (fs : List ByteArray) (h : lineB fs = bytesOf t) (hs : s.size + t.size ≤ 140737488355328) : bkLine (bytesOf s) fs = some (bytesOf (s ++ t)) := by
  unfold bkLine
  rw [h, if_pos (by rw [bytesOf_length, bytesOf_length]; exact hs), bytesOf_app]
theorem pre2 (a b : UInt8) : (⟨#[a, b]⟩ : ByteArray) = (⟨#[a]⟩ : ByteArray) ++ (⟨#[b]⟩ : ByteArray) := rfl
/-- What is handed back: nothing where it is too long. -/
def bkFin (t : ByteArray) : ByteArray := if (20000 : Int) < ((t.size : Nat) : Int) then (⟨#[]⟩ : ByteArray) else t
theorem bkFin_eq (t : ByteArray) : (if ((t.size : Nat) : Int) > 20000 then some (⟨#[]⟩ : ByteArray) else some t) = some (bkFin t) := by
  unfold bkFin
  by_cases c : (20000 : Int) < ((t.size : Nat) : Int)
  · rw [if_pos c, if_pos c]
  · rw [if_neg c, if_neg c]
theorem bkEnd_eq (t : ByteArray) : bkEnd (bytesOf t) = bkFin t := by
  unfold bkEnd bkFin
  rw [bytesOf_length, str_bytes]
/-- What a payment must be. -/
def PayIs (x : S140) : Prop := impl_AccountNumber.f x.f0 = some true ∧ NameIs x.f1 ∧ 1 ≤ x.f2 ∧ x.f2 ≤ 100000000000
theorem pay_size {x : S140} (h : PayIs x) : x.f0.size ≤ 30 ∧ x.f1.size ≤ 20 := by
  obtain ⟨b, _, h1, h2⟩ := acc_both x.f0
  rw [h.1] at h1
  exact ⟨h2 (Option.some.inj h1).symm, h.2.1.2.1⟩
theorem row_size {i S a b m : Nat} (h : S ≤ (i + 1) * 2000000000) (h1 : a ≤ 30) (h2 : b ≤ 20) (hm : m ≤ 1000000010) : S + 2 + a + 1 + b + 1 + m + 1 ≤ (i + 1 + 1) * 2000000000 := by omega
theorem rows_both (l : List S140) (hlen : l.length ≤ 100) (hok : ∀ x ∈ l, PayIs x) : ∀ (d i : Nat) (s : ByteArray), i + d = l.length → s.size ≤ (i + 1) * 2000000000 → ∃ r, Ev (fun k => spec_WriteBank.l1 k l s (i : Int)) r ∧ Ev (fun k => impl_WriteBank.rows k l (bytesOf s) (i : Int)) r := by
  intro d
  induction d with
  | zero =>
    intro i s h hs
    have hs' : s.size ≤ 1000000000000 := by omega
    obtain ⟨c, hc, h1, h2⟩ := check_both s (by omega)
    have hd := dec_size c
    have z1 := sz1 10
    have z2 := sz2 84 124
    have z3 := sz1 84
    have z4 := sz1 124
    have hb := bk_ok s _ [(⟨#[84]⟩ : ByteArray), dec c] (line2 _ _) (by simp only [ByteArray.size_append]; omega)
    have es : s ++ ((((⟨#[84]⟩ : ByteArray) ++ (⟨#[124]⟩ : ByteArray)) ++ dec c) ++ (⟨#[10]⟩ : ByteArray)) = ((s ++ (⟨#[84, 124]⟩ : ByteArray)) ++ dec c) ++ (⟨#[10]⟩ : ByteArray) := by
      rw [pre2 84 124]
      simp only [ByteArray.append_assoc]
    rw [es] at hb
    refine ⟨bkFin (((s ++ (⟨#[84, 124]⟩ : ByteArray)) ++ dec c) ++ (⟨#[10]⟩ : ByteArray)), ?_, ?_⟩
    · refine Ev.step (fun k => by rw [spec_WriteBank.l1]) (ev_neg (by omega) (ev_pos (by omega) (Ev.bind h1 (Ev.bind (l1Text_ev c (by omega)) (ev_pos ?_ (ev_pos ?_ ?_))))))
      · rw [ByteArray.size_append]; omega
      · rw [ByteArray.size_append, ByteArray.size_append]; omega
      · exact ev_eq (bkFin_eq _)
    · refine Ev.step (fun k => by rw [impl_WriteBank.rows]) (ev_neg (by omega) ?_)
      rw [str_bytes]
      refine Ev.bind h2 (Ev.bind (decimal_ev c (by omega)) (ev_bind0 hb ?_))
      rw [bkEnd_eq]
      exact Ev.now _
  | succ d ih =>
    intro i s h hs
    have hi : i < l.length := by omega
    have hrd : rd_T140 l (i : Int) = l[i] := getD_at hi _
    have hx := hok l[i] (List.getElem_mem hi)
    obtain ⟨a, ha⟩ : ∃ a : Nat, l[i].f2 = (a : Int) := ⟨l[i].f2.toNat, by have := hx.2.2.1; omega⟩
    have ha1 : a ≤ 100000000000 := by have := hx.2.2.2; omega
    have hsz := pay_size hx
    have hm := mon_size a ha1
    have z1 := sz1 10
    have z2 := sz2 80 124
    have z3 := sz1 80
    have z4 := sz1 124
    have hs' : s.size ≤ 1000000000000 := by omega
    have p0 : (0 : Int) ≤ (i : Int) := by omega
    have p1 : (i : Int) < (l.length : Int) := by omega
    have p2 : s.size + 2 ≤ 9223372036854775807 := by omega
    have hi9 : l.length ≤ 9223372036854775807 := by omega
    have hb := bk_ok s _ [(⟨#[80]⟩ : ByteArray), l[i].f0, l[i].f1, mon a] (line4 _ _ _ _) (by simp only [ByteArray.size_append]; omega)
    have es : s ++ ((((((((⟨#[80]⟩ : ByteArray) ++ (⟨#[124]⟩ : ByteArray)) ++ l[i].f0) ++ (⟨#[124]⟩ : ByteArray)) ++ l[i].f1) ++ (⟨#[124]⟩ : ByteArray)) ++ mon a) ++ (⟨#[10]⟩ : ByteArray)) = ((((((s ++ (⟨#[80, 124]⟩ : ByteArray)) ++ l[i].f0) ++ (⟨#[124]⟩ : ByteArray)) ++ l[i].f1) ++ (⟨#[124]⟩ : ByteArray)) ++ mon a) ++ (⟨#[10]⟩ : ByteArray) := by
      rw [pre2 80 124]
      simp only [ByteArray.append_assoc]
    rw [es] at hb
    have hz : (((((((s ++ (⟨#[80, 124]⟩ : ByteArray)) ++ l[i].f0) ++ (⟨#[124]⟩ : ByteArray)) ++ l[i].f1) ++ (⟨#[124]⟩ : ByteArray)) ++ mon a) ++ (⟨#[10]⟩ : ByteArray)).size ≤ (i + 1 + 1) * 2000000000 := by
      simp only [ByteArray.size_append, sz1, sz2]
      exact row_size hs hsz.1 hsz.2 hm
    obtain ⟨r, h1, h2⟩ := ih (i + 1) (((((((s ++ (⟨#[80, 124]⟩ : ByteArray)) ++ l[i].f0) ++ (⟨#[124]⟩ : ByteArray)) ++ l[i].f1) ++ (⟨#[124]⟩ : ByteArray)) ++ mon a) ++ (⟨#[10]⟩ : ByteArray)) (by omega) hz
    have hw := wrap_succ hi hi9
    refine ⟨r, Ev.step (fun k => by rw [spec_WriteBank.l1]) ?_, Ev.step (fun k => by rw [impl_WriteBank.rows]) ?_⟩
    · simp only [hrd, hw, ha]
      refine ev_pos p1 (ev_pos p2 (ev_pos p0 (ev_pos ?_ (ev_pos ?_ (ev_pos ?_ (ev_pos ?_ (Ev.bind (spec_show_ev a ha1) (ev_pos ?_ (ev_pos ?_ h1)))))))))
      all_goals (clear hw hb es h1 h2 ih hrd hz ha hx; simp only [ByteArray.size_append, sz1, sz2]; omega)
    · simp only [hrd, hw, ha]
      exact ev_pos p1 (ev_pos p0 (Ev.bind (impl_show_ev a ha1) (ev_bind0 hb h2)))
/-! ### The front -/
def addW (a : Int) (x : S140) : Int := wrap64 (a + x.f2)
def runW (l : List S140) (n : Nat) : Int := (l.take n).foldl addW 0
theorem runW_succ (l : List S140) (i : Nat) (h : i < l.length) : runW l (i + 1) = wrap64 (runW l i + l[i].f2) := by
  unfold runW
  rw [List.take_succ_eq_append_getElem h, List.foldl_append]
  rfl
theorem runW_all (l : List S140) : runW l l.length = l.foldl addW 0 := by unfold runW; rw [List.take_length]
theorem sum_go (l : List S140) (hl : l.length ≤ 1048576) : ∀ (d i : Nat), i + d = l.length → Ev (fun k => spec_l14Sum.l0 k l (runW l i) (i : Int)) (runW l l.length) := by
  intro d
  induction d with
  | zero =>
    intro i h
    obtain rfl : i = l.length := by omega
    exact Ev.step (fun k => by rw [spec_l14Sum.l0]) (ev_neg (by omega) (Ev.now _))
  | succ d ih =>
    intro i h
    have hi : i < l.length := by omega
    have hrd : rd_T140 l (i : Int) = l[i] := getD_at hi _
    have h1 := ih (i + 1) (by omega)
    rw [runW_succ l i hi] at h1
    refine Ev.step (fun k => by rw [spec_l14Sum.l0]) (ev_pos (by omega) (ev_pos (by omega) ?_))
    simp only [hrd, wrap_succ hi (by omega)]
    exact h1
theorem sum_ev (l : List S140) (hl : l.length ≤ 1048576) : Ev (fun k => spec_l14Sum.f k l) (runW l l.length) := sum_go l hl l.length 0 (by omega)
theorem tot_range : ∀ (l : List S140) (acc : Int), (∀ x ∈ l, PayIs x) → 0 ≤ acc → acc + l.length * 100000000000 ≤ 100000000000000 → 0 ≤ l.foldl addW acc
  | [], acc, _, h0, _ => h0
  | x :: l, acc, hok, h0, h1 => by
    have hx := (hok x List.mem_cons_self).2.2
    rw [List.length_cons] at h1
    have e : addW acc x = acc + x.f2 := by unfold addW; rw [wrap_id (by omega) (by omega)]
    rw [List.foldl_cons, e]
    exact tot_range l _ (fun y hy => hok y (List.mem_cons_of_mem _ hy)) (by omega) (by omega)
theorem pay_ev (x : S140) (h : (x.f1.size : Int) ≤ 1048576) : ∃ b, Ev (fun k => spec_l14Pay.f k x.f0 x.f1 x.f2) b ∧ (b = true ↔ PayIs x) := by
  obtain ⟨b0, h0, h1, _⟩ := acc_both x.f0
  obtain ⟨b1, h2, h3⟩ := spec_NameOk_ev x.f1 h
  unfold spec_l14Pay.f PayIs
  simp only [spec_l1In_eq, Option.bind_some]
  by_cases c0 : b0 = true
  · subst c0
    by_cases c1 : b1 = true
    · refine ⟨_, Ev.bind h0 (ev_pos rfl (Ev.bind h2 (ev_pos c1 (Ev.now _)))), ?_⟩
      rw [decide_eq_true_eq]
      exact ⟨fun h => ⟨h1, h3.1 c1, h⟩, fun h => h.2.2⟩
    · refine ⟨false, Ev.bind h0 (ev_pos rfl (Ev.bind h2 (ev_neg c1 (Ev.now _)))), ?_⟩
      exact ⟨fun h => (by cases h), fun h => absurd (h3.2 h.2.1) c1⟩
  · refine ⟨false, Ev.bind h0 (ev_neg c0 (Ev.now _)), ?_⟩
    exact ⟨fun h => (by cases h), fun h => by rw [h1] at h; exact absurd (Option.some.inj h.1) c0⟩
theorem spec_front (day : Int) (l : List S140) (hl : l.length ≤ 100) (hs : ∀ x ∈ l, (x.f1.size : Int) ≤ 1048576) (T : Nat → Option ByteArray) (hT : ∀ r, Ev T r → Ev (fun k => spec_WriteBank.l0 k day l (l.length : Int)) r) :
    ((∀ x ∈ l, PayIs x) ∧ ∀ r, Ev T r → Ev (fun k => spec_WriteBank.l0 k day l 0) r) ∨ (¬ (∀ x ∈ l, PayIs x) ∧ Ev (fun k => spec_WriteBank.l0 k day l 0) (⟨#[]⟩ : ByteArray)) := by
  refine each_mem_go l (fun k j => spec_WriteBank.l0 k day l j) PayIs T (⟨#[]⟩ : ByteArray) (fun i hi => ?_) hT
  have hrd : rd_T140 l (i : Int) = l[i] := getD_at hi _
  obtain ⟨b, h1, h2⟩ := pay_ev l[i] (hs _ (List.getElem_mem hi))
  by_cases c : b = true
  · refine .inl ⟨h2.1 c, fun r h => Ev.step (fun k => by rw [spec_WriteBank.l0]) (ev_pos (by omega) (ev_pos (by omega) ?_))⟩
    simp only [hrd, wrap_succ hi (by omega)]
    exact Ev.bind h1 (ev_pos c h)
  · refine .inr ⟨fun h => c (h2.2 h), Ev.step (fun k => by rw [spec_WriteBank.l0]) (ev_pos (by omega) (ev_pos (by omega) ?_))⟩
    simp only [hrd]
    exact Ev.bind h1 (ev_neg c (Ev.now _))
theorem impl_front (day : Int) (l : List S140) (hl : l.length ≤ 100) (T : Nat → Option ByteArray) (hT : ∀ r, Ev T r → Ev (fun k => impl_WriteBank.l0 k day (runW l l.length) l (l.length : Int) (l.length : Int)) r) :
    ((∀ x ∈ l, PayIs x) ∧ ∀ r, Ev T r → Ev (fun k => impl_WriteBank.l0 k day 0 l (l.length : Int) 0) r) ∨ (¬ (∀ x ∈ l, PayIs x) ∧ Ev (fun k => impl_WriteBank.l0 k day 0 l (l.length : Int) 0) (⟨#[]⟩ : ByteArray)) := by
  have h0 : runW l 0 = 0 := rfl
  have := each_mem_go l (fun k j => impl_WriteBank.l0 k day (runW l j.toNat) l (l.length : Int) j) PayIs T (⟨#[]⟩ : ByteArray) (fun i hi => ?_) (by simpa only [Int.toNat_natCast] using hT)
  · exact this
  have hrd : rd_T140 l (i : Int) = l[i] := getD_at hi _
  simp only [Int.toNat_natCast]
  rw [runW_succ l i hi]
  obtain ⟨b0, _, h1, _⟩ := acc_both l[i].f0
  obtain ⟨b1, h2, h3⟩ := impl_NameOk_ev l[i].f1
  by_cases c0 : b0 = true
  · subst c0
    by_cases c1 : b1 = true
    · by_cases c2 : 1 ≤ l[i].f2 ∧ l[i].f2 ≤ 100000000000
      · refine .inl ⟨⟨h1, h3.1 c1, c2⟩, fun r h => Ev.step (fun k => by rw [impl_WriteBank.l0]) (ev_pos (by omega) (ev_pos (by omega) (ev_pos (by omega) ?_)))⟩
        simp only [hrd, h1, impl_between_eq, Option.bind_some, wrap_succ hi (by omega)]
        exact ev_pos trivial (Ev.bind h2 (ev_pos c1 (ev_pos (decide_eq_true c2) h)))
      · refine .inr ⟨fun h => c2 h.2.2, Ev.step (fun k => by rw [impl_WriteBank.l0]) (ev_pos (by omega) (ev_pos (by omega) (ev_pos (by omega) ?_)))⟩
        simp only [hrd, h1, impl_between_eq, Option.bind_some]
        exact ev_pos trivial (Ev.bind h2 (ev_pos c1 (ev_neg (by rw [decide_eq_false c2]; decide) (Ev.now _))))
    · refine .inr ⟨fun h => c1 (h3.2 h.2.1), Ev.step (fun k => by rw [impl_WriteBank.l0]) (ev_pos (by omega) (ev_pos (by omega) (ev_pos (by omega) ?_)))⟩
      simp only [hrd, h1, Option.bind_some]
      exact ev_pos trivial (Ev.bind h2 (ev_neg c1 (Ev.now _)))
  · refine .inr ⟨fun h => ?_, Ev.step (fun k => by rw [impl_WriteBank.l0]) (ev_pos (by omega) (ev_pos (by omega) (ev_pos (by omega) ?_)))⟩
    · have := h.1
      rw [h1] at this
      exact c0 (Option.some.inj this)
    · simp only [hrd, h1, Option.bind_some]
      exact ev_neg c0 (Ev.now _)
/-- The first line. -/
def headS (day n m : Nat) : ByteArray := (((((((⟨#[72, 124]⟩ : ByteArray) ++ dec day) ++ (⟨#[124]⟩ : ByteArray)) ++ dec n) ++ (⟨#[124]⟩ : ByteArray)) ++ mon m) ++ (⟨#[10]⟩ : ByteArray))
theorem headS_size (day n m : Nat) (h : day ≤ 40000) (h1 : n ≤ 100) (hm : m ≤ 100000000000) : (headS day n m).size ≤ 2000000000 := by
  have a1 := dec_size day
  have a2 := dec_size n
  have a3 := mon_size m hm
  unfold headS
  simp only [ByteArray.size_append, sz1, sz2]
  omega
theorem bank_both (day : Int) (l : List S140) (hs : ∀ x ∈ l, (x.f1.size : Int) ≤ 1048576) : ∃ s, Ev (fun k => spec_WriteBank.f k day l) s ∧ Ev (fun k => impl_WriteBank.f k day l) s := by
  unfold spec_WriteBank.f impl_WriteBank.f
  simp only [spec_l2Day_eq, impl_isDay_eq, spec_l1In_eq, Option.bind_some]
  by_cases cd : 0 ≤ day ∧ day ≤ 40000
  · by_cases cl : (1 : Int) ≤ (l.length : Int) ∧ (l.length : Int) ≤ 100
    · have hlen : l.length ≤ 100 := by omega
      -- both begin
      have hsp : ∀ r, Ev (fun k => spec_WriteBank.l0 k day l 0) r → Ev (fun k => if decide (0 ≤ day ∧ day ≤ 40000) = true then spec_WriteBank.j0 k day l (!decide ((1 : Int) ≤ (l.length : Int) ∧ (l.length : Int) ≤ 100)) else spec_WriteBank.j0 k day l true) r := by
        intro r h
        refine ev_pos (decide_eq_true cd) (Ev.step (fun k => by rw [spec_WriteBank.j0]) (ev_neg (by rw [decide_eq_true cl]; decide) h))
      have him : ∀ r, Ev (fun k => impl_WriteBank.l0 k day 0 l (l.length : Int) 0) r → Ev (fun k => if decide (0 ≤ day ∧ day ≤ 40000) = true then (if (l.length : Int) < 1 then impl_WriteBank.j0 k day l true else impl_WriteBank.j0 k day l (decide ((l.length : Int) > 100))) else impl_WriteBank.j0 k day l true) r := by
        intro r h
        refine ev_pos (decide_eq_true cd) (ev_neg (by omega) (Ev.step (fun k => by rw [impl_WriteBank.j0]) (ev_neg (by rw [decide_eq_false (by omega)]; decide) h)))
      have hse := fun T hT => spec_front day l hlen hs T hT
      have hie := fun T hT => impl_front day l hlen T hT
      have hsum := sum_ev l (by omega)
      by_cases hall : ∀ x ∈ l, PayIs x
      · have htot : 0 ≤ runW l l.length := by rw [runW_all]; exact tot_range l 0 hall (by omega) (by omega)
        obtain ⟨m, hm⟩ : ∃ m : Nat, runW l l.length = (m : Int) := ⟨(runW l l.length).toNat, by omega⟩
        rw [hm] at hsum htot
        by_cases cm : m ≤ 100000000000
        · obtain ⟨dn, rfl⟩ : ∃ dn : Nat, day = (dn : Int) := ⟨day.toNat, by omega⟩
          have hz := headS_size dn l.length m (by omega) hlen cm
          have hz1 := hz
          unfold headS at hz1
          simp only [ByteArray.size_append, sz1, sz2] at hz1
          obtain ⟨r, h1, h2⟩ := rows_both l hlen hall l.length 0 (headS dn l.length m) (by omega) (by omega)
          refine ⟨r, hsp r ?_, him r ?_⟩
          · rcases hse (fun k => spec_WriteBank.l0 k (dn : Int) l (l.length : Int)) (fun r h => h) with ⟨_, hg⟩ | ⟨hn, _⟩
            · refine hg r (Ev.step (fun k => by rw [spec_WriteBank.l0]) (ev_neg (by omega) (Ev.bind hsum ?_)))
              simp only [spec_l1Amount_eq, Option.bind_some]
              refine ev_pos (decide_eq_true (by omega)) (Ev.bind (l1Text_ev dn (by omega)) (ev_pos (by omega) (ev_pos ?_ (Ev.bind (l1Text_ev l.length (by omega)) (ev_pos ?_ (ev_pos ?_ (Ev.bind hsum (Ev.bind (spec_show_ev m cm) (ev_pos ?_ (ev_pos ?_ h1))))))))))
              all_goals (simp only [ByteArray.size_append, sz1, sz2]; omega)
            · exact absurd hall hn
          · rcases hie (fun k => impl_WriteBank.l0 k (dn : Int) (runW l l.length) l (l.length : Int) (l.length : Int)) (fun r h => h) with ⟨_, hg⟩ | ⟨hn, _⟩
            · refine hg r (Ev.step (fun k => by rw [impl_WriteBank.l0]) (ev_neg (by omega) (ev_neg (by omega) ?_)))
              rw [hm]
              unfold impl_WriteBank.tail
              have hb := bk_ok (⟨#[]⟩ : ByteArray) _ [(⟨#[72]⟩ : ByteArray), dec dn, dec l.length, mon m] (line4 _ _ _ _) (by simp only [ByteArray.size_append, sz1]; have z0 : (⟨#[]⟩ : ByteArray).size = 0 := rfl; omega)
              have e : (⟨#[]⟩ : ByteArray) ++ ((((((((⟨#[72]⟩ : ByteArray) ++ (⟨#[124]⟩ : ByteArray)) ++ dec dn) ++ (⟨#[124]⟩ : ByteArray)) ++ dec l.length) ++ (⟨#[124]⟩ : ByteArray)) ++ mon m) ++ (⟨#[10]⟩ : ByteArray)) = headS dn l.length m := by
                rw [nil_app]
                unfold headS
                rw [pre2 72 124]
              rw [e] at hb
              exact Ev.bind (decimal_ev dn (by omega)) (Ev.bind (decimal_ev l.length (by omega)) (Ev.bind (impl_show_ev m cm) (ev_bind0 hb h2)))
            · exact absurd hall hn
        · refine ⟨(⟨#[]⟩ : ByteArray), hsp _ ?_, him _ ?_⟩
          · rcases hse (fun k => spec_WriteBank.l0 k day l (l.length : Int)) (fun r h => h) with ⟨_, hg⟩ | ⟨hn, _⟩
            · refine hg _ (Ev.step (fun k => by rw [spec_WriteBank.l0]) (ev_neg (by omega) (Ev.bind hsum ?_)))
              simp only [spec_l1Amount_eq, Option.bind_some]
              exact ev_neg (by rw [decide_eq_false (by omega)]; decide) (Ev.now _)
            · exact absurd hall hn
          · rcases hie (fun k => impl_WriteBank.l0 k day (runW l l.length) l (l.length : Int) (l.length : Int)) (fun r h => h) with ⟨_, hg⟩ | ⟨hn, _⟩
            · exact hg _ (Ev.step (fun k => by rw [impl_WriteBank.l0]) (ev_neg (by omega) (ev_pos (by omega) (Ev.now _))))
            · exact absurd hall hn
      · refine ⟨(⟨#[]⟩ : ByteArray), hsp _ ?_, him _ ?_⟩
        · rcases hse (fun k => spec_WriteBank.l0 k day l (l.length : Int)) (fun r h => h) with ⟨ha, _⟩ | ⟨_, hg⟩
          · exact absurd ha hall
          · exact hg
        · rcases hie (fun k => impl_WriteBank.l0 k day (runW l l.length) l (l.length : Int) (l.length : Int)) (fun r h => h) with ⟨ha, _⟩ | ⟨_, hg⟩
          · exact absurd ha hall
          · exact hg
    · refine ⟨(⟨#[]⟩ : ByteArray), ?_, ?_⟩
      · exact ev_pos (decide_eq_true cd) (Ev.step (fun k => by rw [spec_WriteBank.j0]) (ev_pos (by rw [decide_eq_false cl]; decide) (Ev.now _)))
      · refine ev_pos (decide_eq_true cd) ?_
        by_cases c1 : (l.length : Int) < 1
        · exact ev_pos c1 (Ev.step (fun k => by rw [impl_WriteBank.j0]) (ev_pos rfl (Ev.now _)))
        · exact ev_neg c1 (Ev.step (fun k => by rw [impl_WriteBank.j0]) (ev_pos (decide_eq_true (by omega)) (Ev.now _)))
  · refine ⟨(⟨#[]⟩ : ByteArray), ?_, ?_⟩
    · exact ev_neg (by rw [decide_eq_false cd]; decide) (Ev.step (fun k => by rw [spec_WriteBank.j0]) (ev_pos rfl (Ev.now _)))
    · exact ev_neg (by rw [decide_eq_false cd]; decide) (Ev.step (fun k => by rw [impl_WriteBank.j0]) (ev_pos rfl (Ev.now _)))
theorem FnExactWriteBank : laws_FnExactWriteBank.Pure := by
  intro day l0 hg0 hg1
  apply Ev.rounds
  obtain ⟨s, hs, h⟩ := laws_szPaymentS_ev l0 1048576 (by omega) (by omega) hg1
  unfold laws_FnExactWriteBank.f
  refine Ev.bind hs ?_
  rcases h with h | ⟨_, _, hB⟩
  · exact ev_pos h (Ev.now _)
  refine ev_neg (by omega) ?_
  have hto := laws_toPaymentS_ev l0 hB
  have hB' : ((l0.map cv138).length : Int) ≤ 1048576 ∧ ∀ a_ ∈ l0.map cv138, B140 1048576 a_ := by
    refine ⟨by rw [List.length_map]; exact hB.1, fun a ha => ?_⟩
    obtain ⟨x, hx, rfl⟩ := List.mem_map.1 ha
    exact cv138_B (hB.2 x hx)
  obtain ⟨r, h1, h2⟩ := bank_both day (l0.map cv138) (fun x hx => (hB'.2 x hx).2)
  exact Ev.bind hto (Ev.bind h1 (Ev.bind hto (Ev.bind h2 (ev_pos rfl (Ev.bind hto (Ev.bind (laws_eqPaymentS_ev _ hB') (ev_pos rfl (Ev.now _))))))))
end Go.Proofs.Ytkkdmmefnicmaaa.Pure
