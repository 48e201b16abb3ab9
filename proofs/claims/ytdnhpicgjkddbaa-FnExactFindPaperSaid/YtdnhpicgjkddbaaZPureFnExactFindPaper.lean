/- FindPaper: the program finds what the reference finds, whatever the register and the text. -/
import Derived.Test.YtdnhpicgjkddbaaZPFnExactFindPaperx
import Derived.Test.YtdnhpicgjkddbaaZHFnExactFindPaper
set_option maxHeartbeats 4000000
set_option linter.unusedVariables false
set_option linter.unusedSimpArgs false
namespace Go.Proofs.Ytdnhpicgjkddbaa.Pure
open Go.RowKit Go.Proofs.Ytdnhpicgjkddbaa.PFnExactFindPaper Go.Proofs.YtdnhpicgjkddbaaW.PrintWords Go.Proofs.YtdnhpicgjkddbaaW.PrintLast Go.Proofs.Ytdnhpicgjkddbaa.XEv
/-! ### A number's digits -/
/-- One digit's text. -/
def digB (d : Nat) : ByteArray := (⟨#[48, 49, 50, 51, 52, 53, 54, 55, 56, 57]⟩ : ByteArray).extract d (d + 1)
theorem digB_size (d : Nat) (h : d < 10) : (digB d).size = 1 := by
  unfold digB
  rw [ByteArray.size_extract]
  have : (⟨#[48, 49, 50, 51, 52, 53, 54, 55, 56, 57]⟩ : ByteArray).size = 10 := rfl
  omega
theorem digB_num (d : Nat) (h : d < 10) : strOfNums [(wrap64 (48 + (d : Int))) % 256] = digB d := by
  have hw : (wrap64 (48 + (d : Int))) % 256 = ((48 + d : Nat) : Int) := by rw [wrap_id (by omega) (by omega)]; omega
  rw [hw]
  have : ∀ q : Fin 10, strOfNums [((48 + (q : Nat) : Nat) : Int)] = digB (q : Nat) := by decide +kernel
  exact this ⟨d, h⟩
/-- A number's text. -/
def dec (n : Nat) : ByteArray := if h : n < 10 then digB n else dec (n / 10) ++ digB (n % 10)
termination_by n
decreasing_by omega
theorem dec_lt {n : Nat} (h : n < 10) : dec n = digB n := by rw [dec, dif_pos h]
theorem dec_ge {n : Nat} (h : ¬ n < 10) : dec n = dec (n / 10) ++ digB (n % 10) := by rw [dec, dif_neg h]
theorem dec_size (n : Nat) : (dec n).size ≤ n + 1 := by
  induction n using Nat.strongRecOn with
  | ind n ih =>
    by_cases c : n < 10
    · rw [dec_lt c, digB_size n c]; omega
    · rw [dec_ge c, ByteArray.size_append, digB_size (n % 10) (by omega)]
      have := ih (n / 10) (by omega)
      omega
theorem ba_assoc (a b c : ByteArray) : a ++ b ++ c = a ++ (b ++ c) := by
  apply Go.WideShapes.bytes_inj
  simp [ByteArray.data_append]
theorem tmod_nat (n : Nat) : Int.tmod (n : Int) 10 = ((n % 10 : Nat) : Int) := by rw [Int.tmod_eq_emod_of_nonneg (by omega)]; omega
theorem tdiv_nat (n : Nat) : Int.tdiv (n : Int) 10 = ((n / 10 : Nat) : Int) := by rw [Int.tdiv_eq_ediv_of_nonneg (by omega)]; omega
theorem l1Text_ev (n : Nat) (hn : n < 1000000000) : Ev (fun k => spec_l1Text.f k (n : Int)) (dec n) := by
  induction n using Nat.strongRecOn with
  | ind n ih =>
    by_cases c : n < 10
    · rw [dec_lt c]
      refine Ev.step (fun k => by rw [spec_l1Text.f]) ?_
      have hw : wrap64 ((n : Int) + 1) = ((n + 1 : Nat) : Int) := by rw [wrap_id (by omega) (by omega)]; omega
      simp only [hw]
      exact ev_neg (by omega) (ev_pos (by omega) (ev_pos (by omega) (ev_pos (by omega) (ev_pos (by omega) (Ev.now _)))))
    · rw [dec_ge c]
      refine Ev.step (fun k => by rw [spec_l1Text.f]) ?_
      have hw : wrap64 ((n / 10 : Nat) : Int) = ((n / 10 : Nat) : Int) := wrap_id (by omega) (by omega)
      have hw2 : wrap64 (((n % 10 : Nat) : Int) + 1) = ((n % 10 + 1 : Nat) : Int) := by rw [wrap_id (by omega) (by omega)]; omega
      simp only [tdiv_nat, tmod_nat, hw, hw2]
      have h1 := ih (n / 10) (by omega) (by omega)
      have hz := digB_size (n % 10) (by omega)
      have hs := dec_size (n / 10)
      have hz' : ((⟨#[48, 49, 50, 51, 52, 53, 54, 55, 56, 57]⟩ : ByteArray).extract (((n % 10 : Nat) : Int)).toNat (((n % 10 + 1 : Nat) : Int)).toNat).size = 1 := hz
      exact ev_neg (by omega) (ev_neg (by omega) (Ev.bind h1 (ev_pos (by omega) (ev_pos (by omega) (ev_pos (by omega) (ev_pos (by omega) (Ev.now _)))))))
theorem decimal_l0_ev (n : Nat) : ∀ acc : ByteArray, acc.size + n < 1000000000000 → n < 1000000000 → 0 < n → Ev (fun k => impl_decimal.l0 k (n : Int) acc) (dec n ++ acc) := by
  induction n using Nat.strongRecOn with
  | ind n ih =>
    intro acc ha hn h0
    refine Ev.step (fun k => by rw [impl_decimal.l0]) ?_
    have hw : wrap64 ((n / 10 : Nat) : Int) = ((n / 10 : Nat) : Int) := wrap_id (by omega) (by omega)
    have hz := digB_size (n % 10) (by omega)
    simp only [tdiv_nat, tmod_nat, hw, Option.bind_some, digB_num (n % 10) (by omega)]
    refine ev_pos (by omega) (ev_pos (by omega) ?_)
    by_cases c : n < 10
    · have e0 : n / 10 = 0 := by omega
      have e1 : n % 10 = n := by omega
      rw [e0, e1, dec_lt c]
      exact Ev.step (fun k => by rw [impl_decimal.l0]) (ev_neg (by omega) (Ev.now _))
    · rw [dec_ge c, ba_assoc]
      exact ih (n / 10) (by omega) _ (by rw [ByteArray.size_append]; omega) (by omega) (by omega)
theorem decimal_ev (n : Nat) (hn : n < 1000000000) : Ev (fun k => impl_decimal.f k (n : Int)) (dec n) := by
  refine Ev.step (fun k => by rw [impl_decimal.f]) ?_
  have hw : wrap64 ((n / 10 : Nat) : Int) = ((n / 10 : Nat) : Int) := wrap_id (by omega) (by omega)
  have hz := digB_size (n % 10) (by omega)
  simp only [tdiv_nat, tmod_nat, hw, digB_num (n % 10) (by omega)]
  refine ev_neg (by omega) ?_
  by_cases c : n < 10
  · have e0 : n / 10 = 0 := by omega
    have e1 : n % 10 = n := by omega
    rw [e0, e1, dec_lt c]
    exact Ev.step (fun k => by rw [impl_decimal.l0]) (ev_neg (by omega) (Ev.now _))
  · rw [dec_ge c]
    exact decimal_l0_ev (n / 10) _ (by omega) (by omega) (by omega)
theorem digitsIn_ev (n : Nat) (hn : n < 1000000000) : Ev (fun k => impl_digitsIn.f k (n : Int)) ((dec n).size : Int) := by
  unfold impl_digitsIn.f
  exact Ev.bind (decimal_ev n hn) (Ev.now _)

/-! ### What a register must be -/
/-- How many papers of a series there are. -/
def cntP (l : List S53) (i : Int) : Nat := (l.filter fun x => decide (x.f0 = i)).length
/-- The day of a series' last paper; 0: it has none. -/
def dayP (l : List S53) (i : Int) : Int := ((l.filter fun x => decide (x.f0 = i)).getLast?.map (·.f2)).getD 0
theorem cnt_snoc (l : List S53) (x : S53) (i : Int) : cntP (l ++ [x]) i = cntP l i + if x.f0 = i then 1 else 0 := by
  unfold cntP
  rw [List.filter_append]
  by_cases h : x.f0 = i <;> simp [List.filter_cons, h]
theorem day_snoc (l : List S53) (x : S53) (i : Int) : dayP (l ++ [x]) i = if x.f0 = i then x.f2 else dayP l i := by
  unfold dayP
  rw [List.filter_append]
  by_cases h : x.f0 = i <;> simp [List.filter_cons, h]
theorem cnt_le (l : List S53) (i : Int) : cntP l i ≤ l.length := List.length_filter_le ..
theorem take_snoc {α : Type} (l : List α) (j : Nat) (h : j < l.length) : l.take (j + 1) = l.take j ++ [l[j]] := List.take_succ_eq_append_getElem h
/-- Each series. -/
def SeriesFit (sr : List S122) (i : Nat) (x : S122) : Prop := NameIs x.f0 ∧ (1 ≤ x.f1 ∧ x.f1 ≤ 8) ∧ ∀ (j : Nat) y, j < i → sr[j]? = some y → y.f0 ≠ x.f0
/-- Each paper, by those ahead. -/
def PaperFit (sr : List S122) (l : List S53) (j : Nat) (x : S53) : Prop :=
  x.f1 = (cntP (l.take j) x.f0 : Int) + 1 ∧ dayP (l.take j) x.f0 ≤ x.f2 ∧ ((dec (cntP (l.take j) x.f0 + 1)).size : Int) ≤ (rd_T122 sr x.f0).f1
def InReg (sr : List S122) (x : S53) : Prop := (0 ≤ x.f0 ∧ x.f0 < (sr.length : Int)) ∧ 0 ≤ x.f2 ∧ x.f2 ≤ 40000
/-- A right register. -/
def RegIs (sr : List S122) (l : List S53) : Prop :=
  (∀ (i : Nat) (hi : i < sr.length), SeriesFit sr i sr[i]) ∧ ∀ (j : Nat) (hj : j < l.length), InReg sr l[j] ∧ PaperFit sr l j l[j]

/-! ### The reference -/
theorem spec_l3_ev (sr : List S122) (l : List S53) (hs : sr.length ≤ 20) (hl : l.length ≤ 400) :
    ∃ b, Ev (fun k => spec_RegisterOk.l3 k 0 sr l) b ∧ (b = true ↔ (∀ x ∈ l, InReg sr x) ∧ True) := by
  refine each_mem l (fun k j => spec_RegisterOk.l3 k j sr l) (InReg sr) True (fun j hj => ?_) ⟨true, Ev.step (fun k => by rw [spec_RegisterOk.l3]) (ev_neg (by omega) (Ev.now _)), by simp⟩
  have hrd : rd_T53 l (j : Int) = l[j] := getD_at hj _
  have hw : wrap64 ((sr.length : Int) - 1) = (sr.length : Int) - 1 := wrap_id (by omega) (by omega)
  have hst : ∀ (r : Bool) (f : Nat → Option Bool), (∀ k, (if (j : Int) < (l.length : Int) then (if 0 ≤ (j : Int) then ((spec_l1In.f ((rd_T53 l (j : Int)).f0) 0 (wrap64 ((sr.length : Int) - 1))).bind fun t123 => (if t123 = true then ((spec_l2Day.f ((rd_T53 l (j : Int)).f2)).bind fun t125 => (if t125 = true then (spec_RegisterOk.l3 k (wrap64 ((j : Int) + 1)) sr l) else (some false))) else (some false))) else (none)) else (some true)) = f k) → Ev f r → Ev (fun k => spec_RegisterOk.l3 k (j : Int) sr l) r := by
    intro r f hf h
    refine Ev.step (fun k => by rw [spec_RegisterOk.l3]) ?_
    exact Ev.congr hf h
  by_cases c1 : 0 ≤ l[j].f0 ∧ l[j].f0 ≤ (sr.length : Int) - 1
  · by_cases c2 : 0 ≤ l[j].f2 ∧ l[j].f2 ≤ 40000
    · refine .inl ⟨⟨⟨c1.1, by omega⟩, c2⟩, fun r h => hst r _ (fun _ => rfl) ?_⟩
      simp only [hrd, hw, spec_l1In_eq, spec_l2Day_eq, Option.bind_some, wrap_succ hj (by omega)]
      exact ev_pos (by omega) (ev_pos (by omega) (ev_pos (decide_eq_true c1) (ev_pos (decide_eq_true c2) h)))
    · refine .inr ⟨fun h => c2 h.2, hst _ _ (fun _ => rfl) ?_⟩
      simp only [hrd, hw, spec_l1In_eq, spec_l2Day_eq, Option.bind_some, wrap_succ hj (by omega)]
      exact ev_pos (by omega) (ev_pos (by omega) (ev_pos (decide_eq_true c1) (ev_neg (by rw [decide_eq_false c2]; decide) (Ev.now _))))
  · refine .inr ⟨fun h => c1 ⟨h.1.1, by have := h.1.2; omega⟩, hst _ _ (fun _ => rfl) ?_⟩
    simp only [hrd, hw, spec_l1In_eq, spec_l2Day_eq, Option.bind_some]
    exact ev_pos (by omega) (ev_pos (by omega) (ev_neg (by rw [decide_eq_false c1]; decide) (Ev.now _)))

/-- The papers of one series. -/
theorem spec_l2_ev (sr : List S122) (l : List S53) (hs : sr.length ≤ 20) (hl : l.length ≤ 400) (i : Nat) (hi : i < sr.length) :
    ((∀ (j : Nat) (hj : j < l.length), l[j].f0 = (i : Int) → PaperFit sr l j l[j]) ∧ ∀ r, Ev (fun k => spec_RegisterOk.l0 k ((i + 1 : Nat) : Int) sr l) r → Ev (fun k => spec_RegisterOk.l2 k (i : Int) 0 0 0 sr l) r) ∨
    (¬ (∀ (j : Nat) (hj : j < l.length), l[j].f0 = (i : Int) → PaperFit sr l j l[j]) ∧ Ev (fun k => spec_RegisterOk.l2 k (i : Int) 0 0 0 sr l) false) := by
  have := each_go l (fun k j => spec_RegisterOk.l2 k (i : Int) (cntP (l.take j.toNat) (i : Int) : Int) (dayP (l.take j.toNat) (i : Int)) j sr l) (fun j x => x.f0 = (i : Int) → PaperFit sr l j x)
    (fun k => spec_RegisterOk.l0 k ((i + 1 : Nat) : Int) sr l) false (fun j hj => ?_) (fun r h => ?_)
  · exact this
  · simp only [Int.toNat_natCast]
    have hrd : rd_T53 l (j : Int) = l[j] := getD_at hj _
    have hc := cnt_le (l.take j) (i : Int)
    have ht : (l.take j).length ≤ j := List.length_take_le ..
    have hw : wrap64 ((cntP (l.take j) (i : Int) : Int) + 1) = ((cntP (l.take j) (i : Int) + 1 : Nat) : Int) := by rw [wrap_id (by omega) (by omega)]; omega
    have hsn := take_snoc l j hj
    have hrs : rd_T122 sr (i : Int) = rd_T122 sr (i : Int) := rfl
    by_cases c0 : l[j].f0 = (i : Int)
    · have hc1 : cntP (l.take (j + 1)) (i : Int) = cntP (l.take j) (i : Int) + 1 := by rw [hsn, cnt_snoc, if_pos c0]
      have hd1 : dayP (l.take (j + 1)) (i : Int) = l[j].f2 := by rw [hsn, day_snoc, if_pos c0]
      by_cases c1 : l[j].f1 = ((cntP (l.take j) (i : Int) + 1 : Nat) : Int)
      · by_cases c2 : l[j].f2 < dayP (l.take j) (i : Int)
        · refine .inr ⟨fun h => ?_, Ev.step (fun k => by rw [spec_RegisterOk.l2]) ?_⟩
          · have := (h c0).2.1
            rw [c0] at this
            omega
          · simp only [hrd, hw]
            exact ev_pos (by omega) (ev_pos (by omega) (ev_pos c0 (ev_pos c1 (ev_pos c2 (Ev.step (fun k => by rw [spec_RegisterOk.j5]) (ev_pos rfl (Ev.now _)))))))
        · have htx := l1Text_ev (cntP (l.take j) (i : Int) + 1) (by omega)
          by_cases c3 : ((dec (cntP (l.take j) (i : Int) + 1)).size : Int) > (rd_T122 sr (i : Int)).f1
          · refine .inr ⟨fun h => ?_, Ev.step (fun k => by rw [spec_RegisterOk.l2]) ?_⟩
            · have := (h c0).2.2
              rw [c0] at this
              omega
            · simp only [hrd, hw]
              exact ev_pos (by omega) (ev_pos (by omega) (ev_pos c0 (ev_pos c1 (ev_neg c2 (Ev.bind htx (ev_pos (by omega) (ev_pos (by omega) (Ev.step (fun k => by rw [spec_RegisterOk.j5]) (ev_pos (decide_eq_true c3) (Ev.now _))))))))))
          · refine .inl ⟨fun _ => ⟨by rw [c0]; omega, by rw [c0]; omega, by rw [c0]; omega⟩, fun r h => Ev.step (fun k => by rw [spec_RegisterOk.l2]) ?_⟩
            simp only [Int.toNat_natCast, hc1, hd1] at h
            simp only [hrd, hw]
            refine ev_pos (by omega) (ev_pos (by omega) (ev_pos c0 (ev_pos c1 (ev_neg c2 (Ev.bind htx (ev_pos (by omega) (ev_pos (by omega) (Ev.step (fun k => by rw [spec_RegisterOk.j5]) (ev_neg (by rw [decide_eq_false c3]; decide) ?_)))))))))
            rw [wrap_succ hj (by omega)]
            exact h
      · refine .inr ⟨fun h => ?_, Ev.step (fun k => by rw [spec_RegisterOk.l2]) ?_⟩
        · have := (h c0).1
          rw [c0] at this
          omega
        · simp only [hrd, hw]
          exact ev_pos (by omega) (ev_pos (by omega) (ev_pos c0 (ev_neg c1 (Ev.step (fun k => by rw [spec_RegisterOk.j5]) (ev_pos rfl (Ev.now _))))))
    · have hc1 : cntP (l.take (j + 1)) (i : Int) = cntP (l.take j) (i : Int) := by rw [hsn, cnt_snoc, if_neg c0]; rfl
      have hd1 : dayP (l.take (j + 1)) (i : Int) = dayP (l.take j) (i : Int) := by rw [hsn, day_snoc, if_neg c0]
      refine .inl ⟨fun h => absurd h c0, fun r h => Ev.step (fun k => by rw [spec_RegisterOk.l2]) ?_⟩
      simp only [Int.toNat_natCast, hc1, hd1] at h
      simp only [hrd, hw]
      refine ev_pos (by omega) (ev_pos (by omega) (ev_neg c0 ?_))
      rw [wrap_succ hj (by omega)]
      exact h
  · refine Ev.step (fun k => by rw [spec_RegisterOk.l2]) (ev_neg (by omega) ?_)
    rw [wrap_succ hi (by omega)]
    exact h

/-- A series' prefix among those ahead. -/
theorem spec_l1_ev (sr : List S122) (l : List S53) (hs : sr.length ≤ 20) (i : Nat) (hi : i < sr.length) :
    ((∀ (j : Nat) y, j < i → sr[j]? = some y → y.f0 ≠ sr[i].f0) ∧ ∀ r, Ev (fun k => spec_RegisterOk.l2 k (i : Int) 0 0 0 sr l) r → Ev (fun k => spec_RegisterOk.l1 k (i : Int) 0 sr l) r) ∨
    (¬ (∀ (j : Nat) y, j < i → sr[j]? = some y → y.f0 ≠ sr[i].f0) ∧ Ev (fun k => spec_RegisterOk.l1 k (i : Int) 0 sr l) false) := by
  have hti : (sr.take i).length = i := by rw [List.length_take]; omega
  have hri : rd_T122 sr (i : Int) = sr[i] := getD_at hi _
  have := each_go (sr.take i) (fun k j => spec_RegisterOk.l1 k (i : Int) j sr l) (fun j y => y.f0 ≠ sr[i].f0)
    (fun k => spec_RegisterOk.l2 k (i : Int) 0 0 0 sr l) false (fun j hj => ?_) (fun r h => ?_)
  · have e : (∀ (j : Nat) (hj : j < (sr.take i).length), (sr.take i)[j].f0 ≠ sr[i].f0) ↔ (∀ (j : Nat) y, j < i → sr[j]? = some y → y.f0 ≠ sr[i].f0) := by
      constructor
      · intro h j y h1 h2
        have hj : j < (sr.take i).length := by omega
        have := h j hj
        rw [List.getElem_take] at this
        obtain ⟨hq, e⟩ := List.getElem?_eq_some_iff.1 h2
        rw [← e]
        exact this
      · intro h j hj
        have := h j sr[j] (by omega) (List.getElem?_eq_getElem (by omega))
        rw [List.getElem_take]
        exact this
    rw [e] at this
    exact this
  · have hlt : j < sr.length := by omega
    have hrj : rd_T122 sr (j : Int) = sr[j] := getD_at hlt _
    rw [List.getElem_take]
    by_cases c : sr[j].f0 = sr[i].f0
    · refine .inr ⟨fun h => h c, Ev.step (fun k => by rw [spec_RegisterOk.l1]) ?_⟩
      simp only [hri, hrj, str_iff]
      exact ev_pos (by omega) (ev_pos (by omega) (ev_pos (by omega) (ev_pos (by omega) (ev_pos (by omega) (ev_pos c (Ev.now _))))))
    · refine .inl ⟨c, fun r h => Ev.step (fun k => by rw [spec_RegisterOk.l1]) ?_⟩
      simp only [hri, hrj, str_iff]
      refine ev_pos (by omega) (ev_pos (by omega) (ev_pos (by omega) (ev_pos (by omega) (ev_pos (by omega) (ev_neg c ?_)))))
      rw [wrap_succ hlt (by omega)]
      exact h
  · rw [hti]
    exact Ev.step (fun k => by rw [spec_RegisterOk.l1]) (ev_neg (by omega) h)

/-- The reference says whether a register is right. -/
theorem spec_reg_ev (sr : List S122) (l : List S53) (hb : ∀ x ∈ sr, B122 1048576 x) (hs : sr.length ≤ 20) (hl : l.length ≤ 400) :
    ∃ b, Ev (fun k => spec_RegisterOk.l0 k 0 sr l) b ∧ (b = true ↔ RegIs sr l) := by
  obtain ⟨b3, h3, p3⟩ := spec_l3_ev sr l hs hl
  have key := each_ev sr (fun k i => spec_RegisterOk.l0 k i sr l) (fun i x => SeriesFit sr i x ∧ ∀ (j : Nat) (hj : j < l.length), l[j].f0 = (i : Int) → PaperFit sr l j l[j]) ((∀ x ∈ l, InReg sr x) ∧ True) (fun i hi => ?_)
    ⟨b3, Ev.step (fun k => by rw [spec_RegisterOk.l0]) (ev_neg (by omega) h3), p3⟩
  · obtain ⟨b, h, p⟩ := key
    refine ⟨b, h, p.trans ⟨fun h => ⟨fun i hi => (h.1 i hi).1, fun j hj => ?_⟩, fun h => ⟨fun i hi => ⟨h.1 i hi, fun j hj _ => (h.2 j hj).2⟩, fun x hx => ?_, trivial⟩⟩⟩
    · have hr := h.2.1 l[j] (List.getElem_mem hj)
      refine ⟨hr, ?_⟩
      obtain ⟨q, hq⟩ : ∃ q : Nat, l[j].f0 = (q : Int) := ⟨l[j].f0.toNat, by have := hr.1.1; omega⟩
      exact (h.1 q (by have := hr.1.2; omega)).2 j hj hq
    · obtain ⟨j, hj, rfl⟩ := List.getElem_of_mem hx
      exact (h.2 j hj).1
  · have hri : rd_T122 sr (i : Int) = sr[i] := getD_at hi _
    obtain ⟨bn, hbn, hn⟩ := spec_NameOk_ev sr[i].f0 (hb _ (List.getElem_mem hi))
    by_cases c1 : bn = true
    · by_cases c2 : 1 ≤ sr[i].f1 ∧ sr[i].f1 ≤ 8
      · have hst : ∀ r, Ev (fun k => spec_RegisterOk.l1 k (i : Int) 0 sr l) r → Ev (fun k => spec_RegisterOk.l0 k (i : Int) sr l) r := by
          intro r hr
          refine Ev.step (fun k => by rw [spec_RegisterOk.l0]) ?_
          simp only [hri, spec_l1In_eq, Option.bind_some]
          exact ev_pos (by omega) (ev_pos (by omega) (Ev.bind hbn (ev_pos c1 (Ev.step (fun k => by rw [spec_RegisterOk.j2]) (ev_neg (by rw [decide_eq_true c2]; decide) hr)))))
        rcases spec_l1_ev sr l hs i hi with ⟨u1, g1⟩ | ⟨u1, g1⟩
        · rcases spec_l2_ev sr l hs hl i hi with ⟨u2, g2⟩ | ⟨u2, g2⟩
          · exact .inl ⟨⟨⟨hn.1 c1, c2, u1⟩, u2⟩, fun r hr => hst r (g1 r (g2 r hr))⟩
          · exact .inr ⟨fun h => u2 h.2, hst _ (g1 _ g2)⟩
        · exact .inr ⟨fun h => u1 h.1.2.2, hst _ g1⟩
      · refine .inr ⟨fun h => c2 h.1.2.1, Ev.step (fun k => by rw [spec_RegisterOk.l0]) ?_⟩
        simp only [hri, spec_l1In_eq, Option.bind_some]
        exact ev_pos (by omega) (ev_pos (by omega) (Ev.bind hbn (ev_pos c1 (Ev.step (fun k => by rw [spec_RegisterOk.j2]) (ev_pos (by rw [decide_eq_false c2]; decide) (Ev.now _))))))
    · refine .inr ⟨fun h => c1 (hn.2 h.1.1), Ev.step (fun k => by rw [spec_RegisterOk.l0]) ?_⟩
      simp only [hri, spec_l1In_eq, Option.bind_some]
      exact ev_pos (by omega) (ev_pos (by omega) (Ev.bind hbn (ev_neg c1 (Ev.step (fun k => by rw [spec_RegisterOk.j2]) (ev_pos rfl (Ev.now _))))))
theorem spec_Register_ev (sr : List S122) (l : List S53) (hb : ∀ x ∈ sr, B122 1048576 x) (h0 : (sr.length : Int) ≤ 1048576) (h1 : (l.length : Int) ≤ 1048576) :
    ∃ b, Ev (fun k => spec_RegisterOk.f k sr l) b ∧ (b = true ↔ (sr.length ≤ 20 ∧ l.length ≤ 400) ∧ RegIs sr l) := by
  unfold spec_RegisterOk.f
  by_cases c1 : (sr.length : Int) > 20
  · exact ⟨false, ev_pos c1 (Ev.step (fun k => by rw [spec_RegisterOk.j0]) (ev_pos rfl (Ev.now _))), fun h => (by cases h), fun h => absurd h.1.1 (by omega)⟩
  · by_cases c2 : (l.length : Int) > 400
    · exact ⟨false, ev_neg c1 (Ev.step (fun k => by rw [spec_RegisterOk.j0]) (ev_pos (decide_eq_true c2) (Ev.now _))), fun h => (by cases h), fun h => absurd h.1.2 (by omega)⟩
    · obtain ⟨b, h, p⟩ := spec_reg_ev sr l hb (by omega) (by omega)
      exact ⟨b, ev_neg c1 (Ev.step (fun k => by rw [spec_RegisterOk.j0]) (ev_neg (by rw [decide_eq_false c2]; decide) h)), p.trans ⟨fun h => ⟨⟨by omega, by omega⟩, h⟩, fun h => h.2⟩⟩

/-! ### The program -/
theorem impl_l1_ev (sr : List S122) (l : List S53) (hs : sr.length ≤ 20) (hl : l.length ≤ 400) (d : Nat) : ∀ (j : Nat) (m1 m2 : List (Int × Int)), j + d = l.length →
    (∀ s, (mget m1 s).getD 0 = (cntP (l.take j) s : Int)) → (∀ s, (mget m2 s).getD 0 = dayP (l.take j) s) →
    ∃ b, Ev (fun k => impl_RegisterOk.l1 k m1 m2 l (l.length : Int) (j : Int) sr l) b ∧ (b = true ↔ ∀ (q : Nat) (hq : q < l.length), j ≤ q → InReg sr l[q] ∧ PaperFit sr l q l[q]) := by
  induction d with
  | zero =>
    intro j m1 m2 hd _ _
    exact ⟨true, Ev.step (fun k => by rw [impl_RegisterOk.l1]) (ev_neg (by omega) (Ev.now _)), fun _ q hq h => absurd hq (by omega), fun _ => rfl⟩
  | succ d ih =>
    intro j m1 m2 hd hm1 hm2
    have hj : j < l.length := by omega
    have hrd : rd_T53 l (j : Int) = l[j] := getD_at hj _
    have hno : ∀ b : Bool, (b = true → False) → (b = true ↔ (∀ (q : Nat) (hq : q < l.length), j ≤ q → InReg sr l[q] ∧ PaperFit sr l q l[q])) → True := fun _ _ _ => trivial
    have hbad : Ev (fun k => impl_RegisterOk.j4 k m1 m2 l (l.length : Int) (j : Int) true sr l l[j].f0 l[j].f1 l[j].f2 l[j].f3) false := Ev.step (fun k => by rw [impl_RegisterOk.j4]) (ev_pos rfl (Ev.now _))
    by_cases c1 : l[j].f0 < 0
    · refine ⟨false, Ev.step (fun k => by rw [impl_RegisterOk.l1]) ?_, fun h => (by cases h), fun h => absurd (h j hj (Nat.le_refl _)).1.1.1 (by omega)⟩
      simp only [hrd]
      exact ev_pos (by omega) (ev_pos (by omega) (ev_pos (by omega) (ev_pos c1 hbad)))
    by_cases c2 : l[j].f0 ≥ (sr.length : Int)
    · refine ⟨false, Ev.step (fun k => by rw [impl_RegisterOk.l1]) ?_, fun h => (by cases h), fun h => absurd (h j hj (Nat.le_refl _)).1.1.2 (by omega)⟩
      simp only [hrd]
      exact ev_pos (by omega) (ev_pos (by omega) (ev_pos (by omega) (ev_neg c1 (ev_pos c2 hbad))))
    have hc := cnt_le (l.take j) l[j].f0
    have ht : (l.take j).length ≤ j := List.length_take_le ..
    have hw : wrap64 ((cntP (l.take j) l[j].f0 : Int) + 1) = ((cntP (l.take j) l[j].f0 + 1 : Nat) : Int) := by rw [wrap_id (by omega) (by omega)]; omega
    by_cases c3 : l[j].f1 = ((cntP (l.take j) l[j].f0 + 1 : Nat) : Int)
    · have hdi := digitsIn_ev (cntP (l.take j) l[j].f0 + 1) (by omega)
      rw [← c3] at hdi
      by_cases c4 : ((dec (cntP (l.take j) l[j].f0 + 1)).size : Int) > (rd_T122 sr l[j].f0).f1
      · refine ⟨false, Ev.step (fun k => by rw [impl_RegisterOk.l1]) ?_, fun h => (by cases h), fun h => absurd (h j hj (Nat.le_refl _)).2.2.2 (by omega)⟩
        simp only [hrd, hm1, hm2, hw]
        exact ev_pos (by omega) (ev_pos (by omega) (ev_pos (by omega) (ev_neg c1 (ev_neg c2 (ev_pos (by omega) (ev_pos (by omega) (ev_pos c3 (Ev.bind hdi (ev_pos (by omega) (ev_pos (by omega) (ev_pos c4 hbad)))))))))))
      by_cases c5 : 0 ≤ l[j].f2 ∧ l[j].f2 ≤ 40000
      · by_cases c6 : l[j].f2 < dayP (l.take j) l[j].f0
        · refine ⟨false, Ev.step (fun k => by rw [impl_RegisterOk.l1]) ?_, fun h => (by cases h), fun h => absurd (h j hj (Nat.le_refl _)).2.2.1 (by omega)⟩
          simp only [hrd, hm1, hm2, hw, impl_isDay_eq, Option.bind_some, decide_eq_true c5, decide_eq_true c6]
          exact ev_pos (by omega) (ev_pos (by omega) (ev_pos (by omega) (ev_neg c1 (ev_neg c2 (ev_pos (by omega) (ev_pos (by omega) (ev_pos c3 (Ev.bind hdi (ev_pos (by omega) (ev_pos (by omega) (ev_neg c4 (ev_pos (by first | rfl | trivial) hbad))))))))))))
        · have hsn := take_snoc l j hj
          obtain ⟨b, hb, p⟩ := ih (j + 1) (mset m1 l[j].f0 (((cntP (l.take j) l[j].f0 + 1 : Nat) : Int))) (mset m2 l[j].f0 l[j].f2) (by omega)
            (fun s => by
              rw [mget_set, hsn, cnt_snoc]
              by_cases e : l[j].f0 = s
              · subst e
                simp
              · rw [if_neg e, if_neg e, hm1]; simp)
            (fun s => by
              rw [mget_set, hsn, day_snoc]
              by_cases e : l[j].f0 = s
              · rw [if_pos e, if_pos e]; simp
              · rw [if_neg e, if_neg e, hm2])
          refine ⟨b, Ev.step (fun k => by rw [impl_RegisterOk.l1]) ?_, p.trans ⟨fun h q hq hjq => ?_, fun h q hq hjq => h q hq (by omega)⟩⟩
          · simp only [hrd, hm1, hm2, hw, impl_isDay_eq, Option.bind_some, decide_eq_true c5, decide_eq_false c6]
            refine ev_pos (by omega) (ev_pos (by omega) (ev_pos (by omega) (ev_neg c1 (ev_neg c2 (ev_pos (by omega) (ev_pos (by omega) (ev_pos c3 (Ev.bind hdi (ev_pos (by omega) (ev_pos (by omega) (ev_neg c4 (ev_pos (by first | rfl | trivial) ?_))))))))))))
            refine Ev.step (fun k => by rw [impl_RegisterOk.j4]) (ev_neg (by decide) (ev_pos (by omega) (ev_pos (by omega) ?_)))
            rw [hm1, hw, wrap_succ hj (by omega)]
            exact hb
          · rcases Nat.lt_or_ge j q with g | g
            · exact h q hq (by omega)
            · obtain rfl : j = q := by omega
              exact ⟨⟨⟨by omega, by omega⟩, c5⟩, by omega, by omega, by omega⟩
      · refine ⟨false, Ev.step (fun k => by rw [impl_RegisterOk.l1]) ?_, fun h => (by cases h), fun h => absurd (h j hj (Nat.le_refl _)).1.2 c5⟩
        simp only [hrd, hm1, hm2, hw, impl_isDay_eq, Option.bind_some, decide_eq_false c5]
        exact ev_pos (by omega) (ev_pos (by omega) (ev_pos (by omega) (ev_neg c1 (ev_neg c2 (ev_pos (by omega) (ev_pos (by omega) (ev_pos c3 (Ev.bind hdi (ev_pos (by omega) (ev_pos (by omega) (ev_neg c4 (ev_neg (by decide) hbad))))))))))))
    · refine ⟨false, Ev.step (fun k => by rw [impl_RegisterOk.l1]) ?_, fun h => (by cases h), fun h => absurd (h j hj (Nat.le_refl _)).2.1 (by omega)⟩
      simp only [hrd, hm1, hm2, hw]
      exact ev_pos (by omega) (ev_pos (by omega) (ev_pos (by omega) (ev_neg c1 (ev_neg c2 (ev_pos (by omega) (ev_pos (by omega) (ev_neg c3 hbad)))))))

theorem impl_l0_ev (sr : List S122) (l : List S53) (hb : ∀ x ∈ sr, B122 1048576 x) (hs : sr.length ≤ 20) (hl : l.length ≤ 400) (d : Nat) : ∀ (i : Nat) (m : List (ByteArray × Bool)), i + d = sr.length →
    (∀ s, (mget m s).getD false = true ↔ ∃ (j : Nat) (y : _), j < i ∧ sr[j]? = some y ∧ y.f0 = s) →
    ∃ b, Ev (fun k => impl_RegisterOk.l0 k m sr (sr.length : Int) (i : Int) sr l) b ∧ (b = true ↔ (∀ (q : Nat) (hq : q < sr.length), i ≤ q → SeriesFit sr q sr[q]) ∧ ∀ (j : Nat) (hj : j < l.length), InReg sr l[j] ∧ PaperFit sr l j l[j]) := by
  induction d with
  | zero =>
    intro i m hd _
    obtain ⟨b, h, p⟩ := impl_l1_ev sr l hs hl l.length 0 [] [] (by omega) (fun s => rfl) (fun s => rfl)
    have h' : Ev (fun k => impl_RegisterOk.l1 k [] [] l (l.length : Int) 0 sr l) b := h
    refine ⟨b, Ev.step (fun k => by rw [impl_RegisterOk.l0]) (ev_neg (by omega) h'), p.trans ⟨fun h => ⟨fun q hq hg => absurd hq (by omega), fun j hj => h j hj (Nat.zero_le _)⟩, fun h q hq _ => h.2 q hq⟩⟩
  | succ d ih =>
    intro i m hd hm
    have hi : i < sr.length := by omega
    have hri : rd_T122 sr (i : Int) = sr[i] := getD_at hi _
    have hg : sr[i]? = some sr[i] := List.getElem?_eq_getElem hi
    have hB : sr[i].f0.size ≤ 9223372036854775807 := by
      have h_ : ((sr[i].f0.size : Nat) : Int) ≤ 1048576 := hb _ (List.getElem_mem hi)
      omega
    have hbad : Ev (fun k => impl_RegisterOk.j2 k m sr (sr.length : Int) (i : Int) true sr l sr[i].f0 sr[i].f1) false := Ev.step (fun k => by rw [impl_RegisterOk.j2]) (ev_pos rfl (Ev.now _))
    obtain ⟨bn, hbn, hn⟩ := impl_NameOk_ev sr[i].f0
    by_cases c1 : bn = true
    · by_cases c2 : 1 ≤ sr[i].f1 ∧ sr[i].f1 ≤ 8
      · by_cases c3 : (mget m sr[i].f0).getD false = true
        · refine ⟨false, Ev.step (fun k => by rw [impl_RegisterOk.l0]) ?_, fun h => (by cases h), fun h => ?_⟩
          · simp only [hri, impl_between_eq, Option.bind_some, decide_eq_true c2, c3]
            exact ev_pos (by omega) (ev_pos (by omega) (ev_pos (by omega) (Ev.bind hbn (ev_pos c1 (ev_pos (by first | rfl | trivial) (ev_pos hB hbad))))))
          · obtain ⟨j, y, h1, h2, h3⟩ := (hm _).1 c3
            exact absurd h3 ((h.1 i hi (Nat.le_refl _)).2.2 j y h1 h2)
        · have hfirst : ∀ (j : Nat) y, j < i → sr[j]? = some y → y.f0 ≠ sr[i].f0 := fun j y h1 h2 h3 => c3 ((hm _).2 ⟨j, y, h1, h2, h3⟩)
          have c3' : (mget m sr[i].f0).getD false = false := by simpa using c3
          obtain ⟨b, hb', p⟩ := ih (i + 1) (mset m sr[i].f0 true) (by omega) (fun s => by
            rw [mget_set]
            by_cases e : sr[i].f0 = s
            · rw [if_pos e]
              exact ⟨fun _ => ⟨i, sr[i], by omega, hg, e⟩, fun _ => rfl⟩
            · rw [if_neg e, hm]
              constructor
              · rintro ⟨j, y, h1, h2⟩
                exact ⟨j, y, by omega, h2⟩
              · rintro ⟨j, y, h1, h2, h3⟩
                rcases Nat.lt_or_ge j i with g | g
                · exact ⟨j, y, g, h2, h3⟩
                · obtain rfl : j = i := by omega
                  rw [hg] at h2
                  injection h2 with h2
                  exact absurd (h2 ▸ h3) e)
          refine ⟨b, Ev.step (fun k => by rw [impl_RegisterOk.l0]) ?_, p.trans ⟨fun h => ⟨fun q hq hiq => ?_, h.2⟩, fun h => ⟨fun q hq hiq => h.1 q hq (by omega), h.2⟩⟩⟩
          · simp only [hri, impl_between_eq, Option.bind_some, decide_eq_true c2, c3']
            refine ev_pos (by omega) (ev_pos (by omega) (ev_pos (by omega) (Ev.bind hbn (ev_pos c1 (ev_pos (by first | rfl | trivial) (ev_pos hB ?_))))))
            refine Ev.step (fun k => by rw [impl_RegisterOk.j2]) (ev_neg (by decide) (ev_pos hB ?_))
            rw [wrap_succ hi (by omega)]
            exact hb'
          · rcases Nat.lt_or_ge i q with g | g
            · exact h.1 q hq (by omega)
            · obtain rfl : i = q := by omega
              exact ⟨hn.1 c1, c2, hfirst⟩
      · refine ⟨false, Ev.step (fun k => by rw [impl_RegisterOk.l0]) ?_, fun h => (by cases h), fun h => absurd (h.1 i hi (Nat.le_refl _)).2.1 c2⟩
        simp only [hri, impl_between_eq, Option.bind_some, decide_eq_false c2]
        exact ev_pos (by omega) (ev_pos (by omega) (ev_pos (by omega) (Ev.bind hbn (ev_pos c1 (ev_neg (by decide) hbad)))))
    · refine ⟨false, Ev.step (fun k => by rw [impl_RegisterOk.l0]) ?_, fun h => (by cases h), fun h => absurd (hn.2 (h.1 i hi (Nat.le_refl _)).1) c1⟩
      simp only [hri]
      exact ev_pos (by omega) (ev_pos (by omega) (ev_pos (by omega) (Ev.bind hbn (ev_neg c1 hbad))))
theorem impl_Register_ev (sr : List S122) (l : List S53) (hb : ∀ x ∈ sr, B122 1048576 x) (h0 : (sr.length : Int) ≤ 1048576) (h1 : (l.length : Int) ≤ 1048576) :
    ∃ b, Ev (fun k => impl_RegisterOk.f k sr l) b ∧ (b = true ↔ (sr.length ≤ 20 ∧ l.length ≤ 400) ∧ RegIs sr l) := by
  unfold impl_RegisterOk.f
  by_cases c1 : (sr.length : Int) > 20
  · exact ⟨false, ev_pos c1 (Ev.step (fun k => by rw [impl_RegisterOk.j0]) (ev_pos rfl (Ev.now _))), fun h => (by cases h), fun h => absurd h.1.1 (by omega)⟩
  · by_cases c2 : (l.length : Int) > 400
    · exact ⟨false, ev_neg c1 (Ev.step (fun k => by rw [impl_RegisterOk.j0]) (ev_pos (decide_eq_true c2) (Ev.now _))), fun h => (by cases h), fun h => absurd h.1.2 (by omega)⟩
    · obtain ⟨b, h, p⟩ := impl_l0_ev sr l hb (by omega) (by omega) sr.length 0 [] (by omega) (fun s => by simp [mget])
      have h' : Ev (fun k => impl_RegisterOk.l0 k [] sr (sr.length : Int) 0 sr l) b := h
      exact ⟨b, ev_neg c1 (Ev.step (fun k => by rw [impl_RegisterOk.j0]) (ev_neg (by rw [decide_eq_false c2]; decide) h')), p.trans ⟨fun h => ⟨⟨by omega, by omega⟩, fun i hi => h.1 i hi (Nat.zero_le _), h.2⟩, fun h => ⟨fun i hi _ => h.2.1 i hi, h.2.2⟩⟩⟩
/-- Both answer alike. -/
theorem reg_both (sr : List S122) (l : List S53) (hb : ∀ x ∈ sr, B122 1048576 x) (h0 : (sr.length : Int) ≤ 1048576) (h1 : (l.length : Int) ≤ 1048576) :
    ∃ b, Ev (fun k => spec_RegisterOk.f k sr l) b ∧ Ev (fun k => impl_RegisterOk.f k sr l) b ∧ (b = true ↔ (sr.length ≤ 20 ∧ l.length ≤ 400) ∧ RegIs sr l) := by
  obtain ⟨b1, g1, p1⟩ := spec_Register_ev sr l hb h0 h1
  obtain ⟨b2, g2, p2⟩ := impl_Register_ev sr l hb h0 h1
  have e : b1 = b2 := bool_of_iff p1 p2
  subst e
  exact ⟨b1, g1, g2, p1⟩
/-! ### A paper's text -/
def padTo : Nat → ByteArray → ByteArray
  | 0, s => s
  | n + 1, s => padTo n ((⟨#[48]⟩ : ByteArray) ++ s)
def ptext (sr : List S122) (x : S53) : ByteArray := ((rd_T122 sr x.f0).f0 ++ (⟨#[45]⟩ : ByteArray)) ++ padTo ((rd_T122 sr x.f0).f1 - ((dec x.f1.toNat).size : Int)).toNat (dec x.f1.toNat)
theorem one_size (b : UInt8) : (⟨#[b]⟩ : ByteArray).size = 1 := rfl
theorem spec_pad_ev (p : ByteArray) (w : Int) (hw : w ≤ 8) (hp : p.size ≤ 20) (n : Nat) : ∀ s : ByteArray, n = (w - (s.size : Int)).toNat → s.size ≤ 1000 → Ev (fun k => spec_ShowPaper.l0 k s p w) ((p ++ (⟨#[45]⟩ : ByteArray)) ++ padTo n s) := by
  induction n with
  | zero =>
    intro s hn hs
    have h1 := one_size 45
    show Ev _ ((p ++ (⟨#[45]⟩ : ByteArray)) ++ s)
    refine Ev.step (fun k => by rw [spec_ShowPaper.l0]) (ev_neg (by omega) (ev_pos (by omega) (ev_pos ?_ (Ev.now _))))
    rw [ByteArray.size_append]
    omega
  | succ n ih =>
    intro s hn hs
    have h1 := one_size 48
    refine Ev.step (fun k => by rw [spec_ShowPaper.l0]) (ev_pos (by omega) (ev_pos (by omega) ?_))
    exact ih _ (by rw [ByteArray.size_append, h1]; omega) (by rw [ByteArray.size_append, h1]; omega)
theorem impl_pad_ev (sr : List S122) (l : List S53) (x : S53) (h0 : 0 ≤ x.f0) (h1 : x.f0 < (sr.length : Int)) (hw : (rd_T122 sr x.f0).f1 ≤ 8) (hp : (rd_T122 sr x.f0).f0.size ≤ 20) (n : Nat) : ∀ s : ByteArray, n = ((rd_T122 sr x.f0).f1 - (s.size : Int)).toNat → s.size ≤ 1000 →
    Ev (fun k => impl_paperText.l0 k s sr l x.f0 x.f1 x.f2 x.f3) (((rd_T122 sr x.f0).f0 ++ (⟨#[45]⟩ : ByteArray)) ++ padTo n s) := by
  induction n with
  | zero =>
    intro s hn hs
    have h2 := one_size 45
    show Ev _ (((rd_T122 sr x.f0).f0 ++ (⟨#[45]⟩ : ByteArray)) ++ s)
    refine Ev.step (fun k => by rw [impl_paperText.l0]) (ev_pos h0 (ev_pos (by omega) (ev_neg (by omega) (ev_pos (by omega) (ev_pos ?_ (Ev.now _))))))
    rw [ByteArray.size_append]
    omega
  | succ n ih =>
    intro s hn hs
    have h2 := one_size 48
    refine Ev.step (fun k => by rw [impl_paperText.l0]) (ev_pos h0 (ev_pos (by omega) (ev_pos (by omega) (ev_pos (by omega) ?_))))
    exact ih _ (by rw [ByteArray.size_append, h2]; omega) (by rw [ByteArray.size_append, h2]; omega)
/-- What a paper of a right register has. -/
theorem reg_at (sr : List S122) (l : List S53) (hl : l.length ≤ 400) (h : RegIs sr l) (j : Nat) (hj : j < l.length) :
    (0 ≤ l[j].f0 ∧ l[j].f0 < (sr.length : Int)) ∧ (∃ n : Nat, l[j].f1 = (n : Int) ∧ n ≤ 401) ∧ (rd_T122 sr l[j].f0).f1 ≤ 8 ∧ (rd_T122 sr l[j].f0).f0.size ≤ 20 := by
  obtain ⟨⟨h1, h2⟩, h3⟩ := h.2 j hj
  refine ⟨h1, ⟨cntP (l.take j) l[j].f0 + 1, by rw [h3.1]; omega, ?_⟩, ?_⟩
  · have hc := cnt_le (l.take j) l[j].f0
    have ht : (l.take j).length ≤ j := List.length_take_le ..
    omega
  · obtain ⟨q, hq⟩ : ∃ q : Nat, l[j].f0 = (q : Int) := ⟨l[j].f0.toNat, by omega⟩
    have hlt : q < sr.length := by omega
    rw [hq]
    have hr : rd_T122 sr (q : Int) = sr[q] := getD_at hlt _
    rw [hr]
    have hs := h.1 q hlt
    exact ⟨hs.2.1.2, hs.1.2.1⟩
theorem impl_text_ev (sr : List S122) (l : List S53) (hl : l.length ≤ 400) (h : RegIs sr l) (j : Nat) (hj : j < l.length) :
    Ev (fun k => impl_paperText.f k sr l l[j].f0 l[j].f1 l[j].f2 l[j].f3) (ptext sr l[j]) := by
  obtain ⟨h1, ⟨n, hn, hn1⟩, h3, h4⟩ := reg_at sr l hl h j hj
  have hd := decimal_ev n (by omega)
  rw [← hn] at hd
  have e : l[j].f1.toNat = n := by omega
  unfold impl_paperText.f ptext
  rw [e]
  refine Ev.bind hd (impl_pad_ev sr l l[j] h1.1 h1.2 h3 h4 _ _ rfl (by have := dec_size n; omega))
theorem spec_show_ev (sr : List S122) (l : List S53) (hl : l.length ≤ 400) (h : RegIs sr l) (hr : Ev (fun k => spec_RegisterOk.f k sr l) true) (j : Nat) (hj : j < l.length) :
    Ev (fun k => spec_ShowPaper.f k sr l (j : Int)) (ptext sr l[j]) := by
  obtain ⟨h1, ⟨n, hn, hn1⟩, h3, h4⟩ := reg_at sr l hl h j hj
  have hrd : rd_T53 l (j : Int) = l[j] := getD_at hj _
  have hd := l1Text_ev n (by omega)
  rw [← hn] at hd
  have e : l[j].f1.toNat = n := by omega
  have hw : wrap64 ((l.length : Int) - 1) = (l.length : Int) - 1 := wrap_id (by omega) (by omega)
  unfold spec_ShowPaper.f ptext
  rw [e]
  refine Ev.bind hr (ev_pos rfl ?_)
  simp only [spec_l1In_eq, Option.bind_some, hw]
  refine Ev.step (fun k => by rw [spec_ShowPaper.j0]) (ev_neg (by rw [decide_eq_true (by omega)]; decide) ?_)
  simp only [hrd]
  exact ev_pos (by omega) (ev_pos (by omega) (ev_pos h1.1 (ev_pos h1.2 (Ev.bind hd (spec_pad_ev _ _ h3 h4 _ _ rfl (by have := dec_size n; omega))))))
theorem find_from (sr : List S122) (l : List S53) (t : ByteArray) (hl : l.length ≤ 400) (h : RegIs sr l) (g1 : Ev (fun k => spec_RegisterOk.f k sr l) true) (d : Nat) : ∀ j : Nat, j + d = l.length →
    ∃ r, Ev (fun k => spec_FindPaper.l0 k t (j : Int) sr l) r ∧ Ev (fun k => impl_FindPaper.l0 k t l (l.length : Int) (j : Int) sr l) r := by
  induction d with
  | zero =>
    intro j hd
    exact ⟨-1, Ev.step (fun k => by rw [spec_FindPaper.l0]) (ev_neg (by omega) (Ev.step (fun k => by rw [spec_FindPaper.j1]) (ev_neg (by decide) (Ev.now _)))), Ev.step (fun k => by rw [impl_FindPaper.l0]) (ev_neg (by omega) (Ev.now _))⟩
  | succ d ih =>
    intro j hd
    have hj : j < l.length := by omega
    have hrd : rd_T53 l (j : Int) = l[j] := getD_at hj _
    have s1 := spec_show_ev sr l hl h g1 j hj
    have s2 := impl_text_ev sr l hl h j hj
    by_cases c : (ptext sr l[j]).toList = t.toList
    · refine ⟨(j : Int), Ev.step (fun k => by rw [spec_FindPaper.l0]) (ev_pos (by omega) (Ev.bind g1 (Ev.step (fun k => by rw [spec_FindPaper.j1]) (ev_pos rfl (Ev.bind s1 (ev_pos c (Ev.now _))))))), Ev.step (fun k => by rw [impl_FindPaper.l0]) ?_⟩
      simp only [hrd]
      exact ev_pos (by omega) (ev_pos (by omega) (ev_pos (by omega) (Ev.bind s2 (ev_pos c (Ev.now _)))))
    · obtain ⟨r, r1, r2⟩ := ih (j + 1) (by omega)
      refine ⟨r, Ev.step (fun k => by rw [spec_FindPaper.l0]) (ev_pos (by omega) (Ev.bind g1 (Ev.step (fun k => by rw [spec_FindPaper.j1]) (ev_pos rfl (Ev.bind s1 (ev_neg c ?_)))))), Ev.step (fun k => by rw [impl_FindPaper.l0]) ?_⟩
      · rw [wrap_succ hj (by omega)]
        exact r1
      · simp only [hrd]
        refine ev_pos (by omega) (ev_pos (by omega) (ev_pos (by omega) (Ev.bind s2 (ev_neg c ?_))))
        rw [wrap_succ hj (by omega)]
        exact r2
theorem find_both (sr : List S122) (l : List S53) (hb : ∀ x ∈ sr, B122 1048576 x) (h0 : (sr.length : Int) ≤ 1048576) (h1 : (l.length : Int) ≤ 1048576) (t : ByteArray) :
    ∃ r, Ev (fun k => spec_FindPaper.f k sr l t) r ∧ Ev (fun k => impl_FindPaper.f k sr l t) r := by
  obtain ⟨b, g1, g2, p⟩ := reg_both sr l hb h0 h1
  unfold spec_FindPaper.f impl_FindPaper.f
  by_cases c : b = true
  · subst c
    obtain ⟨hs, h⟩ := p.1 rfl
    obtain ⟨r, r1, r2⟩ := find_from sr l t hs.2 h g1 l.length 0 (by omega)
    exact ⟨r, r1, Ev.bind g2 (ev_pos rfl r2)⟩
  · refine ⟨-1, ?_, Ev.bind g2 (ev_neg c (Ev.now _))⟩
    refine Ev.step (fun k => by rw [spec_FindPaper.l0]) ?_
    by_cases cl : (0 : Int) < (l.length : Int)
    · exact ev_pos cl (Ev.bind g1 (Ev.step (fun k => by rw [spec_FindPaper.j1]) (ev_neg c (Ev.now _))))
    · exact ev_neg cl (Ev.step (fun k => by rw [spec_FindPaper.j1]) (ev_neg (by decide) (Ev.now _)))
theorem FnExactFindPaper : laws_FnExactFindPaper.Pure := by
  intro l0 l1 a hg0 hg1 _
  apply Ev.rounds
  unfold laws_FnExactFindPaper.f
  by_cases cl : (a.size : Int) > 1048576
  · exact ev_pos cl (Ev.now _)
  refine ev_neg cl ?_
  obtain ⟨s, hs, h⟩ := laws_szRegister_ev ⟨l0, l1⟩ 1048576 (by omega) (by omega) ⟨hg0, hg1⟩
  refine Ev.bind hs ?_
  rcases h with h | ⟨_, _, hB⟩
  · exact ev_pos h (Ev.now _)
  refine ev_neg (by omega) ?_
  have hto := laws_toRegister_ev ⟨l0, l1⟩ hB
  have hB' := cv36_B hB
  obtain ⟨b, h1, h2⟩ := find_both (l0.map cv207) (l1.map cv210) hB'.1.2 hB'.1.1 hB'.2 a
  refine Ev.bind hto (Ev.bind h1 (Ev.bind hto (Ev.bind h2 (ev_pos rfl (Ev.bind hto (Ev.bind (laws_eqRegister_ev _ hB') (ev_pos rfl (Ev.now _))))))))
end Go.Proofs.Ytdnhpicgjkddbaa.Pure
