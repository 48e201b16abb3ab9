/- Chained: one number or byte changed in one entry of a drawn list changes the head. -/
import Derived.Test.YtkkdmmefnicmaaaZPFnChainedx
import Derived.Test.YtkkdmmefnicmaaaZHFnChained
set_option maxHeartbeats 4000000
set_option linter.unusedVariables false
set_option linter.unusedSimpArgs false
set_option linter.unusedSectionVars false
namespace Go.Proofs.Ytkkdmmefnicmaaa.Pure
open Go.RowKit Go.Proofs.Ytkkdmmefnicmaaa.PFnChained Go.Proofs.YtkkdmmefnicmaaaW.PrintWords Go.Proofs.YtkkdmmefnicmaaaW.PrintLast Go.Proofs.Ytkkdmmefnicmaaa.XEv
/-! ### Draws -/
theorem and255 (n : Int) : Go.bits .and .i64 n 255 = n % 256 := by
  have h255 : (BitVec.ofInt 64 255).toNat = 2 ^ 8 - 1 := by decide
  have key : (BitVec.ofInt 64 n &&& BitVec.ofInt 64 255).toNat = (n % ((2 ^ 64 : Nat) : Int)).toNat % 2 ^ 8 := by
    rw [BitVec.toNat_and, BitVec.toNat_ofInt, h255, Nat.and_two_pow_sub_one_eq_mod]
  show IntKind.i64.wrap ((BitVec.ofInt 64 n &&& BitVec.ofInt 64 255).toNat : Nat) = n % 256
  rw [key, IntKind.wrap_i64]
  omega
/-- A draw's state: where it stands in its bytes. -/
def Cu (b : List Int) (i : Int) : Prop := 0 ≤ i ∧ i ≤ (b.length : Int) ∧ (b.length : Int) ≤ 140737488351232
theorem byte_ok (b : List Int) (i h : Int) (hc : Cu b i) : ∃ x i' h', spec_l1Byte.f b i h = some (x, i', h') ∧ 0 ≤ x ∧ x ≤ 255 ∧ Cu b i' := by
  obtain ⟨h0, h1, h2⟩ := hc
  unfold spec_l1Byte.f
  simp only [and255]
  by_cases c : i < (b.length : Int)
  · rw [if_pos c, if_pos h0]
    refine ⟨_, _, _, rfl, Int.emod_nonneg _ (by decide), ?_, ?_⟩
    · have := Int.emod_lt_of_pos (wrap64 (Go.bits .xor .i64 ((wrap64 ((wrap64 (h * 6364136223846793005)) + 1442695040888963407)) / 8589934592) ((wrap64 ((wrap64 (h * 6364136223846793005)) + 1442695040888963407)) / 35184372088832) % 256 + (wrap64 (rd b i)))) (show (0 : Int) < 256 by decide)
      exact Int.le_of_lt_add_one this
    · rw [wrap_id (by omega) (by omega)]
      exact ⟨by omega, by omega, h2⟩
  · rw [if_neg c]
    refine ⟨_, _, _, rfl, Int.emod_nonneg _ (by decide), ?_, h0, h1, h2⟩
    exact Int.le_of_lt_add_one (Int.emod_lt_of_pos _ (show (0 : Int) < 256 by decide))
theorem below_ok (b : List Int) (i h n : Int) (hc : Cu b i) : ∃ x i' h', spec_l1Below.f b i h n = some (x, i', h') ∧ Cu b i' ∧ 0 ≤ x ∧ (0 < n → x < n) ∧ (n ≤ 0 → x = 0) := by
  unfold spec_l1Below.f
  by_cases c0 : n ≤ 0
  · exact ⟨0, i, h, if_pos c0, hc, by decide, fun h => by omega, fun _ => rfl⟩
  rw [if_neg c0]
  obtain ⟨x1, i1, h1, e1, a1, b1, c1⟩ := byte_ok b i h hc
  by_cases c : n ≤ 256
  · rw [if_pos c, e1, Option.bind_some, if_neg (by omega)]
    exact ⟨_, _, _, rfl, c1, Int.tmod_nonneg _ a1, fun _ => Int.tmod_lt_of_pos _ (by omega), fun h => absurd h c0⟩
  · obtain ⟨x2, i2, h2, e2, a2, b2, c2⟩ := byte_ok b i1 h1 c1
    obtain ⟨x3, i3, h3, e3, a3, b3, c3⟩ := byte_ok b i2 h2 c2
    obtain ⟨x4, i4, h4, e4, a4, b4, c4⟩ := byte_ok b i3 h3 c3
    rw [if_neg c, e1, Option.bind_some, e2, Option.bind_some, e3, Option.bind_some, e4, Option.bind_some, if_neg (by omega)]
    refine ⟨_, _, _, rfl, c4, Int.tmod_nonneg _ ?_, fun _ => Int.tmod_lt_of_pos _ (by omega), fun h => absurd h c0⟩
    rw [wrap_id (x := x1 * 16777216) (by omega) (by omega), wrap_id (x := x2 * 65536) (by omega) (by omega), wrap_id (x := x3 * 256) (by omega) (by omega), wrap_id (x := x1 * 16777216 + x2 * 65536) (by omega) (by omega), wrap_id (x := x1 * 16777216 + x2 * 65536 + x3 * 256) (by omega) (by omega), wrap_id (by omega) (by omega)]
    omega
theorem once_ok (b : List Int) (i h n : Int) (hc : Cu b i) : ∃ (v : Bool) (i' h' : Int), spec_l1Once.f b i h n = some (v, i', h') ∧ Cu b i' := by
  obtain ⟨x, i', h', e, c, _⟩ := below_ok b i h n hc
  unfold spec_l1Once.f
  rw [e]
  exact ⟨_, _, _, rfl, c⟩
theorem pickInt_ok (b : List Int) (i h : Int) (l : List Int) (hl : 0 < l.length) (hc : Cu b i) : ∃ s i' h', spec_l1PickInt.f b i h l = some (s, i', h') ∧ Cu b i' ∧ s ∈ l := by
  obtain ⟨x, i', h', e, c, x0, x1, _⟩ := below_ok b i h (l.length : Int) hc
  have := x1 (by omega)
  unfold spec_l1PickInt.f
  rw [e, Option.bind_some, if_pos x0, if_pos this]
  refine ⟨_, _, _, rfl, c, ?_⟩
  have hx : x.toNat < l.length := by omega
  have e2 := rd_at hx
  rw [show ((x.toNat : Nat) : Int) = x by omega] at e2
  show rd l x ∈ l
  rw [e2]
  exact List.getElem_mem hx
theorem new_ok (l : List Int) (hl : (l.length : Int) ≤ 140737488351232) : ∃ h, Ev (fun k => spec_l1New.f k l) (l, 0, h) := by
  have go : ∀ (d i : Nat) (h : Int), i + d = l.length → ∃ h', Ev (fun k => spec_l1New.l0 k l h (i : Int)) (l, 0, h') := by
    intro d
    induction d with
    | zero =>
      intro i h hd
      refine ⟨h, Ev.step (fun k => by rw [spec_l1New.l0]) ?_⟩
      exact ev_neg (by omega) (Ev.now _)
    | succ d ih =>
      intro i h hd
      have hw : wrap64 ((i : Int) + 1) = ((i + 1 : Nat) : Int) := wrap_id (by omega) (by omega)
      by_cases c : (i : Int) < 4000
      · obtain ⟨h', hh⟩ := ih (i + 1) (Go.bits .and .i64 (wrap64 ((wrap64 ((wrap64 (h * 131)) + (wrap64 (rd l (i : Int))))) + 7)) 1073741823) (by omega)
        refine ⟨h', Ev.step (fun k => by rw [spec_l1New.l0]) ?_⟩
        simp only [hw]
        exact ev_pos (by omega) (ev_pos c (ev_pos (by omega) hh))
      · refine ⟨h, Ev.step (fun k => by rw [spec_l1New.l0]) ?_⟩
        exact ev_pos (by omega) (ev_neg c (Ev.now _))
  obtain ⟨h, hh⟩ := go l.length 0 (wrap64 (71933 + (l.length : Int))) (by omega)
  exact ⟨h, by unfold spec_l1New.f; exact hh⟩
/-! ### A text is picked -/
theorem pick_ok (b : List Int) (i h : Int) (l : List ByteArray) (hl : 0 < l.length) (hc : Cu b i) : ∃ s i' h', spec_l1Pick.f b i h l = some (s, i', h') ∧ Cu b i' ∧ s ∈ l := by
  obtain ⟨x, i', h', e, c, x0, x1, _⟩ := below_ok b i h (l.length : Int) hc
  have := x1 (by omega)
  unfold spec_l1Pick.f
  rw [e, Option.bind_some, if_pos x0, if_pos this]
  refine ⟨_, _, _, rfl, c, ?_⟩
  have hx : x.toNat < l.length := by omega
  have e2 := rdOf_at hx ByteArray.empty
  rw [show ((x.toNat : Nat) : Int) = x by omega] at e2
  show rdOf ByteArray.empty l x ∈ l
  rw [e2]
  exact List.getElem_mem hx
theorem name_ok (b : List Int) (i h : Int) (hc : Cu b i) : ∃ s i' h', spec_l1DrawName.f b i h = some (s, i', h') ∧ Cu b i' ∧ (s.size : Int) ≤ 21 := by
  unfold spec_l1DrawName.f
  obtain ⟨s, i1, h1, e, c, m⟩ := pick_ok b i h [(⟨#[98, 97, 110, 107]⟩ : ByteArray), (⟨#[99, 97, 115, 104]⟩ : ByteArray), (⟨#[115, 97, 108, 101, 115]⟩ : ByteArray), (⟨#[115, 116, 111, 99, 107]⟩ : ByteArray), (⟨#[97]⟩ : ByteArray), (⟨#[98]⟩ : ByteArray), (⟨#[99, 45, 49]⟩ : ByteArray), (⟨#[100, 117, 101, 115]⟩ : ByteArray), (⟨#[116, 97, 120, 46, 100, 117, 101]⟩ : ByteArray), (⟨#[82, 50]⟩ : ByteArray), (⟨#[103, 111, 111, 100, 115]⟩ : ByteArray), (⟨#[119, 97, 103, 101, 115]⟩ : ByteArray), (⟨#[114, 101, 110, 116]⟩ : ByteArray), (⟨#[120, 95, 121]⟩ : ByteArray), (⟨#[112, 108, 97, 110, 116]⟩ : ByteArray)] (by decide) hc
  rw [e]
  refine ⟨_, _, _, rfl, c, ?_⟩
  show (s.size : Int) ≤ 21
  clear e
  revert m
  generalize s = t
  intro m
  simp only [List.mem_cons, List.not_mem_nil, or_false] at m
  rcases m with m | m | m | m | m | m | m | m | m | m | m | m | m | m | m <;> (rw [m]; decide)
abbrev AA := S209
def par (l : List AA) (j : Int) : Int := (rd_T209 l j).f1
/-- A drawn chart: each part of an earlier one or of none; the names short. -/
def Dr (l : List AA) (m : Int) : Prop := (l.length : Int) ≤ m ∧ (∀ j : Int, 0 ≤ j → j < (l.length : Int) → par l j < j ∧ -1 ≤ par l j) ∧ ∀ y ∈ l, B209 1048576 y
theorem text_ok : ∀ (n : Nat), n < 100000 → ∃ s, Ev (fun k => spec_l1Text.f k (n : Int)) s ∧ (s.size : Int) ≤ 20 := by
  have step : ∀ (m : Nat), (m : Int) < 10 → ((⟨#[48, 49, 50, 51, 52, 53, 54, 55, 56, 57]⟩ : ByteArray).extract ((m : Int)).toNat (((m + 1 : Nat) : Int)).toNat).size = 1 := by
    intro m hm
    rw [ByteArray.size_extract]
    have : (⟨#[48, 49, 50, 51, 52, 53, 54, 55, 56, 57]⟩ : ByteArray).size = 10 := rfl
    omega
  have key : ∀ (f n : Nat), n < 10 ^ (f + 1) → f < 5 → ∃ s, Ev (fun k => spec_l1Text.f k (n : Int)) s ∧ (s.size : Int) ≤ f + 1 := by
    intro f
    induction f with
    | zero =>
      intro n hn _
      have hn' : (n : Int) < 10 := by omega
      refine ⟨(⟨#[48, 49, 50, 51, 52, 53, 54, 55, 56, 57]⟩ : ByteArray).extract ((n : Int)).toNat ((n : Int) + 1).toNat, Ev.step (fun k => by rw [spec_l1Text.f]) ?_, ?_⟩
      · have hwn : wrap64 ((n : Int) + 1) = (n : Int) + 1 := wrap_id (by omega) (by omega)
        simp only [hwn]
        exact ev_neg (by omega) (ev_pos hn' (ev_pos (by omega) (ev_pos (by omega) (ev_pos (by omega) (Ev.now _)))))
      · have := step n hn'
        rw [show ((n + 1 : Nat) : Int) = (n : Int) + 1 by omega] at this
        omega
    | succ f ih =>
      intro n hn hf
      by_cases c : (n : Int) < 10
      · obtain ⟨s, h1, h2⟩ := ih n (by
          have : 10 ≤ 10 ^ (f + 1) := by
            calc 10 = 10 ^ 1 := rfl
              _ ≤ 10 ^ (f + 1) := Nat.pow_le_pow_right (by decide) (by omega)
          omega) (by omega)
        exact ⟨s, h1, by omega⟩
      · obtain ⟨s, h1, h2⟩ := ih (n / 10) (by rw [Nat.pow_succ] at hn; omega) (by omega)
        have ed : Int.tdiv (n : Int) 10 = ((n / 10 : Nat) : Int) := by rw [Int.tdiv_eq_ediv_of_nonneg (by omega)]; omega
        have em : Int.tmod (n : Int) 10 = ((n % 10 : Nat) : Int) := by rw [Int.tmod_eq_emod_of_nonneg (by omega)]; omega
        have hn5 : n < 10 ^ 6 := Nat.lt_of_lt_of_le hn (Nat.pow_le_pow_right (by decide) (by omega))
        have hw : wrap64 ((n / 10 : Nat) : Int) = ((n / 10 : Nat) : Int) := wrap_id (by omega) (by omega)
        have hw2 : wrap64 (((n % 10 : Nat) : Int) + 1) = ((n % 10 + 1 : Nat) : Int) := by rw [wrap_id (by omega) (by omega)]; omega
        have hz := step (n % 10) (by omega)
        refine ⟨s ++ (⟨#[48, 49, 50, 51, 52, 53, 54, 55, 56, 57]⟩ : ByteArray).extract (((n % 10 : Nat) : Int)).toNat (((n % 10 + 1 : Nat) : Int)).toNat, Ev.step (fun k => by rw [spec_l1Text.f]) ?_, ?_⟩
        · simp only [ed, em, hw, hw2]
          refine ev_neg (by omega) (ev_neg c (Ev.bind h1 (ev_pos (by omega) (ev_pos (by omega) (ev_pos (by omega) (ev_pos (by omega) (Ev.now _)))))))
        · rw [ByteArray.size_append]
          omega
  intro n hn
  obtain ⟨s, h1, h2⟩ := key 4 n (by omega) (by decide)
  exact ⟨s, h1, by omega⟩
theorem deep_ok (l : List AA) (m : Int) (hl : Dr l m) (hm : m ≤ 1000) : ∀ (n : Nat) (c : Int), (n : Int) < (l.length : Int) → 0 ≤ c → c + n ≤ 100000 → ∃ r, Ev (fun k => spec_l4Deep.l0 k l (n : Int) c) r := by
  intro n
  induction n using Nat.strongRecOn with
  | ind n ih =>
    intro c hn c0 c1
    obtain ⟨p1, p2⟩ := hl.2.1 (n : Int) (by omega) hn
    have hpar : (rd_T209 l (n : Int)).f1 = par l (n : Int) := rfl
    have hw : wrap64 (c + 1) = c + 1 := wrap_id (by omega) (by omega)
    by_cases cp : par l (n : Int) ≥ 0
    · obtain ⟨p, hp⟩ : ∃ p : Nat, par l (n : Int) = (p : Int) := ⟨(par l (n : Int)).toNat, by omega⟩
      obtain ⟨r, hr⟩ := ih p (by omega) (c + 1) (by omega) (by omega) (by omega)
      refine ⟨r, Ev.step (fun k => by rw [spec_l4Deep.l0]) ?_⟩
      simp only [hpar, hp, hw]
      exact ev_pos (by omega) (ev_pos (by omega) (ev_pos (by omega) hr))
    · refine ⟨c, Ev.step (fun k => by rw [spec_l4Deep.l0]) ?_⟩
      simp only [hpar]
      exact ev_pos (by omega) (ev_pos (by omega) (ev_neg (by omega) (Ev.now _)))
theorem Dr_add {l : List AA} {m : Int} (hl : Dr l m) (y : AA) (hy : B209 1048576 y) (hp : y.f1 < (l.length : Int)) (hp2 : -1 ≤ y.f1) : Dr (l ++ [y]) (m + 1) := by
  obtain ⟨h1, h2, h3⟩ := hl
  refine ⟨by simp; omega, fun j j0 j1 => ?_, fun z hz => ?_⟩
  · have hj : j.toNat < (l ++ [y]).length := by simp at j1 ⊢; omega
    have e : par (l ++ [y]) j = ((l ++ [y])[j.toNat]).f1 := by
      unfold par
      congr 1
      exact getD_at hj _
    rw [e]
    rcases Nat.lt_or_ge j.toNat l.length with c | c
    · have := h2 j j0 (by omega)
      have e2 : par l j = l[j.toNat].f1 := by
        unfold par
        congr 1
        exact getD_at c _
      rw [List.getElem_append_left c, ← e2]
      exact this
    · have : j.toNat = l.length := by simp at hj; omega
      rw [List.getElem_append_right c]
      simp only [List.getElem_singleton]
      exact ⟨by omega, hp2⟩
  · rcases List.mem_append.1 hz with h | h
    · exact h3 z h
    · rw [List.mem_singleton.1 h]; exact hy
theorem names_ok (b : List Int) (l : List AA) (hl : (l.length : Int) ≤ 1000) (n i h p kd : Int) : ∀ (d j : Nat) (s : ByteArray), j + d = l.length → (s.size : Int) ≤ 21 → ∃ s' : ByteArray, (s'.size : Int) ≤ 21 ∧ ∀ r, Ev (fun k => spec_l4DrawChart.l1 k l n (l.length : Int) (l.length : Int) b i h s' p kd) r → Ev (fun k => spec_l4DrawChart.l1 k l n (l.length : Int) (j : Int) b i h s p kd) r := by
  intro d
  induction d with
  | zero =>
    intro j s hd hs
    have : j = l.length := by omega
    subst this
    exact ⟨s, hs, fun r hr => hr⟩
  | succ d ih =>
    intro j s hd hs
    have hj : j < l.length := by omega
    by_cases c : ((rd_T209 l (j : Int)).f0).toList = s.toList
    · obtain ⟨t, ht, hz⟩ := text_ok l.length (by omega)
      have hsz : ((⟨#[110]⟩ : ByteArray) ++ t).size = 1 + t.size := by rw [ByteArray.size_append]; rfl
      obtain ⟨s', h1, h2⟩ := ih (j + 1) ((⟨#[110]⟩ : ByteArray) ++ t) (by omega) (by omega)
      refine ⟨s', h1, fun r hr => ?_⟩
      refine Ev.step (fun k => by rw [spec_l4DrawChart.l1]) ?_
      simp only [wrap_succ hj (show l.length ≤ 9223372036854775807 by omega)]
      exact ev_pos (by omega) (ev_pos (by omega) (ev_pos (by omega) (ev_pos c (Ev.bind ht (ev_pos (by omega) (h2 r hr))))))
    · obtain ⟨s', h1, h2⟩ := ih (j + 1) s (by omega) hs
      refine ⟨s', h1, fun r hr => ?_⟩
      refine Ev.step (fun k => by rw [spec_l4DrawChart.l1]) ?_
      simp only [wrap_succ hj (show l.length ≤ 9223372036854775807 by omega)]
      exact ev_pos (by omega) (ev_pos (by omega) (ev_pos (by omega) (ev_neg c (h2 r hr))))
theorem chart_loop (b : List Int) : ∀ (n : Nat) (l : List AA) (i h : Int), (l.length : Int) + n ≤ 500 → Dr l (l.length : Int) → Cu b i → ∃ (l' : List AA) (i' h' : Int), Ev (fun k => spec_l4DrawChart.l0 k l (n : Int) b i h) (l', i', h') ∧ Cu b i' ∧ (l'.length : Int) = (l.length : Int) + n ∧ ∀ y ∈ l', B209 1048576 y := by
  intro n
  induction n with
  | zero =>
    intro l i h hn hl hc
    refine ⟨l, i, h, Ev.step (fun k => by rw [spec_l4DrawChart.l0]) ?_, hc, by omega, hl.2.2⟩
    exact ev_neg (by omega) (Ev.now _)
  | succ n ih =>
    intro l i h hn hl hc
    obtain ⟨s, i1, h1, e1, c1, z1⟩ := name_ok b i h hc
    obtain ⟨q, i2, h2, e2, c2, q0, q1, _⟩ := below_ok b i1 h1 5 c1
    have hw : wrap64 (((n + 1 : Nat) : Int) - 1) = (n : Int) := by rw [wrap_id (by omega) (by omega)]; omega
    have hwl : wrap64 ((l.length : Int) - 1) = (l.length : Int) - 1 := wrap_id (by omega) (by omega)
    obtain ⟨s', z2, hs'⟩ := names_ok b l (by omega) ((n + 1 : Nat) : Int) i2 h2 (-1) (wrap64 (1 + q)) l.length 0 s (by omega) z1
    have hB : ∀ p kd : Int, B209 1048576 (⟨s', p, kd⟩ : AA) := fun p kd => show (s'.size : Int) ≤ 1048576 by omega
    have plain : ∀ (i h : Int), Cu b i → ∃ (l' : List AA) (i' h' : Int), Ev (fun k => spec_l4DrawChart.l0 k (l ++ [(⟨s', -1, wrap64 (1 + q)⟩ : AA)]) (wrap64 (((n + 1 : Nat) : Int) - 1)) b i h) (l', i', h') ∧ Cu b i' ∧ (l'.length : Int) = (l.length : Int) + ((n + 1 : Nat) : Int) ∧ ∀ y ∈ l', B209 1048576 y := by
      intro i h hc
      rw [hw]
      have hd := Dr_add hl (⟨s', -1, wrap64 (1 + q)⟩ : AA) (hB _ _) (by show (-1 : Int) < _; omega) (by show (-1 : Int) ≤ -1; omega)
      obtain ⟨l', i', h', g1, g2, g3, g4⟩ := ih (l ++ [(⟨s', -1, wrap64 (1 + q)⟩ : AA)]) i h (by simp; omega) (by simpa using hd) hc
      exact ⟨l', i', h', g1, g2, by simp at g3 ⊢; omega, g4⟩
    have under : ∀ (on : Nat) (i h : Int), on < l.length → Cu b i → ∃ (l' : List AA) (i' h' : Int), Ev (fun k => spec_l4DrawChart.l0 k (l ++ [(⟨s', (on : Int), (rd_T209 l (on : Int)).f2⟩ : AA)]) (wrap64 (((n + 1 : Nat) : Int) - 1)) b i h) (l', i', h') ∧ Cu b i' ∧ (l'.length : Int) = (l.length : Int) + ((n + 1 : Nat) : Int) ∧ ∀ y ∈ l', B209 1048576 y := by
      intro on i h hon hc
      rw [hw]
      have hd := Dr_add hl (⟨s', (on : Int), (rd_T209 l (on : Int)).f2⟩ : AA) (hB _ _) (by show (on : Int) < _; omega) (by show (-1 : Int) ≤ on; omega)
      obtain ⟨l', i', h', g1, g2, g3, g4⟩ := ih (l ++ [(⟨s', (on : Int), (rd_T209 l (on : Int)).f2⟩ : AA)]) i h (by simp; omega) (by simpa using hd) hc
      exact ⟨l', i', h', g1, g2, by simp at g3 ⊢; omega, g4⟩
    have up : ∀ (w : Nat), w ≤ 10 → ∀ (on : Nat) (i h : Int), on < l.length → Cu b i → ∃ (l' : List AA) (i' h' : Int), Ev (fun k => spec_l4DrawChart.l2 k l ((n + 1 : Nat) : Int) (on : Int) (w : Int) b i h s' (-1) (wrap64 (1 + q))) (l', i', h') ∧ Cu b i' ∧ (l'.length : Int) = (l.length : Int) + ((n + 1 : Nat) : Int) ∧ ∀ y ∈ l', B209 1048576 y := by
      have fin : ∀ (on : Nat) (i h : Int), on < l.length → Cu b i → ∃ (t : Int), Ev (fun k => spec_l4Deep.f k l (on : Int)) t := by
        intro on i h hon hc
        obtain ⟨t, ht⟩ := deep_ok l (l.length : Int) hl (by omega) on 0 (by omega) (by omega) (by omega)
        exact ⟨t, by unfold spec_l4Deep.f; exact ht⟩
      intro w
      induction w with
      | zero =>
        intro _ on i h hon hc
        obtain ⟨t, ht⟩ := fin on i h hon hc
        by_cases ct : t < 8
        · obtain ⟨l', i', h', g1, g2⟩ := under on i h hon hc
          refine ⟨l', i', h', Ev.step (fun k => by rw [spec_l4DrawChart.l2]) ?_, g2⟩
          exact ev_neg (by omega) (Ev.bind ht (ev_pos ct (ev_pos (by omega) (ev_pos (by omega) (ev_pos (by omega) g1)))))
        · obtain ⟨l', i', h', g1, g2⟩ := plain i h hc
          refine ⟨l', i', h', Ev.step (fun k => by rw [spec_l4DrawChart.l2]) ?_, g2⟩
          exact ev_neg (by omega) (Ev.bind ht (ev_neg ct (ev_pos (by omega) g1)))
      | succ w iw =>
        intro hw10 on i h hon hc
        have hpar : (rd_T209 l (on : Int)).f1 = par l (on : Int) := rfl
        obtain ⟨p1, p2⟩ := hl.2.1 (on : Int) (by omega) (by omega)
        by_cases cp : par l (on : Int) ≥ 0
        · obtain ⟨p, hp⟩ : ∃ p : Nat, par l (on : Int) = (p : Int) := ⟨(par l (on : Int)).toNat, by omega⟩
          obtain ⟨l', i', h', g1, g2⟩ := iw (by omega) p i h (by omega) hc
          refine ⟨l', i', h', Ev.step (fun k => by rw [spec_l4DrawChart.l2]) ?_, g2⟩
          have hw1 : wrap64 (((w + 1 : Nat) : Int) - 1) = (w : Int) := by rw [wrap_id (by omega) (by omega)]; omega
          simp only [hpar, hp, hw1]
          exact ev_pos (by omega) (ev_pos (by omega) (ev_pos (by omega) (ev_pos (by omega) g1)))
        · obtain ⟨t, ht⟩ := fin on i h hon hc
          by_cases ct : t < 8
          · obtain ⟨l', i', h', g1, g2⟩ := under on i h hon hc
            refine ⟨l', i', h', Ev.step (fun k => by rw [spec_l4DrawChart.l2]) ?_, g2⟩
            simp only [hpar]
            exact ev_pos (by omega) (ev_pos (by omega) (ev_pos (by omega) (ev_neg cp (Ev.bind ht (ev_pos ct (ev_pos (by omega) g1))))))
          · obtain ⟨l', i', h', g1, g2⟩ := plain i h hc
            refine ⟨l', i', h', Ev.step (fun k => by rw [spec_l4DrawChart.l2]) ?_, g2⟩
            simp only [hpar]
            exact ev_pos (by omega) (ev_pos (by omega) (ev_pos (by omega) (ev_neg cp (Ev.bind ht (ev_neg ct (ev_pos (by omega) g1))))))
    have j2F : ∀ (i h : Int), Cu b i → ∃ (l' : List AA) (i' h' : Int), Ev (fun k => spec_l4DrawChart.j2 k l ((n + 1 : Nat) : Int) (l.length : Int) false b i h s' (-1) (wrap64 (1 + q))) (l', i', h') ∧ Cu b i' ∧ (l'.length : Int) = (l.length : Int) + ((n + 1 : Nat) : Int) ∧ ∀ y ∈ l', B209 1048576 y := by
      intro i h hc
      obtain ⟨l', i', h', g1, g2⟩ := plain i h hc
      refine ⟨l', i', h', Ev.step (fun k => by rw [spec_l4DrawChart.j2]) ?_, g2⟩
      exact ev_neg (by simp) (ev_pos (by omega) g1)
    have j2T : ∀ (i h : Int), 0 < l.length → Cu b i → ∃ (l' : List AA) (i' h' : Int), Ev (fun k => spec_l4DrawChart.j2 k l ((n + 1 : Nat) : Int) (l.length : Int) true b i h s' (-1) (wrap64 (1 + q))) (l', i', h') ∧ Cu b i' ∧ (l'.length : Int) = (l.length : Int) + ((n + 1 : Nat) : Int) ∧ ∀ y ∈ l', B209 1048576 y := by
      intro i h hp hc
      obtain ⟨w, i3, h3, e3, c3, w0, w1, _⟩ := below_ok b i h 3 hc
      have := w1 (by decide)
      obtain ⟨l', i', h', g1, g2⟩ := up w.toNat (by omega) (l.length - 1) i3 h3 (by omega) c3
      rw [show ((w.toNat : Nat) : Int) = w by omega, show ((l.length - 1 : Nat) : Int) = (l.length : Int) - 1 by omega] at g1
      refine ⟨l', i', h', Ev.step (fun k => by rw [spec_l4DrawChart.j2]) ?_, g2⟩
      refine ev_pos rfl (ev_bind0 e3 ?_)
      rw [hwl]
      exact g1
    have tail : ∃ (l' : List AA) (i' h' : Int), Ev (fun k => spec_l4DrawChart.l1 k l ((n + 1 : Nat) : Int) (l.length : Int) (l.length : Int) b i2 h2 s' (-1) (wrap64 (1 + q))) (l', i', h') ∧ Cu b i' ∧ (l'.length : Int) = (l.length : Int) + ((n + 1 : Nat) : Int) ∧ ∀ y ∈ l', B209 1048576 y := by
      by_cases cl : (l.length : Int) > 0
      · obtain ⟨v, i3, h3, e3, c3⟩ := once_ok b i2 h2 3 c2
        cases v with
        | true =>
          obtain ⟨l', i', h', g1, g2⟩ := j2F i3 h3 c3
          refine ⟨l', i', h', Ev.step (fun k => by rw [spec_l4DrawChart.l1]) ?_, g2⟩
          exact ev_neg (by omega) (ev_pos cl (ev_bind0 e3 g1))
        | false =>
          obtain ⟨l', i', h', g1, g2⟩ := j2T i3 h3 (by omega) c3
          refine ⟨l', i', h', Ev.step (fun k => by rw [spec_l4DrawChart.l1]) ?_, g2⟩
          exact ev_neg (by omega) (ev_pos cl (ev_bind0 e3 g1))
      · obtain ⟨l', i', h', g1, g2⟩ := j2F i2 h2 c2
        refine ⟨l', i', h', Ev.step (fun k => by rw [spec_l4DrawChart.l1]) ?_, g2⟩
        exact ev_neg (by omega) (ev_neg cl g1)
    obtain ⟨l', i', h', g1, g2⟩ := tail
    refine ⟨l', i', h', Ev.step (fun k => by rw [spec_l4DrawChart.l0]) ?_, g2⟩
    exact ev_pos (by omega) (ev_bind0 e1 (ev_bind0 e2 (hs' _ g1)))
theorem drawChart_ok (b : List Int) (i h m : Int) (hm0 : 0 ≤ m) (hm : m ≤ 100) (hc : Cu b i) : ∃ (l' : List AA) (i' h' : Int), Ev (fun k => spec_l4DrawChart.f k b i h m) (l', i', h') ∧ Cu b i' ∧ 3 ≤ (l'.length : Int) ∧ (l'.length : Int) ≤ 500 ∧ ∀ y ∈ l', B209 1048576 y := by
  obtain ⟨q, i1, h1, e1, c1, q0, q1, q2⟩ := below_ok b i h m hc
  have hq : q ≤ 100 := by
    by_cases c : 0 < m
    · have := q1 c; omega
    · have := q2 (by omega); omega
  have hw : wrap64 (3 + q) = (((3 + q).toNat : Nat) : Int) := by rw [wrap_id (by omega) (by omega)]; omega
  obtain ⟨l', i', h', g1, g2, g3, g4⟩ := chart_loop b (3 + q).toNat [] i1 h1 (by simp; omega) ⟨by simp, fun j j0 j1 => by simp at j1; omega, fun y hy => by cases hy⟩ c1
  refine ⟨l', i', h', ?_, g2, ?_, ?_, g4⟩
  · unfold spec_l4DrawChart.f
    refine ev_bind0 e1 ?_
    rw [hw]
    exact g1
  · simp at g3; omega
  · simp at g3; omega
/-! ### The chain's head -/
def inR (x : Int) : Prop := -549755813888 ≤ x ∧ x ≤ 549755813887
instance (x : Int) : Decidable (inR x) := inferInstanceAs (Decidable (_ ∧ _))
def linkI (h x : Int) : Int := Int.tmod (wrap64 ((wrap64 ((wrap64 (h * 1000003)) + x)) + 549755813888)) 1099511627791
def stp (s : Int × Bool) (x : Int) : Int × Bool := if inR x then (linkI s.1 x, s.2) else (s.1, true)
theorem link_eq (h : Int) (b : Bool) (x : Int) : impl_chain_link.f h b x = some (stp (h, b) x) := by
  unfold impl_chain_link.f stp
  rw [impl_between_eq]
  simp only [Option.bind_some, decide_eq_true_eq]
  by_cases c : inR x
  · rw [if_pos (show -549755813888 ≤ x ∧ x ≤ 549755813887 from c), if_pos c]; rfl
  · rw [if_neg (show ¬ (-549755813888 ≤ x ∧ x ≤ 549755813887) from c), if_neg c]
/-- The numbers of a text's bytes, from a place on. -/
def bnums (s : ByteArray) : Nat → Nat → List Int
  | 0, _ => []
  | d + 1, i => wrap64 (bt s (i : Int)) :: bnums s d (i + 1)
theorem bnums_length (s : ByteArray) (d : Nat) : ∀ i, (bnums s d i).length = d := by
  induction d with
  | zero => intro i; rfl
  | succ d ih => intro i; simp [bnums, ih]
def lnums (l : List S100) : List Int := l.flatMap fun x => [x.f0, x.f1, x.f2, x.f3, x.f4]
theorem lnums_cons (x : S100) (l : List S100) : lnums (x :: l) = x.f0 :: x.f1 :: x.f2 :: x.f3 :: x.f4 :: lnums l := rfl
theorem lnums_length (l : List S100) : (lnums l).length = 5 * l.length := by
  induction l with
  | nil => rfl
  | cons x l ih => rw [lnums_cons]; simp only [List.length_cons, ih]; omega
/-- An entry's numbers. -/
def enums (e : S98) : List Int := [e.f0, e.f1, (e.f2.size : Int)] ++ (bnums e.f2 e.f2.size 0 ++ ((e.f3.length : Int) :: lnums e.f3))

theorem impl_lines_ev (ls : List S100) (hl : ls.length ≤ 1048576) (d : Nat) : ∀ (j : Nat) (s : Int × Bool), j + d = ls.length →
    Ev (fun k => impl_numbersOf.l1 k ls (ls.length : Int) (j : Int) s.1 s.2) ((lnums (ls.drop j)).foldl stp s) := by
  induction d with
  | zero =>
    intro j s hd
    rw [List.drop_eq_nil_of_le (by omega)]
    show Ev _ s
    exact Ev.step (fun k => by rw [impl_numbersOf.l1]) (ev_neg (by omega) (Ev.now _))
  | succ d ih =>
    intro j s hd
    have hj : j < ls.length := by omega
    have hrd : rd_T100 ls (j : Int) = ls[j] := getD_at hj _
    rw [List.drop_eq_getElem_cons hj, lnums_cons]
    refine Ev.step (fun k => by rw [impl_numbersOf.l1]) ?_
    simp only [hrd]
    refine ev_pos (by omega) (ev_pos (by omega) (ev_pos (by omega) (ev_bind0 (link_eq _ _ _) (ev_bind0 (link_eq _ _ _) (ev_bind0 (link_eq _ _ _) (ev_bind0 (link_eq _ _ _) (ev_bind0 (link_eq _ _ _) ?_)))))))
    rw [wrap_succ hj (by omega)]
    exact ih (j + 1) _ (by omega)
theorem impl_bytes_ev (e : S98) (hl : e.f3.length ≤ 1048576) (hs : e.f2.size ≤ 1048576) (d : Nat) : ∀ (i : Nat) (s : Int × Bool), i + d = e.f2.size →
    Ev (fun k => impl_numbersOf.l0 k (i : Int) s.1 s.2 e.f0 e.f1 e.f2 e.f3) ((bnums e.f2 d i ++ ((e.f3.length : Int) :: lnums e.f3)).foldl stp s) := by
  induction d with
  | zero =>
    intro i s hd
    refine Ev.step (fun k => by rw [impl_numbersOf.l0]) (ev_neg (by omega) (ev_bind0 (link_eq _ _ _) ?_))
    exact impl_lines_ev e.f3 hl e.f3.length 0 _ (by omega)
  | succ d ih =>
    intro i s hd
    refine Ev.step (fun k => by rw [impl_numbersOf.l0]) (ev_pos (by omega) (ev_pos (by omega) (ev_bind0 (link_eq _ _ _) ?_)))
    have hi : i < e.f2.size := by omega
    rw [wrap_succ hi (by omega)]
    exact ih (i + 1) _ (by omega)
theorem impl_numbers_ev (e : S98) (hl : e.f3.length ≤ 1048576) (hs : e.f2.size ≤ 1048576) (s : Int × Bool) :
    Ev (fun k => impl_numbersOf.f k e.f0 e.f1 e.f2 e.f3 s.1 s.2) ((enums e).foldl stp s) := by
  unfold impl_numbersOf.f
  refine ev_bind0 (link_eq _ _ _) (ev_bind0 (link_eq _ _ _) (ev_bind0 (link_eq _ _ _) ?_))
  exact impl_bytes_ev e hl hs e.f2.size 0 _ (by omega)

theorem spec_lines_ev (e : S98) (hl : e.f3.length ≤ 1048576) (d : Nat) : ∀ (j : Nat) (acc : List Int), j + d = e.f3.length → acc.length + 5 * d ≤ 10000000 →
    Ev (fun k => spec_l5Numbers.l1 k acc (j : Int) e.f0 e.f1 e.f2 e.f3) (acc ++ lnums (e.f3.drop j)) := by
  induction d with
  | zero =>
    intro j acc hd _
    rw [List.drop_eq_nil_of_le (by omega), show lnums [] = [] from rfl, List.append_nil]
    exact Ev.step (fun k => by rw [spec_l5Numbers.l1]) (ev_neg (by omega) (Ev.now _))
  | succ d ih =>
    intro j acc hd ha
    have hj : j < e.f3.length := by omega
    have hrd : rd_T100 e.f3 (j : Int) = e.f3[j] := getD_at hj _
    rw [List.drop_eq_getElem_cons hj, lnums_cons]
    refine Ev.step (fun k => by rw [spec_l5Numbers.l1]) ?_
    simp only [hrd, Option.bind_some]
    refine ev_pos (by omega) (ev_pos (by omega) (ev_pos (by simp only [List.length_cons, List.length_nil]; omega) ?_))
    rw [wrap_succ hj (by omega)]
    have := ih (j + 1) (acc ++ [e.f3[j].f0, e.f3[j].f1, e.f3[j].f2, e.f3[j].f3, e.f3[j].f4]) (by omega) (by simp only [List.length_append, List.length_cons, List.length_nil]; omega)
    rw [List.append_assoc] at this
    exact this
theorem spec_bytes_ev (e : S98) (hl : e.f3.length ≤ 1048576) (hs : e.f2.size ≤ 1048576) (d : Nat) : ∀ (i : Nat) (acc : List Int), i + d = e.f2.size → acc.length + d ≤ 2000000 →
    Ev (fun k => spec_l5Numbers.l0 k acc (i : Int) e.f0 e.f1 e.f2 e.f3) (acc ++ (bnums e.f2 d i ++ ((e.f3.length : Int) :: lnums e.f3))) := by
  induction d with
  | zero =>
    intro i acc hd ha
    refine Ev.step (fun k => by rw [spec_l5Numbers.l0]) (ev_neg (by omega) (ev_pos (by omega) ?_))
    have := spec_lines_ev e hl e.f3.length 0 (acc ++ [(e.f3.length : Int)]) (by omega) (by simp only [List.length_append, List.length_cons, List.length_nil]; omega)
    rw [List.append_assoc] at this
    exact this
  | succ d ih =>
    intro i acc hd ha
    refine Ev.step (fun k => by rw [spec_l5Numbers.l0]) (ev_pos (by omega) (ev_pos (by omega) (ev_pos (by omega) ?_)))
    have hi : i < e.f2.size := by omega
    rw [wrap_succ hi (by omega)]
    have := ih (i + 1) (acc ++ [wrap64 (bt e.f2 (i : Int))]) (by omega) (by simp only [List.length_append, List.length_cons, List.length_nil]; omega)
    rw [List.append_assoc] at this
    exact this
theorem spec_numbers_ev (e : S98) (hl : e.f3.length ≤ 1048576) (hs : e.f2.size ≤ 1048576) :
    Ev (fun k => spec_l5Numbers.f k e.f0 e.f1 e.f2 e.f3) (enums e) := by
  unfold spec_l5Numbers.f
  exact spec_bytes_ev e hl hs e.f2.size 0 _ (by omega) (by simp only [List.length_cons, List.length_nil]; omega)
theorem enums_length (e : S98) (hl : e.f3.length ≤ 60) (hs : e.f2.size ≤ 40) : (enums e).length ≤ 1000 := by
  unfold enums
  simp only [List.length_append, List.length_cons, List.length_nil, bnums_length, lnums_length]
  omega

theorem chain_ok (l : List Int) : ∀ (h : Int) (b : Bool), (∀ x ∈ l, inR x) → l.foldl stp (h, b) = (l.foldl linkI h, b) := by
  induction l with
  | nil => intro h b _; rfl
  | cons x l ih =>
    intro h b hx
    simp only [List.foldl_cons]
    rw [show stp (h, b) x = (linkI h x, b) from if_pos (hx x List.mem_cons_self)]
    exact ih _ _ (fun y hy => hx y (List.mem_cons_of_mem _ hy))
theorem chain_bad (l : List Int) : ∀ s : Int × Bool, (s.2 = true ∨ ∃ x ∈ l, ¬ inR x) → (l.foldl stp s).2 = true := by
  induction l with
  | nil =>
    intro s h
    rcases h with h | ⟨x, hx, _⟩
    · exact h
    · cases hx
  | cons x l ih =>
    intro s h
    simp only [List.foldl_cons]
    apply ih
    by_cases c : inR x
    · rw [show stp s x = (linkI s.1 x, s.2) from if_pos c]
      rcases h with h | ⟨y, hy, hn⟩
      · exact .inl h
      · rcases List.mem_cons.1 hy with rfl | hy
        · exact absurd c hn
        · exact .inr ⟨y, hy, hn⟩
    · exact .inl (by rw [show stp s x = (s.1, true) from if_neg c])
/-- The reference, through one entry's numbers. -/
theorem spec_nums_ev (l : List S98) (i : Nat) (hi : i < l.length) (hl : l.length ≤ 1048576) (xs : List Int) (hx : xs.length ≤ 1000) (d : Nat) : ∀ (j : Nat) (h : Int), j + d = xs.length →
    ((∀ x ∈ xs.drop j, inR x) ∧ ∀ r, Ev (fun k => spec_HeadOf.l0 k l ((xs.drop j).foldl linkI h) ((i + 1 : Nat) : Int)) r → Ev (fun k => spec_HeadOf.l1 k l h (i : Int) xs (j : Int)) r) ∨
    ((∃ x ∈ xs.drop j, ¬ inR x) ∧ Ev (fun k => spec_HeadOf.l1 k l h (i : Int) xs (j : Int)) 0) := by
  induction d with
  | zero =>
    intro j h hd
    rw [List.drop_eq_nil_of_le (by omega)]
    refine .inl ⟨fun x hx => (by cases hx), fun r hr => Ev.step (fun k => by rw [spec_HeadOf.l1]) (ev_neg (by omega) ?_)⟩
    rw [wrap_succ hi (by omega)]
    exact hr
  | succ d ih =>
    intro j h hd
    have hj : j < xs.length := by omega
    have hrd : rd xs (j : Int) = xs[j] := rd_at hj
    rw [List.drop_eq_getElem_cons hj]
    by_cases c : inR xs[j]
    · have hgo : ∀ r, Ev (fun k => spec_HeadOf.l1 k l (linkI h xs[j]) (i : Int) xs ((j + 1 : Nat) : Int)) r → Ev (fun k => spec_HeadOf.l1 k l h (i : Int) xs (j : Int)) r := by
        intro r hr
        refine Ev.step (fun k => by rw [spec_HeadOf.l1]) ?_
        simp only [hrd, spec_l1In_eq, Option.bind_some]
        refine ev_pos (by omega) (ev_pos (by omega) (ev_pos (decide_eq_true c) ?_))
        rw [wrap_succ hj (by omega)]
        exact hr
      rcases ih (j + 1) (linkI h xs[j]) (by omega) with ⟨h1, h2⟩ | ⟨⟨y, hy, hn⟩, h2⟩
      · refine .inl ⟨fun x hx => ?_, fun r hr => hgo r (h2 r hr)⟩
        rcases List.mem_cons.1 hx with rfl | hx
        · exact c
        · exact h1 x hx
      · exact .inr ⟨⟨y, List.mem_cons_of_mem _ hy, hn⟩, hgo _ h2⟩
    · refine .inr ⟨⟨xs[j], List.mem_cons_self, c⟩, Ev.step (fun k => by rw [spec_HeadOf.l1]) ?_⟩
      simp only [hrd, spec_l1In_eq, Option.bind_some]
      exact ev_pos (by omega) (ev_pos (by omega) (ev_neg (fun h_ => c (of_decide_eq_true h_)) (Ev.now _)))
theorem head_from (l : List S98) (hl : l.length ≤ 1000) (hb : ∀ x ∈ l, B98 1048576 x) (d : Nat) : ∀ (i : Nat) (s : Int × Bool), i + d = l.length →
    ∃ r, Ev (fun k => impl_HeadOf.l0 k l (l.length : Int) (i : Int) s.1 s.2) r ∧ (s.2 = true → r = 0) ∧ (s.2 = false → Ev (fun k => spec_HeadOf.l0 k l s.1 (i : Int)) r) := by
  induction d with
  | zero =>
    intro i s hd
    by_cases c : s.2 = true
    · exact ⟨0, Ev.step (fun k => by rw [impl_HeadOf.l0]) (ev_neg (by omega) (ev_pos c (Ev.now _))), fun _ => rfl, fun h => absurd (c.symm.trans h) (by decide)⟩
    · exact ⟨s.1, Ev.step (fun k => by rw [impl_HeadOf.l0]) (ev_neg (by omega) (ev_neg c (Ev.now _))), fun h => absurd h c, fun _ => Ev.step (fun k => by rw [spec_HeadOf.l0]) (ev_neg (by omega) (Ev.now _))⟩
  | succ d ih =>
    intro i s hd
    have hi : i < l.length := by omega
    have hrd : rd_T98 l (i : Int) = l[i] := getD_at hi _
    by_cases c1 : (l[i].f3.length : Int) > 60
    · refine ⟨0, Ev.step (fun k => by rw [impl_HeadOf.l0]) ?_, fun _ => rfl, fun _ => Ev.step (fun k => by rw [spec_HeadOf.l0]) ?_⟩
      · simp only [hrd]
        exact ev_pos (by omega) (ev_pos (by omega) (ev_pos (by omega) (ev_pos c1 (Ev.now _))))
      · simp only [hrd]
        exact ev_pos (by omega) (ev_pos (by omega) (ev_pos c1 (Ev.step (fun k => by rw [spec_HeadOf.j1]) (ev_pos rfl (Ev.now _)))))
    by_cases c2 : (l[i].f2.size : Int) > 40
    · refine ⟨0, Ev.step (fun k => by rw [impl_HeadOf.l0]) ?_, fun _ => rfl, fun _ => Ev.step (fun k => by rw [spec_HeadOf.l0]) ?_⟩
      · simp only [hrd]
        exact ev_pos (by omega) (ev_pos (by omega) (ev_pos (by omega) (ev_neg c1 (ev_pos c2 (Ev.now _)))))
      · simp only [hrd]
        exact ev_pos (by omega) (ev_pos (by omega) (ev_neg c1 (Ev.step (fun k => by rw [spec_HeadOf.j1]) (ev_pos (decide_eq_true c2) (Ev.now _)))))
    have hn := impl_numbers_ev l[i] (by omega) (by omega) s
    have hsn := spec_numbers_ev l[i] (by omega) (by omega)
    have hle := enums_length l[i] (by omega) (by omega)
    obtain ⟨r, h1, h2, h3⟩ := ih (i + 1) ((enums l[i]).foldl stp s) (by omega)
    refine ⟨r, Ev.step (fun k => by rw [impl_HeadOf.l0]) ?_, fun h => h2 (chain_bad _ _ (.inl h)), fun h => Ev.step (fun k => by rw [spec_HeadOf.l0]) ?_⟩
    · simp only [hrd]
      refine ev_pos (by omega) (ev_pos (by omega) (ev_pos (by omega) (ev_neg c1 (ev_neg c2 (Ev.bind hn ?_)))))
      rw [wrap_succ hi (by omega)]
      exact h1
    · have hto : ∀ q, Ev (fun k => spec_HeadOf.l1 k l s.1 (i : Int) (enums l[i]) 0) q → Ev (fun k => spec_HeadOf.j1 k l s.1 (i : Int) (decide ((l[i].f2.size : Int) > 40))) q := by
        intro q hq
        refine Ev.step (fun k => by rw [spec_HeadOf.j1]) (ev_neg (by rw [decide_eq_false c2]; decide) ?_)
        simp only [hrd]
        exact ev_pos (by omega) (ev_pos (by omega) (Ev.bind hsn hq))
      simp only [hrd]
      refine ev_pos (by omega) (ev_pos (by omega) (ev_neg c1 (hto r ?_)))
      rcases spec_nums_ev l i hi (by omega) (enums l[i]) hle (enums l[i]).length 0 s.1 (by omega) with ⟨g1, g2⟩ | ⟨g1, g2⟩
      · rw [List.drop_zero] at g1 g2
        refine g2 r ?_
        have e : (enums l[i]).foldl stp s = ((enums l[i]).foldl linkI s.1, s.2) := chain_ok _ s.1 s.2 g1
        have := h3 (by rw [e]; exact h)
        rw [e] at this
        exact this
      · rw [List.drop_zero] at g1
        have e := h2 (chain_bad _ s (.inr g1))
        rw [e]
        exact g2
theorem head_both (l : List S98) (hl : l.length ≤ 1048576) (hb : ∀ x ∈ l, B98 1048576 x) : ∃ r, Ev (fun k => impl_HeadOf.f k l) r ∧ Ev (fun k => spec_HeadOf.f k l) r := by
  unfold impl_HeadOf.f spec_HeadOf.f
  by_cases c : (l.length : Int) > 1000
  · exact ⟨0, ev_pos c (Ev.now _), ev_pos c (Ev.now _)⟩
  · obtain ⟨r, h1, _, h3⟩ := head_from l (by omega) hb l.length 0 (1, false) (by omega)
    exact ⟨r, ev_neg c h1, ev_neg c (h3 rfl)⟩
/-! ### Two lists of numbers that differ at one place have two chains -/
theorem link_ran (h x : Int) (h0 : 0 ≤ h) (h1 : h < 1099511627791) (hx : inR x) : linkI h x = (h * 1000003 + x + 549755813888) % 1099511627791 := by
  obtain ⟨x0, x1⟩ := hx
  unfold linkI
  rw [wrap_id (x := h * 1000003) (by omega) (by omega), wrap_id (x := h * 1000003 + x) (by omega) (by omega), wrap_id (by omega) (by omega)]
  exact Int.tmod_eq_emod_of_nonneg (by omega)
theorem link_bnd (h x : Int) (h0 : 0 ≤ h) (h1 : h < 1099511627791) (hx : inR x) : 0 ≤ linkI h x ∧ linkI h x < 1099511627791 := by
  rw [link_ran h x h0 h1 hx]
  omega
theorem link_inj1 (h x y : Int) (h0 : 0 ≤ h) (h1 : h < 1099511627791) (hx : inR x) (hy : inR y) (e : linkI h x = linkI h y) : x = y := by
  rw [link_ran h x h0 h1 hx, link_ran h y h0 h1 hy] at e
  obtain ⟨x0, x1⟩ := hx
  obtain ⟨y0, y1⟩ := hy
  omega
theorem link_inj2 (h g x : Int) (h0 : 0 ≤ h) (h1 : h < 1099511627791) (g0 : 0 ≤ g) (g1 : g < 1099511627791) (hx : inR x) (e : linkI h x = linkI g x) : h = g := by
  rw [link_ran h x h0 h1 hx, link_ran g x g0 g1 hx] at e
  have q : (h * 1000003 + x + 549755813888 - (g * 1000003 + x + 549755813888)) % 1099511627791 = 0 := Int.emod_eq_emod_iff_emod_sub_eq_zero.1 e
  have q2 : (1099511627791 : Int) ∣ (h - g) * 1000003 := by
    have := Int.dvd_of_emod_eq_zero q
    rw [show h * 1000003 + x + 549755813888 - (g * 1000003 + x + 549755813888) = (h - g) * 1000003 by omega] at this
    exact this
  have q3 : (1099511627791 : Int) ∣ (h - g) := by
    obtain ⟨c, hc⟩ := q2
    exact ⟨-23518483163 * c + 21390 * (h - g), by omega⟩
  obtain ⟨t, ht⟩ := q3
  omega
theorem fold_bnd : ∀ (l : List Int) (h : Int), 0 ≤ h → h < 1099511627791 → (∀ x ∈ l, inR x) → 0 ≤ l.foldl linkI h ∧ l.foldl linkI h < 1099511627791 := by
  intro l
  induction l with
  | nil => intro h h0 h1 _; exact ⟨h0, h1⟩
  | cons x l ih =>
    intro h h0 h1 hx
    have b := link_bnd h x h0 h1 (hx x List.mem_cons_self)
    exact ih _ b.1 b.2 (fun y hy => hx y (List.mem_cons_of_mem _ hy))
theorem fold_inj : ∀ (l : List Int) (h g : Int), 0 ≤ h → h < 1099511627791 → 0 ≤ g → g < 1099511627791 → (∀ x ∈ l, inR x) → l.foldl linkI h = l.foldl linkI g → h = g := by
  intro l
  induction l with
  | nil => intro h g _ _ _ _ _ e; exact e
  | cons x l ih =>
    intro h g h0 h1 g0 g1 hx e
    have b := link_bnd h x h0 h1 (hx x List.mem_cons_self)
    have c := link_bnd g x g0 g1 (hx x List.mem_cons_self)
    exact link_inj2 h g x h0 h1 g0 g1 (hx x List.mem_cons_self) (ih _ _ b.1 b.2 c.1 c.2 (fun y hy => hx y (List.mem_cons_of_mem _ hy)) e)
/-- They differ at one place. -/
def One (L M : List Int) : Prop := ∃ A x y B, L = A ++ x :: B ∧ M = A ++ y :: B ∧ x ≠ y
theorem One.front {L M : List Int} (h : One L M) (P : List Int) : One (P ++ L) (P ++ M) := by
  obtain ⟨A, x, y, B, rfl, rfl, hn⟩ := h
  exact ⟨P ++ A, x, y, B, by simp, by simp, hn⟩
theorem One.back {L M : List Int} (h : One L M) (P : List Int) : One (L ++ P) (M ++ P) := by
  obtain ⟨A, x, y, B, rfl, rfl, hn⟩ := h
  exact ⟨A, x, y, B ++ P, by simp, by simp, hn⟩
theorem One.here {x y : Int} (B : List Int) (h : x ≠ y) : One (x :: B) (y :: B) := ⟨[], x, y, B, rfl, rfl, h⟩
theorem One.cons {L M : List Int} (h : One L M) (x : Int) : One (x :: L) (x :: M) := h.front [x]
theorem one_fold {L M : List Int} (h : One L M) (hL : ∀ x ∈ L, inR x) (hM : ∀ x ∈ M, inR x) : L.foldl linkI 1 ≠ M.foldl linkI 1 := by
  obtain ⟨A, x, y, B, rfl, rfl, hn⟩ := h
  intro e
  simp only [List.foldl_append, List.foldl_cons] at e
  have a := fold_bnd A 1 (by decide) (by decide) (fun z hz => hL z (by simp [hz]))
  have hx := hL x (by simp)
  have hy := hM y (by simp)
  have b := link_bnd _ x a.1 a.2 hx
  have c := link_bnd _ y a.1 a.2 hy
  exact hn (link_inj1 _ x y a.1 a.2 hx hy (fold_inj B _ _ b.1 b.2 c.1 c.2 (fun z hz => hL z (by simp [hz])) e))
/-! ### The head is 0, or its chain -/
theorem head_ev (l : List S98) (hl : l.length ≤ 1000) (hb : ∀ x ∈ l, B98 1048576 x) (d : Nat) : ∀ (i : Nat) (s : Int × Bool), i + d = l.length →
    ∃ r, Ev (fun k => impl_HeadOf.l0 k l (l.length : Int) (i : Int) s.1 s.2) r ∧ (r = 0 ∨ (s.2 = false ∧ (∀ x ∈ (l.drop i).flatMap enums, inR x) ∧ r = ((l.drop i).flatMap enums).foldl linkI s.1)) := by
  induction d with
  | zero =>
    intro i s hd
    by_cases c : s.2 = true
    · exact ⟨0, Ev.step (fun k => by rw [impl_HeadOf.l0]) (ev_neg (by omega) (ev_pos c (Ev.now _))), .inl rfl⟩
    · refine ⟨s.1, Ev.step (fun k => by rw [impl_HeadOf.l0]) (ev_neg (by omega) (ev_neg c (Ev.now _))), .inr ⟨by cases h : s.2; rfl; exact absurd h c, ?_, ?_⟩⟩
      · rw [List.drop_eq_nil_of_le (by omega)]; intro x hx; cases hx
      · rw [List.drop_eq_nil_of_le (by omega)]; rfl
  | succ d ih =>
    intro i s hd
    have hi : i < l.length := by omega
    have hrd : rd_T98 l (i : Int) = l[i] := getD_at hi _
    by_cases c1 : (l[i].f3.length : Int) > 60
    · refine ⟨0, Ev.step (fun k => by rw [impl_HeadOf.l0]) ?_, .inl rfl⟩
      simp only [hrd]
      exact ev_pos (by omega) (ev_pos (by omega) (ev_pos (by omega) (ev_pos c1 (Ev.now _))))
    by_cases c2 : (l[i].f2.size : Int) > 40
    · refine ⟨0, Ev.step (fun k => by rw [impl_HeadOf.l0]) ?_, .inl rfl⟩
      simp only [hrd]
      exact ev_pos (by omega) (ev_pos (by omega) (ev_pos (by omega) (ev_neg c1 (ev_pos c2 (Ev.now _)))))
    have hn := impl_numbers_ev l[i] (by omega) (by omega) s
    obtain ⟨r, h1, h2⟩ := ih (i + 1) ((enums l[i]).foldl stp s) (by omega)
    refine ⟨r, Ev.step (fun k => by rw [impl_HeadOf.l0]) ?_, ?_⟩
    · simp only [hrd]
      refine ev_pos (by omega) (ev_pos (by omega) (ev_pos (by omega) (ev_neg c1 (ev_neg c2 (Ev.bind hn ?_)))))
      rw [wrap_succ hi (by omega)]
      exact h1
    · rcases h2 with h2 | ⟨g1, g2, g3⟩
      · exact .inl h2
      · have hs : s.2 = false ∧ ∀ x ∈ enums l[i], inR x := by
          refine ⟨?_, fun x hx => ?_⟩
          · cases h : s.2
            · rfl
            · have := chain_bad (enums l[i]) s (.inl h); rw [g1] at this; cases this
          · by_cases c : inR x
            · exact c
            · have := chain_bad (enums l[i]) s (.inr ⟨x, hx, c⟩); rw [g1] at this; cases this
        have e : (enums l[i]).foldl stp s = ((enums l[i]).foldl linkI s.1, s.2) := chain_ok _ s.1 s.2 hs.2
        rw [e] at g3
        refine .inr ⟨hs.1, ?_, ?_⟩
        · rw [List.drop_eq_getElem_cons hi, List.flatMap_cons]
          intro x hx
          rcases List.mem_append.1 hx with h | h
          · exact hs.2 x h
          · exact g2 x h
        · rw [List.drop_eq_getElem_cons hi, List.flatMap_cons, List.foldl_append]
          exact g3
theorem head_form (l : List S98) (hl : l.length ≤ 1048576) (hb : ∀ x ∈ l, B98 1048576 x) : ∃ r, Ev (fun k => impl_HeadOf.f k l) r ∧ (r = 0 ∨ ((∀ x ∈ l.flatMap enums, inR x) ∧ r = (l.flatMap enums).foldl linkI 1)) := by
  unfold impl_HeadOf.f
  by_cases c : (l.length : Int) > 1000
  · exact ⟨0, ev_pos c (Ev.now _), .inl rfl⟩
  · obtain ⟨r, h1, h2⟩ := head_ev l (by omega) hb l.length 0 (1, false) (by omega)
    refine ⟨r, ev_neg c h1, ?_⟩
    rcases h2 with h2 | ⟨_, h2, h3⟩
    · exact .inl h2
    · rw [List.drop_zero] at h2 h3
      exact .inr ⟨h2, h3⟩
theorem set_one {l : List S98} {i : Nat} (hi : i < l.length) (e : S98) (h : One (enums l[i]) (enums e)) : One (l.flatMap enums) ((l.set i e).flatMap enums) := by
  have h1 : l = l.take i ++ l[i] :: l.drop (i + 1) := by rw [List.getElem_cons_drop, List.take_append_drop]
  have h2 : l.set i e = l.take i ++ e :: l.drop (i + 1) := List.set_eq_take_append_cons_drop .. |>.trans (if_pos hi)
  rw [h2]
  conv => lhs; rw [h1]
  simp only [List.flatMap_append, List.flatMap_cons]
  exact (h.back _).front _
/-- An entry changed at one place has another head, or none. -/
theorem other_head {l : List S98} (hl : l.length ≤ 1048576) (hb : ∀ x ∈ l, B98 1048576 x) {i : Nat} (hi : i < l.length) (e : S98) (he : B98 1048576 e) (ho : One (enums l[i]) (enums e)) {h : Int} (hh : Ev (fun k => impl_HeadOf.f k l) h) (h0 : h ≠ 0) :
    ∃ r, Ev (fun k => impl_HeadOf.f k (l.set i e)) r ∧ r ≠ h := by
  obtain ⟨r1, e1, f1⟩ := head_form l hl hb
  have q := ev_unique hh e1
  subst q
  obtain ⟨r2, e2, f2⟩ := head_form (l.set i e) (by rw [List.length_set]; exact hl) (fun x hx => by
    rcases List.mem_or_eq_of_mem_set hx with h | h
    · exact hb x h
    · rw [h]; exact he)
  refine ⟨r2, e2, fun q => ?_⟩
  rcases f1 with f1 | ⟨f1, f3⟩
  · exact h0 f1
  rcases f2 with f2 | ⟨f2, f4⟩
  · exact h0 (q.symm.trans f2)
  · exact one_fold (set_one hi e ho) f1 f2 (by rw [← f3, ← f4]; exact q.symm)
/-! ### What is changed is one number -/
theorem bnums_congr (s t : ByteArray) (d : Nat) : ∀ i : Nat, (∀ j : Nat, i ≤ j → j < i + d → bt s (j : Int) = bt t (j : Int)) → bnums s d i = bnums t d i := by
  induction d with
  | zero => intro i _; rfl
  | succ d ih =>
    intro i h
    show wrap64 (bt s (i : Int)) :: bnums s d (i + 1) = wrap64 (bt t (i : Int)) :: bnums t d (i + 1)
    rw [h i (Nat.le_refl _) (by omega), ih (i + 1) (fun j h0 h1 => h j (by omega) (by omega))]
theorem bnums_one (s t : ByteArray) (p : Nat) (hp : bt s (p : Int) ≠ bt t (p : Int)) (d : Nat) : ∀ i : Nat, i ≤ p → p < i + d → (∀ j : Nat, j ≠ p → bt s (j : Int) = bt t (j : Int)) → One (bnums s d i) (bnums t d i) := by
  induction d with
  | zero => intro i h0 h1 _; omega
  | succ d ih =>
    intro i h0 h1 h
    show One (wrap64 (bt s (i : Int)) :: bnums s d (i + 1)) (wrap64 (bt t (i : Int)) :: bnums t d (i + 1))
    by_cases c : i = p
    · subst c
      rw [bnums_congr s t d (i + 1) (fun j h2 _ => h j (by omega))]
      have a := bt_range s (i : Int)
      have b := bt_range t (i : Int)
      rw [wrap_id (x := bt s (i : Int)) (by omega) (by omega), wrap_id (x := bt t (i : Int)) (by omega) (by omega)]
      exact One.here _ hp
    · rw [h i c]
      exact (ih (i + 1) (by omega) (by omega) h).cons _
theorem bt_list (s : ByteArray) (j : Nat) : bt s (j : Int) = ((s.data.toList.map fun u => (u.toNat : Int))).getD j 0 := by
  unfold bt
  by_cases h : ((j : Int)).toNat < s.size
  · rw [dif_pos h]
    have h2 : j < s.data.toList.length := by simpa using h
    rw [List.getD_eq_getElem?_getD, List.getElem?_map, List.getElem?_eq_getElem h2]
    rfl
  · rw [dif_neg h]
    have h2 : s.data.toList.length ≤ j := by have : ¬ j < s.size := h; simpa using Nat.not_lt.1 this
    rw [List.getD_eq_getElem?_getD, List.getElem?_map, List.getElem?_eq_none h2]
    rfl
theorem xor_ne (x y : Int) (hx : 0 ≤ x ∧ x ≤ 255) (hy : 0 < y ∧ y ≤ 255) : 0 ≤ Go.bits .xor .u8 x y ∧ Go.bits .xor .u8 x y ≤ 255 ∧ Go.bits .xor .u8 x y ≠ x := by
  have e : Go.bits .xor .u8 x y = ((BitVec.ofInt 8 x ^^^ BitVec.ofInt 8 y).toNat : Int) := by
    show IntKind.u8.wrap ((BitVec.ofInt 8 x ^^^ BitVec.ofInt 8 y).toNat : Nat) = _
    have := (BitVec.ofInt 8 x ^^^ BitVec.ofInt 8 y).isLt
    simp only [IntKind.wrap, IntKind.signed, IntKind.bits, Bool.false_and]
    rw [if_neg (by decide)]
    omega
  have hl := (BitVec.ofInt 8 x ^^^ BitVec.ofInt 8 y).isLt
  rw [e]
  refine ⟨by omega, by omega, fun q => ?_⟩
  have hX : (BitVec.ofInt 8 x).toNat = x.toNat := by rw [BitVec.toNat_ofInt]; omega
  have hY : (BitVec.ofInt 8 y).toNat = y.toNat := by rw [BitVec.toNat_ofInt]; omega
  have h1 : BitVec.ofInt 8 x ^^^ BitVec.ofInt 8 y = BitVec.ofInt 8 x := BitVec.eq_of_toNat_eq (by rw [hX]; omega)
  have h2 : BitVec.ofInt 8 y = 0#8 := by
    have := congrArg (BitVec.ofInt 8 x ^^^ ·) h1
    simpa [← BitVec.xor_assoc] using this
  have h3 := congrArg BitVec.toNat h2
  rw [hY] at h3
  have : (0#8).toNat = 0 := rfl
  omega
theorem text_other (s : ByteArray) (p : Nat) (hp : p < s.size) (b : Int) (hb : 0 ≤ b ∧ b ≤ 255) (hne : b ≠ bt s (p : Int)) :
    ((s.extract 0 p ++ strOfNums [b]) ++ s.extract (p + 1) s.size).size = s.size ∧ bt s (p : Int) ≠ bt ((s.extract 0 p ++ strOfNums [b]) ++ s.extract (p + 1) s.size) (p : Int) ∧
      ∀ j : Nat, j ≠ p → bt s (j : Int) = bt ((s.extract 0 p ++ strOfNums [b]) ++ s.extract (p + 1) s.size) (j : Int) := by
  have hd : ((s.extract 0 p ++ strOfNums [b]) ++ s.extract (p + 1) s.size).data.toList = s.data.toList.set p (UInt8.ofNat b.toNat) := by
    have hl : p < s.data.toList.length := by simpa using hp
    rw [List.set_eq_take_append_cons_drop, if_pos hl]
    simp [ByteArray.data_append, ByteArray.data_extract, strOfNums, List.extract_eq_take_drop]
    exact List.take_of_length_le (Nat.le_of_eq (List.length_drop ..))
  have hz : ((s.extract 0 p ++ strOfNums [b]) ++ s.extract (p + 1) s.size).size = s.size := by
    have h := congrArg List.length hd
    rw [List.length_set] at h
    exact h
  refine ⟨hz, ?_, fun j hj => ?_⟩
  · rw [bt_list _ p, bt_list _ p, hd]
    intro q
    rw [List.map_set, List.getD_eq_getElem?_getD (l := List.set _ _ _), List.getElem?_set_self (by simpa using hp)] at q
    apply hne
    rw [bt_list, q]
    simp only [Option.getD_some, UInt8.toNat_ofNat']
    omega
  · rw [bt_list _ j, bt_list _ j, hd, List.map_set, List.getD_eq_getElem?_getD, List.getD_eq_getElem?_getD, List.getElem?_set_ne (fun e => hj e.symm)]
theorem lnums_one (l : List S100) : ∀ (i : Nat) (hi : i < l.length) (y : S100), One [l[i].f0, l[i].f1, l[i].f2, l[i].f3, l[i].f4] [y.f0, y.f1, y.f2, y.f3, y.f4] → One (lnums l) (lnums (l.set i y)) := by
  intro i hi y h
  have h1 : l = l.take i ++ l[i] :: l.drop (i + 1) := by rw [List.getElem_cons_drop, List.take_append_drop]
  have h2 : l.set i y = l.take i ++ y :: l.drop (i + 1) := List.set_eq_take_append_cons_drop .. |>.trans (if_pos hi)
  rw [h2]
  conv => lhs; rw [h1]
  unfold lnums
  simp only [List.flatMap_append, List.flatMap_cons]
  exact (h.back _).front _
theorem enums_lines (a b : Int) (s : ByteArray) (l m : List S100) (hlen : l.length = m.length) (h : One (lnums l) (lnums m)) : One (enums (⟨a, b, s, l⟩ : S98)) (enums (⟨a, b, s, m⟩ : S98)) := by
  unfold enums
  rw [hlen]
  exact ((h.cons _).front _).front _
theorem enums_text (a b : Int) (s t : ByteArray) (l : List S100) (hz : t.size = s.size) (p : Nat) (hp : p < s.size) (h1 : bt s (p : Int) ≠ bt t (p : Int)) (h2 : ∀ j : Nat, j ≠ p → bt s (j : Int) = bt t (j : Int)) : One (enums (⟨a, b, s, l⟩ : S98)) (enums (⟨a, b, t, l⟩ : S98)) := by
  unfold enums
  show One ([a, b, (s.size : Int)] ++ (bnums s s.size 0 ++ _)) ([a, b, (t.size : Int)] ++ (bnums t t.size 0 ++ _))
  rw [hz]
  exact ((bnums_one s t p h1 s.size 0 (by omega) (by omega) h2).back _).front _
theorem enums_day (a a' b : Int) (s : ByteArray) (l : List S100) (h : a ≠ a') : One (enums (⟨a, b, s, l⟩ : S98)) (enums (⟨a', b, s, l⟩ : S98)) := One.here _ h
theorem enums_ref (a b b' : Int) (s : ByteArray) (l : List S100) (h : b ≠ b') : One (enums (⟨a, b, s, l⟩ : S98)) (enums (⟨a, b', s, l⟩ : S98)) := (One.here _ h).cons _
/-! ### The reference's check of a chart ends -/
theorem deep_ex (l : List AA) (hl : (l.length : Int) ≤ 1048576) : ∀ (n : Nat) (c : Int), (n : Int) < (l.length : Int) → (∀ j : Nat, j ≤ n → par l (j : Int) < (j : Int)) → 0 ≤ c → c + n ≤ 2000000 → ∃ r, Ev (fun k => spec_l4Deep.l0 k l (n : Int) c) r := by
  intro n
  induction n using Nat.strongRecOn with
  | ind n ih =>
    intro c hn hp c0 c1
    have p1 := hp n (Nat.le_refl _)
    have hpar : (rd_T209 l (n : Int)).f1 = par l (n : Int) := rfl
    have hw : wrap64 (c + 1) = c + 1 := wrap_id (by omega) (by omega)
    by_cases cp : par l (n : Int) ≥ 0
    · obtain ⟨p, hpp⟩ : ∃ p : Nat, par l (n : Int) = (p : Int) := ⟨(par l (n : Int)).toNat, by omega⟩
      obtain ⟨r, hr⟩ := ih p (by omega) (c + 1) (by omega) (fun j hj => hp j (by omega)) (by omega) (by omega)
      refine ⟨r, Ev.step (fun k => by rw [spec_l4Deep.l0]) ?_⟩
      simp only [hpar, hpp, hw]
      exact ev_pos (by omega) (ev_pos (by omega) (ev_pos (by omega) hr))
    · refine ⟨c, Ev.step (fun k => by rw [spec_l4Deep.l0]) ?_⟩
      simp only [hpar]
      exact ev_pos (by omega) (ev_pos (by omega) (ev_neg (by omega) (Ev.now _)))
theorem chart_ex (l : List AA) (hl : (l.length : Int) ≤ 1048576) (hB : ∀ y ∈ l, B209 1048576 y) : ∀ (d i : Nat), i + d = l.length → (∀ j : Nat, j < i → par l (j : Int) < (j : Int)) → ∃ r, Ev (fun k => spec_ChartOk.l0 k l (i : Int)) r := by
  intro d
  induction d with
  | zero => intro i hd _; exact ⟨true, Ev.step (fun k => by rw [spec_ChartOk.l0]) (ev_neg (by omega) (Ev.now _))⟩
  | succ d ih =>
    intro i hd hp
    have hi : i < l.length := by omega
    have hs : ((rd_T209 l (i : Int)).f0.size : Int) ≤ 1048576 := by
      rw [show rd_T209 l (i : Int) = l[i] from getD_at hi _]; exact hB _ (List.getElem_mem hi)
    have ew : wrap64 ((i : Int) + 1) = ((i + 1 : Nat) : Int) := by rw [wrap_id (by omega) (by omega)]; omega
    have em : wrap64 ((i : Int) - 1) = (i : Int) - 1 := wrap_id (by omega) (by omega)
    have up : ∀ (s : ByteArray) (p kd : Int), par l (i : Int) < (i : Int) → ∀ (n : Nat) (x : Int), x < (n : Int) → x < (i : Int) → ∃ r, Ev (fun k => spec_ChartOk.l2 k l (i : Int) x s p kd) r := by
      intro s p kd hpi
      have hp2 : ∀ j : Nat, j ≤ i → par l (j : Int) < (j : Int) := fun j hj => by
        rcases Nat.lt_or_ge j i with h | h
        · exact hp j h
        · have : j = i := by omega
          subst this; exact hpi
      obtain ⟨r0, e0⟩ := ih (i + 1) (by omega) (fun j hj => hp2 j (by omega))
      obtain ⟨dd, ed⟩ := deep_ex l hl i 0 (by omega) hp2 (by decide) (by omega)
      intro n
      induction n with
      | zero =>
        intro x hx _
        exact ⟨false, Ev.step (fun k => by rw [spec_ChartOk.l2]) (ev_neg (by omega) (ev_pos (by omega) (Ev.now _)))⟩
      | succ n ihn =>
        intro x hx hxi
        by_cases c0 : x ≥ 0
        · by_cases c1 : x = p
          · by_cases c2 : (rd_T209 l x).f2 = kd
            · by_cases c3 : dd > 8
              · exact ⟨false, Ev.step (fun k => by rw [spec_ChartOk.l2]) (ev_pos c0 (ev_pos c1 (ev_neg (by omega) (ev_pos (by omega) (ev_pos (by omega) (ev_pos c2 (Ev.bind (g := fun k => spec_l4Deep.f k l (i : Int)) ed (ev_pos c3 (Ev.now _)))))))))⟩
              · refine ⟨r0, Ev.step (fun k => by rw [spec_ChartOk.l2]) (ev_pos c0 (ev_pos c1 (ev_neg (by omega) (ev_pos (by omega) (ev_pos (by omega) (ev_pos c2 (Ev.bind (g := fun k => spec_l4Deep.f k l (i : Int)) ed (ev_neg c3 ?_))))))))⟩
                rw [ew]; exact e0
            · exact ⟨false, Ev.step (fun k => by rw [spec_ChartOk.l2]) (ev_pos c0 (ev_pos c1 (ev_neg (by omega) (ev_pos (by omega) (ev_pos (by omega) (ev_neg c2 (Ev.now _)))))))⟩
          · obtain ⟨m, hm⟩ : ∃ m : Nat, x = (m : Int) := ⟨x.toNat, by omega⟩
            have hpx := hp m (by omega)
            obtain ⟨r, e⟩ := ihn ((rd_T209 l x).f1) (by show par l x < _; rw [hm]; omega) (by show par l x < _; rw [hm]; omega)
            exact ⟨r, Ev.step (fun k => by rw [spec_ChartOk.l2]) (ev_pos c0 (ev_neg c1 (ev_pos (by omega) (ev_pos (by omega) e))))⟩
        · exact ⟨false, Ev.step (fun k => by rw [spec_ChartOk.l2]) (ev_neg c0 (ev_pos (by omega) (Ev.now _)))⟩
    have names : ∀ (s : ByteArray) (p kd : Int), par l (i : Int) < (i : Int) → (p < 0 ∨ 0 ≤ p) → ∀ (n j : Nat), j + n = i → ∃ r, Ev (fun k => spec_ChartOk.l1 k l (i : Int) (j : Int) s p kd) r := by
      intro s p kd hpi _ n
      induction n with
      | zero =>
        intro j hj
        by_cases c : p < 0
        · obtain ⟨r0, e0⟩ := ih (i + 1) (by omega) (fun j hj => by
            rcases Nat.lt_or_ge j i with h | h
            · exact hp j h
            · have : j = i := by omega
              subst this; exact hpi)
          refine ⟨r0, Ev.step (fun k => by rw [spec_ChartOk.l1]) (ev_neg (by omega) (ev_pos c ?_))⟩
          rw [ew]; exact e0
        · obtain ⟨r, e⟩ := up s p kd hpi i ((i : Int) - 1) (by omega) (by omega)
          refine ⟨r, Ev.step (fun k => by rw [spec_ChartOk.l1]) (ev_neg (by omega) (ev_neg c ?_))⟩
          rw [em]; exact e
      | succ n ihn =>
        intro j hj
        have ej : wrap64 ((j : Int) + 1) = ((j + 1 : Nat) : Int) := by rw [wrap_id (by omega) (by omega)]; omega
        by_cases c : ((rd_T209 l (j : Int)).f0).toList = s.toList
        · exact ⟨false, Ev.step (fun k => by rw [spec_ChartOk.l1]) (ev_pos (by omega) (ev_pos (by omega) (ev_pos (by omega) (ev_pos c (Ev.now _)))))⟩
        · obtain ⟨r, e⟩ := ihn (j + 1) (by omega)
          refine ⟨r, Ev.step (fun k => by rw [spec_ChartOk.l1]) (ev_pos (by omega) (ev_pos (by omega) (ev_pos (by omega) (ev_neg c ?_))))⟩
          rw [ej]; exact e
    have no : ∀ (s : ByteArray) (p kd : Int), Ev (fun k => spec_ChartOk.j1 k l (i : Int) true s p kd) false := fun s p kd => Ev.step (fun k => by rw [spec_ChartOk.j1]) (ev_pos rfl (Ev.now _))
    obtain ⟨b0, e0, _⟩ := spec_NameOk_ev _ hs
    by_cases c0 : b0 = true
    · by_cases c1 : 1 ≤ (rd_T209 l (i : Int)).f2 ∧ (rd_T209 l (i : Int)).f2 ≤ 5
      · by_cases c2 : -1 ≤ (rd_T209 l (i : Int)).f1 ∧ (rd_T209 l (i : Int)).f1 ≤ (i : Int) - 1
        · obtain ⟨r, e⟩ := names (rd_T209 l (i : Int)).f0 (rd_T209 l (i : Int)).f1 (rd_T209 l (i : Int)).f2 (by show (rd_T209 l (i : Int)).f1 < _; omega) (by omega) i 0 (by omega)
          refine ⟨r, Ev.step (fun k => by rw [spec_ChartOk.l0]) (ev_pos (by omega) (ev_pos (by omega) (Ev.bind e0 (ev_pos c0 (ev_bind0 (spec_l1In_eq ..) (ev_pos (decide_eq_true c1) (ev_bind0 (spec_l1In_eq ..) ?_)))))))⟩
          rw [em, decide_eq_true c2]
          rw [show ((0 : Nat) : Int) = 0 from rfl] at e
          exact Ev.step (fun k => by rw [spec_ChartOk.j1]) (ev_neg (show ¬ ((!true) = true) by decide) e)
        · refine ⟨false, Ev.step (fun k => by rw [spec_ChartOk.l0]) (ev_pos (by omega) (ev_pos (by omega) (Ev.bind e0 (ev_pos c0 (ev_bind0 (spec_l1In_eq ..) (ev_pos (decide_eq_true c1) (ev_bind0 (spec_l1In_eq ..) ?_)))))))⟩
          rw [em, decide_eq_false c2]
          exact no _ _ _
      · exact ⟨false, Ev.step (fun k => by rw [spec_ChartOk.l0]) (ev_pos (by omega) (ev_pos (by omega) (Ev.bind e0 (ev_pos c0 (ev_bind0 (spec_l1In_eq ..) (ev_neg (mt of_decide_eq_true c1) (no _ _ _)))))))⟩
    · exact ⟨false, Ev.step (fun k => by rw [spec_ChartOk.l0]) (ev_pos (by omega) (ev_pos (by omega) (Ev.bind e0 (ev_neg c0 (no _ _ _)))))⟩
theorem chartok_ex (l : List AA) (hl : (l.length : Int) ≤ 1048576) (hB : ∀ y ∈ l, B209 1048576 y) : ∃ r, Ev (fun k => spec_ChartOk.f k l) r := by
  unfold spec_ChartOk.f
  by_cases c : 1 ≤ (l.length : Int) ∧ (l.length : Int) ≤ 120
  · obtain ⟨r, e⟩ := chart_ex l hl hB l.length 0 (by omega) (fun j hj => by omega)
    exact ⟨r, ev_bind0 (spec_l1In_eq ..) (ev_pos (decide_eq_true c) e)⟩
  · exact ⟨false, ev_bind0 (spec_l1In_eq ..) (ev_neg (by rw [decide_eq_true_eq]; exact c) (Ev.now _))⟩
theorem leaf_ex (l : List AA) (hl : (l.length : Int) ≤ 1048576) (hB : ∀ y ∈ l, B209 1048576 y) (a : Int) : ∃ r, Ev (fun k => spec_Leaf.f k l a) r := by
  have go : ∀ (d i : Nat), i + d = l.length → ∃ r, Ev (fun k => spec_Leaf.l0 k l a (i : Int)) r := by
    intro d
    induction d with
    | zero => intro i hi; exact ⟨true, Ev.step (fun k => by rw [spec_Leaf.l0]) (ev_neg (by omega) (Ev.now _))⟩
    | succ d ih =>
      intro i hi
      have ew : wrap64 ((i : Int) + 1) = ((i + 1 : Nat) : Int) := by rw [wrap_id (by omega) (by omega)]; omega
      obtain ⟨r, e⟩ := ih (i + 1) (by omega)
      by_cases c : (rd_T209 l (i : Int)).f1 = a
      · exact ⟨false, Ev.step (fun k => by rw [spec_Leaf.l0]) (ev_pos (by omega) (ev_pos (by omega) (ev_pos c (Ev.now _))))⟩
      · refine ⟨r, Ev.step (fun k => by rw [spec_Leaf.l0]) (ev_pos (by omega) (ev_pos (by omega) (ev_neg c ?_)))⟩
        rw [ew]; exact e
  obtain ⟨r, e⟩ := go l.length 0 (by omega)
  rw [show ((0 : Nat) : Int) = 0 from rfl] at e
  have j0 : ∀ v : Bool, ∃ r, Ev (fun k => spec_Leaf.j0 k l a v) r := by
    intro v
    cases v with
    | true => exact ⟨false, Ev.step (fun k => by rw [spec_Leaf.j0]) (ev_pos rfl (Ev.now _))⟩
    | false => exact ⟨r, Ev.step (fun k => by rw [spec_Leaf.j0]) (ev_neg (show ¬ (false = true) by decide) e)⟩
  obtain ⟨q, eq⟩ := chartok_ex l hl hB
  unfold spec_Leaf.f
  by_cases c : q = true
  · obtain ⟨r, e⟩ := j0 (!(decide (0 ≤ a ∧ a ≤ wrap64 ((l.length : Int) - 1))))
    exact ⟨r, Ev.bind eq (ev_pos c (ev_bind0 (spec_l1In_eq ..) e))⟩
  · obtain ⟨r, e⟩ := j0 true
    exact ⟨r, Ev.bind eq (ev_neg c e)⟩
theorem drawLeaf_ok (b : List Int) (i h : Int) (l : List AA) (hl0 : 0 < l.length) (hl : (l.length : Int) ≤ 1048576) (hB : ∀ y ∈ l, B209 1048576 y) (hc : Cu b i) : ∃ x i' h', Ev (fun k => spec_l5DrawLeaf.f k b i h l) (x, i', h') ∧ Cu b i' := by
  obtain ⟨x, i1, h1, e1, c1, _⟩ := below_ok b i h (l.length : Int) hc
  have go : ∀ (d j : Nat), j + d = l.length → ∃ y, Ev (fun k => spec_l5DrawLeaf.l0 k l x (j : Int) b i1 h1) (y, i1, h1) := by
    intro d
    induction d with
    | zero => intro j hj; exact ⟨x, Ev.step (fun k => by rw [spec_l5DrawLeaf.l0]) (ev_neg (by omega) (Ev.now _))⟩
    | succ d ih =>
      intro j hj
      have ew : wrap64 ((j : Int) + 1) = ((j + 1 : Nat) : Int) := by rw [wrap_id (by omega) (by omega)]; omega
      obtain ⟨y, e⟩ := ih (j + 1) (by omega)
      obtain ⟨q, eq⟩ := leaf_ex l hl hB (Int.tmod (wrap64 (x + (j : Int))) (l.length : Int))
      have u0 : ¬ ((l.length : Int) = 0) := by omega
      by_cases c : q = true
      · exact ⟨_, Ev.step (fun k => by rw [spec_l5DrawLeaf.l0]) (ev_pos (by omega) (ev_neg u0 (Ev.bind eq (ev_pos c (Ev.now _)))))⟩
      · refine ⟨y, Ev.step (fun k => by rw [spec_l5DrawLeaf.l0]) (ev_pos (by omega) (ev_neg u0 (Ev.bind eq (ev_neg c ?_))))⟩
        rw [ew]; exact e
  obtain ⟨y, e⟩ := go l.length 0 (by omega)
  exact ⟨y, i1, h1, ev_bind0 e1 e, c1⟩
/-! ### A drawn list of entries -/
/-- What is drawn is short. -/
def Sm (e : S98) : Prop := (e.f2.size : Int) ≤ 41 ∧ (e.f3.length : Int) ≤ 9
theorem Sm.B {e : S98} (h : Sm e) : B98 1048576 e := ⟨by have := h.1; omega, by have := h.2; omega⟩
theorem entry_ok (b : List Int) (i h : Int) (l : List AA) (c1 c2 : Int) (hl0 : 0 < l.length) (hl : (l.length : Int) ≤ 1048576) (hB : ∀ y ∈ l, B209 1048576 y) (hc : Cu b i) :
    ∃ x y s ls i' h', Ev (fun k => spec_l5DrawEntry.f k b i h l c1 c2) (x, y, s, ls, i', h') ∧ Cu b i' ∧ Sm (⟨x, y, s, ls⟩ : S98) := by
  obtain ⟨x, i1, h1, e1, k1, _⟩ := below_ok b i h 800 hc
  obtain ⟨y, i2, h2, e2, k2, _⟩ := below_ok b i1 h1 3 k1
  obtain ⟨s, i3, h3, e3, k3, ms⟩ := pick_ok b i2 h2 ([(⟨#[]⟩ : ByteArray), (⟨#[103, 111, 111, 100, 115]⟩ : ByteArray), (⟨#[119, 97, 103, 101, 115, 32, 51]⟩ : ByteArray), (⟨#[97, 32, 98, 32, 99]⟩ : ByteArray)] : List ByteArray) (by decide) k2
  obtain ⟨n, i4, h4, e4, k4, n0, n1, _⟩ := below_ok b i3 h3 3 k3
  have n2 := n1 (by decide)
  have hs : (s.size : Int) ≤ 41 := by
    simp only [List.mem_cons, List.not_mem_nil, or_false] at ms
    rcases ms with rfl | rfl | rfl | rfl <;> decide
  have go : ∀ (m : Nat) (ls : List S100) (i h : Int), m ≤ 3 → (ls.length : Int) + 3 * m ≤ 9 → Cu b i → ∃ ls' i' h', Ev (fun k => spec_l5DrawEntry.l0 k (m : Int) b i h l c1 c2 x y s ls) (x, y, s, ls', i', h') ∧ Cu b i' ∧ (ls'.length : Int) ≤ 9 := by
    intro m
    induction m with
    | zero => intro ls i h _ hls hc; exact ⟨ls, i, h, Ev.step (fun k => by rw [spec_l5DrawEntry.l0]) (ev_neg (by omega) (Ev.now _)), hc, by omega⟩
    | succ m ih =>
      intro ls i h hm hls hc
      have ew : wrap64 (((m + 1 : Nat) : Int) - 1) = (m : Int) := by rw [wrap_id (by omega) (by omega)]; omega
      have m0 : ((m + 1 : Nat) : Int) > 0 := by omega
      have more : ∀ (x7 x8 x9 x10 : Int) (i h : Int), Cu b i → ∃ ls' i' h', Ev (fun k => spec_l5DrawEntry.j1 k ((m + 1 : Nat) : Int) x7 x8 x9 x10 b i h l c1 c2 x y s ls) (x, y, s, ls', i', h') ∧ Cu b i' ∧ (ls'.length : Int) ≤ 9 := by
        intro x7 x8 x9 x10 i h hc
        obtain ⟨f, j1, g1, d1, q1⟩ := drawLeaf_ok b i h l hl0 hl hB hc
        obtain ⟨t, j2, g2, d2, q2⟩ := drawLeaf_ok b j1 g1 l hl0 hl hB q1
        obtain ⟨v, j3, g3, d3, q3⟩ := once_ok b j2 g2 3 q2
        have l1 : ls.length < 3518437208883 := by omega
        have l2 : ∀ z : S100, (ls ++ [z]).length < 3518437208883 := fun z => by rw [List.length_append, List.length_singleton]; omega
        have l3 : ∀ z z2 : S100, (ls ++ [z] ++ [z2]).length < 3518437208883 := fun z z2 => by rw [List.length_append, List.length_append, List.length_singleton, List.length_singleton]; omega
        by_cases cv : v = true
        · obtain ⟨u, j4, g4, d4, q4, _⟩ := below_ok b j3 g3 200 q3
          by_cases c7 : x7 = 0
          · obtain ⟨ls', i', h', e, r⟩ := ih (ls ++ [⟨f, x8, x7, x9, x10⟩] ++ [⟨t, x8, x7, wrap64 (-u), wrap64 (-u)⟩] ++ [⟨t, x8, x7, wrap64 (-(wrap64 (x9 - u))), wrap64 (-(wrap64 (x10 - u)))⟩]) j4 g4 (by omega) (by simp only [List.length_append, List.length_singleton]; omega) q4
            refine ⟨ls', i', h', Ev.step (fun k => by rw [spec_l5DrawEntry.j1]) (Ev.bind d1 (Ev.bind d2 (ev_pos l1 (ev_bind0 rfl ?_)))), r⟩
            refine ev_bind0 d3 (ev_pos cv (ev_bind0 d4 (ev_pos c7 (ev_pos (l2 _) (ev_bind0 rfl ?_)))))
            refine ev_pos (l3 _ _) ?_
            rw [ew]; exact e
          · obtain ⟨u2, j5, g5, d5, q5, _⟩ := below_ok b j4 g4 100 q4
            obtain ⟨ls', i', h', e, r⟩ := ih (ls ++ [⟨f, x8, x7, x9, x10⟩] ++ [⟨t, x8, x7, wrap64 (-u), wrap64 (-u2)⟩] ++ [⟨t, x8, x7, wrap64 (-(wrap64 (x9 - u))), wrap64 (-(wrap64 (x10 - u2)))⟩]) j5 g5 (by omega) (by simp only [List.length_append, List.length_singleton]; omega) q5
            refine ⟨ls', i', h', Ev.step (fun k => by rw [spec_l5DrawEntry.j1]) (Ev.bind d1 (Ev.bind d2 (ev_pos l1 (ev_bind0 rfl ?_)))), r⟩
            refine ev_bind0 d3 (ev_pos cv (ev_bind0 d4 (ev_neg c7 (ev_bind0 d5 (ev_pos (l2 _) (ev_bind0 rfl ?_))))))
            refine ev_pos (l3 _ _) ?_
            rw [ew]; exact e
        · obtain ⟨ls', i', h', e, r⟩ := ih (ls ++ [⟨f, x8, x7, x9, x10⟩] ++ [⟨t, x8, x7, wrap64 (-x9), wrap64 (-x10)⟩]) j3 g3 (by omega) (by simp only [List.length_append, List.length_singleton]; omega) q3
          refine ⟨ls', i', h', Ev.step (fun k => by rw [spec_l5DrawEntry.j1]) (Ev.bind d1 (Ev.bind d2 (ev_pos l1 (ev_bind0 rfl ?_)))), r⟩
          refine ev_bind0 d3 (ev_neg cv (ev_pos (l2 _) ?_))
          rw [ew]; exact e
      obtain ⟨u, j1, g1, d1, q1, _⟩ := below_ok b i h c2 hc
      obtain ⟨v, j2, g2, d2, q2, _⟩ := below_ok b j1 g1 c1 q1
      obtain ⟨a, j3, g3, d3, q3, _⟩ := below_ok b j2 g2 20000 q2
      by_cases cu : u = 0
      · obtain ⟨ls', i', h', e, r⟩ := more u v (wrap64 (a - 10000)) (wrap64 (a - 10000)) j3 g3 q3
        exact ⟨ls', i', h', Ev.step (fun k => by rw [spec_l5DrawEntry.l0]) (ev_pos m0 (ev_bind0 d1 (ev_bind0 d2 (ev_bind0 d3 (ev_pos cu e))))), r⟩
      · obtain ⟨z, j4, g4, d4, q4, _⟩ := below_ok b j3 g3 100 q3
        obtain ⟨z2, j5, g5, d5, q5, _⟩ := below_ok b j4 g4 3 q4
        obtain ⟨ls', i', h', e, r⟩ := more u v (wrap64 (a - 10000)) (wrap64 ((wrap64 (Int.tdiv (wrap64 ((wrap64 (a - 10000)) * (wrap64 (50 + z)))) 100)) + z2)) j5 g5 q5
        exact ⟨ls', i', h', Ev.step (fun k => by rw [spec_l5DrawEntry.l0]) (ev_pos m0 (ev_bind0 d1 (ev_bind0 d2 (ev_bind0 d3 (ev_neg cu (ev_bind0 d4 (ev_bind0 d5 e))))))), r⟩
  obtain ⟨ls', i', h', e, q, r⟩ := go (wrap64 (1 + n)).toNat [] i4 h4 (by rw [wrap_id (by omega) (by omega)]; omega) (by rw [wrap_id (by omega) (by omega)]; simp only [List.length_nil]; omega) k4
  rw [show (((wrap64 (1 + n)).toNat : Nat) : Int) = wrap64 (1 + n) by rw [wrap_id (by omega) (by omega)]; omega] at e
  refine ⟨x, y, s, ls', i', h', ?_, q, hs, r⟩
  unfold spec_l5DrawEntry.f
  exact ev_bind0 e1 (ev_bind0 e2 (ev_bind0 e3 (ev_bind0 e4 e)))
theorem drawLedger_ok (b : List Int) (i h : Int) (l : List AA) (c1 c2 : Int) (n : Nat) (hn : n ≤ 100) (hl0 : 0 < l.length) (hl : (l.length : Int) ≤ 1048576) (hB : ∀ y ∈ l, B209 1048576 y) (hc : Cu b i) :
    ∃ es hd i' h', Ev (fun k => spec_l5DrawLedger.f k b i h l c1 c2 (n : Int)) (es, hd, i', h') ∧ Cu b i' ∧ es.length ≤ 100 ∧ ∀ e ∈ es, Sm e := by
  have go : ∀ (m : Nat) (es : List S98) (i h : Int), es.length + m ≤ 100 → (∀ e ∈ es, Sm e) → Cu b i → ∃ es' hd i' h', Ev (fun k => spec_l5DrawLedger.l0 k (m : Int) b i h l c1 c2 es 1) (es', hd, i', h') ∧ Cu b i' ∧ es'.length ≤ 100 ∧ ∀ e ∈ es', Sm e := by
    intro m
    induction m with
    | zero =>
      intro es i h hm hs hc
      obtain ⟨r, _, e⟩ := head_both es (by omega) (fun x hx => (hs x hx).B)
      exact ⟨es, r, i, h, Ev.step (fun k => by rw [spec_l5DrawLedger.l0]) (ev_neg (by omega) (Ev.bind e (Ev.now _))), hc, by omega, hs⟩
    | succ m ih =>
      intro es i h hm hs hc
      have ew : wrap64 (((m + 1 : Nat) : Int) - 1) = (m : Int) := by rw [wrap_id (by omega) (by omega)]; omega
      have m0 : ((m + 1 : Nat) : Int) > 0 := by omega
      obtain ⟨x, y, s, ls, i1, h1, d, k1, sm⟩ := entry_ok b i h l c1 c2 hl0 hl hB hc
      obtain ⟨es', hd, i', h', e, r⟩ := ih (es ++ [⟨x, y, s, ls⟩]) i1 h1 (by rw [List.length_append, List.length_singleton]; omega) (fun z hz => by
        rcases List.mem_append.1 hz with q | q
        · exact hs z q
        · rw [List.mem_singleton] at q; rw [q]; exact sm) k1
      have l1 : es.length < 2513169434916 := by omega
      refine ⟨es', hd, i', h', Ev.step (fun k => by rw [spec_l5DrawLedger.l0]) (ev_pos m0 (Ev.bind d (ev_pos l1 ?_))), r⟩
      rw [ew]; exact e
  obtain ⟨es, hd, i', h', e, r⟩ := go n [] i h (by simpa using hn) (fun _ h => by cases h) hc
  exact ⟨es, hd, i', h', e, r⟩
theorem spoilEntry_ok (b : List Int) (i h : Int) (x : S98) (hs : Sm x) (hc : Cu b i) : ∃ d r s ls i' h', Ev (fun k => spec_l5SpoilEntry.f k b i h x.f0 x.f1 x.f2 x.f3) (d, r, s, ls, i', h') ∧ Cu b i' ∧ Sm (⟨d, r, s, ls⟩ : S98) := by
  obtain ⟨v, i1, h1, e1, k1⟩ := once_ok b i h 8 hc
  have fin : ∀ (q : Bool) (i h : Int), (¬ q = true → 0 < (x.f3.length : Int)) → Cu b i → ∃ d r s ls i' h', Ev (fun k => spec_l5SpoilEntry.j0 k q b i h x.f0 x.f1 x.f2 x.f3) (d, r, s, ls, i', h') ∧ Cu b i' ∧ Sm (⟨d, r, s, ls⟩ : S98) := by
    intro q i h hq hc
    by_cases cq : q = true
    · exact ⟨x.f0, x.f1, x.f2, x.f3, i, h, Ev.step (fun k => by rw [spec_l5SpoilEntry.j0]) (ev_pos cq (Ev.now _)), hc, hs⟩
    have hpos := hq cq
    obtain ⟨p, j1, g1, d1, q1, p0, p1, _⟩ := below_ok b i h (x.f3.length : Int) hc
    have p2 := p1 hpos
    have p3 : p ≤ (x.f3.length : Int) := by omega
    obtain ⟨c, j2, g2, d2, q2, _⟩ := below_ok b j1 g1 9 q1
    have hset : ∀ y : S100, ((x.f3.set p.toNat y).length : Int) ≤ 9 := fun y => by rw [List.length_set]; exact hs.2
    by_cases a0 : c = 0
    · obtain ⟨z, j3, g3, d3, q3, _⟩ := pickInt_ok b j2 g2 ([(-1), 40001] : List Int) (by decide) q2
      refine ⟨z, x.f1, x.f2, x.f3, j3, g3, Ev.step (fun k => by rw [spec_l5SpoilEntry.j0]) (ev_neg cq (ev_bind0 d1 (ev_bind0 d2 (ev_pos a0 (ev_bind0 d3 ?_))))), q3, hs⟩
      exact Ev.now _
    by_cases a1 : c = 1
    · obtain ⟨z, j3, g3, d3, q3, _⟩ := pickInt_ok b j2 g2 ([(-1), 1000, 1001] : List Int) (by decide) q2
      refine ⟨x.f0, z, x.f2, x.f3, j3, g3, Ev.step (fun k => by rw [spec_l5SpoilEntry.j0]) (ev_neg cq (ev_bind0 d1 (ev_bind0 d2 (ev_neg a0 (ev_pos a1 (ev_bind0 d3 ?_)))))), q3, hs⟩
      exact Ev.now _
    by_cases a2 : c = 2
    · obtain ⟨z, j3, g3, d3, q3, mz⟩ := pick_ok b j2 g2 ([(⟨#[97, 10, 98]⟩ : ByteArray), (⟨#[48, 49, 50, 51, 52, 53, 54, 55, 56, 57, 48, 49, 50, 51, 52, 53, 54, 55, 56, 57, 48, 49, 50, 51, 52, 53, 54, 55, 56, 57, 48, 49, 50, 51, 52, 53, 54, 55, 56, 57]⟩ : ByteArray), (⟨#[48, 49, 50, 51, 52, 53, 54, 55, 56, 57, 48, 49, 50, 51, 52, 53, 54, 55, 56, 57, 48, 49, 50, 51, 52, 53, 54, 55, 56, 57, 48, 49, 50, 51, 52, 53, 54, 55, 56, 57, 48]⟩ : ByteArray), (⟨#[31]⟩ : ByteArray), (⟨#[32]⟩ : ByteArray)] : List ByteArray) (by decide) q2
      refine ⟨x.f0, x.f1, z, x.f3, j3, g3, Ev.step (fun k => by rw [spec_l5SpoilEntry.j0]) (ev_neg cq (ev_bind0 d1 (ev_bind0 d2 (ev_neg a0 (ev_neg a1 (ev_pos a2 (ev_bind0 d3 ?_))))))), q3, ?_, hs.2⟩
      · exact Ev.now _
      show (z.size : Int) ≤ 41
      simp only [List.mem_cons, List.not_mem_nil, or_false] at mz
      rcases mz with rfl | rfl | rfl | rfl | rfl <;> decide
    by_cases a3 : c = 3
    · obtain ⟨z, j3, g3, d3, q3, _⟩ := below_ok b j2 g2 12 q2
      refine ⟨x.f0, x.f1, x.f2, x.f3.set p.toNat ⟨wrap64 (z - 1), (rd_T100 x.f3 p).f1, (rd_T100 x.f3 p).f2, (rd_T100 x.f3 p).f3, (rd_T100 x.f3 p).f4⟩, j3, g3, Ev.step (fun k => by rw [spec_l5SpoilEntry.j0]) (ev_neg cq (ev_bind0 d1 (ev_bind0 d2 (ev_neg a0 (ev_neg a1 (ev_neg a2 (ev_pos a3 (ev_bind0 d3 ?_)))))))), q3, hs.1, hset _⟩
      exact ev_pos p0 (ev_pos p2 (Ev.now _))
    by_cases a4 : c = 4
    · obtain ⟨z, j3, g3, d3, q3, _⟩ := below_ok b j2 g2 4 q2
      refine ⟨x.f0, x.f1, x.f2, x.f3.set p.toNat ⟨(rd_T100 x.f3 p).f0, wrap64 (z - 1), (rd_T100 x.f3 p).f2, (rd_T100 x.f3 p).f3, (rd_T100 x.f3 p).f4⟩, j3, g3, Ev.step (fun k => by rw [spec_l5SpoilEntry.j0]) (ev_neg cq (ev_bind0 d1 (ev_bind0 d2 (ev_neg a0 (ev_neg a1 (ev_neg a2 (ev_neg a3 (ev_pos a4 (ev_bind0 d3 ?_))))))))), q3, hs.1, hset _⟩
      exact ev_pos p0 (ev_pos p2 (Ev.now _))
    by_cases a5 : c = 5
    · obtain ⟨z, j3, g3, d3, q3, _⟩ := below_ok b j2 g2 4 q2
      refine ⟨x.f0, x.f1, x.f2, x.f3.set p.toNat ⟨(rd_T100 x.f3 p).f0, (rd_T100 x.f3 p).f1, wrap64 (z - 1), (rd_T100 x.f3 p).f3, (rd_T100 x.f3 p).f4⟩, j3, g3, Ev.step (fun k => by rw [spec_l5SpoilEntry.j0]) (ev_neg cq (ev_bind0 d1 (ev_bind0 d2 (ev_neg a0 (ev_neg a1 (ev_neg a2 (ev_neg a3 (ev_neg a4 (ev_pos a5 (ev_bind0 d3 ?_)))))))))), q3, hs.1, hset _⟩
      exact ev_pos p0 (ev_pos p2 (Ev.now _))
    by_cases a6 : c = 6
    · obtain ⟨z, j3, g3, d3, q3, _⟩ := pickInt_ok b j2 g2 ([1, (-1), 100000000000] : List Int) (by decide) q2
      refine ⟨x.f0, x.f1, x.f2, x.f3.set p.toNat ⟨(rd_T100 x.f3 p).f0, (rd_T100 x.f3 p).f1, (rd_T100 x.f3 p).f2, wrap64 ((rd_T100 x.f3 p).f3 + z), (rd_T100 x.f3 p).f4⟩, j3, g3, Ev.step (fun k => by rw [spec_l5SpoilEntry.j0]) (ev_neg cq (ev_bind0 d1 (ev_bind0 d2 (ev_neg a0 (ev_neg a1 (ev_neg a2 (ev_neg a3 (ev_neg a4 (ev_neg a5 (ev_pos a6 (ev_pos p0 (ev_pos p2 (ev_bind0 d3 ?_))))))))))))), q3, hs.1, hset _⟩
      exact Ev.now _
    by_cases a7 : c = 7
    · exact ⟨x.f0, x.f1, x.f2, x.f3.set p.toNat ⟨(rd_T100 x.f3 p).f0, (rd_T100 x.f3 p).f1, (rd_T100 x.f3 p).f2, (rd_T100 x.f3 p).f3, wrap64 ((rd_T100 x.f3 p).f4 + 1)⟩, j2, g2, Ev.step (fun k => by rw [spec_l5SpoilEntry.j0]) (ev_neg cq (ev_bind0 d1 (ev_bind0 d2 (ev_neg a0 (ev_neg a1 (ev_neg a2 (ev_neg a3 (ev_neg a4 (ev_neg a5 (ev_neg a6 (ev_pos a7 (ev_pos p0 (ev_pos p2 (Ev.now _)))))))))))))), q2, hs.1, hset _⟩
    by_cases a8 : c = 8
    · exact ⟨x.f0, x.f1, x.f2, x.f3.take p.toNat, j2, g2, Ev.step (fun k => by rw [spec_l5SpoilEntry.j0]) (ev_neg cq (ev_bind0 d1 (ev_bind0 d2 (ev_neg a0 (ev_neg a1 (ev_neg a2 (ev_neg a3 (ev_neg a4 (ev_neg a5 (ev_neg a6 (ev_neg a7 (ev_pos a8 (ev_pos p0 (ev_pos p3 (Ev.now _))))))))))))))), q2, hs.1, by have := hs.2; simp only [List.length_take]; omega⟩
    exact ⟨x.f0, x.f1, x.f2, x.f3, j2, g2, Ev.step (fun k => by rw [spec_l5SpoilEntry.j0]) (ev_neg cq (ev_bind0 d1 (ev_bind0 d2 (ev_neg a0 (ev_neg a1 (ev_neg a2 (ev_neg a3 (ev_neg a4 (ev_neg a5 (ev_neg a6 (ev_neg a7 (ev_neg a8 (Ev.now _))))))))))))), q2, hs⟩
  unfold spec_l5SpoilEntry.f
  by_cases cv : v = true
  · obtain ⟨d, r, s, ls, i', h', e, q⟩ := fin ((x.f3.length : Int) == 0) i1 h1 (fun q => by have : ¬ (x.f3.length : Int) = 0 := fun e => q (by rw [e]; rfl); omega) k1
    exact ⟨d, r, s, ls, i', h', ev_bind0 e1 (ev_pos cv e), q⟩
  · obtain ⟨d, r, s, ls, i', h', e, q⟩ := fin true i1 h1 (fun q => absurd rfl q) k1
    exact ⟨d, r, s, ls, i', h', ev_bind0 e1 (ev_neg cv e), q⟩
theorem spoilLedger_ok (b : List Int) (i h : Int) (es : List S98) (hd : Int) (hl : es.length ≤ 100) (hs : ∀ e ∈ es, Sm e) (hc : Cu b i) : ∃ es' hd' i' h', Ev (fun k => spec_l5SpoilLedger.f k b i h es hd) (es', hd', i', h') ∧ Cu b i' ∧ es'.length ≤ 100 ∧ ∀ e ∈ es', Sm e := by
  have fin1 : ∀ (q : Bool) (hd i h : Int), (q = true → 0 < es.length) → Cu b i → ∃ es' hd' i' h', Ev (fun k => spec_l5SpoilLedger.j1 k q b i h es hd) (es', hd', i', h') ∧ Cu b i' ∧ es'.length ≤ 100 ∧ ∀ e ∈ es', Sm e := by
    intro q hd i h hq hc
    by_cases cq : q = true
    · have hpos := hq cq
      obtain ⟨p, j1, g1, d1, q1, p0, p1, _⟩ := below_ok b i h (es.length : Int) hc
      have p2 := p1 (by omega)
      have hpl : p.toNat < es.length := by omega
      have hx : Sm (rd_T98 es p) := by
        have : rd_T98 es p = es[p.toNat] := getD_at hpl _
        rw [this]; exact hs _ (List.getElem_mem hpl)
      obtain ⟨d, r, s, ls, j2, g2, d2, q2, sm⟩ := spoilEntry_ok b j1 g1 (rd_T98 es p) hx q1
      have hs2 : ∀ e ∈ es.set p.toNat (⟨d, r, s, ls⟩ : S98), Sm e := fun e he => by
        rcases List.mem_or_eq_of_mem_set he with q | q
        · exact hs e q
        · rw [q]; exact sm
      have hl2 : (es.set p.toNat (⟨d, r, s, ls⟩ : S98)).length ≤ 100 := by rw [List.length_set]; exact hl
      obtain ⟨v, j3, g3, d3, q3⟩ := once_ok b j2 g2 2 q2
      by_cases cv : v = true
      · obtain ⟨t, _, e⟩ := head_both (es.set p.toNat (⟨d, r, s, ls⟩ : S98)) (by omega) (fun z hz => (hs2 z hz).B)
        refine ⟨es.set p.toNat (⟨d, r, s, ls⟩ : S98), t, j3, g3, Ev.step (fun k => by rw [spec_l5SpoilLedger.j1]) (ev_pos cq (ev_bind0 d1 (ev_pos p0 (ev_pos p2 (Ev.bind d2 ?_))))), q3, hl2, hs2⟩
        refine ev_bind0 rfl ?_
        exact ev_bind0 d3 (ev_pos cv (Ev.bind e (Ev.now _)))
      · refine ⟨es.set p.toNat (⟨d, r, s, ls⟩ : S98), hd, j3, g3, Ev.step (fun k => by rw [spec_l5SpoilLedger.j1]) (ev_pos cq (ev_bind0 d1 (ev_pos p0 (ev_pos p2 (Ev.bind d2 ?_))))), q3, hl2, hs2⟩
        refine ev_bind0 rfl ?_
        exact ev_bind0 d3 (ev_neg cv (Ev.now _))
    · exact ⟨es, hd, i, h, Ev.step (fun k => by rw [spec_l5SpoilLedger.j1]) (ev_neg cq (Ev.now _)), hc, hl, hs⟩
  have fin0 : ∀ (hd i h : Int), Cu b i → ∃ es' hd' i' h', Ev (fun k => spec_l5SpoilLedger.j0 k b i h es hd) (es', hd', i', h') ∧ Cu b i' ∧ es'.length ≤ 100 ∧ ∀ e ∈ es', Sm e := by
    intro hd i h hc
    obtain ⟨v, j1, g1, d1, q1⟩ := once_ok b i h 20 hc
    by_cases cv : v = true
    · obtain ⟨es', hd', i', h', e, r⟩ := fin1 (decide ((es.length : Int) > 0)) hd j1 g1 (fun q => by have := of_decide_eq_true q; omega) q1
      exact ⟨es', hd', i', h', Ev.step (fun k => by rw [spec_l5SpoilLedger.j0]) (ev_bind0 d1 (ev_pos cv e)), r⟩
    · obtain ⟨es', hd', i', h', e, r⟩ := fin1 false hd j1 g1 (fun q => by cases q) q1
      exact ⟨es', hd', i', h', Ev.step (fun k => by rw [spec_l5SpoilLedger.j0]) (ev_bind0 d1 (ev_neg cv e)), r⟩
  obtain ⟨v, i1, h1, e1, k1⟩ := once_ok b i h 20 hc
  unfold spec_l5SpoilLedger.f
  by_cases cv : v = true
  · obtain ⟨z, i2, h2, e2, k2, _⟩ := pickInt_ok b i1 h1 ([1, wrap64 (-hd)] : List Int) (by simp) k1
    obtain ⟨es', hd', i', h', e, r⟩ := fin0 (wrap64 (hd + z)) i2 h2 k2
    exact ⟨es', hd', i', h', ev_bind0 e1 (ev_pos cv (ev_bind0 e2 e)), r⟩
  · obtain ⟨es', hd', i', h', e, r⟩ := fin0 hd i1 h1 k1
    exact ⟨es', hd', i', h', ev_bind0 e1 (ev_neg cv e), r⟩
theorem drawHead_ok (l0 : List Int) (h0 : (l0.length : Int) ≤ 1048576) : ∃ es, Ev (fun k => spec_DrawHeadOf.f k l0) es ∧ es.length ≤ 101 ∧ ∀ e ∈ es, Sm e := by
  obtain ⟨h, hn⟩ := new_ok l0 (by omega)
  obtain ⟨ch, i1, h1, e1, k1, ch0, ch1, hB⟩ := drawChart_ok l0 0 h 7 (by decide) (by decide) ⟨by decide, by omega, by omega⟩
  obtain ⟨x, i2, h2, e2, k2, _⟩ := below_ok l0 i1 h1 3 k1
  obtain ⟨y, i3, h3, e3, k3, _⟩ := below_ok l0 i2 h2 3 k2
  have ef : Ev (fun k => spec_l5DrawFrame.f k l0 0 h) (ch, wrap64 (1 + x), wrap64 (1 + y), i3, h3) := by
    unfold spec_l5DrawFrame.f
    refine Ev.bind e1 (ev_bind0 e2 (ev_bind0 e3 ?_))
    exact Ev.now _
  obtain ⟨sz, esz, sz1⟩ : ∃ sz, spec_l1Size.f l0 8 = some sz ∧ sz ≤ 8 := by
    unfold spec_l1Size.f
    by_cases c : wrap64 (2 + wrap64 ((l0.length : Int) / 20)) > 8
    · exact ⟨_, if_pos c, by decide⟩
    · exact ⟨_, if_neg c, by omega⟩
  obtain ⟨n, i4, h4, e4, k4, n0, n1, n2⟩ := below_ok l0 i3 h3 sz k3
  have hn8 : n ≤ 8 := by
    by_cases c : 0 < sz
    · have := n1 c; omega
    · have := n2 (by omega); omega
  obtain ⟨es, hd, i5, h5, e5, k5, l5, s5⟩ := drawLedger_ok l0 i4 h4 ch (wrap64 (1 + x)) (wrap64 (1 + y)) n.toNat (by omega) (by omega) (by omega) hB k4
  rw [show ((n.toNat : Nat) : Int) = n by omega] at e5
  obtain ⟨es', hd', i6, h6, e6, k6, l6, s6⟩ := spoilLedger_ok l0 i5 h5 es hd l5 s5 k5
  obtain ⟨v, i7, h7, e7, k7⟩ := once_ok l0 i6 h6 30 k6
  unfold spec_DrawHeadOf.f
  by_cases cv : v = true
  · obtain ⟨z, i8, h8, e8, k8, _⟩ := pickInt_ok l0 i7 h7 ([549755813887, 549755813888, (-549755813888), (-549755813889)] : List Int) (by decide) k7
    have lc : es'.length < 2513169434916 := by omega
    refine ⟨es' ++ [⟨0, z, ⟨#[]⟩, []⟩], Ev.bind hn (Ev.bind ef (ev_bind0 esz (ev_bind0 e4 (Ev.bind e5 (Ev.bind e6 (ev_bind0 e7 (ev_pos cv (ev_bind0 e8 ?_)))))))), by rw [List.length_append, List.length_singleton]; omega, fun e he => ?_⟩
    · exact ev_pos lc (Ev.now _)
    · rcases List.mem_append.1 he with q | q
      · exact s6 e q
      · rw [List.mem_singleton] at q; rw [q]; exact ⟨by show (0 : Int) ≤ 41; decide, by show (0 : Int) ≤ 9; decide⟩
  · exact ⟨es', Ev.bind hn (Ev.bind ef (ev_bind0 esz (ev_bind0 e4 (Ev.bind e5 (Ev.bind e6 (ev_bind0 e7 (ev_neg cv (Ev.now _)))))))), by omega, s6⟩
theorem at_ok (l : List Int) (hw : ∀ x ∈ l, (Lit.int .u8 x).wf = true) (i : Nat) : ∃ v, laws_at.f l (i : Int) = some v ∧ 0 ≤ v ∧ v ≤ 255 := by
  unfold laws_at.f
  by_cases c : (i : Int) < (l.length : Int)
  · have hi : i < l.length := by omega
    have h := hw _ (List.getElem_mem hi)
    have h2 : 0 ≤ l[i] ∧ l[i] ≤ 255 := by
      simp only [Lit.wf, Bool.and_eq_true, decide_eq_true_eq] at h
      exact h
    refine ⟨_, (if_pos c).trans (if_pos (by omega)), ?_⟩
    rw [rd_at hi, wrap_id (by omega) (by omega)]
    exact h2
  · exact ⟨0, if_neg c, by decide, by decide⟩
theorem j2_ok {es : List S98} (hl : es.length ≤ 101) (hB : ∀ x ∈ es, B98 1048576 x) {hv : Int} (e1 : Ev (fun k => impl_HeadOf.f k es) hv) (h0 : hv ≠ 0) {i : Nat} (hi : i < es.length) (a b : Int) (s : ByteArray) (ls : List S100) (he : B98 1048576 (⟨a, b, s, ls⟩ : S98)) (ho : One (enums es[i]) (enums (⟨a, b, s, ls⟩ : S98))) :
    Ev (fun k => laws_FnChained.j2 k es hv (i : Int) a b s ls) true := by
  obtain ⟨r, e, hne⟩ := other_head (by omega) hB hi ⟨a, b, s, ls⟩ he ho e1 h0
  have l1 : ([] : List S98).length + es.length < 2513169434916 := by simp only [List.length_nil]; omega
  refine Ev.step (fun k => by rw [laws_FnChained.j2]) ?_
  refine ev_bind0 rfl ?_
  refine ev_pos l1 ?_
  refine ev_bind0 rfl ?_
  rw [List.nil_append]
  refine ev_pos (by omega) (ev_pos (by omega) (Ev.bind e ?_))
  have : (r != hv) = true := bne_iff_ne.mpr hne
  rw [this]
  exact Ev.now _
theorem by_ne (a v : Int) (h0 : 0 ≤ v) (h1 : v ≤ 255) : a ≠ wrap64 (a + wrap64 (1 + v)) := by
  rw [wrap_id (x := 1 + v) (by omega) (by omega)]
  unfold wrap64
  omega
theorem case2 (l0 : List Int) (s : ByteArray) (q v6 : Int) (F : Nat → ByteArray → Option Bool) (a6 : laws_at.f l0 6 = some v6) (b6 : 0 ≤ v6) (hq0 : 0 ≤ q) (hq1 : q < (s.size : Int)) (hsz : (s.size : Int) ≤ 1048576)
    (hF : ∀ t : ByteArray, t.size = s.size → ∀ p : Nat, p < s.size → bt s (p : Int) ≠ bt t (p : Int) → (∀ j : Nat, j ≠ p → bt s (j : Int) = bt t (j : Int)) → Ev (fun k => F k t) true) :
    Ev (fun k => if 0 ≤ q then (if q ≤ (s.size : Int) then (if q < (s.size : Int) then ((laws_at.f l0 6).bind fun t469 => ((some (([Go.bits .xor .u8 (bt s q) ((wrap64 (1 + (Int.tmod t469 200))) % 256)] : List Int) : List Int)).bind fun y470 => (if (s.extract 0 (q : Int).toNat).size + (strOfNums y470).size ≤ 9223372036854775807 then (if 0 ≤ (wrap64 (q + 1)) then (if (wrap64 (q + 1)) ≤ (s.size : Int) then (if ((s.extract 0 (q : Int).toNat) ++ (strOfNums y470)).size + (s.extract ((wrap64 (q + 1)) : Int).toNat s.size).size ≤ 9223372036854775807 then F k (((s.extract 0 (q : Int).toNat) ++ (strOfNums y470)) ++ (s.extract ((wrap64 (q + 1)) : Int).toNat s.size)) else none) else none) else none) else none))) else none) else none) else none) true := by
  obtain ⟨p, rfl⟩ : ∃ p : Nat, q = (p : Int) := ⟨q.toNat, (Int.toNat_of_nonneg hq0).symm⟩
  have hpl : p < s.size := Int.ofNat_lt.1 hq1
  have ew1 : wrap64 ((p : Int) + 1) = ((p + 1 : Nat) : Int) := by rw [wrap_id (by omega) (by omega)]; omega
  have ym0 := Int.tmod_nonneg 200 b6
  have ym1 := Int.tmod_lt_of_pos v6 (show (0 : Int) < 200 by decide)
  have ey : wrap64 (1 + Int.tmod v6 200) % 256 = 1 + Int.tmod v6 200 := by rw [wrap_id (by omega) (by omega)]; omega
  have hx := xor_ne (bt s (p : Int)) (1 + Int.tmod v6 200) (bt_range _ _) (by omega)
  generalize hb : Go.bits .xor .u8 (bt s (p : Int)) (1 + Int.tmod v6 200) = b at hx
  obtain ⟨t1, t2, t3⟩ := text_other s p hpl b ⟨hx.1, hx.2.1⟩ hx.2.2
  have z1 : (s.extract 0 p).size + (strOfNums [b]).size ≤ 9223372036854775807 := by
    rw [ByteArray.size_extract, strOfNums_size, List.length_singleton]; omega
  have z2 : ((s.extract 0 p) ++ (strOfNums [b])).size + (s.extract (p + 1) s.size).size ≤ 9223372036854775807 := by
    rw [← ByteArray.size_append, t1]; omega
  refine ev_pos hq0 (ev_pos (Int.le_of_lt hq1) (ev_pos hq1 ?_))
  refine ev_bind0 a6 ?_
  rw [ey, hb, ew1]
  refine ev_bind0 rfl ?_
  rw [Int.toNat_natCast, Int.toNat_natCast]
  refine ev_pos z1 (ev_pos (Int.natCast_nonneg _) (ev_pos (by omega) (ev_pos z2 ?_)))
  exact hF _ t1 p hpl t2 t3
theorem FnChained : laws_FnChained.Pure := by
  intro l0 hg0 hg1 hg2
  apply Ev.rounds
  unfold laws_FnChained.f laws_big.f
  refine ev_bind0 rfl ?_
  by_cases cb : (l0.length : Int) > 1048576
  · exact ev_pos (decide_eq_true cb) (Ev.now _)
  refine ev_neg (by rw [decide_eq_true_eq]; exact cb) ?_
  obtain ⟨es, hd, hl, hs⟩ := drawHead_ok l0 (by omega)
  have hB : ∀ x ∈ es, B98 1048576 x := fun x hx => (hs x hx).B
  obtain ⟨hv, e1, e2⟩ := head_both es (by omega) hB
  have en : Ev (fun k => impl_HeadOf.f k ([] : List S98)) 1 := by
    obtain ⟨r, h1, h2⟩ := head_form [] (by simp) (fun x hx => by cases hx)
    unfold impl_HeadOf.f
    refine ev_neg (by simp) (Ev.step (fun k => by rw [impl_HeadOf.l0]) ?_)
    exact ev_neg (by simp) (ev_neg (by decide) (Ev.now _))
  refine Ev.bind hd (Ev.bind e1 (Ev.bind en (ev_pos rfl (Ev.bind e2 ?_))))
  have ev0 : (hv != hv) = false := by simp
  rw [ev0]
  have done : Ev (fun k => laws_FnChained.j1 k l0 es hv true) true := Ev.step (fun k => by rw [laws_FnChained.j1]) (ev_pos rfl (Ev.now _))
  refine Ev.step (fun k => by rw [laws_FnChained.j0]) (ev_neg (show ¬ (false = true) by decide) ?_)
  by_cases cl : (es.length : Int) = 0
  · exact ev_pos cl done
  refine ev_neg cl ?_
  by_cases ch : hv = 0
  · rw [show (hv == 0) = true from beq_iff_eq.mpr ch]; exact done
  rw [show (hv == 0) = false from beq_eq_false_iff_ne.mpr ch]
  obtain ⟨v2, a2, _, _⟩ := at_ok l0 hg2 2
  obtain ⟨v3, a3, b3, c3⟩ := at_ok l0 hg2 3
  obtain ⟨v4, a4, _, _⟩ := at_ok l0 hg2 4
  obtain ⟨v5, a5, b5, c5⟩ := at_ok l0 hg2 5
  obtain ⟨v6, a6, b6, c6⟩ := at_ok l0 hg2 6
  have hv2 : 0 ≤ v2 := by omega
  obtain ⟨i, hi⟩ : ∃ i : Nat, Int.tmod v2 (es.length : Int) = (i : Int) := ⟨(Int.tmod v2 (es.length : Int)).toNat, by have := Int.tmod_nonneg (es.length : Int) hv2; omega⟩
  have hil : i < es.length := by have := Int.tmod_lt_of_pos v2 (show 0 < (es.length : Int) by omega); omega
  have hrd : rd_T98 es (i : Int) = es[i] := getD_at hil _
  have hsm := hs _ (List.getElem_mem hil)
  have hy : ([] : List S100).length + es[i].f3.length < 3518437208883 := by have := hsm.2; simp only [List.length_nil]; omega
  replace a2 : laws_at.f l0 2 = some v2 := a2
  replace a3 : laws_at.f l0 3 = some v3 := a3
  replace a4 : laws_at.f l0 4 = some v4 := a4
  replace a5 : laws_at.f l0 5 = some v5 := a5
  replace a6 : laws_at.f l0 6 = some v6 := a6
  refine Ev.step (fun k => by rw [laws_FnChained.j1]) ?_
  refine ev_neg (show ¬ (false = true) by decide) ?_
  refine ev_bind0 a2 ?_
  refine ev_neg cl ?_
  simp only [hi, hrd]
  refine ev_pos (by omega) (ev_pos (by omega) ?_)
  refine ev_bind0 rfl ?_
  refine ev_pos hy ?_
  refine ev_bind0 rfl ?_
  rw [List.nil_append]
  refine ev_bind0 a3 (ev_bind0 a4 ?_)
  have ew : wrap64 (1 + v3) = 1 + v3 := wrap_id (by omega) (by omega)
  by_cases d0 : Int.tmod v4 5 = 0
  · refine ev_pos d0 ?_
    exact j2_ok hl hB e1 ch hil _ _ _ _ ⟨hsm.B.1, hsm.B.2⟩ (enums_day _ _ _ _ _ (by_ne _ _ b3 c3))
  refine ev_neg d0 ?_
  by_cases d1 : Int.tmod v4 5 = 1
  · refine ev_pos d1 ?_
    exact j2_ok hl hB e1 ch hil _ _ _ _ ⟨hsm.B.1, hsm.B.2⟩ (enums_ref _ _ _ _ _ (by_ne _ _ b3 c3))
  refine ev_neg d1 ?_
  by_cases d2 : Int.tmod v4 5 = 2
  · refine ev_pos d2 ?_
    by_cases z0 : (es[i].f2.size : Int) = 0
    · exact ev_pos z0 (Ev.now _)
    refine ev_neg z0 ?_
    refine ev_bind0 a5 ?_
    have hsz := hsm.1
    refine case2 l0 es[i].f2 _ v6 (fun k t => laws_FnChained.j2 k es hv (i : Int) es[i].f0 es[i].f1 t es[i].f3) a6 b6 (Int.tmod_nonneg _ b5) (Int.tmod_lt_of_pos v5 (by omega)) (by omega) ?_
    intro t t1 p hpl t2 t3
    exact j2_ok hl hB e1 ch hil _ _ _ _ ⟨by show ((t : ByteArray).size : Int) ≤ 1048576; rw [t1]; omega, hsm.B.2⟩ (enums_text _ _ _ _ _ t1 p hpl t2 t3)
  refine ev_neg d2 ?_
  by_cases d3 : Int.tmod v4 5 = 3
  · refine ev_pos d3 ?_
    by_cases z0 : (es[i].f3.length : Int) = 0
    · exact ev_pos z0 (Ev.now _)
    refine ev_neg z0 ?_
    refine ev_bind0 a5 ?_
    obtain ⟨p, hp⟩ : ∃ p : Nat, Int.tmod v5 (es[i].f3.length : Int) = (p : Int) := ⟨(Int.tmod v5 (es[i].f3.length : Int)).toNat, by have := Int.tmod_nonneg (es[i].f3.length : Int) b5; omega⟩
    have hpl : p < es[i].f3.length := by have := Int.tmod_lt_of_pos v5 (show 0 < (es[i].f3.length : Int) by omega); omega
    have hr : rd_T100 es[i].f3 (p : Int) = es[i].f3[p] := getD_at hpl _
    simp only [hp]
    refine ev_pos (by omega) (ev_pos (by omega) ?_)
    refine j2_ok hl hB e1 ch hil _ _ _ _ ⟨hsm.B.1, by show ((List.set _ _ _).length : Int) ≤ 1048576; rw [List.length_set]; exact hsm.B.2⟩ (enums_lines _ _ _ _ _ (List.length_set ..).symm (lnums_one _ p hpl _ ?_))
    simp only [hr]
    exact (((One.here _ (by_ne _ _ b3 c3)).cons _).cons _).cons _
  refine ev_neg d3 ?_
  by_cases d4 : Int.tmod v4 5 = 4
  · refine ev_pos d4 ?_
    by_cases z0 : (es[i].f3.length : Int) = 0
    · exact ev_pos z0 (Ev.now _)
    refine ev_neg z0 ?_
    refine ev_bind0 a5 ?_
    obtain ⟨p, hp⟩ : ∃ p : Nat, Int.tmod v5 (es[i].f3.length : Int) = (p : Int) := ⟨(Int.tmod v5 (es[i].f3.length : Int)).toNat, by have := Int.tmod_nonneg (es[i].f3.length : Int) b5; omega⟩
    have hpl : p < es[i].f3.length := by have := Int.tmod_lt_of_pos v5 (show 0 < (es[i].f3.length : Int) by omega); omega
    have hr : rd_T100 es[i].f3 (p : Int) = es[i].f3[p] := getD_at hpl _
    simp only [hp]
    refine ev_pos (by omega) (ev_pos (by omega) ?_)
    refine j2_ok hl hB e1 ch hil _ _ _ _ ⟨hsm.B.1, by show ((List.set _ _ _).length : Int) ≤ 1048576; rw [List.length_set]; exact hsm.B.2⟩ (enums_lines _ _ _ _ _ (List.length_set ..).symm (lnums_one _ p hpl _ ?_))
    simp only [hr]
    exact One.here _ (by_ne _ _ b3 c3)
  refine ev_neg d4 ?_
  have := Int.tmod_nonneg 5 (show 0 ≤ v4 by omega)
  have := Int.tmod_lt_of_pos v4 (show (0 : Int) < 5 by decide)
  omega
end Go.Proofs.Ytkkdmmefnicmaaa.Pure
