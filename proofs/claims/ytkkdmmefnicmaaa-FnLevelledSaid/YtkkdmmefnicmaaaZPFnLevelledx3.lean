/- Lines by a program (a changed copy of the kit's print: this repo's wip/tools): Go functions as Lean functions, and proofs that the calls answer so. -/
import Derived.Test.YtkkdmmefnicmaaaZPFnLevelledx0
import Derived.Test.YtkkdmmefnicmaaaZPFnLevelledx1
namespace Go.Proofs.Ytkkdmmefnicmaaa.PFnLevelled
open Go.RowKit Go.Proofs.YtkkdmmefnicmaaaW.PrintWords Go.Proofs.YtkkdmmefnicmaaaW.PrintLast Go.Proofs.YtkkdmmefnicmaaaW.PrintMore
attribute [local go_sem] max2_int min2_int max_two min_two max_three min_three max_four min_four   -- for this text's walks alone
set_option linter.unusedVariables false
set_option linter.unusedSimpArgs false

/-! ### spec_l1Text: function 94 -/
def spec_l1Text.f : Nat → Int → Option (ByteArray)
 | 0, _ => none
 | k + 1, a0 => if a0 < 0 then ((spec_l1Text.f k (wrap64 (-a0))).bind fun t131 => (if 1 + t131.size ≤ 9223372036854775807 then (some ((⟨#[45]⟩ : ByteArray) ++ t131)) else (none))) else (if a0 < 10 then (if 0 ≤ a0 then (if a0 ≤ (wrap64 (a0 + 1)) then (if (wrap64 (a0 + 1)) ≤ 10 then (some ((⟨#[48, 49, 50, 51, 52, 53, 54, 55, 56, 57]⟩ : ByteArray).extract (a0 : Int).toNat ((wrap64 (a0 + 1)) : Int).toNat)) else (none)) else (none)) else (none)) else ((spec_l1Text.f k (wrap64 (Int.tdiv a0 10))).bind fun t132 => (if 0 ≤ (Int.tmod a0 10) then (if (Int.tmod a0 10) ≤ (wrap64 ((Int.tmod a0 10) + 1)) then (if (wrap64 ((Int.tmod a0 10) + 1)) ≤ 10 then (if t132.size + ((⟨#[48, 49, 50, 51, 52, 53, 54, 55, 56, 57]⟩ : ByteArray).extract ((Int.tmod a0 10) : Int).toNat ((wrap64 ((Int.tmod a0 10) + 1)) : Int).toNat).size ≤ 9223372036854775807 then (some (t132 ++ ((⟨#[48, 49, 50, 51, 52, 53, 54, 55, 56, 57]⟩ : ByteArray).extract ((Int.tmod a0 10) : Int).toNat ((wrap64 ((Int.tmod a0 10) + 1)) : Int).toNat))) else (none)) else (none)) else (none)) else (none))))
theorem spec_l1Text.mono_l : ∀ k, (∀ y0, LeO (spec_l1Text.f k y0) (spec_l1Text.f (k + 1) y0))
 | 0 => fun _ r h => by simp [spec_l1Text.f] at h
 | k + 1 => by
  have ih0 := spec_l1Text.mono_l k
  ·intro y0
   unfold spec_l1Text.f
   repeat' first
   | (with_reducible exact ih0 _)
   | (with_reducible exact LeO.refl _)
   | (with_reducible exact LeO.none _)
   | (with_reducible refine LeO.ite ?_ ?_)
   | (with_reducible refine LeO.bind ?_ (fun _ => ?_))
   | exact ih0 _
   | exact LeO.none _
   | refine LeO.ite ?_ ?_
   | refine LeO.bind ?_ (fun _ => ?_)
theorem spec_l1Text.mono : ∀ a0 k, LeO (spec_l1Text.f k a0) (spec_l1Text.f (k + 1) a0) := by
 intro a0 k
 have ih0 := spec_l1Text.mono_l k
 exact ih0 a0
def spec_l1Text.T5 : Bool × List (List Nat × List Nat) := (true, [([], []), ([0], [0]), ([1], [1]), ([], []), ([3], [3]), ([], []), ([5], [5]), ([6], [6]), ([4, 7], [4, 7]), ([2, 8], [2, 8]), ([9, 2, 0, 1, 2, 3, 4, 5, 6, 7, 8, 9], [9])])
def spec_l1Text.B5 : List Nat := [0, 1, 3, 0, 8, 0, 32, 96, 248, 511, 1023]
theorem spec_l1Text.tab5 : rtab .any (opsOf Try.f94 5) = spec_l1Text.T5 := by kernel_rfl
theorem spec_l1Text.bits5 : waitsOk spec_l1Text.T5.2 spec_l1Text.B5 = true := by kernel_rfl
set_option maxHeartbeats 8000000 in
set_option maxRecDepth 100000 in
theorem spec_l1Text.calls (k : Nat) : ∀ (a0 : Int) (r : ByteArray) (w : World) (h : spec_l1Text.f k a0 = some r),
  Calls Try.prog 94 #[.int .i64 a0] w fun e w' => e = .returned (.string r) ∧ Below w.heap.size w w' := by
 induction k using Nat.strongRecOn with
 | _ k ih =>
 intro a0 r w h
 cases k with
 | zero => exact absurd h (by simp [spec_l1Text.f])
 | succ k =>
 simp only [spec_l1Text.f] at h
 have HB := Aside0.mk (Below.refl w.heap.size w)
 have H : (if a0 < 0 then ((spec_l1Text.f k (wrap64 (-a0))).bind fun t131 => (if 1 + t131.size ≤ 9223372036854775807 then (some ((⟨#[45]⟩ : ByteArray) ++ t131)) else (none))) else (if a0 < 10 then (if 0 ≤ a0 then (if a0 ≤ (wrap64 (a0 + 1)) then (if (wrap64 (a0 + 1)) ≤ 10 then (some ((⟨#[48, 49, 50, 51, 52, 53, 54, 55, 56, 57]⟩ : ByteArray).extract (a0 : Int).toNat ((wrap64 (a0 + 1)) : Int).toNat)) else (none)) else (none)) else (none)) else ((spec_l1Text.f k (wrap64 (Int.tdiv a0 10))).bind fun t132 => (if 0 ≤ (Int.tmod a0 10) then (if (Int.tmod a0 10) ≤ (wrap64 ((Int.tmod a0 10) + 1)) then (if (wrap64 ((Int.tmod a0 10) + 1)) ≤ 10 then (if t132.size + ((⟨#[48, 49, 50, 51, 52, 53, 54, 55, 56, 57]⟩ : ByteArray).extract ((Int.tmod a0 10) : Int).toNat ((wrap64 ((Int.tmod a0 10) + 1)) : Int).toNat).size ≤ 9223372036854775807 then (some (t132 ++ ((⟨#[48, 49, 50, 51, 52, 53, 54, 55, 56, 57]⟩ : ByteArray).extract ((Int.tmod a0 10) : Int).toNat ((wrap64 ((Int.tmod a0 10) + 1)) : Int).toNat))) else (none)) else (none)) else (none)) else (none))))) = some r := h
 clear h
 by_cases c2 : a0 < 0
 ·rw [if_pos c2] at H
  have c2b0 : decide (a0 < 0) = true := decide_eq_true c2
  clear c2
  replace H := Option.bind_eq_some_iff.mp H
  obtain ⟨t131, A30, H⟩ := H
  replace H : (if 1 + t131.size ≤ 9223372036854775807 then (some ((⟨#[45]⟩ : ByteArray) ++ t131)) else (none)) = some r := H
  have A3 := Aside0.mk A30
  clear A30
  by_cases c4 : 1 + t131.size ≤ 9223372036854775807
  case neg => rw [if_neg c4] at H; exact absurd H (by simp)
  rw [if_pos c4] at H
  have c4b0 := eq_true c4
  have c4b1 : decide (1 + t131.size ≤ 9223372036854775807) = true := decide_eq_true c4
  try have c4b2 : (9223372036854775807 < 1 + t131.size) = False := eq_false (Nat.not_lt.2 c4)
  obtain rfl := Option.some.inj H
  go_enter Try.func94, Try.ntmps94
  go_wp2_with (first | ((with_reducible refine qs0 (f := 94) rfl ?_); refine qk1 (some 7) rfl rfl Try.func94 (by kernel_rfl) rfl #[.int .i64 (wrap64 (-a0))] rfl (by (try simp only [List.map_toArray, List.map_cons, List.map_nil]); first | done | rfl | (simp only [List.length_drop, List.length_take]; rfl)) ?_; (with_reducible refine (ih k (by omega) (wrap64 (-a0)) t131 _ A3.out).mono ?_); rintro e w5 ⟨rfl, hb⟩; refine ⟨_, rfl, ?_⟩; have n0_ := Aside0.mk (qk0 (by repeat (first | (with_reducible first | exact HB.out | apply qc0 | apply qa0 | apply qd0) | exact HB.out)) hb); clear HB; have HB := n0_; clear n0_; (try clear hb); (try clear hb2); (try clear hk); (try clear hi)))
  go_ret
  exact ⟨by first | rfl | (simp [errW_none, errW_some] <;> rfl) | (simp [*, errW_none, errW_some] <;> rfl), by repeat (first | (with_reducible first | exact HB.out | apply qc0 | apply qa0 | apply qd0) | exact HB.out)⟩
 rw [if_neg c2] at H
 have c2b0 : decide (a0 < 0) = false := decide_eq_false c2
 clear c2
 by_cases c6 : a0 < 10
 ·rw [if_pos c6] at H
  have c6b0 : decide (a0 < 10) = true := decide_eq_true c6
  clear c6
  by_cases c7 : 0 ≤ a0
  case neg => rw [if_neg c7] at H; exact absurd H (by simp)
  rw [if_pos c7] at H
  have c7b0 := eq_true c7
  have c7b1 : decide (0 ≤ a0) = true := decide_eq_true c7
  clear c7
  by_cases c8 : a0 ≤ (wrap64 (a0 + 1))
  case neg => rw [if_neg c8] at H; exact absurd H (by simp)
  rw [if_pos c8] at H
  have c8b0 := eq_true c8
  have c8b1 : decide (a0 ≤ (wrap64 (a0 + 1))) = true := decide_eq_true c8
  by_cases c9 : (wrap64 (a0 + 1)) ≤ 10
  case neg => rw [if_neg c9] at H; exact absurd H (by simp)
  rw [if_pos c9] at H
  have c9b0 := eq_true c9
  have c9b1 : decide ((wrap64 (a0 + 1)) ≤ 10) = true := decide_eq_true c9
  obtain rfl := Option.some.inj H
  go_enter Try.func94, Try.ntmps94
  go_wp2
  go_ret
  exact ⟨by first | rfl | (simp [errW_none, errW_some] <;> rfl) | (simp [*, errW_none, errW_some] <;> rfl), by repeat (first | (with_reducible first | exact HB.out | apply qc0 | apply qa0 | apply qd0) | exact HB.out)⟩
 rw [if_neg c6] at H
 have c6b0 : decide (a0 < 10) = false := decide_eq_false c6
 clear c6
 replace H := Option.bind_eq_some_iff.mp H
 obtain ⟨t132, A100, H⟩ := H
 replace H : (if 0 ≤ (Int.tmod a0 10) then (if (Int.tmod a0 10) ≤ (wrap64 ((Int.tmod a0 10) + 1)) then (if (wrap64 ((Int.tmod a0 10) + 1)) ≤ 10 then (if t132.size + ((⟨#[48, 49, 50, 51, 52, 53, 54, 55, 56, 57]⟩ : ByteArray).extract ((Int.tmod a0 10) : Int).toNat ((wrap64 ((Int.tmod a0 10) + 1)) : Int).toNat).size ≤ 9223372036854775807 then (some (t132 ++ ((⟨#[48, 49, 50, 51, 52, 53, 54, 55, 56, 57]⟩ : ByteArray).extract ((Int.tmod a0 10) : Int).toNat ((wrap64 ((Int.tmod a0 10) + 1)) : Int).toNat))) else (none)) else (none)) else (none)) else (none)) = some r := H
 have A10 := Aside0.mk A100
 clear A100
 obtain ⟨ji11, hji11⟩ : ∃ j_ : Int, (Int.tmod a0 10) = j_ := ⟨_, rfl⟩
 replace H : (if 0 ≤ (ji11) then (if (ji11) ≤ (wrap64 ((ji11) + 1)) then (if (wrap64 ((ji11) + 1)) ≤ 10 then (if t132.size + ((⟨#[48, 49, 50, 51, 52, 53, 54, 55, 56, 57]⟩ : ByteArray).extract ((ji11) : Int).toNat ((wrap64 ((ji11) + 1)) : Int).toNat).size ≤ 9223372036854775807 then (some (t132 ++ ((⟨#[48, 49, 50, 51, 52, 53, 54, 55, 56, 57]⟩ : ByteArray).extract ((ji11) : Int).toNat ((wrap64 ((ji11) + 1)) : Int).toNat))) else (none)) else (none)) else (none)) else (none)) = some r := by first | (rw [hji11] at H; exact H) | (simp only [hji11] at H ⊢; exact H)
 (try rw [hji11] at A10)
 by_cases c12 : 0 ≤ (ji11)
 case neg => rw [if_neg c12] at H; exact absurd H (by simp)
 rw [if_pos c12] at H
 have c12b0 := eq_true c12
 have c12b1 : decide (0 ≤ (ji11)) = true := decide_eq_true c12
 clear c12
 by_cases c13 : (ji11) ≤ (wrap64 ((ji11) + 1))
 case neg => rw [if_neg c13] at H; exact absurd H (by simp)
 rw [if_pos c13] at H
 have c13b0 := eq_true c13
 have c13b1 : decide ((ji11) ≤ (wrap64 ((ji11) + 1))) = true := decide_eq_true c13
 by_cases c14 : (wrap64 ((ji11) + 1)) ≤ 10
 case neg => rw [if_neg c14] at H; exact absurd H (by simp)
 rw [if_pos c14] at H
 have c14b0 := eq_true c14
 have c14b1 : decide ((wrap64 ((ji11) + 1)) ≤ 10) = true := decide_eq_true c14
 by_cases c15 : t132.size + ((⟨#[48, 49, 50, 51, 52, 53, 54, 55, 56, 57]⟩ : ByteArray).extract ((ji11) : Int).toNat ((wrap64 ((ji11) + 1)) : Int).toNat).size ≤ 9223372036854775807
 case neg => rw [if_neg c15] at H; exact absurd H (by simp)
 rw [if_pos c15] at H
 have c15b0 := eq_true c15
 have c15b1 : decide (t132.size + ((⟨#[48, 49, 50, 51, 52, 53, 54, 55, 56, 57]⟩ : ByteArray).extract ((ji11) : Int).toNat ((wrap64 ((ji11) + 1)) : Int).toNat).size ≤ 9223372036854775807) = true := decide_eq_true c15
 try have c15b2 : (9223372036854775807 < t132.size + ((⟨#[48, 49, 50, 51, 52, 53, 54, 55, 56, 57]⟩ : ByteArray).extract ((ji11) : Int).toNat ((wrap64 ((ji11) + 1)) : Int).toNat).size) = False := eq_false (Nat.not_lt.2 c15)
 have c15b3 : (9223372036854775807 < t132.size + ((wrap64 (ji11 + 1)).toNat - ji11.toNat)) = False := eq_false (by have h_ := c15; rw [ByteArray.size_extract] at h_; have h2_ : (⟨#[48, 49, 50, 51, 52, 53, 54, 55, 56, 57]⟩ : ByteArray).size = 10 := rfl; have h3_ := of_eq_true c14b0; omega)
 obtain rfl := Option.some.inj H
 go_enter Try.func94, Try.ntmps94
 try go_wp2
 have n0_ := Aside0.mk (qd0 HB.out)
 clear HB
 have HB := n0_
 clear n0_
 refine start_ (n := 11) (S := fun w' => True) (ds := []) #[false, false, false, false, false, false, false, false, false, false, false] (by kernel_rfl) rfl rfl trivial (fun hHeld => ?_); refine with_tabW spec_l1Text.tab5 spec_l1Text.bits5 (fun HT_ HW_ => ?_)
 generalize w.drew = w16 at HB hHeld ⊢
 refine pure_ (i := 0) (N := some 15) (v := ?_) (a' := ?_) #[true, false, false, false, false, false, false, false, false, false, false] rfl rfl (qf1 HT_.out (by kernel_rfl)) (fun _ _ _ h => h) (Or.inl ⟨by rfl, ?_⟩) ?_ ?_
 rotate_left
 ·intro w'
  go_simp
  with_reducible rfl
 rotate_left
 ·simp only [Act.put, List.setIfInBounds_toArray, List.set_cons_zero, List.set_cons_succ, i64_w, i32_w]
  rfl
 refine pure_ (i := 1) (N := some 16) (v := ?_) (a' := ?_) #[true, true, false, false, false, false, false, false, false, false, false] rfl rfl (qf1 HT_.out (by kernel_rfl)) (fun _ _ _ h => h) (Or.inl ⟨by rfl, ?_⟩) ?_ ?_
 rotate_left
 ·intro w'
  go_simp
  with_reducible rfl
 rotate_left
 ·simp only [Act.put, List.setIfInBounds_toArray, List.set_cons_zero, List.set_cons_succ, i64_w, i32_w]
  rfl
 refine pure_ (i := 3) (N := some 18) (v := ?_) (a' := ?_) #[true, true, false, true, false, false, false, false, false, false, false] rfl rfl (qf1 HT_.out (by kernel_rfl)) (fun _ _ _ h => h) (Or.inl ⟨by rfl, ?_⟩) ?_ ?_
 rotate_left
 ·intro w'
  go_simp
  with_reducible rfl
 rotate_left
 ·simp only [Act.put, List.setIfInBounds_toArray, List.set_cons_zero, List.set_cons_succ, i64_w, i32_w]
  rfl
 refine pure_ (i := 4) (N := some 19) (v := ?_) (a' := ?_) #[true, true, false, true, true, false, false, false, false, false, false] rfl rfl (qf1 HT_.out (by kernel_rfl)) (fun _ _ _ h => h) (Or.inl ⟨by rfl, ?_⟩) ?_ ?_
 rotate_left
 ·intro w'
  go_simp
  with_reducible rfl
 rotate_left
 ·simp only [Act.put, List.setIfInBounds_toArray, List.set_cons_zero, List.set_cons_succ, i64_w, i32_w]
  rfl
 refine pure_ (i := 5) (N := some 20) (v := ?_) (a' := ?_) #[true, true, false, true, true, true, false, false, false, false, false] rfl rfl (qf1 HT_.out (by kernel_rfl)) (fun _ _ _ h => h) (Or.inl ⟨by rfl, ?_⟩) ?_ ?_
 rotate_left
 ·intro w'
  go_simp
  with_reducible rfl
 rotate_left
 ·simp only [Act.put, List.setIfInBounds_toArray, List.set_cons_zero, List.set_cons_succ, i64_w, i32_w]
  rfl
 refine pure_ (i := 6) (N := some 21) (v := ?_) (a' := ?_) #[true, true, false, true, true, true, true, false, false, false, false] rfl rfl (qf1 HT_.out (by kernel_rfl)) (fun _ _ _ h => h) (Or.inl ⟨by rfl, ?_⟩) ?_ ?_
 rotate_left
 ·intro w'
  go_simp
  with_reducible rfl
 rotate_left
 ·simp only [Act.put, List.setIfInBounds_toArray, List.set_cons_zero, List.set_cons_succ, i64_w, i32_w]
  rfl
 refine pure_ (i := 7) (N := some 22) (v := ?_) (a' := ?_) #[true, true, false, true, true, true, true, true, false, false, false] rfl rfl (qf1 HT_.out (by kernel_rfl)) (fun _ _ _ h => h) (Or.inl ⟨by rfl, ?_⟩) ?_ ?_
 rotate_left
 ·intro w'
  go_simp
  with_reducible rfl
 rotate_left
 ·simp only [Act.put, List.setIfInBounds_toArray, List.set_cons_zero, List.set_cons_succ, i64_w, i32_w]
  rfl
 refine pure_ (i := 8) (N := some 23) (v := ?_) (a' := ?_) #[true, true, false, true, true, true, true, true, true, false, false] rfl rfl (qf1 HT_.out (by kernel_rfl)) (fun _ _ _ h => h) (Or.inl ⟨by rfl, ?_⟩) ?_ ?_
 rotate_left
 ·intro w'
  go_simp
  with_reducible rfl
 rotate_left
 ·simp only [Act.put, List.setIfInBounds_toArray, List.set_cons_zero, List.set_cons_succ, i64_w, i32_w]
  rfl
 refine one_ (i := 2) (N := some 17) #[true, true, true, true, true, true, true, true, true, false, false] rfl rfl (one_of HT_.out (by kernel_rfl)) (by decide) (fun K hK => ?_)
 refine goes_ Try.func94 (by kernel_rfl) rfl #[.int .i64 (wrap64 (Int.tdiv a0 10))] (by rfl) rfl rfl (by (try simp only [List.map_toArray, List.map_cons, List.map_nil]); first | done | rfl | (simp only [List.length_drop, List.length_take]; rfl)) ?_
 with_reducible refine (ih k (by omega) (wrap64 (Int.tdiv a0 10)) t132 _ A10.out).mono ?_
 rintro e w17 ⟨rfl, hb⟩
 refine ⟨_, rfl, ?_⟩
 have n0_ := Aside0.mk (qk0 (by repeat (first | (with_reducible first | exact HB.out | apply qc0 | apply qa0 | apply qd0) | exact HB.out)) hb)
 clear HB
 have HB := n0_
 clear n0_
 (try clear hb)
 (try clear hb2)
 (try clear hk)
 (try clear hi)
 refine hK.out _ _ trivial (fun hHeld => ?_)
 clear hK K
 refine norm_ (a' := ?_) ?_ ?_
 rotate_left
 ·show Act.put _ (some 17) _ = _
  simp only [Act.put, List.setIfInBounds_toArray, List.set_cons_zero, List.set_cons_succ, i64_w, i32_w]
  rfl
 refine pure_ (i := 9) (N := some 24) (v := ?_) (a' := ?_) #[true, true, true, true, true, true, true, true, true, true, false] rfl rfl (qf1 HT_.out (by kernel_rfl)) (fun _ _ _ h => h) (Or.inl ⟨by rfl, ?_⟩) ?_ ?_
 rotate_left
 ·intro w'
  go_simp
  with_reducible rfl
 rotate_left
 ·simp only [Act.put, List.setIfInBounds_toArray, List.set_cons_zero, List.set_cons_succ, i64_w, i32_w]
  rfl
 refine pure_ (i := 10) (N := some 2) (v := ?_) (a' := ?_) #[true, true, true, true, true, true, true, true, true, true, true] rfl rfl (qf1 HT_.out (by kernel_rfl)) (fun _ _ _ h => h) (Or.inl ⟨by rfl, ?_⟩) ?_ ?_
 rotate_left
 ·intro w'
  go_simp
  with_reducible rfl
 rotate_left
 ·simp only [Act.put, List.setIfInBounds_toArray, List.set_cons_zero, List.set_cons_succ, i64_w, i32_w]
  rfl
 refine done_ (done_of HT_.out (by kernel_rfl)) ?_
 try go_wp2
 go_ret
 exact ⟨by first | rfl | (simp [errW_none, errW_some] <;> rfl) | (simp only [← hji11]; first | rfl | (simp [errW_none, errW_some] <;> rfl)) | (simp [*, errW_none, errW_some] <;> rfl), by repeat (first | (with_reducible first | exact HB.out | apply qc0 | apply qa0 | apply qd0) | exact HB.out)⟩

/-! ### spec_l17DrawPart: function 137 -/
mutual
def spec_l17DrawPart.j0 : Nat → List Int → Int → Int → Int → Int → Int → Int → Int → Int → Option (Int × Int × Int × Int × Int × Int × Int × Int)
 | 0, _, _, _, _, _, _, _, _, _ => none
 | k + 1, x1000, x1001, x1002, x141000, x141001, x141002, x141003, x141004, x141005 => (spec_l1Once.f x1000 x1001 x1002 4).bind fun bt147 => (if bt147.1 = true then ((spec_l1Below.f x1000 bt147.2.1 bt147.2.2 100).bind fun bt150 => ((spec_l1Below.f x1000 bt150.2.1 bt150.2.2 200).bind fun bt153 => (spec_l17DrawPart.j1 k x1000 bt153.2.1 bt153.2.2 x141000 x141001 x141002 bt150.1 (wrap64 (bt150.1 + bt153.1)) x141005))) else (spec_l17DrawPart.j1 k x1000 bt147.2.1 bt147.2.2 x141000 x141001 x141002 x141003 x141004 x141005))
def spec_l17DrawPart.j1 : Nat → List Int → Int → Int → Int → Int → Int → Int → Int → Int → Option (Int × Int × Int × Int × Int × Int × Int × Int)
 | 0, _, _, _, _, _, _, _, _, _ => none
 | k + 1, x1000, x1001, x1002, x141000, x141001, x141002, x141003, x141004, x141005 => (spec_l1Once.f x1000 x1001 x1002 5).bind fun bt156 => (if bt156.1 = true then ((spec_l1Below.f x1000 bt156.2.1 bt156.2.2 2).bind fun bt159 => (some (x141000, x141001, x141002, x141003, x141004, wrap64 (1 + bt159.1), bt159.2.1, bt159.2.2))) else (some (x141000, x141001, x141002, x141003, x141004, x141005, bt156.2.1, bt156.2.2)))
end
def spec_l17DrawPart.f (k : Nat) (s0_0 : List Int) (s0_1 : Int) (s0_2 : Int) (a1 : Int) (a2 : Int) : Option (Int × Int × Int × Int × Int × Int × Int × Int) := (spec_l1Below.f s0_0 s0_1 s0_2 (wrap64 ((wrap64 (a2 - a1)) - 1))).bind fun bt134 => ((spec_l1Below.f s0_0 bt134.2.1 bt134.2.2 5).bind fun bt137 => ((spec_l1Once.f s0_0 bt137.2.1 bt137.2.2 4).bind fun bt141 => (if bt141.1 = true then ((spec_l1Below.f s0_0 bt141.2.1 bt141.2.2 20).bind fun bt144 => (spec_l17DrawPart.j0 k s0_0 bt144.2.1 bt144.2.2 (wrap64 ((wrap64 (a1 + 1)) + bt134.1)) (wrap64 (1 + bt137.1)) bt144.1 0 40000 0)) else (spec_l17DrawPart.j0 k s0_0 bt141.2.1 bt141.2.2 (wrap64 ((wrap64 (a1 + 1)) + bt134.1)) (wrap64 (1 + bt137.1)) 0 0 40000 0))))
theorem spec_l17DrawPart.mono_l : ∀ k, (∀ y0 y1 y2 y3 y4 y5 y6 y7 y8, LeO (spec_l17DrawPart.j0 k y0 y1 y2 y3 y4 y5 y6 y7 y8) (spec_l17DrawPart.j0 (k + 1) y0 y1 y2 y3 y4 y5 y6 y7 y8)) ∧ (∀ y0 y1 y2 y3 y4 y5 y6 y7 y8, LeO (spec_l17DrawPart.j1 k y0 y1 y2 y3 y4 y5 y6 y7 y8) (spec_l17DrawPart.j1 (k + 1) y0 y1 y2 y3 y4 y5 y6 y7 y8))
 | 0 => ⟨fun _ _ _ _ _ _ _ _ _ r h => by simp [spec_l17DrawPart.j0] at h, fun _ _ _ _ _ _ _ _ _ r h => by simp [spec_l17DrawPart.j1] at h⟩
 | k + 1 => by
  obtain ⟨ih0, ih1⟩ := spec_l17DrawPart.mono_l k
  refine ⟨?_, ?_⟩
  ·intro y0 y1 y2 y3 y4 y5 y6 y7 y8
   unfold spec_l17DrawPart.j0
   repeat' first
   | (with_reducible exact ih0 _ _ _ _ _ _ _ _ _)
   | (with_reducible exact ih1 _ _ _ _ _ _ _ _ _)
   | (with_reducible exact LeO.refl _)
   | (with_reducible exact LeO.none _)
   | (with_reducible refine LeO.ite ?_ ?_)
   | (with_reducible refine LeO.bind ?_ (fun _ => ?_))
   | exact ih0 _ _ _ _ _ _ _ _ _
   | exact ih1 _ _ _ _ _ _ _ _ _
   | exact LeO.none _
   | refine LeO.ite ?_ ?_
   | refine LeO.bind ?_ (fun _ => ?_)
  ·intro y0 y1 y2 y3 y4 y5 y6 y7 y8
   unfold spec_l17DrawPart.j1
   repeat' first
   | (with_reducible exact ih0 _ _ _ _ _ _ _ _ _)
   | (with_reducible exact ih1 _ _ _ _ _ _ _ _ _)
   | (with_reducible exact LeO.refl _)
   | (with_reducible exact LeO.none _)
   | (with_reducible refine LeO.ite ?_ ?_)
   | (with_reducible refine LeO.bind ?_ (fun _ => ?_))
   | exact ih0 _ _ _ _ _ _ _ _ _
   | exact ih1 _ _ _ _ _ _ _ _ _
   | exact LeO.none _
   | refine LeO.ite ?_ ?_
   | refine LeO.bind ?_ (fun _ => ?_)
theorem spec_l17DrawPart.mono : ∀ a0 a1 a2 a3 a4 k, LeO (spec_l17DrawPart.f k a0 a1 a2 a3 a4) (spec_l17DrawPart.f (k + 1) a0 a1 a2 a3 a4) := by
 intro a0 a1 a2 a3 a4 k
 obtain ⟨ih0, ih1⟩ := spec_l17DrawPart.mono_l k
 unfold spec_l17DrawPart.f
 repeat' first
   | (with_reducible exact ih0 _ _ _ _ _ _ _ _ _)
   | (with_reducible exact ih1 _ _ _ _ _ _ _ _ _)
   | (with_reducible exact LeO.refl _)
   | (with_reducible exact LeO.none _)
   | (with_reducible refine LeO.ite ?_ ?_)
   | (with_reducible refine LeO.bind ?_ (fun _ => ?_))
   | exact ih0 _ _ _ _ _ _ _ _ _
   | exact ih1 _ _ _ _ _ _ _ _ _
   | exact LeO.none _
   | refine LeO.ite ?_ ?_
   | refine LeO.bind ?_ (fun _ => ?_)
set_option maxHeartbeats 8000000 in
set_option maxRecDepth 100000 in
theorem spec_l17DrawPart.calls (k : Nat) (g : Nat) (s0_0 : List Int) (s0_1 : Int) (s0_2 : Int) (a1 : Int) (a2 : Int) (r1 : Int) (r2 : Int) (r3 : Int) (r4 : Int) (r5 : Int) (r6 : Int) (r7 : Int) (r8 : Int) (w0 w : World) (hI : IsS186 w0 w g s0_0 s0_1 s0_2) (hB : Below w0.heap.size w0 w) (h : spec_l17DrawPart.f k s0_0 s0_1 s0_2 a1 a2 = some (r1, r2, r3, r4, r5, r6, r7, r8)) :
  Calls Try.prog 137 #[.pointer (some ⟨g, 0, none⟩), .int .i64 a1, .int .i64 a2] w fun e w' => e = .returned (.agg #[.int .i64 r1, .int .i64 r2, .int .i64 r3, .int .i64 r4, .int .i64 r5, .int .i64 r6]) ∧ IsS186 w0 w' g s0_0 r7 r8 ∧ Below w0.heap.size w0 w' ∧ qj0 w w' g none := by
 have hu54 := Try.underlying54
 have HI0 := Aside0.mk hI
 have HK := Aside0.mk (qj0.refl w g none)
 have HL := Aside0.mk hB.size
 clear hI
 have HW0 := Aside0.mk hB.size
 have HB := Aside0.mk hB
 clear hB
 have H : ((spec_l1Below.f s0_0 s0_1 s0_2 (wrap64 ((wrap64 (a2 - a1)) - 1))).bind fun bt134 => ((spec_l1Below.f s0_0 bt134.2.1 bt134.2.2 5).bind fun bt137 => ((spec_l1Once.f s0_0 bt137.2.1 bt137.2.2 4).bind fun bt141 => (if bt141.1 = true then ((spec_l1Below.f s0_0 bt141.2.1 bt141.2.2 20).bind fun bt144 => (spec_l17DrawPart.j0 k s0_0 bt144.2.1 bt144.2.2 (wrap64 ((wrap64 (a1 + 1)) + bt134.1)) (wrap64 (1 + bt137.1)) bt144.1 0 40000 0)) else (spec_l17DrawPart.j0 k s0_0 bt141.2.1 bt141.2.2 (wrap64 ((wrap64 (a1 + 1)) + bt134.1)) (wrap64 (1 + bt137.1)) 0 0 40000 0))))) = some (r1, r2, r3, r4, r5, r6, r7, r8) := h
 clear h
 replace H := Option.bind_eq_some_iff.mp H
 obtain ⟨⟨t134, t135, t136⟩, A40, H⟩ := H
 replace H : ((spec_l1Below.f s0_0 t135 t136 5).bind fun bt137 => ((spec_l1Once.f s0_0 bt137.2.1 bt137.2.2 4).bind fun bt141 => (if bt141.1 = true then ((spec_l1Below.f s0_0 bt141.2.1 bt141.2.2 20).bind fun bt144 => (spec_l17DrawPart.j0 k s0_0 bt144.2.1 bt144.2.2 (wrap64 ((wrap64 (a1 + 1)) + t134)) (wrap64 (1 + bt137.1)) bt144.1 0 40000 0)) else (spec_l17DrawPart.j0 k s0_0 bt141.2.1 bt141.2.2 (wrap64 ((wrap64 (a1 + 1)) + t134)) (wrap64 (1 + bt137.1)) 0 0 40000 0)))) = some (r1, r2, r3, r4, r5, r6, r7, r8) := H
 have A4 := Aside0.mk A40
 clear A40
 replace H := Option.bind_eq_some_iff.mp H
 obtain ⟨⟨t137, t138, t139⟩, A50, H⟩ := H
 replace H : ((spec_l1Once.f s0_0 t138 t139 4).bind fun bt141 => (if bt141.1 = true then ((spec_l1Below.f s0_0 bt141.2.1 bt141.2.2 20).bind fun bt144 => (spec_l17DrawPart.j0 k s0_0 bt144.2.1 bt144.2.2 (wrap64 ((wrap64 (a1 + 1)) + t134)) (wrap64 (1 + t137)) bt144.1 0 40000 0)) else (spec_l17DrawPart.j0 k s0_0 bt141.2.1 bt141.2.2 (wrap64 ((wrap64 (a1 + 1)) + t134)) (wrap64 (1 + t137)) 0 0 40000 0))) = some (r1, r2, r3, r4, r5, r6, r7, r8) := H
 have A5 := Aside0.mk A50
 clear A50
 replace H := Option.bind_eq_some_iff.mp H
 obtain ⟨⟨t141, t142, t143⟩, A60, H⟩ := H
 replace H : (if t141 = true then ((spec_l1Below.f s0_0 t142 t143 20).bind fun bt144 => (spec_l17DrawPart.j0 k s0_0 bt144.2.1 bt144.2.2 (wrap64 ((wrap64 (a1 + 1)) + t134)) (wrap64 (1 + t137)) bt144.1 0 40000 0)) else (spec_l17DrawPart.j0 k s0_0 t142 t143 (wrap64 ((wrap64 (a1 + 1)) + t134)) (wrap64 (1 + t137)) 0 0 40000 0)) = some (r1, r2, r3, r4, r5, r6, r7, r8) := H
 have A6 := Aside0.mk A60
 clear A60
 have HC7 := Aside0.mk H
 clear H
 go_enter Try.func137, Try.ntmps137
 go_upto_if 22 with (first | ((with_reducible refine qz0 (N := 6) rfl ?_); refine qg1 ?hg (N := 6) ?hd (cs := #[.int .i64 0, .int .i64 0, .int .i64 0, .int .i64 0, .int .i64 0, .int .i64 0]) (t := 54) ?hr ?_; (case hd => rfl); (case hg => rfl); (case hr => first | (go_simp; done) | (go_simp; rfl)); intro gb133 hg w8 hbox hb; have n0_ := Aside0.mk (IsS186.below (by repeat (first | (with_reducible first | exact HI0.out | apply IsS186.alloc | apply IsS186.drewN | apply IsS186.drew | apply IsS186.set_1 | apply IsS186.set_2) | exact HI0.out)) hb); have n1_ := Aside0.mk (qj0.trans (by repeat (first | (with_reducible first | exact HK.out | apply qj0.set_ | apply qp0 | apply qr0 | apply qq0) | exact HK.out)) (qj0.of_below hb g none) (.inl rfl)); have n2_ := Aside0.mk (qk0 (by repeat (first | (with_reducible first | exact HB.out | apply qc0 | apply qa0 | apply qd0 | refine qi0 ?_ (IsS186.ge HI0.out)) | exact HB.out)) hb); have n3_ := Aside0.mk (hbox); have n4_ := Aside0.mk ((by rw [hg]; exact (keep_size (w := w) (g := g) (row := none) (by repeat (first | (with_reducible first | exact HK.out | apply qj0.set_ | apply qp0 | apply qr0 | apply qq0) | exact HK.out))) : w.heap.size ≤ gb133)); have n5_ := Aside0.mk ((Nat.le_trans HW0.out (by rw [hg]; exact (keep_size (w := w) (g := g) (row := none) (by repeat (first | (with_reducible first | exact HK.out | apply qj0.set_ | apply qp0 | apply qr0 | apply qq0) | exact HK.out))) : w.heap.size ≤ gb133) : w0.heap.size ≤ gb133)); have n6_ := Aside0.mk ((by rw [hg]; exact Nat.ne_of_lt (IsS186.lt (show IsS186 w0 _ g s0_0 s0_1 s0_2 from by repeat (first | (with_reducible first | exact HI0.out | apply IsS186.alloc | apply IsS186.drewN | apply IsS186.drew | apply IsS186.set_1 | apply IsS186.set_2) | exact HI0.out))) : g ≠ gb133)); have n7_ := Aside0.mk ((by rw [hg]; exact Nat.ne_of_gt (IsS186.lt (show IsS186 w0 _ g s0_0 s0_1 s0_2 from by repeat (first | (with_reducible first | exact HI0.out | apply IsS186.alloc | apply IsS186.drewN | apply IsS186.drew | apply IsS186.set_1 | apply IsS186.set_2) | exact HI0.out))) : gb133 ≠ g)); clear HI0; clear HK; clear HB; have HI0 := n0_; have HK := n1_; have HB := n2_; have BK133 := n3_; have GW133 := n4_; have GE133 := n5_; have NB0_133 := n6_; have NB133_0 := n7_; clear n0_ n1_ n2_ n3_ n4_ n5_ n6_ n7_; clear hb hbox hg) | ((with_reducible refine qs0 (f := 61) rfl ?_); refine qk1 (some 15) rfl rfl Try.func61 (by kernel_rfl) rfl #[.pointer (some ⟨g, 0, none⟩), .int .i64 (wrap64 ((wrap64 (a2 - a1)) - 1))] rfl (by (try simp only [List.map_toArray, List.map_cons, List.map_nil]); first | done | rfl | (simp only [List.length_drop, List.length_take]; rfl)) ?_; (with_reducible refine (spec_l1Below.calls g s0_0 s0_1 s0_2 (wrap64 ((wrap64 (a2 - a1)) - 1)) t134 t135 t136 w0 _ ?side1 ?side2 A4.out).mono ?_); (case side1 => repeat (first | (with_reducible first | exact HI0.out | apply IsS186.alloc | apply IsS186.drewN | apply IsS186.drew | apply IsS186.set_1 | apply IsS186.set_2 | refine IsS186.far ?_ NB0_133.out _) | exact HI0.out)); (case side2 => repeat (first | (with_reducible first | exact HB.out | apply qc0 | apply qa0 | apply qd0 | refine qi0 ?_ (IsS186.ge HI0.out) | refine qi0 ?_ GE133.out) | exact HB.out)); rintro e w9 ⟨rfl, hi, hb, hk⟩; refine ⟨_, rfl, ?_⟩; have n0_ := Aside0.mk (qj0.blk hk (g' := gb133) (o := .cells #[.int .i64 0, .int .i64 0, .int .i64 0, .int .i64 0, .int .i64 0, .int .i64 0] 54 (0, 0)) (by (with_reducible repeat (first | refine qg0 ?_ _ | refine qh0 ?_ | refine qf0 ?_ _)); exact BK133.out) NB133_0.out (by simp)); have n1_ := Aside0.mk (qj0.trans (by repeat (first | (with_reducible first | exact HK.out | apply qj0.set_ | apply qp0 | apply qr0 | apply qq0 | refine qu0 ?_ GW133.out _) | exact HK.out)) hk (.inl rfl)); have n2_ := Aside0.mk (hb); have n3_ := Aside0.mk (hi); clear BK133; clear HK; clear HB; clear HI0; have BK133 := n0_; have HK := n1_; have HB := n2_; have HI0 := n3_; clear n0_ n1_ n2_ n3_; (try clear hb); (try clear hb2); (try clear hk); (try clear hi)) | ((with_reducible refine qs0 (f := 61) rfl ?_); refine qk1 (some 18) rfl rfl Try.func61 (by kernel_rfl) rfl #[.pointer (some ⟨g, 0, none⟩), .int .i64 5] rfl (by (try simp only [List.map_toArray, List.map_cons, List.map_nil]); first | done | rfl | (simp only [List.length_drop, List.length_take]; rfl)) ?_; (with_reducible refine (spec_l1Below.calls g s0_0 t135 t136 5 t137 t138 t139 w0 _ ?side1 ?side2 A5.out).mono ?_); (case side1 => repeat (first | (with_reducible first | exact HI0.out | apply IsS186.alloc | apply IsS186.drewN | apply IsS186.drew | apply IsS186.set_1 | apply IsS186.set_2 | refine IsS186.far ?_ NB0_133.out _) | exact HI0.out)); (case side2 => repeat (first | (with_reducible first | exact HB.out | apply qc0 | apply qa0 | apply qd0 | refine qi0 ?_ (IsS186.ge HI0.out) | refine qi0 ?_ GE133.out) | exact HB.out)); rintro e w10 ⟨rfl, hi, hb, hk⟩; refine ⟨_, rfl, ?_⟩; have n0_ := Aside0.mk (qj0.blk hk (g' := gb133) (o := .cells #[.int .i64 0, .int .i64 0, .int .i64 0, .int .i64 0, .int .i64 0, .int .i64 0] 54 (0, 0)) (by (with_reducible repeat (first | refine qg0 ?_ _ | refine qh0 ?_ | refine qf0 ?_ _)); exact BK133.out) NB133_0.out (by simp)); have n1_ := Aside0.mk (qj0.trans (by repeat (first | (with_reducible first | exact HK.out | apply qj0.set_ | apply qp0 | apply qr0 | apply qq0 | refine qu0 ?_ GW133.out _) | exact HK.out)) hk (.inl rfl)); have n2_ := Aside0.mk (hb); have n3_ := Aside0.mk (hi); clear BK133; clear HK; clear HB; clear HI0; have BK133 := n0_; have HK := n1_; have HB := n2_; have HI0 := n3_; clear n0_ n1_ n2_ n3_; (try clear hb); (try clear hb2); (try clear hk); (try clear hi)) | ((with_reducible refine qz0 (N := 7) rfl ?_); refine qg1 ?hg (N := 7) ?hd (cs := #[.int .i64 0, .int .i64 0, .int .i64 0, .int .i64 0, .int .i64 0, .int .i64 0]) (t := 54) ?hr ?_; (case hd => rfl); (case hg => rfl); (case hr => first | (go_simp; done) | (go_simp; rfl)); intro gb140 hg w11 hbox hb; have n0_ := Aside0.mk (IsS186.below (by repeat (first | (with_reducible first | exact HI0.out | apply IsS186.alloc | apply IsS186.drewN | apply IsS186.drew | apply IsS186.set_1 | apply IsS186.set_2 | refine IsS186.far ?_ NB0_133.out _) | exact HI0.out)) hb); have n1_ := Aside0.mk (qh1 (g := gb133) (o := .cells #[.int .i64 0, .int .i64 0, .int .i64 0, .int .i64 0, .int .i64 0, .int .i64 0] 54 (0, 0)) (by (with_reducible repeat (first | refine qg0 ?_ _ | refine qh0 ?_ | refine qf0 ?_ _)); exact BK133.out) hb); have n2_ := Aside0.mk (qj0.trans (by repeat (first | (with_reducible first | exact HK.out | apply qj0.set_ | apply qp0 | apply qr0 | apply qq0 | refine qu0 ?_ GW133.out _) | exact HK.out)) (qj0.of_below hb g none) (.inl rfl)); have n3_ := Aside0.mk (qk0 (by repeat (first | (with_reducible first | exact HB.out | apply qc0 | apply qa0 | apply qd0 | refine qi0 ?_ (IsS186.ge HI0.out) | refine qi0 ?_ GE133.out) | exact HB.out)) hb); have n4_ := Aside0.mk (hbox); have n5_ := Aside0.mk ((by rw [hg]; exact (keep_size (w := w) (g := g) (row := none) (by repeat (first | (with_reducible first | exact HK.out | apply qj0.set_ | apply qp0 | apply qr0 | apply qq0 | refine qu0 ?_ GW133.out _) | exact HK.out))) : w.heap.size ≤ gb140)); have n6_ := Aside0.mk ((Nat.le_trans HW0.out (by rw [hg]; exact (keep_size (w := w) (g := g) (row := none) (by repeat (first | (with_reducible first | exact HK.out | apply qj0.set_ | apply qp0 | apply qr0 | apply qq0 | refine qu0 ?_ GW133.out _) | exact HK.out))) : w.heap.size ≤ gb140) : w0.heap.size ≤ gb140)); have n7_ := Aside0.mk ((by rw [hg]; exact Nat.ne_of_lt (qz1 (g := gb133) (o := .cells #[.int .i64 0, .int .i64 0, .int .i64 0, .int .i64 0, .int .i64 0, .int .i64 0] 54 (0, 0)) (by (with_reducible repeat (first | refine qg0 ?_ _ | refine qh0 ?_ | refine qf0 ?_ _)); exact BK133.out)) : gb133 ≠ gb140)); have n8_ := Aside0.mk ((by rw [hg]; exact Nat.ne_of_gt (qz1 (g := gb133) (o := .cells #[.int .i64 0, .int .i64 0, .int .i64 0, .int .i64 0, .int .i64 0, .int .i64 0] 54 (0, 0)) (by (with_reducible repeat (first | refine qg0 ?_ _ | refine qh0 ?_ | refine qf0 ?_ _)); exact BK133.out)) : gb140 ≠ gb133)); have n9_ := Aside0.mk ((by rw [hg]; exact Nat.ne_of_lt (IsS186.lt (show IsS186 w0 _ g s0_0 t138 t139 from by repeat (first | (with_reducible first | exact HI0.out | apply IsS186.alloc | apply IsS186.drewN | apply IsS186.drew | apply IsS186.set_1 | apply IsS186.set_2 | refine IsS186.far ?_ NB0_133.out _) | exact HI0.out))) : g ≠ gb140)); have n10_ := Aside0.mk ((by rw [hg]; exact Nat.ne_of_gt (IsS186.lt (show IsS186 w0 _ g s0_0 t138 t139 from by repeat (first | (with_reducible first | exact HI0.out | apply IsS186.alloc | apply IsS186.drewN | apply IsS186.drew | apply IsS186.set_1 | apply IsS186.set_2 | refine IsS186.far ?_ NB0_133.out _) | exact HI0.out))) : gb140 ≠ g)); clear HI0; clear BK133; clear HK; clear HB; have HI0 := n0_; have BK133 := n1_; have HK := n2_; have HB := n3_; have BK140 := n4_; have GW140 := n5_; have GE140 := n6_; have NB133_140 := n7_; have NB140_133 := n8_; have NB0_140 := n9_; have NB140_0 := n10_; clear n0_ n1_ n2_ n3_ n4_ n5_ n6_ n7_ n8_ n9_ n10_; clear hb hbox hg; have hnb12 := NB140_133.out; have hnc12 := NB133_140.out; have hnb13 := NB140_0.out; have hnc13 := NB0_140.out; have hcz14_0 : w11.cell? ⟨gb140, 0, none⟩ = some (.int .i64 0) := (qe0 BK140.out 0).trans rfl; have hcz14_1 : w11.cell? ⟨gb140, 1, none⟩ = some (.int .i64 0) := (qe0 BK140.out 1).trans rfl; have hcz14_2 : w11.cell? ⟨gb140, 2, none⟩ = some (.int .i64 0) := (qe0 BK140.out 2).trans rfl; have hcz14_3 : w11.cell? ⟨gb140, 3, none⟩ = some (.int .i64 0) := (qe0 BK140.out 3).trans rfl; have hcz14_4 : w11.cell? ⟨gb140, 4, none⟩ = some (.int .i64 0) := (qe0 BK140.out 4).trans rfl; have hcz14_5 : w11.cell? ⟨gb140, 5, none⟩ = some (.int .i64 0) := (qe0 BK140.out 5).trans rfl; have hfz14_0 := qb0 BK140.out 0; have hfz14_1 := qb0 BK140.out 1; have hfz14_2 := qb0 BK140.out 2; have hfz14_3 := qb0 BK140.out 3; have hfz14_4 := qb0 BK140.out 4; have hfz14_5 := qb0 BK140.out 5) | ((with_reducible refine qs0 (f := 63) rfl ?_); refine qk1 (some 22) rfl rfl Try.func63 (by kernel_rfl) rfl #[.pointer (some ⟨g, 0, none⟩), .int .i64 4] rfl (by (try simp only [List.map_toArray, List.map_cons, List.map_nil]); first | done | rfl | (simp only [List.length_drop, List.length_take]; rfl)) ?_; (with_reducible refine (spec_l1Once.calls g s0_0 t138 t139 4 t141 t142 t143 w0 _ ?side1 ?side2 A6.out).mono ?_); (case side1 => repeat (first | (with_reducible first | exact HI0.out | apply IsS186.alloc | apply IsS186.drewN | apply IsS186.drew | apply IsS186.set_1 | apply IsS186.set_2 | refine IsS186.far ?_ NB0_133.out _ | refine IsS186.far ?_ NB0_140.out _) | exact HI0.out)); (case side2 => repeat (first | (with_reducible first | exact HB.out | apply qc0 | apply qa0 | apply qd0 | refine qi0 ?_ (IsS186.ge HI0.out) | refine qi0 ?_ GE133.out | refine qi0 ?_ GE140.out) | exact HB.out)); rintro e w15 ⟨rfl, hi, hb, hk⟩; refine ⟨_, rfl, ?_⟩; have n0_ := Aside0.mk (qj0.blk hk (g' := gb133) (o := .cells #[.int .i64 0, .int .i64 0, .int .i64 0, .int .i64 0, .int .i64 0, .int .i64 0] 54 (0, 0)) (by (with_reducible repeat (first | refine qg0 ?_ _ | refine qh0 ?_ | refine qf0 ?_ _)); refine qe1 ?_ NB133_140.out _; (with_reducible repeat (first | refine qg0 ?_ _ | refine qh0 ?_ | refine qf0 ?_ _)); refine qe1 ?_ NB133_140.out _; (with_reducible repeat (first | refine qg0 ?_ _ | refine qh0 ?_ | refine qf0 ?_ _)); refine qe1 ?_ NB133_140.out _; (with_reducible repeat (first | refine qg0 ?_ _ | refine qh0 ?_ | refine qf0 ?_ _)); refine qe1 ?_ NB133_140.out _; (with_reducible repeat (first | refine qg0 ?_ _ | refine qh0 ?_ | refine qf0 ?_ _)); refine qe1 ?_ NB133_140.out _; (with_reducible repeat (first | refine qg0 ?_ _ | refine qh0 ?_ | refine qf0 ?_ _)); refine qe1 ?_ NB133_140.out _; (with_reducible repeat (first | refine qg0 ?_ _ | refine qh0 ?_ | refine qf0 ?_ _)); exact BK133.out) NB133_0.out (by simp)); have n1_ := Aside0.mk (qj0.blk hk (g' := gb140) (o := .cells #[.int .i64 (wrap64 ((wrap64 (a1 + 1)) + t134)), .int .i64 (wrap64 (1 + t137)), .int .i64 0, .int .i64 0, .int .i64 40000, .int .i64 0] 54 (0, 0)) (by (with_reducible repeat (first | refine qg0 ?_ _ | refine qh0 ?_ | refine qf0 ?_ _)); refine ql0 (cs := #[.int .i64 (wrap64 ((wrap64 (a1 + 1)) + t134)), .int .i64 (wrap64 (1 + t137)), .int .i64 0, .int .i64 0, .int .i64 40000, .int .i64 0]) ?_ 5 _ rfl; (with_reducible repeat (first | refine qg0 ?_ _ | refine qh0 ?_ | refine qf0 ?_ _)); refine ql0 (cs := #[.int .i64 (wrap64 ((wrap64 (a1 + 1)) + t134)), .int .i64 (wrap64 (1 + t137)), .int .i64 0, .int .i64 0, .int .i64 0, .int .i64 0]) ?_ 4 _ rfl; (with_reducible repeat (first | refine qg0 ?_ _ | refine qh0 ?_ | refine qf0 ?_ _)); refine ql0 (cs := #[.int .i64 (wrap64 ((wrap64 (a1 + 1)) + t134)), .int .i64 (wrap64 (1 + t137)), .int .i64 0, .int .i64 0, .int .i64 0, .int .i64 0]) ?_ 3 _ rfl; (with_reducible repeat (first | refine qg0 ?_ _ | refine qh0 ?_ | refine qf0 ?_ _)); refine ql0 (cs := #[.int .i64 (wrap64 ((wrap64 (a1 + 1)) + t134)), .int .i64 (wrap64 (1 + t137)), .int .i64 0, .int .i64 0, .int .i64 0, .int .i64 0]) ?_ 2 _ rfl; (with_reducible repeat (first | refine qg0 ?_ _ | refine qh0 ?_ | refine qf0 ?_ _)); refine ql0 (cs := #[.int .i64 (wrap64 ((wrap64 (a1 + 1)) + t134)), .int .i64 0, .int .i64 0, .int .i64 0, .int .i64 0, .int .i64 0]) ?_ 1 _ rfl; (with_reducible repeat (first | refine qg0 ?_ _ | refine qh0 ?_ | refine qf0 ?_ _)); refine ql0 (cs := #[.int .i64 0, .int .i64 0, .int .i64 0, .int .i64 0, .int .i64 0, .int .i64 0]) ?_ 0 _ rfl; (with_reducible repeat (first | refine qg0 ?_ _ | refine qh0 ?_ | refine qf0 ?_ _)); exact BK140.out) NB140_0.out (by simp)); have n2_ := Aside0.mk (qj0.trans (by repeat (first | (with_reducible first | exact HK.out | apply qj0.set_ | apply qp0 | apply qr0 | apply qq0 | refine qu0 ?_ GW133.out _ | refine qu0 ?_ GW140.out _) | exact HK.out)) hk (.inl rfl)); have n3_ := Aside0.mk (hb); have n4_ := Aside0.mk (hi); clear BK133; clear BK140; clear HK; clear HB; clear HI0; have BK133 := n0_; have BK140 := n1_; have HK := n2_; have HB := n3_; have HI0 := n4_; clear n0_ n1_ n2_ n3_ n4_; (try clear hb); (try clear hb2); (try clear hk); (try clear hi)))
 (try simp only [Act.put, List.setIfInBounds_toArray, List.set_cons_zero, List.set_cons_succ])
 go_cut [] (fun wc => ∃ (kq : Nat) (x1001_6 : Int) (x1002_6 : Int) (x141002_6 : Int), Aside0 (spec_l17DrawPart.j0 kq s0_0 x1001_6 x1002_6 (wrap64 ((wrap64 (a1 + 1)) + t134)) (wrap64 (1 + t137)) x141002_6 0 40000 0 = some (r1, r2, r3, r4, r5, r6, r7, r8)) ∧ Aside0 (kq ≤ k) ∧ Aside0 (wc.heap[gb133]? = some (.cells #[.int .i64 0, .int .i64 0, .int .i64 0, .int .i64 0, .int .i64 0, .int .i64 0] 54 (0, 0))) ∧ Aside0 (wc.heap[gb140]? = some (.cells #[.int .i64 (wrap64 ((wrap64 (a1 + 1)) + t134)), .int .i64 (wrap64 (1 + t137)), .int .i64 x141002_6, .int .i64 0, .int .i64 40000, .int .i64 0] 54 (0, 0))) ∧ Aside0 (IsS186 w0 wc g s0_0 x1001_6 x1002_6) ∧ Aside0 (qj0 w wc g none) ∧ Aside0 (Below w0.heap.size w0 wc))
 case first =>
  have H := HC7.out
  clear HC7
  by_cases c16 : t141 = true
  ·subst c16
   have H1 : ((spec_l1Below.f s0_0 t142 t143 20).bind fun bt144 => (spec_l17DrawPart.j0 k s0_0 bt144.2.1 bt144.2.2 (wrap64 ((wrap64 (a1 + 1)) + t134)) (wrap64 (1 + t137)) bt144.1 0 40000 0)) = some (r1, r2, r3, r4, r5, r6, r7, r8) := by rw [if_pos rfl] at H; exact H
   clear H
   have H := H1
   clear H1
   replace H := Option.bind_eq_some_iff.mp H
   obtain ⟨⟨t144, t145, t146⟩, A170, H⟩ := H
   replace H : (spec_l17DrawPart.j0 k s0_0 t145 t146 (wrap64 ((wrap64 (a1 + 1)) + t134)) (wrap64 (1 + t137)) t144 0 40000 0) = some (r1, r2, r3, r4, r5, r6, r7, r8) := H
   have A17 := Aside0.mk A170
   clear A170
   have H' := Aside0.mk H
   clear H
   go_wp2_with (first | ((with_reducible refine qs0 (f := 61) rfl ?_); refine qk1 (some 24) rfl rfl Try.func61 (by kernel_rfl) rfl #[.pointer (some ⟨g, 0, none⟩), .int .i64 20] rfl (by (try simp only [List.map_toArray, List.map_cons, List.map_nil]); first | done | rfl | (simp only [List.length_drop, List.length_take]; rfl)) ?_; (with_reducible refine (spec_l1Below.calls g s0_0 t142 t143 20 t144 t145 t146 w0 _ ?side1 ?side2 A17.out).mono ?_); (case side1 => repeat (first | (with_reducible first | exact HI0.out | apply IsS186.alloc | apply IsS186.drewN | apply IsS186.drew | apply IsS186.set_1 | apply IsS186.set_2 | refine IsS186.far ?_ NB0_133.out _ | refine IsS186.far ?_ NB0_140.out _) | exact HI0.out)); (case side2 => repeat (first | (with_reducible first | exact HB.out | apply qc0 | apply qa0 | apply qd0 | refine qi0 ?_ (IsS186.ge HI0.out) | refine qi0 ?_ GE133.out | refine qi0 ?_ GE140.out) | exact HB.out)); rintro e w18 ⟨rfl, hi, hb, hk⟩; refine ⟨_, rfl, ?_⟩; have n0_ := Aside0.mk (qj0.blk hk (g' := gb133) (o := .cells #[.int .i64 0, .int .i64 0, .int .i64 0, .int .i64 0, .int .i64 0, .int .i64 0] 54 (0, 0)) (by (with_reducible repeat (first | refine qg0 ?_ _ | refine qh0 ?_ | refine qf0 ?_ _)); exact BK133.out) NB133_0.out (by simp)); have n1_ := Aside0.mk (qj0.blk hk (g' := gb140) (o := .cells #[.int .i64 (wrap64 ((wrap64 (a1 + 1)) + t134)), .int .i64 (wrap64 (1 + t137)), .int .i64 0, .int .i64 0, .int .i64 40000, .int .i64 0] 54 (0, 0)) (by (with_reducible repeat (first | refine qg0 ?_ _ | refine qh0 ?_ | refine qf0 ?_ _)); exact BK140.out) NB140_0.out (by simp)); have n2_ := Aside0.mk (qj0.trans (by repeat (first | (with_reducible first | exact HK.out | apply qj0.set_ | apply qp0 | apply qr0 | apply qq0 | refine qu0 ?_ GW133.out _ | refine qu0 ?_ GW140.out _) | exact HK.out)) hk (.inl rfl)); have n3_ := Aside0.mk (hb); have n4_ := Aside0.mk (hi); clear BK133; clear BK140; clear HK; clear HB; clear HI0; have BK133 := n0_; have BK140 := n1_; have HK := n2_; have HB := n3_; have HI0 := n4_; clear n0_ n1_ n2_ n3_ n4_; (try clear hb); (try clear hb2); (try clear hk); (try clear hi); have hnb19 := NB140_133.out; have hnc19 := NB133_140.out; have hnb20 := NB140_0.out; have hnc20 := NB0_140.out; have hcz21_0 : w18.cell? ⟨gb140, 0, none⟩ = some (.int .i64 (wrap64 ((wrap64 (a1 + 1)) + t134))) := (qe0 BK140.out 0).trans rfl; have hcz21_1 : w18.cell? ⟨gb140, 1, none⟩ = some (.int .i64 (wrap64 (1 + t137))) := (qe0 BK140.out 1).trans rfl; have hcz21_2 : w18.cell? ⟨gb140, 2, none⟩ = some (.int .i64 0) := (qe0 BK140.out 2).trans rfl; have hcz21_3 : w18.cell? ⟨gb140, 3, none⟩ = some (.int .i64 0) := (qe0 BK140.out 3).trans rfl; have hcz21_4 : w18.cell? ⟨gb140, 4, none⟩ = some (.int .i64 40000) := (qe0 BK140.out 4).trans rfl; have hcz21_5 : w18.cell? ⟨gb140, 5, none⟩ = some (.int .i64 0) := (qe0 BK140.out 5).trans rfl; have hfz21_0 := qb0 BK140.out 0; have hfz21_1 := qb0 BK140.out 1; have hfz21_2 := qb0 BK140.out 2; have hfz21_3 := qb0 BK140.out 3; have hfz21_4 := qb0 BK140.out 4; have hfz21_5 := qb0 BK140.out 5))
   go_meet
   case rel => exact ⟨_, (t145), (t146), (t144), H', ⟨by first | omega | exact Nat.le_refl _⟩, ⟨by (with_reducible repeat (first | refine qg0 ?_ _ | refine qh0 ?_ | refine qf0 ?_ _)); refine qe1 ?_ NB133_140.out _; (with_reducible repeat (first | refine qg0 ?_ _ | refine qh0 ?_ | refine qf0 ?_ _)); exact BK133.out⟩, ⟨by (with_reducible repeat (first | refine qg0 ?_ _ | refine qh0 ?_ | refine qf0 ?_ _)); refine ql0 (cs := #[.int .i64 (wrap64 ((wrap64 (a1 + 1)) + t134)), .int .i64 (wrap64 (1 + t137)), .int .i64 0, .int .i64 0, .int .i64 40000, .int .i64 0]) ?_ 2 _ rfl; (with_reducible repeat (first | refine qg0 ?_ _ | refine qh0 ?_ | refine qf0 ?_ _)); exact BK140.out⟩, ⟨by repeat (first | (with_reducible first | exact HI0.out | apply IsS186.alloc | apply IsS186.drewN | apply IsS186.drew | apply IsS186.set_1 | apply IsS186.set_2 | refine IsS186.far ?_ NB0_133.out _ | refine IsS186.far ?_ NB0_140.out _) | exact HI0.out)⟩, ⟨by repeat (first | (with_reducible first | exact HK.out | apply qj0.set_ | apply qp0 | apply qr0 | apply qq0 | refine qu0 ?_ GW133.out _ | refine qu0 ?_ GW140.out _) | exact HK.out)⟩, ⟨by repeat (first | (with_reducible first | exact HB.out | apply qc0 | apply qa0 | apply qd0 | refine qi0 ?_ (IsS186.ge HI0.out) | refine qi0 ?_ GE133.out | refine qi0 ?_ GE140.out) | exact HB.out)⟩⟩
  replace c16 := Bool.eq_false_iff.mpr c16
  subst c16
  have H1 : (spec_l17DrawPart.j0 k s0_0 t142 t143 (wrap64 ((wrap64 (a1 + 1)) + t134)) (wrap64 (1 + t137)) 0 0 40000 0) = some (r1, r2, r3, r4, r5, r6, r7, r8) := by rw [if_neg (show ¬ (false = true) by decide)] at H; exact H
  clear H
  have H := H1
  clear H1
  have H' := Aside0.mk H
  clear H
  go_wp2
  go_meet
  case rel => exact ⟨_, (t142), (t143), (0), H', ⟨by first | omega | exact Nat.le_refl _⟩, ⟨by (with_reducible repeat (first | refine qg0 ?_ _ | refine qh0 ?_ | refine qf0 ?_ _)); exact BK133.out⟩, ⟨by (with_reducible repeat (first | refine qg0 ?_ _ | refine qh0 ?_ | refine qf0 ?_ _)); exact BK140.out⟩, ⟨by repeat (first | (with_reducible first | exact HI0.out | apply IsS186.alloc | apply IsS186.drewN | apply IsS186.drew | apply IsS186.set_1 | apply IsS186.set_2 | refine IsS186.far ?_ NB0_133.out _ | refine IsS186.far ?_ NB0_140.out _) | exact HI0.out)⟩, ⟨by repeat (first | (with_reducible first | exact HK.out | apply qj0.set_ | apply qp0 | apply qr0 | apply qq0 | refine qu0 ?_ GW133.out _ | refine qu0 ?_ GW140.out _) | exact HK.out)⟩, ⟨by repeat (first | (with_reducible first | exact HB.out | apply qc0 | apply qa0 | apply qd0 | refine qi0 ?_ (IsS186.ge HI0.out) | refine qi0 ?_ GE133.out | refine qi0 ?_ GE140.out) | exact HB.out)⟩⟩
 case rest =>
  clear HC7
  try clear c1
  try clear c2
  try clear p2
  try clear c6
  try clear p6
  try clear c12
  try clear c13
  try clear c16
  try clear c19
  try clear c20
  try clear hcz14_0
  try clear hcz14_1
  try clear hcz14_2
  try clear hcz14_3
  try clear hcz14_4
  try clear hcz14_5
  try clear hcz21_0
  try clear hcz21_1
  try clear hcz21_2
  try clear hcz21_3
  try clear hcz21_4
  try clear hcz21_5
  try clear hfz14_0
  try clear hfz14_1
  try clear hfz14_2
  try clear hfz14_3
  try clear hfz14_4
  try clear hfz14_5
  try clear hfz21_0
  try clear hfz21_1
  try clear hfz21_2
  try clear hfz21_3
  try clear hfz21_4
  try clear hfz21_5
  obtain ⟨kq, x1001_6, x1002_6, x141002_6, HA, HJ6, BK133, BK140, HI0, HK, HB⟩ := hcut
  cases kq with
  | zero => exact absurd HA.out (by simp [spec_l17DrawPart.j0])
  | succ kj6 =>
   have H := HA.out
   clear HA
   simp only [spec_l17DrawPart.j0] at H
   replace H := Option.bind_eq_some_iff.mp H
   obtain ⟨⟨t147, t148, t149⟩, A220, H⟩ := H
   replace H : (if t147 = true then ((spec_l1Below.f s0_0 t148 t149 100).bind fun bt150 => ((spec_l1Below.f s0_0 bt150.2.1 bt150.2.2 200).bind fun bt153 => (spec_l17DrawPart.j1 kj6 s0_0 bt153.2.1 bt153.2.2 (wrap64 ((wrap64 (a1 + 1)) + t134)) (wrap64 (1 + t137)) x141002_6 bt150.1 (wrap64 (bt150.1 + bt153.1)) 0))) else (spec_l17DrawPart.j1 kj6 s0_0 t148 t149 (wrap64 ((wrap64 (a1 + 1)) + t134)) (wrap64 (1 + t137)) x141002_6 0 40000 0)) = some (r1, r2, r3, r4, r5, r6, r7, r8) := H
   have A22 := Aside0.mk A220
   clear A220
   have HC23 := Aside0.mk H
   clear H
   go_upto_if 27 with (first | ((with_reducible refine qs0 (f := 63) rfl ?_); refine qk1 (some 27) rfl rfl Try.func63 (by kernel_rfl) rfl #[.pointer (some ⟨g, 0, none⟩), .int .i64 4] rfl (by (try simp only [List.map_toArray, List.map_cons, List.map_nil]); first | done | rfl | (simp only [List.length_drop, List.length_take]; rfl)) ?_; (with_reducible refine (spec_l1Once.calls g s0_0 x1001_6 x1002_6 4 t147 t148 t149 w0 _ ?side1 ?side2 A22.out).mono ?_); (case side1 => repeat (first | (with_reducible first | exact HI0.out | apply IsS186.alloc | apply IsS186.drewN | apply IsS186.drew | apply IsS186.set_1 | apply IsS186.set_2 | refine IsS186.far ?_ NB0_133.out _ | refine IsS186.far ?_ NB0_140.out _) | exact HI0.out)); (case side2 => repeat (first | (with_reducible first | exact HB.out | apply qc0 | apply qa0 | apply qd0 | refine qi0 ?_ (IsS186.ge HI0.out) | refine qi0 ?_ GE133.out | refine qi0 ?_ GE140.out) | exact HB.out)); rintro e w24 ⟨rfl, hi, hb, hk⟩; refine ⟨_, rfl, ?_⟩; have n0_ := Aside0.mk (qj0.blk hk (g' := gb133) (o := .cells #[.int .i64 0, .int .i64 0, .int .i64 0, .int .i64 0, .int .i64 0, .int .i64 0] 54 (0, 0)) (by (with_reducible repeat (first | refine qg0 ?_ _ | refine qh0 ?_ | refine qf0 ?_ _)); exact BK133.out) NB133_0.out (by simp)); have n1_ := Aside0.mk (qj0.blk hk (g' := gb140) (o := .cells #[.int .i64 (wrap64 ((wrap64 (a1 + 1)) + t134)), .int .i64 (wrap64 (1 + t137)), .int .i64 x141002_6, .int .i64 0, .int .i64 40000, .int .i64 0] 54 (0, 0)) (by (with_reducible repeat (first | refine qg0 ?_ _ | refine qh0 ?_ | refine qf0 ?_ _)); exact BK140.out) NB140_0.out (by simp)); have n2_ := Aside0.mk (qj0.trans (by repeat (first | (with_reducible first | exact HK.out | apply qj0.set_ | apply qp0 | apply qr0 | apply qq0 | refine qu0 ?_ GW133.out _ | refine qu0 ?_ GW140.out _) | exact HK.out)) hk (.inl rfl)); have n3_ := Aside0.mk (hb); have n4_ := Aside0.mk (hi); clear BK133; clear BK140; clear HK; clear HB; clear HI0; have BK133 := n0_; have BK140 := n1_; have HK := n2_; have HB := n3_; have HI0 := n4_; clear n0_ n1_ n2_ n3_ n4_; (try clear hb); (try clear hb2); (try clear hk); (try clear hi)))
   (try simp only [Act.put, List.setIfInBounds_toArray, List.set_cons_zero, List.set_cons_succ])
   go_cut [] (fun wc => ∃ (kq : Nat) (x1001_22 : Int) (x1002_22 : Int) (x141003_22 : Int) (x141004_22 : Int), Aside0 (spec_l17DrawPart.j1 kq s0_0 x1001_22 x1002_22 (wrap64 ((wrap64 (a1 + 1)) + t134)) (wrap64 (1 + t137)) x141002_6 x141003_22 x141004_22 0 = some (r1, r2, r3, r4, r5, r6, r7, r8)) ∧ Aside0 (kq ≤ kj6) ∧ Aside0 (wc.heap[gb133]? = some (.cells #[.int .i64 0, .int .i64 0, .int .i64 0, .int .i64 0, .int .i64 0, .int .i64 0] 54 (0, 0))) ∧ Aside0 (wc.heap[gb140]? = some (.cells #[.int .i64 (wrap64 ((wrap64 (a1 + 1)) + t134)), .int .i64 (wrap64 (1 + t137)), .int .i64 x141002_6, .int .i64 x141003_22, .int .i64 x141004_22, .int .i64 0] 54 (0, 0))) ∧ Aside0 (IsS186 w0 wc g s0_0 x1001_22 x1002_22) ∧ Aside0 (qj0 w wc g none) ∧ Aside0 (Below w0.heap.size w0 wc))
   case first =>
    have H := HC23.out
    clear HC23
    by_cases c25 : t147 = true
    ·subst c25
     have H1 : ((spec_l1Below.f s0_0 t148 t149 100).bind fun bt150 => ((spec_l1Below.f s0_0 bt150.2.1 bt150.2.2 200).bind fun bt153 => (spec_l17DrawPart.j1 kj6 s0_0 bt153.2.1 bt153.2.2 (wrap64 ((wrap64 (a1 + 1)) + t134)) (wrap64 (1 + t137)) x141002_6 bt150.1 (wrap64 (bt150.1 + bt153.1)) 0))) = some (r1, r2, r3, r4, r5, r6, r7, r8) := by rw [if_pos rfl] at H; exact H
     clear H
     have H := H1
     clear H1
     replace H := Option.bind_eq_some_iff.mp H
     obtain ⟨⟨t150, t151, t152⟩, A260, H⟩ := H
     replace H : ((spec_l1Below.f s0_0 t151 t152 200).bind fun bt153 => (spec_l17DrawPart.j1 kj6 s0_0 bt153.2.1 bt153.2.2 (wrap64 ((wrap64 (a1 + 1)) + t134)) (wrap64 (1 + t137)) x141002_6 t150 (wrap64 (t150 + bt153.1)) 0)) = some (r1, r2, r3, r4, r5, r6, r7, r8) := H
     have A26 := Aside0.mk A260
     clear A260
     replace H := Option.bind_eq_some_iff.mp H
     obtain ⟨⟨t153, t154, t155⟩, A270, H⟩ := H
     replace H : (spec_l17DrawPart.j1 kj6 s0_0 t154 t155 (wrap64 ((wrap64 (a1 + 1)) + t134)) (wrap64 (1 + t137)) x141002_6 t150 (wrap64 (t150 + t153)) 0) = some (r1, r2, r3, r4, r5, r6, r7, r8) := H
     have A27 := Aside0.mk A270
     clear A270
     have H' := Aside0.mk H
     clear H
     try go_wp2_with (first | ((with_reducible refine qs0 (f := 61) rfl ?_); refine qk1 (some 29) rfl rfl Try.func61 (by kernel_rfl) rfl #[.pointer (some ⟨g, 0, none⟩), .int .i64 100] rfl (by (try simp only [List.map_toArray, List.map_cons, List.map_nil]); first | done | rfl | (simp only [List.length_drop, List.length_take]; rfl)) ?_; (with_reducible refine (spec_l1Below.calls g s0_0 t148 t149 100 t150 t151 t152 w0 _ ?side1 ?side2 A26.out).mono ?_); (case side1 => repeat (first | (with_reducible first | exact HI0.out | apply IsS186.alloc | apply IsS186.drewN | apply IsS186.drew | apply IsS186.set_1 | apply IsS186.set_2 | refine IsS186.far ?_ NB0_133.out _ | refine IsS186.far ?_ NB0_140.out _) | exact HI0.out)); (case side2 => repeat (first | (with_reducible first | exact HB.out | apply qc0 | apply qa0 | apply qd0 | refine qi0 ?_ (IsS186.ge HI0.out) | refine qi0 ?_ GE133.out | refine qi0 ?_ GE140.out) | exact HB.out)); rintro e w28 ⟨rfl, hi, hb, hk⟩; refine ⟨_, rfl, ?_⟩; have n0_ := Aside0.mk (qj0.blk hk (g' := gb133) (o := .cells #[.int .i64 0, .int .i64 0, .int .i64 0, .int .i64 0, .int .i64 0, .int .i64 0] 54 (0, 0)) (by (with_reducible repeat (first | refine qg0 ?_ _ | refine qh0 ?_ | refine qf0 ?_ _)); exact BK133.out) NB133_0.out (by simp)); have n1_ := Aside0.mk (qj0.blk hk (g' := gb140) (o := .cells #[.int .i64 (wrap64 ((wrap64 (a1 + 1)) + t134)), .int .i64 (wrap64 (1 + t137)), .int .i64 x141002_6, .int .i64 0, .int .i64 40000, .int .i64 0] 54 (0, 0)) (by (with_reducible repeat (first | refine qg0 ?_ _ | refine qh0 ?_ | refine qf0 ?_ _)); exact BK140.out) NB140_0.out (by simp)); have n2_ := Aside0.mk (qj0.trans (by repeat (first | (with_reducible first | exact HK.out | apply qj0.set_ | apply qp0 | apply qr0 | apply qq0 | refine qu0 ?_ GW133.out _ | refine qu0 ?_ GW140.out _) | exact HK.out)) hk (.inl rfl)); have n3_ := Aside0.mk (hb); have n4_ := Aside0.mk (hi); clear BK133; clear BK140; clear HK; clear HB; clear HI0; have BK133 := n0_; have BK140 := n1_; have HK := n2_; have HB := n3_; have HI0 := n4_; clear n0_ n1_ n2_ n3_ n4_; (try clear hb); (try clear hb2); (try clear hk); (try clear hi); have hnb29 := NB140_133.out; have hnc29 := NB133_140.out; have hnb30 := NB140_0.out; have hnc30 := NB0_140.out; have hcz31_0 : w28.cell? ⟨gb140, 0, none⟩ = some (.int .i64 (wrap64 ((wrap64 (a1 + 1)) + t134))) := (qe0 BK140.out 0).trans rfl; have hcz31_1 : w28.cell? ⟨gb140, 1, none⟩ = some (.int .i64 (wrap64 (1 + t137))) := (qe0 BK140.out 1).trans rfl; have hcz31_2 : w28.cell? ⟨gb140, 2, none⟩ = some (.int .i64 x141002_6) := (qe0 BK140.out 2).trans rfl; have hcz31_3 : w28.cell? ⟨gb140, 3, none⟩ = some (.int .i64 0) := (qe0 BK140.out 3).trans rfl; have hcz31_4 : w28.cell? ⟨gb140, 4, none⟩ = some (.int .i64 40000) := (qe0 BK140.out 4).trans rfl; have hcz31_5 : w28.cell? ⟨gb140, 5, none⟩ = some (.int .i64 0) := (qe0 BK140.out 5).trans rfl; have hfz31_0 := qb0 BK140.out 0; have hfz31_1 := qb0 BK140.out 1; have hfz31_2 := qb0 BK140.out 2; have hfz31_3 := qb0 BK140.out 3; have hfz31_4 := qb0 BK140.out 4; have hfz31_5 := qb0 BK140.out 5))
     have n0_ : Aside0 ((w28.setCell ⟨gb140, 3, none⟩ (.int .i64 t150)).heap[gb133]? = some (.cells #[.int .i64 0, .int .i64 0, .int .i64 0, .int .i64 0, .int .i64 0, .int .i64 0] 54 (0, 0))) := ⟨by (with_reducible repeat (first | refine qg0 ?_ _ | refine qh0 ?_ | refine qf0 ?_ _)); refine qe1 ?_ NB133_140.out _; (with_reducible repeat (first | refine qg0 ?_ _ | refine qh0 ?_ | refine qf0 ?_ _)); exact BK133.out⟩
     have n1_ : Aside0 ((w28.setCell ⟨gb140, 3, none⟩ (.int .i64 t150)).heap[gb140]? = some (.cells #[.int .i64 (wrap64 ((wrap64 (a1 + 1)) + t134)), .int .i64 (wrap64 (1 + t137)), .int .i64 x141002_6, .int .i64 t150, .int .i64 40000, .int .i64 0] 54 (0, 0))) := ⟨by (with_reducible repeat (first | refine qg0 ?_ _ | refine qh0 ?_ | refine qf0 ?_ _)); refine ql0 (cs := #[.int .i64 (wrap64 ((wrap64 (a1 + 1)) + t134)), .int .i64 (wrap64 (1 + t137)), .int .i64 x141002_6, .int .i64 0, .int .i64 40000, .int .i64 0]) ?_ 3 _ rfl; (with_reducible repeat (first | refine qg0 ?_ _ | refine qh0 ?_ | refine qf0 ?_ _)); exact BK140.out⟩
     have n2_ : Aside0 (IsS186 w0 (w28.setCell ⟨gb140, 3, none⟩ (.int .i64 t150)) g s0_0 t151 t152) := ⟨by repeat (first | (with_reducible first | exact HI0.out | apply IsS186.alloc | apply IsS186.drewN | apply IsS186.drew | apply IsS186.set_1 | apply IsS186.set_2 | refine IsS186.far ?_ NB0_133.out _ | refine IsS186.far ?_ NB0_140.out _) | exact HI0.out)⟩
     have n3_ : Aside0 (qj0 w (w28.setCell ⟨gb140, 3, none⟩ (.int .i64 t150)) g none) := ⟨by repeat (first | (with_reducible first | exact HK.out | apply qj0.set_ | apply qp0 | apply qr0 | apply qq0 | refine qu0 ?_ GW133.out _ | refine qu0 ?_ GW140.out _) | exact HK.out)⟩
     have n4_ : Aside0 (Below w0.heap.size w0 (w28.setCell ⟨gb140, 3, none⟩ (.int .i64 t150))) := ⟨by repeat (first | (with_reducible first | exact HB.out | apply qc0 | apply qa0 | apply qd0 | refine qi0 ?_ (IsS186.ge HI0.out) | refine qi0 ?_ GE133.out | refine qi0 ?_ GE140.out) | exact HB.out)⟩
     (try clear BK133)
     (try clear BK140)
     (try clear HI0)
     (try clear HK)
     (try clear HB)
     generalize (w28.setCell ⟨gb140, 3, none⟩ (.int .i64 t150)) = w32 at n0_ n1_ n2_ n3_ n4_ ⊢
     have BK133 := n0_
     have BK140 := n1_
     have HI0 := n2_
     have HK := n3_
     have HB := n4_
     clear n0_ n1_ n2_ n3_ n4_
     have n0_ := Aside0.mk (qh0 BK133.out)
     have n1_ := Aside0.mk (qh0 BK140.out)
     have n2_ := Aside0.mk (IsS186.drew HI0.out)
     have n3_ := Aside0.mk (qr0 HK.out)
     have n4_ := Aside0.mk (qd0 HB.out)
     clear BK133
     clear BK140
     clear HI0
     clear HK
     clear HB
     have BK133 := n0_
     have BK140 := n1_
     have HI0 := n2_
     have HK := n3_
     have HB := n4_
     clear n0_ n1_ n2_ n3_ n4_
     refine start_ (n := 7) (S := fun w' => w'.cell? ⟨gb140, 0, none⟩ = some (.int .i64 (wrap64 ((wrap64 (a1 + 1)) + t134))) ∧ w'.cell? ⟨gb140, 1, none⟩ = some (.int .i64 (wrap64 (1 + t137))) ∧ w'.cell? ⟨gb140, 2, none⟩ = some (.int .i64 x141002_6) ∧ w'.cell? ⟨gb140, 3, none⟩ = some (.int .i64 t150) ∧ w'.cell? ⟨gb140, 4, none⟩ = some (.int .i64 40000) ∧ w'.cell? ⟨gb140, 5, none⟩ = some (.int .i64 0)) (ds := [6]) #[false, false, false, false, false, false, false] (by kernel_rfl) rfl rfl ⟨(qe0 BK140.out 0).trans rfl, (qe0 BK140.out 1).trans rfl, (qe0 BK140.out 2).trans rfl, (qe0 BK140.out 3).trans rfl, (qe0 BK140.out 4).trans rfl, (qe0 BK140.out 5).trans rfl⟩ (fun hHeld => ?_)
     generalize w32.drew = w33 at BK133 BK140 HI0 HK HB hHeld ⊢
     refine pure_ (i := 0) (N := some 31) (v := ?_) (a' := ?_) #[true, false, false, false, false, false, false] rfl rfl (by kernel_rfl) (fun _ _ _ h => h) (Or.inl ⟨by rfl, ?_⟩) ?_ ?_
     rotate_left
     ·intro w'
      go_simp
      with_reducible rfl
     rotate_left
     ·simp only [Act.put, List.setIfInBounds_toArray, List.set_cons_zero, List.set_cons_succ, i64_w, i32_w]
      rfl
     refine pure_ (i := 2) (N := some 33) (v := ?_) (a' := ?_) #[true, false, true, false, false, false, false] rfl rfl (by kernel_rfl) (fun _ _ _ h => h) (Or.inl ⟨by rfl, ?_⟩) ?_ ?_
     rotate_left
     ·intro w'
      go_simp
      with_reducible rfl
     rotate_left
     ·simp only [Act.put, List.setIfInBounds_toArray, List.set_cons_zero, List.set_cons_succ, i64_w, i32_w]
      rfl
     refine take_ (i := 1) (N := some 32) (v := ?_) (a' := ?_) #[true, true, true, false, false, false, false] rfl rfl (by kernel_rfl) (fun _ _ _ h => h) (Or.inl ⟨by rfl, ?_⟩) hHeld ?_ ?_
     rotate_left
     ·rintro w' ⟨s0, s1, s2, s3, s4, s5⟩
      go_simp
      with_reducible rfl
     rotate_left
     ·simp only [Act.put, List.setIfInBounds_toArray, List.set_cons_zero, List.set_cons_succ, i64_w, i32_w]
      rfl
     refine one_ (i := 3) (N := some 34) #[true, true, true, true, false, false, false] rfl rfl (by kernel_rfl) (by decide) (fun K hK => ?_)
     refine goes_ Try.func61 (by kernel_rfl) rfl #[.pointer (some ⟨g, 0, none⟩), .int .i64 200] (by rfl) rfl rfl (by (try simp only [List.map_toArray, List.map_cons, List.map_nil]); first | done | rfl | (simp only [List.length_drop, List.length_take]; rfl)) ?_
     with_reducible refine (spec_l1Below.calls g s0_0 t151 t152 200 t153 t154 t155 w0 _ ?side1 ?side2 A27.out).mono ?_
     (case side1 => repeat (first | (with_reducible first | exact HI0.out | apply IsS186.alloc | apply IsS186.drewN | apply IsS186.drew | apply IsS186.set_1 | apply IsS186.set_2 | refine IsS186.far ?_ NB0_133.out _ | refine IsS186.far ?_ NB0_140.out _) | exact HI0.out))
     (case side2 => repeat (first | (with_reducible first | exact HB.out | apply qc0 | apply qa0 | apply qd0 | refine qi0 ?_ (IsS186.ge HI0.out) | refine qi0 ?_ GE133.out | refine qi0 ?_ GE140.out) | exact HB.out))
     rintro e w34 ⟨rfl, hi, hb, hk⟩
     refine ⟨_, rfl, ?_⟩
     have n0_ := Aside0.mk (qj0.blk hk (g' := gb133) (o := .cells #[.int .i64 0, .int .i64 0, .int .i64 0, .int .i64 0, .int .i64 0, .int .i64 0] 54 (0, 0)) (by (with_reducible repeat (first | refine qg0 ?_ _ | refine qh0 ?_ | refine qf0 ?_ _)); exact BK133.out) NB133_0.out (by simp))
     have n1_ := Aside0.mk (qj0.blk hk (g' := gb140) (o := .cells #[.int .i64 (wrap64 ((wrap64 (a1 + 1)) + t134)), .int .i64 (wrap64 (1 + t137)), .int .i64 x141002_6, .int .i64 t150, .int .i64 40000, .int .i64 0] 54 (0, 0)) (by (with_reducible repeat (first | refine qg0 ?_ _ | refine qh0 ?_ | refine qf0 ?_ _)); exact BK140.out) NB140_0.out (by simp))
     have n2_ := Aside0.mk (qj0.trans (by repeat (first | (with_reducible first | exact HK.out | apply qj0.set_ | apply qp0 | apply qr0 | apply qq0 | refine qu0 ?_ GW133.out _ | refine qu0 ?_ GW140.out _) | exact HK.out)) hk (.inl rfl))
     have n3_ := Aside0.mk (hb)
     have n4_ := Aside0.mk (hi)
     clear BK133
     clear BK140
     clear HK
     clear HB
     clear HI0
     have BK133 := n0_
     have BK140 := n1_
     have HK := n2_
     have HB := n3_
     have HI0 := n4_
     clear n0_ n1_ n2_ n3_ n4_
     (try clear hb)
     (try clear hb2)
     (try clear hk)
     (try clear hi)
     refine hK.out _ _ ⟨(qe0 BK140.out 0).trans rfl, (qe0 BK140.out 1).trans rfl, (qe0 BK140.out 2).trans rfl, (qe0 BK140.out 3).trans rfl, (qe0 BK140.out 4).trans rfl, (qe0 BK140.out 5).trans rfl⟩ (fun hHeld => ?_)
     clear hK K
     refine norm_ (a' := ?_) ?_ ?_
     rotate_left
     ·show Act.put _ (some 34) _ = _
      simp only [Act.put, List.setIfInBounds_toArray, List.set_cons_zero, List.set_cons_succ, i64_w, i32_w]
      rfl
     refine pure_ (i := 4) (N := some 35) (v := ?_) (a' := ?_) #[true, true, true, true, true, false, false] rfl rfl (by kernel_rfl) (fun _ _ _ h => h) (Or.inl ⟨by rfl, ?_⟩) ?_ ?_
     rotate_left
     ·intro w'
      go_simp
      with_reducible rfl
     rotate_left
     ·simp only [Act.put, List.setIfInBounds_toArray, List.set_cons_zero, List.set_cons_succ, i64_w, i32_w]
      rfl
     refine pure_ (i := 5) (N := some 36) (v := ?_) (a' := ?_) #[true, true, true, true, true, true, false] rfl rfl (by kernel_rfl) (fun _ _ _ h => h) (Or.inl ⟨by rfl, ?_⟩) ?_ ?_
     rotate_left
     ·intro w'
      go_simp
      with_reducible rfl
     rotate_left
     ·simp only [Act.put, List.setIfInBounds_toArray, List.set_cons_zero, List.set_cons_succ, i64_w, i32_w]
      rfl
     refine last_ (i := 6) (N := none) #[true, true, true, true, true, true, true] rfl rfl (by kernel_rfl) (by decide) (fun K hK => ?_)
     have hs35 : w34.cell? ⟨gb140, 4, none⟩ = some (.int .i64 40000) := (qe0 BK140.out 4).trans rfl
     have hfs35 := qb0 BK140.out 4
     have hns35_0 := NB133_140.out
     have hms35_0 := NB140_133.out
     refine skip_ (w1 := ?_) (by rfl) rfl ?_ ?_
     rotate_left
     ·go_simp
      rfl
     refine hK.out _ _ ?_
     clear hK K
     refine done_ (by kernel_rfl) ?_
     try go_wp2
     go_meet
     case rel => exact ⟨_, (t154), (t155), (t150), (wrap64 (t150 + t153)), H', ⟨by have := HJ6.out; first | omega | exact Nat.le_refl _⟩, ⟨by (with_reducible repeat (first | refine qg0 ?_ _ | refine qh0 ?_ | refine qf0 ?_ _)); refine qe1 ?_ NB133_140.out _; (with_reducible repeat (first | refine qg0 ?_ _ | refine qh0 ?_ | refine qf0 ?_ _)); exact BK133.out⟩, ⟨by (with_reducible repeat (first | refine qg0 ?_ _ | refine qh0 ?_ | refine qf0 ?_ _)); refine ql0 (cs := #[.int .i64 (wrap64 ((wrap64 (a1 + 1)) + t134)), .int .i64 (wrap64 (1 + t137)), .int .i64 x141002_6, .int .i64 t150, .int .i64 40000, .int .i64 0]) ?_ 4 _ rfl; (with_reducible repeat (first | refine qg0 ?_ _ | refine qh0 ?_ | refine qf0 ?_ _)); exact BK140.out⟩, ⟨by repeat (first | (with_reducible first | exact HI0.out | apply IsS186.alloc | apply IsS186.drewN | apply IsS186.drew | apply IsS186.set_1 | apply IsS186.set_2 | refine IsS186.far ?_ NB0_133.out _ | refine IsS186.far ?_ NB0_140.out _) | exact HI0.out)⟩, ⟨by repeat (first | (with_reducible first | exact HK.out | apply qj0.set_ | apply qp0 | apply qr0 | apply qq0 | refine qu0 ?_ GW133.out _ | refine qu0 ?_ GW140.out _) | exact HK.out)⟩, ⟨by repeat (first | (with_reducible first | exact HB.out | apply qc0 | apply qa0 | apply qd0 | refine qi0 ?_ (IsS186.ge HI0.out) | refine qi0 ?_ GE133.out | refine qi0 ?_ GE140.out) | exact HB.out)⟩⟩
    replace c25 := Bool.eq_false_iff.mpr c25
    subst c25
    have H1 : (spec_l17DrawPart.j1 kj6 s0_0 t148 t149 (wrap64 ((wrap64 (a1 + 1)) + t134)) (wrap64 (1 + t137)) x141002_6 0 40000 0) = some (r1, r2, r3, r4, r5, r6, r7, r8) := by rw [if_neg (show ¬ (false = true) by decide)] at H; exact H
    clear H
    have H := H1
    clear H1
    have H' := Aside0.mk H
    clear H
    go_wp2
    go_meet
    case rel => exact ⟨_, (t148), (t149), (0), (40000), H', ⟨by have := HJ6.out; first | omega | exact Nat.le_refl _⟩, ⟨by (with_reducible repeat (first | refine qg0 ?_ _ | refine qh0 ?_ | refine qf0 ?_ _)); exact BK133.out⟩, ⟨by (with_reducible repeat (first | refine qg0 ?_ _ | refine qh0 ?_ | refine qf0 ?_ _)); exact BK140.out⟩, ⟨by repeat (first | (with_reducible first | exact HI0.out | apply IsS186.alloc | apply IsS186.drewN | apply IsS186.drew | apply IsS186.set_1 | apply IsS186.set_2 | refine IsS186.far ?_ NB0_133.out _ | refine IsS186.far ?_ NB0_140.out _) | exact HI0.out)⟩, ⟨by repeat (first | (with_reducible first | exact HK.out | apply qj0.set_ | apply qp0 | apply qr0 | apply qq0 | refine qu0 ?_ GW133.out _ | refine qu0 ?_ GW140.out _) | exact HK.out)⟩, ⟨by repeat (first | (with_reducible first | exact HB.out | apply qc0 | apply qa0 | apply qd0 | refine qi0 ?_ (IsS186.ge HI0.out) | refine qi0 ?_ GE133.out | refine qi0 ?_ GE140.out) | exact HB.out)⟩⟩
   case rest =>
    clear HC23
    try clear c1
    try clear c2
    try clear p2
    try clear c3
    try clear c6
    try clear p6
    try clear c12
    try clear c13
    try clear c16
    try clear c19
    try clear c20
    try clear c25
    try clear c29
    try clear c30
    try clear hcz14_0
    try clear hcz14_1
    try clear hcz14_2
    try clear hcz14_3
    try clear hcz14_4
    try clear hcz14_5
    try clear hcz21_0
    try clear hcz21_1
    try clear hcz21_2
    try clear hcz21_3
    try clear hcz21_4
    try clear hcz21_5
    try clear hcz31_0
    try clear hcz31_1
    try clear hcz31_2
    try clear hcz31_3
    try clear hcz31_4
    try clear hcz31_5
    try clear hfz14_0
    try clear hfz14_1
    try clear hfz14_2
    try clear hfz14_3
    try clear hfz14_4
    try clear hfz14_5
    try clear hfz21_0
    try clear hfz21_1
    try clear hfz21_2
    try clear hfz21_3
    try clear hfz21_4
    try clear hfz21_5
    try clear hfz31_0
    try clear hfz31_1
    try clear hfz31_2
    try clear hfz31_3
    try clear hfz31_4
    try clear hfz31_5
    try clear p2
    try clear p6
    obtain ⟨kq, x1001_22, x1002_22, x141003_22, x141004_22, HA, HJ22, BK133, BK140, HI0, HK, HB⟩ := hcut
    cases kq with
    | zero => exact absurd HA.out (by simp [spec_l17DrawPart.j1])
    | succ kj22 =>
     have H := HA.out
     clear HA
     simp only [spec_l17DrawPart.j1] at H
     replace H := Option.bind_eq_some_iff.mp H
     obtain ⟨⟨t156, t157, t158⟩, A360, H⟩ := H
     replace H : (if t156 = true then ((spec_l1Below.f s0_0 t157 t158 2).bind fun bt159 => (some ((wrap64 ((wrap64 (a1 + 1)) + t134)), (wrap64 (1 + t137)), x141002_6, x141003_22, x141004_22, wrap64 (1 + bt159.1), bt159.2.1, bt159.2.2))) else (some ((wrap64 ((wrap64 (a1 + 1)) + t134)), (wrap64 (1 + t137)), x141002_6, x141003_22, x141004_22, 0, t157, t158))) = some (r1, r2, r3, r4, r5, r6, r7, r8) := H
     have A36 := Aside0.mk A360
     clear A360
     by_cases c37 : t156 = true
     ·subst c37
      have H1 : ((spec_l1Below.f s0_0 t157 t158 2).bind fun bt159 => (some ((wrap64 ((wrap64 (a1 + 1)) + t134)), (wrap64 (1 + t137)), x141002_6, x141003_22, x141004_22, wrap64 (1 + bt159.1), bt159.2.1, bt159.2.2))) = some (r1, r2, r3, r4, r5, r6, r7, r8) := by rw [if_pos rfl] at H; exact H
      clear H
      have H := H1
      clear H1
      replace H := Option.bind_eq_some_iff.mp H
      obtain ⟨⟨t159, t160, t161⟩, A380, H⟩ := H
      replace H : (some ((wrap64 ((wrap64 (a1 + 1)) + t134)), (wrap64 (1 + t137)), x141002_6, x141003_22, x141004_22, wrap64 (1 + t159), t160, t161)) = some (r1, r2, r3, r4, r5, r6, r7, r8) := H
      have A38 := Aside0.mk A380
      clear A380
      simp only [Option.some.injEq, Prod.mk.injEq] at H
      obtain ⟨rfl, rfl, rfl, rfl, rfl, rfl, rfl, rfl⟩ := H
      go_wp2_with (first | ((with_reducible refine qs0 (f := 63) rfl ?_); refine qk1 (some 38) rfl rfl Try.func63 (by kernel_rfl) rfl #[.pointer (some ⟨g, 0, none⟩), .int .i64 5] rfl (by (try simp only [List.map_toArray, List.map_cons, List.map_nil]); first | done | rfl | (simp only [List.length_drop, List.length_take]; rfl)) ?_; (with_reducible refine (spec_l1Once.calls g s0_0 x1001_22 x1002_22 5 true t157 t158 w0 _ ?side1 ?side2 A36.out).mono ?_); (case side1 => repeat (first | (with_reducible first | exact HI0.out | apply IsS186.alloc | apply IsS186.drewN | apply IsS186.drew | apply IsS186.set_1 | apply IsS186.set_2 | refine IsS186.far ?_ NB0_133.out _ | refine IsS186.far ?_ NB0_140.out _) | exact HI0.out)); (case side2 => repeat (first | (with_reducible first | exact HB.out | apply qc0 | apply qa0 | apply qd0 | refine qi0 ?_ (IsS186.ge HI0.out) | refine qi0 ?_ GE133.out | refine qi0 ?_ GE140.out) | exact HB.out)); rintro e w39 ⟨rfl, hi, hb, hk⟩; refine ⟨_, rfl, ?_⟩; have n0_ := Aside0.mk (qj0.blk hk (g' := gb133) (o := .cells #[.int .i64 0, .int .i64 0, .int .i64 0, .int .i64 0, .int .i64 0, .int .i64 0] 54 (0, 0)) (by (with_reducible repeat (first | refine qg0 ?_ _ | refine qh0 ?_ | refine qf0 ?_ _)); exact BK133.out) NB133_0.out (by simp)); have n1_ := Aside0.mk (qj0.blk hk (g' := gb140) (o := .cells #[.int .i64 (wrap64 ((wrap64 (a1 + 1)) + t134)), .int .i64 (wrap64 (1 + t137)), .int .i64 x141002_6, .int .i64 x141003_22, .int .i64 x141004_22, .int .i64 0] 54 (0, 0)) (by (with_reducible repeat (first | refine qg0 ?_ _ | refine qh0 ?_ | refine qf0 ?_ _)); exact BK140.out) NB140_0.out (by simp)); have n2_ := Aside0.mk (qj0.trans (by repeat (first | (with_reducible first | exact HK.out | apply qj0.set_ | apply qp0 | apply qr0 | apply qq0 | refine qu0 ?_ GW133.out _ | refine qu0 ?_ GW140.out _) | exact HK.out)) hk (.inl rfl)); have n3_ := Aside0.mk (hb); have n4_ := Aside0.mk (hi); clear BK133; clear BK140; clear HK; clear HB; clear HI0; have BK133 := n0_; have BK140 := n1_; have HK := n2_; have HB := n3_; have HI0 := n4_; clear n0_ n1_ n2_ n3_ n4_; (try clear hb); (try clear hb2); (try clear hk); (try clear hi)) | ((with_reducible refine qs0 (f := 61) rfl ?_); refine qk1 (some 40) rfl rfl Try.func61 (by kernel_rfl) rfl #[.pointer (some ⟨g, 0, none⟩), .int .i64 2] rfl (by (try simp only [List.map_toArray, List.map_cons, List.map_nil]); first | done | rfl | (simp only [List.length_drop, List.length_take]; rfl)) ?_; (with_reducible refine (spec_l1Below.calls g s0_0 t157 t158 2 t159 t160 t161 w0 _ ?side1 ?side2 A38.out).mono ?_); (case side1 => repeat (first | (with_reducible first | exact HI0.out | apply IsS186.alloc | apply IsS186.drewN | apply IsS186.drew | apply IsS186.set_1 | apply IsS186.set_2 | refine IsS186.far ?_ NB0_133.out _ | refine IsS186.far ?_ NB0_140.out _) | exact HI0.out)); (case side2 => repeat (first | (with_reducible first | exact HB.out | apply qc0 | apply qa0 | apply qd0 | refine qi0 ?_ (IsS186.ge HI0.out) | refine qi0 ?_ GE133.out | refine qi0 ?_ GE140.out) | exact HB.out)); rintro e w40 ⟨rfl, hi, hb, hk⟩; refine ⟨_, rfl, ?_⟩; have n0_ := Aside0.mk (qj0.blk hk (g' := gb133) (o := .cells #[.int .i64 0, .int .i64 0, .int .i64 0, .int .i64 0, .int .i64 0, .int .i64 0] 54 (0, 0)) (by (with_reducible repeat (first | refine qg0 ?_ _ | refine qh0 ?_ | refine qf0 ?_ _)); exact BK133.out) NB133_0.out (by simp)); have n1_ := Aside0.mk (qj0.blk hk (g' := gb140) (o := .cells #[.int .i64 (wrap64 ((wrap64 (a1 + 1)) + t134)), .int .i64 (wrap64 (1 + t137)), .int .i64 x141002_6, .int .i64 x141003_22, .int .i64 x141004_22, .int .i64 0] 54 (0, 0)) (by (with_reducible repeat (first | refine qg0 ?_ _ | refine qh0 ?_ | refine qf0 ?_ _)); exact BK140.out) NB140_0.out (by simp)); have n2_ := Aside0.mk (qj0.trans (by repeat (first | (with_reducible first | exact HK.out | apply qj0.set_ | apply qp0 | apply qr0 | apply qq0 | refine qu0 ?_ GW133.out _ | refine qu0 ?_ GW140.out _) | exact HK.out)) hk (.inl rfl)); have n3_ := Aside0.mk (hb); have n4_ := Aside0.mk (hi); clear BK133; clear BK140; clear HK; clear HB; clear HI0; have BK133 := n0_; have BK140 := n1_; have HK := n2_; have HB := n3_; have HI0 := n4_; clear n0_ n1_ n2_ n3_ n4_; (try clear hb); (try clear hb2); (try clear hk); (try clear hi); have hnb41 := NB140_133.out; have hnc41 := NB133_140.out; have hnb42 := NB140_0.out; have hnc42 := NB0_140.out; have hcz43_0 : w40.cell? ⟨gb140, 0, none⟩ = some (.int .i64 (wrap64 ((wrap64 (a1 + 1)) + t134))) := (qe0 BK140.out 0).trans rfl; have hcz43_1 : w40.cell? ⟨gb140, 1, none⟩ = some (.int .i64 (wrap64 (1 + t137))) := (qe0 BK140.out 1).trans rfl; have hcz43_2 : w40.cell? ⟨gb140, 2, none⟩ = some (.int .i64 x141002_6) := (qe0 BK140.out 2).trans rfl; have hcz43_3 : w40.cell? ⟨gb140, 3, none⟩ = some (.int .i64 x141003_22) := (qe0 BK140.out 3).trans rfl; have hcz43_4 : w40.cell? ⟨gb140, 4, none⟩ = some (.int .i64 x141004_22) := (qe0 BK140.out 4).trans rfl; have hcz43_5 : w40.cell? ⟨gb140, 5, none⟩ = some (.int .i64 0) := (qe0 BK140.out 5).trans rfl; have hfz43_0 := qb0 BK140.out 0; have hfz43_1 := qb0 BK140.out 1; have hfz43_2 := qb0 BK140.out 2; have hfz43_3 := qb0 BK140.out 3; have hfz43_4 := qb0 BK140.out 4; have hfz43_5 := qb0 BK140.out 5; have hnb44 := NB133_0.out; have hnc44 := NB0_133.out; have hcz45_0 : w40.cell? ⟨gb133, 0, none⟩ = some (.int .i64 0) := (qe0 BK133.out 0).trans rfl; have hcz45_1 : w40.cell? ⟨gb133, 1, none⟩ = some (.int .i64 0) := (qe0 BK133.out 1).trans rfl; have hcz45_2 : w40.cell? ⟨gb133, 2, none⟩ = some (.int .i64 0) := (qe0 BK133.out 2).trans rfl; have hcz45_3 : w40.cell? ⟨gb133, 3, none⟩ = some (.int .i64 0) := (qe0 BK133.out 3).trans rfl; have hcz45_4 : w40.cell? ⟨gb133, 4, none⟩ = some (.int .i64 0) := (qe0 BK133.out 4).trans rfl; have hcz45_5 : w40.cell? ⟨gb133, 5, none⟩ = some (.int .i64 0) := (qe0 BK133.out 5).trans rfl; have hfz45_0 := qb0 BK133.out 0; have hfz45_1 := qb0 BK133.out 1; have hfz45_2 := qb0 BK133.out 2; have hfz45_3 := qb0 BK133.out 3; have hfz45_4 := qb0 BK133.out 4; have hfz45_5 := qb0 BK133.out 5))
      refine bodyPost_ret (results_cell_row rfl _ _ gb133 54 #[.int .i64 (wrap64 ((wrap64 (a1 + 1)) + t134)), .int .i64 (wrap64 (1 + t137)), .int .i64 x141002_6, .int .i64 x141003_22, .int .i64 x141004_22, .int .i64 (wrap64 (1 + t159))] (0, 0) _ rfl (by (with_reducible repeat (first | refine qg0 ?_ _ | refine qh0 ?_ | refine qf0 ?_ _)); refine ql0 (cs := #[.int .i64 (wrap64 ((wrap64 (a1 + 1)) + t134)), .int .i64 (wrap64 (1 + t137)), .int .i64 x141002_6, .int .i64 x141003_22, .int .i64 x141004_22, .int .i64 0]) ?_ 5 _ rfl; (with_reducible repeat (first | refine qg0 ?_ _ | refine qh0 ?_ | refine qf0 ?_ _)); refine ql0 (cs := #[.int .i64 (wrap64 ((wrap64 (a1 + 1)) + t134)), .int .i64 (wrap64 (1 + t137)), .int .i64 x141002_6, .int .i64 x141003_22, .int .i64 0, .int .i64 0]) ?_ 4 _ rfl; (with_reducible repeat (first | refine qg0 ?_ _ | refine qh0 ?_ | refine qf0 ?_ _)); refine ql0 (cs := #[.int .i64 (wrap64 ((wrap64 (a1 + 1)) + t134)), .int .i64 (wrap64 (1 + t137)), .int .i64 x141002_6, .int .i64 0, .int .i64 0, .int .i64 0]) ?_ 3 _ rfl; (with_reducible repeat (first | refine qg0 ?_ _ | refine qh0 ?_ | refine qf0 ?_ _)); refine ql0 (cs := #[.int .i64 (wrap64 ((wrap64 (a1 + 1)) + t134)), .int .i64 (wrap64 (1 + t137)), .int .i64 0, .int .i64 0, .int .i64 0, .int .i64 0]) ?_ 2 _ rfl; (with_reducible repeat (first | refine qg0 ?_ _ | refine qh0 ?_ | refine qf0 ?_ _)); refine ql0 (cs := #[.int .i64 (wrap64 ((wrap64 (a1 + 1)) + t134)), .int .i64 0, .int .i64 0, .int .i64 0, .int .i64 0, .int .i64 0]) ?_ 1 _ rfl; (with_reducible repeat (first | refine qg0 ?_ _ | refine qh0 ?_ | refine qf0 ?_ _)); refine ql0 (cs := #[.int .i64 0, .int .i64 0, .int .i64 0, .int .i64 0, .int .i64 0, .int .i64 0]) ?_ 0 _ rfl; (with_reducible repeat (first | refine qg0 ?_ _ | refine qh0 ?_ | refine qf0 ?_ _)); refine qe1 ?_ NB133_140.out _; (with_reducible repeat (first | refine qg0 ?_ _ | refine qh0 ?_ | refine qf0 ?_ _)); exact BK133.out) Try.underlying54 rfl (by kernel_rfl)) rfl ?_
      exact ⟨by first | rfl | (simp [errW_none, errW_some] <;> rfl) | (simp [*, errW_none, errW_some] <;> rfl), by repeat (first | (with_reducible first | exact HI0.out | apply IsS186.alloc | apply IsS186.drewN | apply IsS186.drew | apply IsS186.set_1 | apply IsS186.set_2 | refine IsS186.far ?_ NB0_133.out _ | refine IsS186.far ?_ NB0_140.out _) | exact HI0.out), by repeat (first | (with_reducible first | exact HB.out | apply qc0 | apply qa0 | apply qd0 | refine qi0 ?_ (IsS186.ge HI0.out) | refine qi0 ?_ GE133.out | refine qi0 ?_ GE140.out) | exact HB.out), by repeat (first | (with_reducible first | exact HK.out | apply qj0.set_ | apply qp0 | apply qr0 | apply qq0 | refine qu0 ?_ GW133.out _ | refine qu0 ?_ GW140.out _) | exact HK.out)⟩
     replace c37 := Bool.eq_false_iff.mpr c37
     subst c37
     have H1 : (some ((wrap64 ((wrap64 (a1 + 1)) + t134)), (wrap64 (1 + t137)), x141002_6, x141003_22, x141004_22, 0, t157, t158)) = some (r1, r2, r3, r4, r5, r6, r7, r8) := by rw [if_neg (show ¬ (false = true) by decide)] at H; exact H
     clear H
     have H := H1
     clear H1
     simp only [Option.some.injEq, Prod.mk.injEq] at H
     obtain ⟨rfl, rfl, rfl, rfl, rfl, rfl, rfl, rfl⟩ := H
     go_wp2_with (first | ((with_reducible refine qs0 (f := 63) rfl ?_); refine qk1 (some 38) rfl rfl Try.func63 (by kernel_rfl) rfl #[.pointer (some ⟨g, 0, none⟩), .int .i64 5] rfl (by (try simp only [List.map_toArray, List.map_cons, List.map_nil]); first | done | rfl | (simp only [List.length_drop, List.length_take]; rfl)) ?_; (with_reducible refine (spec_l1Once.calls g s0_0 x1001_22 x1002_22 5 false t157 t158 w0 _ ?side1 ?side2 A36.out).mono ?_); (case side1 => repeat (first | (with_reducible first | exact HI0.out | apply IsS186.alloc | apply IsS186.drewN | apply IsS186.drew | apply IsS186.set_1 | apply IsS186.set_2 | refine IsS186.far ?_ NB0_133.out _ | refine IsS186.far ?_ NB0_140.out _) | exact HI0.out)); (case side2 => repeat (first | (with_reducible first | exact HB.out | apply qc0 | apply qa0 | apply qd0 | refine qi0 ?_ (IsS186.ge HI0.out) | refine qi0 ?_ GE133.out | refine qi0 ?_ GE140.out) | exact HB.out)); rintro e w46 ⟨rfl, hi, hb, hk⟩; refine ⟨_, rfl, ?_⟩; have n0_ := Aside0.mk (qj0.blk hk (g' := gb133) (o := .cells #[.int .i64 0, .int .i64 0, .int .i64 0, .int .i64 0, .int .i64 0, .int .i64 0] 54 (0, 0)) (by (with_reducible repeat (first | refine qg0 ?_ _ | refine qh0 ?_ | refine qf0 ?_ _)); exact BK133.out) NB133_0.out (by simp)); have n1_ := Aside0.mk (qj0.blk hk (g' := gb140) (o := .cells #[.int .i64 (wrap64 ((wrap64 (a1 + 1)) + t134)), .int .i64 (wrap64 (1 + t137)), .int .i64 x141002_6, .int .i64 x141003_22, .int .i64 x141004_22, .int .i64 0] 54 (0, 0)) (by (with_reducible repeat (first | refine qg0 ?_ _ | refine qh0 ?_ | refine qf0 ?_ _)); exact BK140.out) NB140_0.out (by simp)); have n2_ := Aside0.mk (qj0.trans (by repeat (first | (with_reducible first | exact HK.out | apply qj0.set_ | apply qp0 | apply qr0 | apply qq0 | refine qu0 ?_ GW133.out _ | refine qu0 ?_ GW140.out _) | exact HK.out)) hk (.inl rfl)); have n3_ := Aside0.mk (hb); have n4_ := Aside0.mk (hi); clear BK133; clear BK140; clear HK; clear HB; clear HI0; have BK133 := n0_; have BK140 := n1_; have HK := n2_; have HB := n3_; have HI0 := n4_; clear n0_ n1_ n2_ n3_ n4_; (try clear hb); (try clear hb2); (try clear hk); (try clear hi); have hnb47 := NB140_133.out; have hnc47 := NB133_140.out; have hnb48 := NB140_0.out; have hnc48 := NB0_140.out; have hcz49_0 : w46.cell? ⟨gb140, 0, none⟩ = some (.int .i64 (wrap64 ((wrap64 (a1 + 1)) + t134))) := (qe0 BK140.out 0).trans rfl; have hcz49_1 : w46.cell? ⟨gb140, 1, none⟩ = some (.int .i64 (wrap64 (1 + t137))) := (qe0 BK140.out 1).trans rfl; have hcz49_2 : w46.cell? ⟨gb140, 2, none⟩ = some (.int .i64 x141002_6) := (qe0 BK140.out 2).trans rfl; have hcz49_3 : w46.cell? ⟨gb140, 3, none⟩ = some (.int .i64 x141003_22) := (qe0 BK140.out 3).trans rfl; have hcz49_4 : w46.cell? ⟨gb140, 4, none⟩ = some (.int .i64 x141004_22) := (qe0 BK140.out 4).trans rfl; have hcz49_5 : w46.cell? ⟨gb140, 5, none⟩ = some (.int .i64 0) := (qe0 BK140.out 5).trans rfl; have hfz49_0 := qb0 BK140.out 0; have hfz49_1 := qb0 BK140.out 1; have hfz49_2 := qb0 BK140.out 2; have hfz49_3 := qb0 BK140.out 3; have hfz49_4 := qb0 BK140.out 4; have hfz49_5 := qb0 BK140.out 5; have hnb50 := NB133_0.out; have hnc50 := NB0_133.out; have hcz51_0 : w46.cell? ⟨gb133, 0, none⟩ = some (.int .i64 0) := (qe0 BK133.out 0).trans rfl; have hcz51_1 : w46.cell? ⟨gb133, 1, none⟩ = some (.int .i64 0) := (qe0 BK133.out 1).trans rfl; have hcz51_2 : w46.cell? ⟨gb133, 2, none⟩ = some (.int .i64 0) := (qe0 BK133.out 2).trans rfl; have hcz51_3 : w46.cell? ⟨gb133, 3, none⟩ = some (.int .i64 0) := (qe0 BK133.out 3).trans rfl; have hcz51_4 : w46.cell? ⟨gb133, 4, none⟩ = some (.int .i64 0) := (qe0 BK133.out 4).trans rfl; have hcz51_5 : w46.cell? ⟨gb133, 5, none⟩ = some (.int .i64 0) := (qe0 BK133.out 5).trans rfl; have hfz51_0 := qb0 BK133.out 0; have hfz51_1 := qb0 BK133.out 1; have hfz51_2 := qb0 BK133.out 2; have hfz51_3 := qb0 BK133.out 3; have hfz51_4 := qb0 BK133.out 4; have hfz51_5 := qb0 BK133.out 5))
     refine bodyPost_ret (results_cell_row rfl _ _ gb133 54 #[.int .i64 (wrap64 ((wrap64 (a1 + 1)) + t134)), .int .i64 (wrap64 (1 + t137)), .int .i64 x141002_6, .int .i64 x141003_22, .int .i64 x141004_22, .int .i64 0] (0, 0) _ rfl (by (with_reducible repeat (first | refine qg0 ?_ _ | refine qh0 ?_ | refine qf0 ?_ _)); refine ql0 (cs := #[.int .i64 (wrap64 ((wrap64 (a1 + 1)) + t134)), .int .i64 (wrap64 (1 + t137)), .int .i64 x141002_6, .int .i64 x141003_22, .int .i64 x141004_22, .int .i64 0]) ?_ 5 _ rfl; (with_reducible repeat (first | refine qg0 ?_ _ | refine qh0 ?_ | refine qf0 ?_ _)); refine ql0 (cs := #[.int .i64 (wrap64 ((wrap64 (a1 + 1)) + t134)), .int .i64 (wrap64 (1 + t137)), .int .i64 x141002_6, .int .i64 x141003_22, .int .i64 0, .int .i64 0]) ?_ 4 _ rfl; (with_reducible repeat (first | refine qg0 ?_ _ | refine qh0 ?_ | refine qf0 ?_ _)); refine ql0 (cs := #[.int .i64 (wrap64 ((wrap64 (a1 + 1)) + t134)), .int .i64 (wrap64 (1 + t137)), .int .i64 x141002_6, .int .i64 0, .int .i64 0, .int .i64 0]) ?_ 3 _ rfl; (with_reducible repeat (first | refine qg0 ?_ _ | refine qh0 ?_ | refine qf0 ?_ _)); refine ql0 (cs := #[.int .i64 (wrap64 ((wrap64 (a1 + 1)) + t134)), .int .i64 (wrap64 (1 + t137)), .int .i64 0, .int .i64 0, .int .i64 0, .int .i64 0]) ?_ 2 _ rfl; (with_reducible repeat (first | refine qg0 ?_ _ | refine qh0 ?_ | refine qf0 ?_ _)); refine ql0 (cs := #[.int .i64 (wrap64 ((wrap64 (a1 + 1)) + t134)), .int .i64 0, .int .i64 0, .int .i64 0, .int .i64 0, .int .i64 0]) ?_ 1 _ rfl; (with_reducible repeat (first | refine qg0 ?_ _ | refine qh0 ?_ | refine qf0 ?_ _)); refine ql0 (cs := #[.int .i64 0, .int .i64 0, .int .i64 0, .int .i64 0, .int .i64 0, .int .i64 0]) ?_ 0 _ rfl; (with_reducible repeat (first | refine qg0 ?_ _ | refine qh0 ?_ | refine qf0 ?_ _)); exact BK133.out) Try.underlying54 rfl (by kernel_rfl)) rfl ?_
     exact ⟨by first | rfl | (simp [errW_none, errW_some] <;> rfl) | (simp [*, errW_none, errW_some] <;> rfl), by repeat (first | (with_reducible first | exact HI0.out | apply IsS186.alloc | apply IsS186.drewN | apply IsS186.drew | apply IsS186.set_1 | apply IsS186.set_2 | refine IsS186.far ?_ NB0_133.out _ | refine IsS186.far ?_ NB0_140.out _) | exact HI0.out), by repeat (first | (with_reducible first | exact HB.out | apply qc0 | apply qa0 | apply qd0 | refine qi0 ?_ (IsS186.ge HI0.out) | refine qi0 ?_ GE133.out | refine qi0 ?_ GE140.out) | exact HB.out), by repeat (first | (with_reducible first | exact HK.out | apply qj0.set_ | apply qp0 | apply qr0 | apply qq0 | refine qu0 ?_ GW133.out _ | refine qu0 ?_ GW140.out _) | exact HK.out)⟩

end Go.Proofs.Ytkkdmmefnicmaaa.PFnLevelled
