/- Lines by a program (a changed copy of the kit's print: this repo's wip/tools): Go functions as Lean functions, and proofs that the calls answer so. -/
import Derived.Test.YtkkdmmefnicmaaaZPFnExactWriteBankx0
import Derived.Test.YtkkdmmefnicmaaaZPFnExactWriteBankx7
import Derived.Test.YtkkdmmefnicmaaaZPFnExactWriteBankx8
namespace Go.Proofs.Ytkkdmmefnicmaaa.PFnExactWriteBank
open Go.RowKit Go.Proofs.YtkkdmmefnicmaaaW.PrintWords Go.Proofs.YtkkdmmefnicmaaaW.PrintLast Go.Proofs.YtkkdmmefnicmaaaW.PrintMore
attribute [local go_sem] max2_int min2_int max_two min_two max_three min_three max_four min_four   -- for this text's walks alone
set_option linter.unusedVariables false
set_option linter.unusedSimpArgs false

/-! ### impl_AccountNumber: function 99 -/
def impl_AccountNumber.f (a0 : ByteArray) : Option (Bool) := if (a0.size : Int) < 8 then (some false) else (if (a0.size : Int) > 30 then (some false) else (if 0 ≤ 2 then (if 2 ≤ (a0.size : Int) then ((impl_landOk.f (a0.extract 0 2)).bind fun t161 => (if t161 = true then (if 2 < (a0.size : Int) then ((impl_digit.f (bt a0 2)).bind fun t162 => (if t162 = true then (if 3 < (a0.size : Int) then ((impl_digit.f (bt a0 3)).bind fun t163 => (if t163 = true then (if 4 ≤ (a0.size : Int) then (if 0 ≤ 4 then (if (a0.extract 4 a0.size).size + (a0.extract 0 4).size ≤ 9223372036854775807 then ((impl_rest97.f ((a0.extract 4 a0.size) ++ (a0.extract 0 4))).bind fun t164 => (some (t164 == 1))) else (none)) else (none)) else (none)) else (some false))) else (none)) else (some false))) else (none)) else (some false))) else (none)) else (none)))
def impl_AccountNumber.T3 : Bool × List (List Nat × List Nat) := (true, [([], []), ([0], [0]), ([], []), ([2], [2]), ([1, 3], [1, 3]), ([4], [4]), ([5], [5]), ([6, 5, 0, 1, 2, 3, 4, 5, 6], [6])])
def impl_AccountNumber.B3 : List Nat := [0, 1, 0, 4, 15, 31, 63, 127]
theorem impl_AccountNumber.tab3 : rtab .any (opsOf Try.f99 3) = impl_AccountNumber.T3 := by kernel_rfl
theorem impl_AccountNumber.bits3 : waitsOk impl_AccountNumber.T3.2 impl_AccountNumber.B3 = true := by kernel_rfl
set_option maxHeartbeats 8000000 in
set_option maxRecDepth 100000 in
theorem impl_AccountNumber.calls (a0 : ByteArray) (r : Bool) (w : World) (h : impl_AccountNumber.f a0 = some r) :
  Calls Try.prog 99 #[.string a0] w fun e w' => e = .returned (.bool r) ∧ Below w.heap.size w w' := by
 have HB := Aside0.mk (Below.refl w.heap.size w)
 have H : (if (a0.size : Int) < 8 then (some false) else (if (a0.size : Int) > 30 then (some false) else (if 0 ≤ 2 then (if 2 ≤ (a0.size : Int) then ((impl_landOk.f (a0.extract 0 2)).bind fun t161 => (if t161 = true then (if 2 < (a0.size : Int) then ((impl_digit.f (bt a0 2)).bind fun t162 => (if t162 = true then (if 3 < (a0.size : Int) then ((impl_digit.f (bt a0 3)).bind fun t163 => (if t163 = true then (if 4 ≤ (a0.size : Int) then (if 0 ≤ 4 then (if (a0.extract 4 a0.size).size + (a0.extract 0 4).size ≤ 9223372036854775807 then ((impl_rest97.f ((a0.extract 4 a0.size) ++ (a0.extract 0 4))).bind fun t164 => (some (t164 == 1))) else (none)) else (none)) else (none)) else (some false))) else (none)) else (some false))) else (none)) else (some false))) else (none)) else (none)))) = some r := h
 clear h
 by_cases c2 : (a0.size : Int) < 8
 ·rw [if_pos c2] at H
  have c2b0 : decide ((a0.size : Int) < 8) = true := decide_eq_true c2
  have c2b1 : decide (a0.size < 8) = true := decide_eq_true (by omega)
  clear c2
  obtain rfl := Option.some.inj H
  go_enter Try.func99, Try.ntmps99
  go_wp2
  go_ret
  exact ⟨by first | rfl | (simp [errW_none, errW_some] <;> rfl) | (simp [*, errW_none, errW_some] <;> rfl), by repeat (first | (with_reducible first | exact HB.out | apply qc0 | apply qa0 | apply qb0) | exact HB.out)⟩
 rw [if_neg c2] at H
 have c2b0 : decide ((a0.size : Int) < 8) = false := decide_eq_false c2
 have c2b1 : decide (a0.size < 8) = false := decide_eq_false (by omega)
 clear c2
 by_cases c3 : (a0.size : Int) > 30
 ·rw [if_pos c3] at H
  have c3b0 : decide (30 < (a0.size : Int)) = true := decide_eq_true c3
  have c3b1 : decide (30 < a0.size) = true := decide_eq_true (by omega)
  clear c3
  obtain rfl := Option.some.inj H
  go_enter Try.func99, Try.ntmps99
  go_wp2
  go_ret
  exact ⟨by first | rfl | (simp [errW_none, errW_some] <;> rfl) | (simp [*, errW_none, errW_some] <;> rfl), by repeat (first | (with_reducible first | exact HB.out | apply qc0 | apply qa0 | apply qb0) | exact HB.out)⟩
 rw [if_neg c3] at H
 have c3b0 : decide (30 < (a0.size : Int)) = false := decide_eq_false c3
 have c3b1 : decide (30 < a0.size) = false := decide_eq_false (by omega)
 clear c3
 by_cases c4 : 0 ≤ 2
 case neg => rw [if_neg c4] at H; exact absurd H (by simp)
 rw [if_pos c4] at H
 have c4b0 := eq_true c4
 have c4b1 : decide (0 ≤ 2) = true := decide_eq_true c4
 clear c4
 by_cases c5 : 2 ≤ (a0.size : Int)
 case neg => rw [if_neg c5] at H; exact absurd H (by simp)
 rw [if_pos c5] at H
 have c5b0 := eq_true c5
 have c5b1 : decide (2 ≤ (a0.size : Int)) = true := decide_eq_true c5
 clear c5
 replace H := Option.bind_eq_some_iff.mp H
 obtain ⟨t161, A60, H⟩ := H
 replace H : (if t161 = true then (if 2 < (a0.size : Int) then ((impl_digit.f (bt a0 2)).bind fun t162 => (if t162 = true then (if 3 < (a0.size : Int) then ((impl_digit.f (bt a0 3)).bind fun t163 => (if t163 = true then (if 4 ≤ (a0.size : Int) then (if 0 ≤ 4 then (if (a0.extract 4 a0.size).size + (a0.extract 0 4).size ≤ 9223372036854775807 then ((impl_rest97.f ((a0.extract 4 a0.size) ++ (a0.extract 0 4))).bind fun t164 => (some (t164 == 1))) else (none)) else (none)) else (none)) else (some false))) else (none)) else (some false))) else (none)) else (some false)) = some r := H
 have A6 := Aside0.mk A60
 clear A60
 by_cases c7 : t161 = true
 ·subst c7
  have H1 : (if 2 < (a0.size : Int) then ((impl_digit.f (bt a0 2)).bind fun t162 => (if t162 = true then (if 3 < (a0.size : Int) then ((impl_digit.f (bt a0 3)).bind fun t163 => (if t163 = true then (if 4 ≤ (a0.size : Int) then (if 0 ≤ 4 then (if (a0.extract 4 a0.size).size + (a0.extract 0 4).size ≤ 9223372036854775807 then ((impl_rest97.f ((a0.extract 4 a0.size) ++ (a0.extract 0 4))).bind fun t164 => (some (t164 == 1))) else (none)) else (none)) else (none)) else (some false))) else (none)) else (some false))) else (none)) = some r := by rw [if_pos rfl] at H; exact H
  clear H
  have H := H1
  clear H1
  by_cases c8 : 2 < (a0.size : Int)
  case neg => rw [if_neg c8] at H; exact absurd H (by simp)
  rw [if_pos c8] at H
  have c8b0 : decide (2 < (a0.size : Int)) = true := decide_eq_true c8
  have c8b1 : decide (2 < a0.size) = true := decide_eq_true (by omega)
  clear c8
  replace H := Option.bind_eq_some_iff.mp H
  obtain ⟨t162, A100, H⟩ := H
  replace H : (if t162 = true then (if 3 < (a0.size : Int) then ((impl_digit.f (bt a0 3)).bind fun t163 => (if t163 = true then (if 4 ≤ (a0.size : Int) then (if 0 ≤ 4 then (if (a0.extract 4 a0.size).size + (a0.extract 0 4).size ≤ 9223372036854775807 then ((impl_rest97.f ((a0.extract 4 a0.size) ++ (a0.extract 0 4))).bind fun t164 => (some (t164 == 1))) else (none)) else (none)) else (none)) else (some false))) else (none)) else (some false)) = some r := H
  have A10 := Aside0.mk A100
  clear A100
  by_cases c11 : t162 = true
  ·subst c11
   have H1 : (if 3 < (a0.size : Int) then ((impl_digit.f (bt a0 3)).bind fun t163 => (if t163 = true then (if 4 ≤ (a0.size : Int) then (if 0 ≤ 4 then (if (a0.extract 4 a0.size).size + (a0.extract 0 4).size ≤ 9223372036854775807 then ((impl_rest97.f ((a0.extract 4 a0.size) ++ (a0.extract 0 4))).bind fun t164 => (some (t164 == 1))) else (none)) else (none)) else (none)) else (some false))) else (none)) = some r := by rw [if_pos rfl] at H; exact H
   clear H
   have H := H1
   clear H1
   by_cases c12 : 3 < (a0.size : Int)
   case neg => rw [if_neg c12] at H; exact absurd H (by simp)
   rw [if_pos c12] at H
   have c12b0 : decide (3 < (a0.size : Int)) = true := decide_eq_true c12
   have c12b1 : decide (3 < a0.size) = true := decide_eq_true (by omega)
   clear c12
   replace H := Option.bind_eq_some_iff.mp H
   obtain ⟨t163, A140, H⟩ := H
   replace H : (if t163 = true then (if 4 ≤ (a0.size : Int) then (if 0 ≤ 4 then (if (a0.extract 4 a0.size).size + (a0.extract 0 4).size ≤ 9223372036854775807 then ((impl_rest97.f ((a0.extract 4 a0.size) ++ (a0.extract 0 4))).bind fun t164 => (some (t164 == 1))) else (none)) else (none)) else (none)) else (some false)) = some r := H
   have A14 := Aside0.mk A140
   clear A140
   by_cases c15 : t163 = true
   ·subst c15
    have H1 : (if 4 ≤ (a0.size : Int) then (if 0 ≤ 4 then (if (a0.extract 4 a0.size).size + (a0.extract 0 4).size ≤ 9223372036854775807 then ((impl_rest97.f ((a0.extract 4 a0.size) ++ (a0.extract 0 4))).bind fun t164 => (some (t164 == 1))) else (none)) else (none)) else (none)) = some r := by rw [if_pos rfl] at H; exact H
    clear H
    have H := H1
    clear H1
    by_cases c16 : 4 ≤ (a0.size : Int)
    case neg => rw [if_neg c16] at H; exact absurd H (by simp)
    rw [if_pos c16] at H
    have c16b0 := eq_true c16
    have c16b1 : decide (4 ≤ (a0.size : Int)) = true := decide_eq_true c16
    clear c16
    by_cases c17 : 0 ≤ 4
    case neg => rw [if_neg c17] at H; exact absurd H (by simp)
    rw [if_pos c17] at H
    have c17b0 := eq_true c17
    have c17b1 : decide (0 ≤ 4) = true := decide_eq_true c17
    clear c17
    have c18b0 := eq_true (of_decide_eq_true (by first | (with_reducible assumption) | assumption) : 4 ≤ (a0.size : Int))
    by_cases c19 : (a0.extract 4 a0.size).size + (a0.extract 0 4).size ≤ 9223372036854775807
    case neg => rw [if_neg c19] at H; exact absurd H (by simp)
    rw [if_pos c19] at H
    have c19b0 := eq_true c19
    have c19b1 : decide ((a0.extract 4 a0.size).size + (a0.extract 0 4).size ≤ 9223372036854775807) = true := decide_eq_true c19
    try have c19b2 : (9223372036854775807 < (a0.extract 4 a0.size).size + (a0.extract 0 4).size) = False := eq_false (Nat.not_lt.2 c19)
    have c19b3 : (9223372036854775807 < a0.size - 4 + min 4 a0.size) = False := eq_false (by have h_ := c19; simp only [ByteArray.size_extract] at h_; omega)
    replace H := Option.bind_eq_some_iff.mp H
    obtain ⟨t164, A200, H⟩ := H
    replace H : (some (t164 == 1)) = some r := H
    have A20 := Aside0.mk A200
    clear A200
    obtain rfl := Option.some.inj H
    go_enter Try.func99, Try.ntmps99
    try go_wp2_with (first | (go_at_call 142; (with_reducible refine (impl_landOk.calls (a0.extract 0 2) true _ A6.out).mono ?_); rintro e w' ⟨rfl, ⟨nd, rfl⟩⟩; have p9 : 0 ≤ (2 : Int) := (by omega); have q9 : 2 < a0.size := (by have : (2 : Int) < (a0.size : Int) := of_decide_eq_true (by first | (with_reducible assumption) | assumption); omega); have hx9 : ∀ h : 2 < a0.size, ((a0[2]'h).toNat : Int) = bt a0 2 := bt_at a0 2; clear p9; have qi9 : (2 < (a0.size : Int)) = True := eq_true (of_decide_eq_true (by first | (with_reducible assumption) | assumption)); replace q9 := eq_true q9) | (go_at_call 143; (with_reducible refine (impl_digit.calls (bt a0 2) true _ A10.out).mono ?_); rintro e w' ⟨rfl, ⟨nd, rfl⟩⟩; have p13 : 0 ≤ (3 : Int) := (by omega); have q13 : 3 < a0.size := (by have : (3 : Int) < (a0.size : Int) := of_decide_eq_true (by first | (with_reducible assumption) | assumption); omega); have hx13 : ∀ h : 3 < a0.size, ((a0[3]'h).toNat : Int) = bt a0 3 := bt_at a0 3; clear p13; have qi13 : (3 < (a0.size : Int)) = True := eq_true (of_decide_eq_true (by first | (with_reducible assumption) | assumption)); replace q13 := eq_true q13) | (go_at_call 143; (with_reducible refine (impl_digit.calls (bt a0 3) true _ A14.out).mono ?_); rintro e w' ⟨rfl, ⟨nd, rfl⟩⟩))
    have n0_ := HB
    clear HB
    have HB := n0_
    clear n0_
    refine start_ (n := 8) (S := fun w' => True) (ds := []) #[false, false, false, false, false, false, false, false] (by kernel_rfl) rfl rfl trivial (fun hHeld => ?_); refine with_tabW impl_AccountNumber.tab3 impl_AccountNumber.bits3 (fun HT_ HW_ => ?_)
    skip
    refine pure_ (i := 0) (N := some 29) (v := ?_) (a' := ?_) #[true, false, false, false, false, false, false, false] rfl rfl (qd0 HT_.out (by kernel_rfl)) (fun _ _ _ h => h) (Or.inl ⟨by rfl, ?_⟩) ?_ ?_
    rotate_left
    ·intro w'
     go_simp
     with_reducible rfl
    rotate_left
    ·simp only [Act.put, List.setIfInBounds_toArray, List.set_cons_zero, List.set_cons_succ, i64_w, i32_w]
     rfl
    refine pure_ (i := 1) (N := some 30) (v := ?_) (a' := ?_) #[true, true, false, false, false, false, false, false] rfl rfl (qd0 HT_.out (by kernel_rfl)) (fun _ _ _ h => h) (Or.inl ⟨by rfl, ?_⟩) ?_ ?_
    rotate_left
    ·intro w'
     go_simp
     with_reducible rfl
    rotate_left
    ·simp only [Act.put, List.setIfInBounds_toArray, List.set_cons_zero, List.set_cons_succ, i64_w, i32_w]
     rfl
    refine pure_ (i := 2) (N := some 31) (v := ?_) (a' := ?_) #[true, true, true, false, false, false, false, false] rfl rfl (qd0 HT_.out (by kernel_rfl)) (fun _ _ _ h => h) (Or.inl ⟨by rfl, ?_⟩) ?_ ?_
    rotate_left
    ·intro w'
     go_simp
     with_reducible rfl
    rotate_left
    ·simp only [Act.put, List.setIfInBounds_toArray, List.set_cons_zero, List.set_cons_succ, i64_w, i32_w]
     rfl
    refine pure_ (i := 3) (N := some 32) (v := ?_) (a' := ?_) #[true, true, true, true, false, false, false, false] rfl rfl (qd0 HT_.out (by kernel_rfl)) (fun _ _ _ h => h) (Or.inl ⟨by rfl, ?_⟩) ?_ ?_
    rotate_left
    ·intro w'
     go_simp
     with_reducible rfl
    rotate_left
    ·simp only [Act.put, List.setIfInBounds_toArray, List.set_cons_zero, List.set_cons_succ, i64_w, i32_w]
     rfl
    refine pure_ (i := 4) (N := some 33) (v := ?_) (a' := ?_) #[true, true, true, true, true, false, false, false] rfl rfl (qd0 HT_.out (by kernel_rfl)) (fun _ _ _ h => h) (Or.inl ⟨by rfl, ?_⟩) ?_ ?_
    rotate_left
    ·intro w'
     go_simp
     with_reducible rfl
    rotate_left
    ·simp only [Act.put, List.setIfInBounds_toArray, List.set_cons_zero, List.set_cons_succ, i64_w, i32_w]
     rfl
    refine one_ (i := 5) (N := some 34) #[true, true, true, true, true, true, false, false] rfl rfl (qw0 HT_.out (by kernel_rfl)) (by decide) (fun K hK => ?_)
    refine goes_ Try.func144 (by kernel_rfl) rfl #[.string ((a0.extract 4 a0.size) ++ (a0.extract 0 4))] (by rfl) rfl rfl (by (try simp only [List.map_toArray, List.map_cons, List.map_nil]); first | done | rfl | (simp only [List.length_drop, List.length_take]; rfl)) ?_
    with_reducible refine (impl_rest97.calls ((a0.extract 4 a0.size) ++ (a0.extract 0 4)) t164 _ A20.out).mono ?_
    rintro e w22 ⟨rfl, hb⟩
    refine ⟨_, rfl, ?_⟩
    have n0_ := Aside0.mk (qg0 (by repeat (first | (with_reducible first | exact HB.out | apply qc0 | apply qa0 | apply qb0) | exact HB.out)) hb)
    clear HB
    have HB := n0_
    clear n0_
    (try clear hb)
    (try clear hb2)
    (try clear hk)
    (try clear hi)
    refine hK.out _ _ trivial (fun hHeld => ?_)
    clear hK K
    refine norm_ (a' := ?_) ?_ ?_
    rotate_left
    ·show Act.put _ (some 34) _ = _
     simp only [Act.put, List.setIfInBounds_toArray, List.set_cons_zero, List.set_cons_succ, i64_w, i32_w]
     rfl
    refine pure_ (i := 6) (N := some 35) (v := ?_) (a' := ?_) #[true, true, true, true, true, true, true, false] rfl rfl (qd0 HT_.out (by kernel_rfl)) (fun _ _ _ h => h) (Or.inl ⟨by rfl, ?_⟩) ?_ ?_
    rotate_left
    ·intro w'
     go_simp
     with_reducible rfl
    rotate_left
    ·simp only [Act.put, List.setIfInBounds_toArray, List.set_cons_zero, List.set_cons_succ, i64_w, i32_w]
     rfl
    refine pure_ (i := 7) (N := some 2) (v := ?_) (a' := ?_) #[true, true, true, true, true, true, true, true] rfl rfl (qd0 HT_.out (by kernel_rfl)) (fun _ _ _ h => h) (Or.inl ⟨by rfl, ?_⟩) ?_ ?_
    rotate_left
    ·intro w'
     go_simp
     with_reducible rfl
    rotate_left
    ·simp only [Act.put, List.setIfInBounds_toArray, List.set_cons_zero, List.set_cons_succ, i64_w, i32_w]
     rfl
    refine done_ (done_of HT_.out (by kernel_rfl)) ?_
    try go_wp2
    go_ret
    exact ⟨by first | rfl | (simp [errW_none, errW_some] <;> rfl) | (simp [*, errW_none, errW_some] <;> rfl), by repeat (first | (with_reducible first | exact HB.out | apply qc0 | apply qa0 | apply qb0) | exact HB.out)⟩
   replace c15 := Bool.eq_false_iff.mpr c15
   subst c15
   have H1 : (some false) = some r := by rw [if_neg (show ¬ (false = true) by decide)] at H; exact H
   clear H
   have H := H1
   clear H1
   obtain rfl := Option.some.inj H
   go_enter Try.func99, Try.ntmps99
   go_wp2_with (first | (go_at_call 142; (with_reducible refine (impl_landOk.calls (a0.extract 0 2) true _ A6.out).mono ?_); rintro e w' ⟨rfl, ⟨nd, rfl⟩⟩; have p9 : 0 ≤ (2 : Int) := (by omega); have q9 : 2 < a0.size := (by have : (2 : Int) < (a0.size : Int) := of_decide_eq_true (by first | (with_reducible assumption) | assumption); omega); have hx9 : ∀ h : 2 < a0.size, ((a0[2]'h).toNat : Int) = bt a0 2 := bt_at a0 2; clear p9; have qi9 : (2 < (a0.size : Int)) = True := eq_true (of_decide_eq_true (by first | (with_reducible assumption) | assumption)); replace q9 := eq_true q9) | (go_at_call 143; (with_reducible refine (impl_digit.calls (bt a0 2) true _ A10.out).mono ?_); rintro e w' ⟨rfl, ⟨nd, rfl⟩⟩; have p13 : 0 ≤ (3 : Int) := (by omega); have q13 : 3 < a0.size := (by have : (3 : Int) < (a0.size : Int) := of_decide_eq_true (by first | (with_reducible assumption) | assumption); omega); have hx13 : ∀ h : 3 < a0.size, ((a0[3]'h).toNat : Int) = bt a0 3 := bt_at a0 3; clear p13; have qi13 : (3 < (a0.size : Int)) = True := eq_true (of_decide_eq_true (by first | (with_reducible assumption) | assumption)); replace q13 := eq_true q13) | (go_at_call 143; (with_reducible refine (impl_digit.calls (bt a0 3) false _ A14.out).mono ?_); rintro e w' ⟨rfl, ⟨nd, rfl⟩⟩))
   go_ret
   exact ⟨by first | rfl | (simp [errW_none, errW_some] <;> rfl) | (simp [*, errW_none, errW_some] <;> rfl), by repeat (first | (with_reducible first | exact HB.out | apply qc0 | apply qa0 | apply qb0) | exact HB.out)⟩
  replace c11 := Bool.eq_false_iff.mpr c11
  subst c11
  have H1 : (some false) = some r := by rw [if_neg (show ¬ (false = true) by decide)] at H; exact H
  clear H
  have H := H1
  clear H1
  obtain rfl := Option.some.inj H
  go_enter Try.func99, Try.ntmps99
  go_wp2_with (first | (go_at_call 142; (with_reducible refine (impl_landOk.calls (a0.extract 0 2) true _ A6.out).mono ?_); rintro e w' ⟨rfl, ⟨nd, rfl⟩⟩; have p9 : 0 ≤ (2 : Int) := (by omega); have q9 : 2 < a0.size := (by have : (2 : Int) < (a0.size : Int) := of_decide_eq_true (by first | (with_reducible assumption) | assumption); omega); have hx9 : ∀ h : 2 < a0.size, ((a0[2]'h).toNat : Int) = bt a0 2 := bt_at a0 2; clear p9; have qi9 : (2 < (a0.size : Int)) = True := eq_true (of_decide_eq_true (by first | (with_reducible assumption) | assumption)); replace q9 := eq_true q9) | (go_at_call 143; (with_reducible refine (impl_digit.calls (bt a0 2) false _ A10.out).mono ?_); rintro e w' ⟨rfl, ⟨nd, rfl⟩⟩))
  go_ret
  exact ⟨by first | rfl | (simp [errW_none, errW_some] <;> rfl) | (simp [*, errW_none, errW_some] <;> rfl), by repeat (first | (with_reducible first | exact HB.out | apply qc0 | apply qa0 | apply qb0) | exact HB.out)⟩
 replace c7 := Bool.eq_false_iff.mpr c7
 subst c7
 have H1 : (some false) = some r := by rw [if_neg (show ¬ (false = true) by decide)] at H; exact H
 clear H
 have H := H1
 clear H1
 obtain rfl := Option.some.inj H
 go_enter Try.func99, Try.ntmps99
 go_wp2_with (first | (go_at_call 142; (with_reducible refine (impl_landOk.calls (a0.extract 0 2) false _ A6.out).mono ?_); rintro e w' ⟨rfl, ⟨nd, rfl⟩⟩))
 go_ret
 exact ⟨by first | rfl | (simp [errW_none, errW_some] <;> rfl) | (simp [*, errW_none, errW_some] <;> rfl), by repeat (first | (with_reducible first | exact HB.out | apply qc0 | apply qa0 | apply qb0) | exact HB.out)⟩

-- EXTERN (*loop.example/g00040/impl.bankFile).line
/-! ### impl_bankFile_line: function 101 -/
-- @making
/-- A bank file in block g: its bytes in a row of its own, its count of lines. -/
def BankF (w0 W : World) (g : Nat) (v : Value) (b : List Int) (n : Int) : Prop :=
 W.heap[g]? = some (.cells #[v, .int .i64 n] 150 (0, 0)) ∧ w0.heap.size ≤ g ∧ W.ownsRow w0.heap.size 5 1 v b.length (nums .u8 b)
theorem own_ne150 {W : World} {base n g : Nat} {v : Value} {xs : List Value} {cs : Array Value} {t : TypeId} (h : W.ownsRow base 5 1 v n xs) (hg : W.heap[g]? = some (.cells cs t (0, 0))) (ht : t ≠ 5) : some g ≠ v.ownBlock := by
 rcases h.2 with ⟨rfl, rfl⟩ | ⟨g', cap, cur, rfl, hbg, hg', hrest⟩
 ·simp [Value.ownBlock]
 ·simp only [Value.ownBlock]
  intro e
  obtain rfl := Option.some.inj e
  rw [hg] at hg'
  injection hg' with hx
  injection hx with h1 h2 h3
  exact ht h2
theorem own_sl {W : World} {base n : Nat} {v : Value} {xs : List Value} (h : W.ownsRow base 5 1 v n xs) : ∃ A c, v = .slice A n c := by
 rcases h.2 with ⟨rfl, rfl⟩ | ⟨g', cap, cur, rfl, hbg, hg', hrest⟩
 ·exact ⟨none, 0, rfl⟩
 ·exact ⟨_, _, rfl⟩
/-- What a writer keeps: every block but the file's that is no row of bytes. -/
def KeepF (w w' : World) (g : Nat) : Prop := ∀ (k : Nat) (cs : Array Value) (t : TypeId), w.heap[k]? = some (.cells cs t (0, 0)) → t ≠ 5 → k ≠ g → w'.heap[k]? = some (.cells cs t (0, 0))
set_option maxHeartbeats 8000000 in
set_option maxRecDepth 100000 in
theorem page_add (w0 w : World) (g : Nat) (v : Value) (b : List Int) (n : Int) (y : ByteArray) (hI : BankF w0 w g v b n) (HB : Below w0.heap.size w0 w) (hl : b.length + y.size ≤ 140737488355328) :
  Calls Try.prog 145 #[.pointer (some ⟨g, 0, none⟩), .string y] w fun e w' => e = .returned (.tuple #[]) ∧ (∃ v', BankF w0 w' g v' (b ++ bytesOf y) n) ∧ Below w0.heap.size w0 w' ∧ KeepF w w' g := by
 obtain ⟨hg, hgb, ho⟩ := hI
 have hc0 : w.cell? ⟨g, 0, none⟩ = some v := (qh0 hg 0).trans rfl
 have hfz0 := qe0 hg 0
 go_enter Try.func145, Try.ntmps145
 go_wp2_with (first | ((with_reducible refine gate_builtin (b := .append) (xs := #[.tmp 8, .tmp 9]) rfl ?_); at_builtin; refine print_append_str (w0 := w0) w0.heap.size rfl (.tmp 8) (.tmp 9) 22 9 5 rfl Try.underlying22 Try.underlying9 (by kernel_rfl) v b y rfl rfl ?sO ?sB ?sS hl ?_; (case sO => exact ho); (case sB => exact HB); (case sS => exact HB.size); intro v1 w1 ho1 hb1 hg1; rw [List.length_append] at ho1; obtain ⟨A1, cp1, rfl⟩ := own_sl ho1; have hgx := blk_grown hg hg1 (own_ne150 ho hg (by decide)); have hcx : w1.cell? ⟨g, 0, none⟩ = some v := (qh0 hgx 0).trans rfl; have hfx := qe0 hgx 0))
 first | go_end0 | ((try simp only [Exit.inBlock, Exit.then]); refine bodyPost_ret (results_none rfl _ _ _) rfl ?_)
 have hne1 := own_ne150 ho1 hgx (by decide)
 refine ⟨rfl, ⟨_, blk_put hgx 0 _ rfl, hgb, by rw [List.length_append]; exact own_setCell ho1 hne1 _⟩, hb1.setCell hgb _, fun k cs t hk ht hkg => ?_⟩
 exact blk_far (blk_grown hk hg1 (own_ne150 ho hk ht)) hkg _
/-- A line's fields from one on (its place), as bytes, with the bars between. -/
def remB : Nat → List ByteArray → List Int
 | _, [] => []
 | 0, s :: r => bytesOf s ++ remB 1 r
 | k + 1, s :: r => bytesOf ⟨#[124]⟩ ++ (bytesOf s ++ remB (k + 2) r)
def lineB (fs : List ByteArray) : List Int := remB 0 fs ++ bytesOf ⟨#[10]⟩
theorem remB_drop (fs : List ByteArray) (i : Nat) (h : i < fs.length) : remB i (fs.drop i) = (if i = 0 then [] else bytesOf ⟨#[124]⟩) ++ (bytesOf fs[i] ++ remB (i + 1) (fs.drop (i + 1))) := by
 rw [List.drop_eq_getElem_cons h]
 cases i with
 | zero => simp [remB]
 | succ k => simp [remB]
theorem room4 {bl bi A R0 L x s R1 M : Nat} (h1 : bi + A = bl + R0) (h2 : L = R0 + 1) (h3 : bl + L ≤ M) (h4 : A = x + (s + R1)) : bi + x + s ≤ M := by omega
theorem room2 {bl R0 L M : Nat} (h2 : L = R0 + 1) (h3 : bl + L ≤ M) : bl + R0 + 1 ≤ M := by omega
set_option maxHeartbeats 8000000 in
set_option maxRecDepth 100000 in
theorem bank_line (w0 w : World) (g fb cp : Nat) (v : Value) (b : List Int) (n : Int) (fs : List ByteArray) (hI : BankF w0 w g v b n) (HB : Below w0.heap.size w0 w)
  (hf : w.heap[fb]? = some (.cells (fs.map Value.string).toArray 9 (0, 0))) (hl : b.length + (lineB fs).length ≤ 140737488355328) (hfl : fs.length < 1000) :
  Calls Try.prog 101 #[.pointer (some ⟨g, 0, none⟩), .slice (some ⟨fb, 0, none⟩) fs.length cp] w fun e w' => e = .returned (.tuple #[]) ∧ (∃ v', BankF w0 w' g v' (b ++ lineB fs) (wrap64 (n + 1))) ∧ Below w0.heap.size w0 w' ∧ KeepF w w' g := by
 have hfg : fb ≠ g := blk_ne hf hI.1 (by decide)
 have hll : (lineB fs).length = (remB 0 fs).length + 1 := by rw [lineB, List.length_append, bytesOf_length]; rfl
 have h124 : (⟨#[124]⟩ : ByteArray).size = 1 := rfl
 have h10 : (⟨#[10]⟩ : ByteArray).size = 1 := rfl
 go_enter Try.func101, Try.ntmps101
 go_wp2
 go_loopw [8] (fun x w' => ∃ (i : Nat) (v' : Value) (bi : List Int), x = .int .i64 i ∧ i ≤ fs.length ∧ bi ++ remB i (fs.drop i) = b ++ remB 0 fs ∧ BankF w0 w' g v' bi n ∧ Below w0.heap.size w0 w' ∧ KeepF w w' g) (fun x _ => fs.length - (intOf x).toNat)
 case atStart => exact ⟨0, v, b, rfl, Nat.zero_le _, by simp, hI, HB, fun k cs t h _ _ => h⟩
 case round =>
  obtain ⟨i, v1, bi, rfl, hi, hbi, HI1, HB1, HK1⟩ := hrel
  by_cases hlt : i < fs.length
  ·have c0 : ((i : Int) < (fs.length : Int)) = True := eq_true (by omega)
   have c1 : decide ((i : Int) < (fs.length : Int)) = true := decide_eq_true (by omega)
   have hrem := remB_drop fs i hlt
   have hlen : bi.length + (remB i (fs.drop i)).length = b.length + (remB 0 fs).length := by rw [← List.length_append, hbi, List.length_append]
   have hfc : wr.cell? ⟨fb, i, none⟩ = some (.string fs[i]) := (qh0 (HK1 fb _ 9 hf (by decide) hfg) i).trans (by simp [hlt])
   have hlr : (remB i (fs.drop i)).length = (if i = 0 then 0 else 1) + (fs[i].size + (remB (i + 1) (fs.drop (i + 1))).length) := by
    rw [hrem]
    by_cases h : i = 0
    ·rw [if_pos h, if_pos h, List.nil_append, List.length_append, bytesOf_length, Nat.zero_add]
    ·rw [if_neg h, if_neg h, List.length_append, bytesOf_length, List.length_append, bytesOf_length, h124]
   have hroom := room4 hlen hll hl hlr
   clear hlen hlr
   have hw : wrap64 ((i : Int) + 1) = ((i + 1 : Nat) : Int) := by simp only [wrap64]; omega
   by_cases h0 : i = 0
   ·have z0 : ((0 : Int) < (i : Int)) = False := eq_false (by rw [h0]; decide)
    have z1 : decide ((0 : Int) < (i : Int)) = false := decide_eq_false (by rw [h0]; decide)
    have z2 : (0 < i) = False := eq_false (by rw [h0]; decide)
    have z3 : decide (0 < i) = false := decide_eq_false (by rw [h0]; decide)
    rw [if_pos h0] at hroom hrem
    clear h0
    go_wp2_with (fail)
    refine (page_add w0 _ g v1 bi n fs[i] HI1 HB1 hroom).mono ?_
    rintro e2 w2 ⟨rfl, ⟨v2, HI2⟩, HB2, HK2⟩
    dsimp only
    go_wp2_with (fail)
    go_roundw
    case rel =>
     refine ⟨i + 1, v2, _, ?_, hlt, ?_, HI2, HB2, fun k cs t h1 h2 h3 => HK2 k cs t (HK1 k cs t h1 h2 h3) h2 h3⟩
     ·simp [hw]
     ·rw [← hbi, hrem]; simp
    case measure =>
     have hm := Nat.sub_succ_lt_self fs.length i hlt
     simpa [hw, intOf] using hm
   ·have z0 : ((0 : Int) < (i : Int)) = True := eq_true (Int.natCast_pos.2 (Nat.pos_of_ne_zero h0))
    have z1 : decide ((0 : Int) < (i : Int)) = true := decide_eq_true (Int.natCast_pos.2 (Nat.pos_of_ne_zero h0))
    have z2 : (0 < i) = True := eq_true (Nat.pos_of_ne_zero h0)
    have z3 : decide (0 < i) = true := decide_eq_true (Nat.pos_of_ne_zero h0)
    rw [if_neg h0] at hroom hrem
    clear h0
    go_wp2_with (fail)
    refine (page_add w0 _ g v1 bi n ⟨#[124]⟩ HI1 HB1 (by rw [h124]; exact Nat.le_trans (Nat.le_add_right _ _) hroom)).mono ?_
    rintro e2 w2 ⟨rfl, ⟨v2, HI2⟩, HB2, HK2⟩
    dsimp only
    go_wp2_with (fail)
    refine (page_add w0 _ g v2 (bi ++ bytesOf ⟨#[124]⟩) n fs[i] HI2 HB2 (by rw [List.length_append, bytesOf_length, h124]; exact hroom)).mono ?_
    rintro e3 w3 ⟨rfl, ⟨v3, HI3⟩, HB3, HK3⟩
    dsimp only
    go_wp2_with (fail)
    go_roundw
    case rel =>
     refine ⟨i + 1, v3, _, ?_, hlt, ?_, HI3, HB3, fun k cs t h1 h2 h3 => HK3 k cs t (HK2 k cs t (HK1 k cs t h1 h2 h3) h2 h3) h2 h3⟩
     ·simp [hw]
     ·rw [← hbi, hrem]; simp
    case measure =>
     have hm := Nat.sub_succ_lt_self fs.length i hlt
     simpa [hw, intOf] using hm
  ·have c0 : ((i : Int) < (fs.length : Int)) = False := eq_false (by omega)
   have c1 : decide ((i : Int) < (fs.length : Int)) = false := decide_eq_false (by omega)
   obtain rfl : i = fs.length := by omega
   rw [List.drop_length] at hbi
   simp only [remB, List.append_nil] at hbi
   subst hbi
   go_wp2_with (fail)
   refine (page_add w0 _ g v1 _ n ⟨#[10]⟩ HI1 HB1 (by rw [List.length_append, h10]; exact room2 hll hl)).mono ?_
   rintro e2 w2 ⟨rfl, ⟨v2, HI2⟩, HB2, HK2⟩
   dsimp only
   have hc2 : w2.cell? ⟨g, 1, none⟩ = some (.int .i64 n) := (qh0 HI2.1 1).trans rfl
   have hf2 := qe0 HI2.1 1
   go_wp2_with (fail)
   first | go_end0 | ((try simp only [Exit.inBlock, Exit.then]); refine bodyPost_ret (results_none rfl _ _ _) rfl ?_)
   refine ⟨rfl, ⟨v2, blk_put HI2.1 1 _ rfl, HI2.2.1, own_setCell ?_ (own_ne150 HI2.2.2 HI2.1 (by decide)) _⟩, HB2.setCell HI2.2.1 _, fun k cs t h1 h2 h3 => blk_far (HK2 k cs t (HK1 k cs t h1 h2 h3) h2 h3) h3 _⟩
   rw [lineB, ← List.append_assoc]
   exact HI2.2.2

/-! ### impl_decimal: function 102 -/
mutual
def impl_decimal.l0 : Nat → Int → ByteArray → Option (ByteArray)
 | 0, _, _ => none
 | k + 1, x0, x3 => if x0 > 0 then ((some (([(wrap64 (48 + (Int.tmod x0 10))) % 256] : List Int) : List Int)).bind fun y169 => (if (strOfNums y169).size + x3.size ≤ 9223372036854775807 then (impl_decimal.l0 k (wrap64 (Int.tdiv x0 10)) ((strOfNums y169) ++ x3)) else (none))) else (some x3)
def impl_decimal.f : Nat → Int → Option (ByteArray)
 | 0, _ => none
 | k + 1, a0 => if a0 < 0 then ((impl_decimal.f k (wrap64 (-a0))).bind fun t165 => (if 1 + t165.size ≤ 9223372036854775807 then (some ((⟨#[45]⟩ : ByteArray) ++ t165)) else (none))) else (impl_decimal.l0 k (wrap64 (Int.tdiv a0 10)) (strOfNums (([(wrap64 (48 + (Int.tmod a0 10))) % 256] : List Int))))
end
theorem impl_decimal.mono_l : ∀ k, (∀ y0, LeO (impl_decimal.f k y0) (impl_decimal.f (k + 1) y0)) ∧ (∀ y0 y1, LeO (impl_decimal.l0 k y0 y1) (impl_decimal.l0 (k + 1) y0 y1))
 | 0 => ⟨fun _ r h => by simp [impl_decimal.f] at h, fun _ _ r h => by simp [impl_decimal.l0] at h⟩
 | k + 1 => by
  obtain ⟨ih0, ih1⟩ := impl_decimal.mono_l k
  refine ⟨?_, ?_⟩
  ·intro y0
   unfold impl_decimal.f
   repeat' first
   | (with_reducible exact ih0 _)
   | (with_reducible exact ih1 _ _)
   | (with_reducible exact LeO.refl _)
   | (with_reducible exact LeO.none _)
   | (with_reducible refine LeO.ite ?_ ?_)
   | (with_reducible refine LeO.bind ?_ (fun _ => ?_))
   | exact ih0 _
   | exact ih1 _ _
   | exact LeO.none _
   | refine LeO.ite ?_ ?_
   | refine LeO.bind ?_ (fun _ => ?_)
  ·intro y0 y1
   unfold impl_decimal.l0
   repeat' first
   | (with_reducible exact ih0 _)
   | (with_reducible exact ih1 _ _)
   | (with_reducible exact LeO.refl _)
   | (with_reducible exact LeO.none _)
   | (with_reducible refine LeO.ite ?_ ?_)
   | (with_reducible refine LeO.bind ?_ (fun _ => ?_))
   | exact ih0 _
   | exact ih1 _ _
   | exact LeO.none _
   | refine LeO.ite ?_ ?_
   | refine LeO.bind ?_ (fun _ => ?_)
theorem impl_decimal.mono : ∀ a0 k, LeO (impl_decimal.f k a0) (impl_decimal.f (k + 1) a0) := by
 intro a0 k
 obtain ⟨ih0, ih1⟩ := impl_decimal.mono_l k
 exact ih0 a0
set_option maxHeartbeats 8000000 in
set_option maxRecDepth 100000 in
theorem impl_decimal.calls (k : Nat) : ∀ (a0 : Int) (r : ByteArray) (w : World) (h : impl_decimal.f k a0 = some r),
  Calls Try.prog 102 #[.int .i64 a0] w fun e w' => e = .returned (.string r) ∧ Below w.heap.size w w' := by
 induction k using Nat.strongRecOn with
 | _ k ih =>
 intro a0 r w h
 cases k with
 | zero => exact absurd h (by simp [impl_decimal.f])
 | succ k =>
 simp only [impl_decimal.f] at h
 have HB := Aside0.mk (Below.refl w.heap.size w)
 have H : (if a0 < 0 then ((impl_decimal.f k (wrap64 (-a0))).bind fun t165 => (if 1 + t165.size ≤ 9223372036854775807 then (some ((⟨#[45]⟩ : ByteArray) ++ t165)) else (none))) else (impl_decimal.l0 k (wrap64 (Int.tdiv a0 10)) (strOfNums (([(wrap64 (48 + (Int.tmod a0 10))) % 256] : List Int))))) = some r := h
 clear h
 by_cases c2 : a0 < 0
 ·rw [if_pos c2] at H
  have c2b0 : decide (a0 < 0) = true := decide_eq_true c2
  clear c2
  replace H := Option.bind_eq_some_iff.mp H
  obtain ⟨t165, A30, H⟩ := H
  replace H : (if 1 + t165.size ≤ 9223372036854775807 then (some ((⟨#[45]⟩ : ByteArray) ++ t165)) else (none)) = some r := H
  have A3 := Aside0.mk A30
  clear A30
  by_cases c4 : 1 + t165.size ≤ 9223372036854775807
  case neg => rw [if_neg c4] at H; exact absurd H (by simp)
  rw [if_pos c4] at H
  have c4b0 := eq_true c4
  have c4b1 : decide (1 + t165.size ≤ 9223372036854775807) = true := decide_eq_true c4
  try have c4b2 : (9223372036854775807 < 1 + t165.size) = False := eq_false (Nat.not_lt.2 c4)
  obtain rfl := Option.some.inj H
  go_enter Try.func102, Try.ntmps102
  go_wp2_with (first | ((with_reducible refine qf0 (f := 102) rfl ?_); refine qn0 (some 8) rfl rfl Try.func102 (by kernel_rfl) rfl #[.int .i64 (wrap64 (-a0))] rfl (by (try simp only [List.map_toArray, List.map_cons, List.map_nil]); first | done | rfl | (simp only [List.length_drop, List.length_take]; rfl)) ?_; (with_reducible refine (ih k (by omega) (wrap64 (-a0)) t165 _ A3.out).mono ?_); rintro e w5 ⟨rfl, hb⟩; refine ⟨_, rfl, ?_⟩; have n0_ := Aside0.mk (qg0 (by repeat (first | (with_reducible first | exact HB.out | apply qc0 | apply qa0 | apply qb0) | exact HB.out)) hb); clear HB; have HB := n0_; clear n0_; (try clear hb); (try clear hb2); (try clear hk); (try clear hi)))
  go_ret
  exact ⟨by first | rfl | (simp [errW_none, errW_some] <;> rfl) | (simp [*, errW_none, errW_some] <;> rfl), by repeat (first | (with_reducible first | exact HB.out | apply qc0 | apply qa0 | apply qb0) | exact HB.out)⟩
 rw [if_neg c2] at H
 have c2b0 : decide (a0 < 0) = false := decide_eq_false c2
 clear c2
 obtain ⟨y166, hy166⟩ : ∃ y_ : List Int, y_ = (([(wrap64 (48 + (Int.tmod a0 10))) % 256] : List Int)) := ⟨_, rfl⟩
 replace H : (impl_decimal.l0 k (wrap64 (Int.tdiv a0 10)) (strOfNums y166)) = some r := by first | (rw [hy166]; with_reducible exact H) | (have H2_ := (Option.bind_some _ _).symm.trans H; rw [hy166]; with_reducible exact H2_) | (have H2_ := (Option.bind_some _ _).symm.trans H; with_reducible exact H2_) | with_reducible exact H | (rw [hy166]; exact H) | exact H
 have Ny166 := Aside0.mk hy166
 clear hy166
 have H' := Aside0.mk H
 clear H
 go_enter Try.func102, Try.ntmps102
 go_wp2_with (first | ((with_reducible refine qp0 (N := 14) rfl ?_); refine Kd.R_lit (Kd.int .u8) _ 5 ?hg (N := 14) ?hd (xs := ([(wrap64 (48 + (Int.tmod a0 10))) % 256] : List Int)) (inner := [.int .u8 ((wrap64 (48 + (Int.tmod a0 10))) % 256)]) (ok := fun _ => True) (okp := fun _ => True) ?hr ?hp (fun _ hk => hk) trivial (Below.refl _ _) (Nat.le_refl _) (by simp) ?_; (case hd => rfl); (case hg => rfl); (case hr => first | (go_simp; done) | (go_simp; rfl)); (case hp => exact (Reps.one (show Kd.M (Kd.int .u8) _ _ _ ((wrap64 (48 + (Int.tmod a0 10))) % 256) [.int .u8 ((wrap64 (48 + (Int.tmod a0 10))) % 256)] from rfl) (Reps.none _ _))); intro v167 w6 ho7 hb hg_ hnew_; clear hg_ hnew_; (first | rw [← Ny166.out] at ho7 | (simp only [Int.reduceToNat] at ho7; rw [← Ny166.out] at ho7)); have n0_ := Aside0.mk (Kd.R_lower ho7 (qi0 (by repeat (first | (with_reducible first | exact HB.out | apply qc0 | apply qa0 | apply qb0) | exact HB.out)))); have n1_ := Aside0.mk (qg0 (by repeat (first | (with_reducible first | exact HB.out | apply qc0 | apply qa0 | apply qb0) | exact HB.out)) hb); clear HB; have HO168 := n0_; have HB := n1_; clear n0_ n1_; clear hb ho7; have hcv8 := own_string (P := Try.prog) Try.underlying22 Try.underlying5 Try.underlying9 (Kd.own_of_R HO168.out)))
 go_loopg [0, 3] k (fun kq v0 v3 w' => ∃ (x0_1 : Int) (x3_1 : ByteArray), v0 = .int .i64 x0_1 ∧ v3 = .string x3_1 ∧ Aside0 (impl_decimal.l0 kq x0_1 x3_1 = some r) ∧ Aside0 (kq ≤ k) ∧ Aside0 (Below w.heap.size w w'))
 case atStart => exact ⟨(wrap64 (Int.tdiv a0 10)), (strOfNums y166), (by first | rfl | (simp; done) | (simp [*]; done)), (by first | rfl | (simp; done) | (simp [*]; done)), H', ⟨Nat.le_refl _⟩, ⟨by repeat (first | (with_reducible first | exact HB.out | apply qc0 | apply qa0 | apply qb0) | exact HB.out)⟩⟩
 case round =>
  clear H'
  try clear c1
  try clear c2
  try clear c2b0
  try clear p2
  try clear c4
  try clear c4b0
  try clear c4b1
  try clear c4b2
  try clear p6
  try clear hcv8
  obtain ⟨x0_1, x3_1, rfl, rfl, HA, HK1, HB⟩ := hrel
  cases gk with
  | zero => exact absurd HA.out (by simp [impl_decimal.l0])
  | succ k1 =>
   have H := HA.out
   clear HA
   simp only [impl_decimal.l0] at H
   by_cases c9 : x0_1 > 0
   ·rw [if_pos c9] at H
    have c9b0 : decide (0 < x0_1) = true := decide_eq_true c9
    clear c9
    obtain ⟨y169, hy169⟩ : ∃ y_ : List Int, y_ = (([(wrap64 (48 + (Int.tmod x0_1 10))) % 256] : List Int)) := ⟨_, rfl⟩
    replace H : (if (strOfNums y169).size + x3_1.size ≤ 9223372036854775807 then (impl_decimal.l0 k1 (wrap64 (Int.tdiv x0_1 10)) ((strOfNums y169) ++ x3_1)) else (none)) = some r := by first | (rw [hy169]; with_reducible exact H) | (have H2_ := (Option.bind_some _ _).symm.trans H; rw [hy169]; with_reducible exact H2_) | (have H2_ := (Option.bind_some _ _).symm.trans H; with_reducible exact H2_) | with_reducible exact H | (rw [hy169]; exact H) | exact H
    have Ny169 := Aside0.mk hy169
    clear hy169
    by_cases c10 : (strOfNums y169).size + x3_1.size ≤ 9223372036854775807
    case neg => rw [if_neg c10] at H; exact absurd H (by simp)
    rw [if_pos c10] at H
    have c10b0 := eq_true c10
    have c10b1 : decide ((strOfNums y169).size + x3_1.size ≤ 9223372036854775807) = true := decide_eq_true c10
    try have c10b2 : (9223372036854775807 < (strOfNums y169).size + x3_1.size) = False := eq_false (Nat.not_lt.2 c10)
    have H' := Aside0.mk H
    clear H
    go_wp2_with (first | ((with_reducible refine qp0 (N := 26) rfl ?_); refine Kd.R_lit (Kd.int .u8) _ 5 ?hg (N := 26) ?hd (xs := ([(wrap64 (48 + (Int.tmod x0_1 10))) % 256] : List Int)) (inner := [.int .u8 ((wrap64 (48 + (Int.tmod x0_1 10))) % 256)]) (ok := fun _ => True) (okp := fun _ => True) ?hr ?hp (fun _ hk => hk) trivial (Below.refl _ _) (Nat.le_refl _) (by simp) ?_; (case hd => rfl); (case hg => rfl); (case hr => first | (go_simp; done) | (go_simp; rfl)); (case hp => exact (Reps.one (show Kd.M (Kd.int .u8) _ _ _ ((wrap64 (48 + (Int.tmod x0_1 10))) % 256) [.int .u8 ((wrap64 (48 + (Int.tmod x0_1 10))) % 256)] from rfl) (Reps.none _ _))); intro v170 w11 ho12 hb hg_ hnew_; clear hg_ hnew_; (first | rw [← Ny169.out] at ho12 | (simp only [Int.reduceToNat] at ho12; rw [← Ny169.out] at ho12)); have n0_ := Aside0.mk (Kd.R_lower ho12 (qi0 (by repeat (first | (with_reducible first | exact HB.out | apply qc0 | apply qa0 | apply qb0) | exact HB.out)))); have n1_ := Aside0.mk (qg0 (by repeat (first | (with_reducible first | exact HB.out | apply qc0 | apply qa0 | apply qb0) | exact HB.out)) hb); clear HB; have HO171 := n0_; have HB := n1_; clear n0_ n1_; clear hb ho12; have hcv13 := own_string (P := Try.prog) Try.underlying22 Try.underlying5 Try.underlying9 (Kd.own_of_R HO171.out)))
    go_roundg k1
    case measure => have := HK1.out; omega
    case rel => exact ⟨(wrap64 (Int.tdiv x0_1 10)), ((strOfNums y169) ++ x3_1), (by first | rfl | (simp; done) | (simp [*]; done)), (by first | rfl | (simp; done) | (simp [*]; done)), H', ⟨by have := HK1.out; omega⟩, ⟨by repeat (first | (with_reducible first | exact HB.out | apply qc0 | apply qa0 | apply qb0) | exact HB.out)⟩⟩
   rw [if_neg c9] at H
   have c9b0 : decide (0 < x0_1) = false := decide_eq_false c9
   clear c9
   obtain rfl := Option.some.inj H
   go_wp2
   go_ret
   exact ⟨by first | rfl | (simp [errW_none, errW_some] <;> rfl) | (simp [*, errW_none, errW_some] <;> rfl), by repeat (first | (with_reducible first | exact HB.out | apply qc0 | apply qa0 | apply qb0) | exact HB.out)⟩

/-! ### impl_amount: function 146 -/
def impl_amount.f (a0 : Int) : Option (Bool) := (impl_between.f a0 (-100000000000) 100000000000).bind fun t172 => (some t172)
set_option maxHeartbeats 8000000 in
set_option maxRecDepth 100000 in
theorem impl_amount.calls (a0 : Int) (r : Bool) (w : World) (h : impl_amount.f a0 = some r) :
  Calls Try.prog 146 #[.int .i64 a0] w fun e w' => e = .returned (.bool r) ∧ Drawn0 w w' := by
 have H : ((impl_between.f a0 (-100000000000) 100000000000).bind fun t172 => (some t172)) = some r := h
 clear h
 replace H := Option.bind_eq_some_iff.mp H
 obtain ⟨t172, A20, H⟩ := H
 replace H : (some t172) = some r := H
 have A2 := Aside0.mk A20
 clear A20
 obtain rfl := Option.some.inj H
 go_enter Try.func146, Try.ntmps146
 go_wp2_with (first | ((with_reducible refine qf0 (f := 100) rfl ?_); refine qn0 (some 4) rfl rfl Try.func100 (by kernel_rfl) rfl #[.int .i64 a0, .int .i64 (-100000000000), .int .i64 100000000000] rfl (by (try simp only [List.map_toArray, List.map_cons, List.map_nil]); first | done | rfl | (simp only [List.length_drop, List.length_take]; rfl)) ?_; (with_reducible refine (impl_between.calls a0 (-100000000000) 100000000000 t172 _ A2.out).mono ?_); rintro e w' ⟨rfl, ⟨nd, rfl⟩⟩; refine ⟨_, rfl, ?_⟩))
 go_ret
 exact ⟨by first | rfl | (simp; done) | (simp [*]; done), by repeat (first | exact Drawn0.refl _ | apply Drawn0.step)⟩

/-! ### impl_ShowMoney: function 103 -/
mutual
def impl_ShowMoney.j0 : Nat → Int → Int → Bool → Option (ByteArray)
 | 0, _, _, _ => none
 | k + 1, x0, x1, x14 => if x14 = true then (some (⟨#[]⟩ : ByteArray)) else (if x0 < 0 then (impl_ShowMoney.j1 k (wrap64 (-x0)) x1 (⟨#[45]⟩ : ByteArray)) else (impl_ShowMoney.j1 k x0 x1 (⟨#[]⟩ : ByteArray)))
def impl_ShowMoney.j1 : Nat → Int → Int → ByteArray → Option (ByteArray)
 | 0, _, _, _ => none
 | k + 1, x0, x1, x5 => (impl_decimal.f k x0).bind fun t175 => (impl_ShowMoney.l0 k x1 x5 t175)
def impl_ShowMoney.l0 : Nat → Int → ByteArray → ByteArray → Option (ByteArray)
 | 0, _, _, _ => none
 | k + 1, x1, x5, x6 => if (x6.size : Int) ≤ x1 then (if 1 + x6.size ≤ 9223372036854775807 then (impl_ShowMoney.l0 k x1 x5 ((⟨#[48]⟩ : ByteArray) ++ x6)) else (none)) else (if x1 = 0 then (if x5.size + x6.size ≤ 9223372036854775807 then (some (x5 ++ x6)) else (none)) else (if 0 ≤ (wrap64 ((x6.size : Int) - x1)) then (if (wrap64 ((x6.size : Int) - x1)) ≤ (x6.size : Int) then (if x5.size + (x6.extract 0 ((wrap64 ((x6.size : Int) - x1)) : Int).toNat).size ≤ 9223372036854775807 then (if (x5 ++ (x6.extract 0 ((wrap64 ((x6.size : Int) - x1)) : Int).toNat)).size + 1 ≤ 9223372036854775807 then (if ((x5 ++ (x6.extract 0 ((wrap64 ((x6.size : Int) - x1)) : Int).toNat)) ++ (⟨#[46]⟩ : ByteArray)).size + (x6.extract ((wrap64 ((x6.size : Int) - x1)) : Int).toNat x6.size).size ≤ 9223372036854775807 then (some (((x5 ++ (x6.extract 0 ((wrap64 ((x6.size : Int) - x1)) : Int).toNat)) ++ (⟨#[46]⟩ : ByteArray)) ++ (x6.extract ((wrap64 ((x6.size : Int) - x1)) : Int).toNat x6.size))) else (none)) else (none)) else (none)) else (none)) else (none)))
end
def impl_ShowMoney.f (k : Nat) (a0 : Int) (a1 : Int) : Option (ByteArray) := (impl_amount.f a0).bind fun t173 => (if t173 = true then ((impl_between.f a1 0 6).bind fun t174 => (impl_ShowMoney.j0 k a0 a1 (!t174))) else (impl_ShowMoney.j0 k a0 a1 true))
theorem impl_ShowMoney.mono_l : ∀ k, (∀ y0 y1 y2, LeO (impl_ShowMoney.j0 k y0 y1 y2) (impl_ShowMoney.j0 (k + 1) y0 y1 y2)) ∧ (∀ y0 y1 y2, LeO (impl_ShowMoney.j1 k y0 y1 y2) (impl_ShowMoney.j1 (k + 1) y0 y1 y2)) ∧ (∀ y0 y1 y2, LeO (impl_ShowMoney.l0 k y0 y1 y2) (impl_ShowMoney.l0 (k + 1) y0 y1 y2))
 | 0 => ⟨fun _ _ _ r h => by simp [impl_ShowMoney.j0] at h, fun _ _ _ r h => by simp [impl_ShowMoney.j1] at h, fun _ _ _ r h => by simp [impl_ShowMoney.l0] at h⟩
 | k + 1 => by
  obtain ⟨ih0, ih1, ih2⟩ := impl_ShowMoney.mono_l k
  refine ⟨?_, ?_, ?_⟩
  ·intro y0 y1 y2
   unfold impl_ShowMoney.j0
   repeat' first
   | (with_reducible exact ih0 _ _ _)
   | (with_reducible exact ih1 _ _ _)
   | (with_reducible exact ih2 _ _ _)
   | (with_reducible exact impl_decimal.mono _ _)
   | (with_reducible exact LeO.refl _)
   | (with_reducible exact LeO.none _)
   | (with_reducible refine LeO.ite ?_ ?_)
   | (with_reducible refine LeO.bind ?_ (fun _ => ?_))
   | exact ih0 _ _ _
   | exact ih1 _ _ _
   | exact ih2 _ _ _
   | exact impl_decimal.mono _ _
   | exact LeO.none _
   | refine LeO.ite ?_ ?_
   | refine LeO.bind ?_ (fun _ => ?_)
  ·intro y0 y1 y2
   unfold impl_ShowMoney.j1
   repeat' first
   | (with_reducible exact ih0 _ _ _)
   | (with_reducible exact ih1 _ _ _)
   | (with_reducible exact ih2 _ _ _)
   | (with_reducible exact impl_decimal.mono _ _)
   | (with_reducible exact LeO.refl _)
   | (with_reducible exact LeO.none _)
   | (with_reducible refine LeO.ite ?_ ?_)
   | (with_reducible refine LeO.bind ?_ (fun _ => ?_))
   | exact ih0 _ _ _
   | exact ih1 _ _ _
   | exact ih2 _ _ _
   | exact impl_decimal.mono _ _
   | exact LeO.none _
   | refine LeO.ite ?_ ?_
   | refine LeO.bind ?_ (fun _ => ?_)
  ·intro y0 y1 y2
   unfold impl_ShowMoney.l0
   repeat' first
   | (with_reducible exact ih0 _ _ _)
   | (with_reducible exact ih1 _ _ _)
   | (with_reducible exact ih2 _ _ _)
   | (with_reducible exact impl_decimal.mono _ _)
   | (with_reducible exact LeO.refl _)
   | (with_reducible exact LeO.none _)
   | (with_reducible refine LeO.ite ?_ ?_)
   | (with_reducible refine LeO.bind ?_ (fun _ => ?_))
   | exact ih0 _ _ _
   | exact ih1 _ _ _
   | exact ih2 _ _ _
   | exact impl_decimal.mono _ _
   | exact LeO.none _
   | refine LeO.ite ?_ ?_
   | refine LeO.bind ?_ (fun _ => ?_)
theorem impl_ShowMoney.mono : ∀ a0 a1 k, LeO (impl_ShowMoney.f k a0 a1) (impl_ShowMoney.f (k + 1) a0 a1) := by
 intro a0 a1 k
 obtain ⟨ih0, ih1, ih2⟩ := impl_ShowMoney.mono_l k
 unfold impl_ShowMoney.f
 repeat' first
   | (with_reducible exact ih0 _ _ _)
   | (with_reducible exact ih1 _ _ _)
   | (with_reducible exact ih2 _ _ _)
   | (with_reducible exact impl_decimal.mono _ _)
   | (with_reducible exact LeO.refl _)
   | (with_reducible exact LeO.none _)
   | (with_reducible refine LeO.ite ?_ ?_)
   | (with_reducible refine LeO.bind ?_ (fun _ => ?_))
   | exact ih0 _ _ _
   | exact ih1 _ _ _
   | exact ih2 _ _ _
   | exact impl_decimal.mono _ _
   | exact LeO.none _
   | refine LeO.ite ?_ ?_
   | refine LeO.bind ?_ (fun _ => ?_)
set_option maxHeartbeats 8000000 in
set_option maxRecDepth 100000 in
theorem impl_ShowMoney.calls (k : Nat) (a0 : Int) (a1 : Int) (r : ByteArray) (w : World) (h : impl_ShowMoney.f k a0 a1 = some r) :
  Calls Try.prog 103 #[.int .i64 a0, .int .i64 a1] w fun e w' => e = .returned (.string r) ∧ Below w.heap.size w w' := by
 have HB := Aside0.mk (Below.refl w.heap.size w)
 have H : ((impl_amount.f a0).bind fun t173 => (if t173 = true then ((impl_between.f a1 0 6).bind fun t174 => (impl_ShowMoney.j0 k a0 a1 (!t174))) else (impl_ShowMoney.j0 k a0 a1 true))) = some r := h
 clear h
 have HC3 := Aside0.mk H
 clear H
 go_enter Try.func103, Try.ntmps103
 go_upto_region 1 with (fail)
 repeat (go_quiet (fail); go_upto_region 1 with (fail))
 go_cut [14] (fun v14 wc => ∃ (kq : Nat) (x14_2 : Bool), v14 = .bool x14_2 ∧ Aside0 (impl_ShowMoney.j0 kq a0 a1 x14_2 = some r) ∧ Aside0 (kq ≤ k) ∧ Aside0 (Below w.heap.size w wc))
 case first =>
  have H := HC3.out
  clear HC3
  replace H := Option.bind_eq_some_iff.mp H
  obtain ⟨t173, A40, H⟩ := H
  replace H : (if t173 = true then ((impl_between.f a1 0 6).bind fun t174 => (impl_ShowMoney.j0 k a0 a1 (!t174))) else (impl_ShowMoney.j0 k a0 a1 true)) = some r := H
  have A4 := Aside0.mk A40
  clear A40
  by_cases c5 : t173 = true
  ·subst c5
   have H1 : ((impl_between.f a1 0 6).bind fun t174 => (impl_ShowMoney.j0 k a0 a1 (!t174))) = some r := by rw [if_pos rfl] at H; exact H
   clear H
   have H := H1
   clear H1
   replace H := Option.bind_eq_some_iff.mp H
   obtain ⟨t174, A60, H⟩ := H
   replace H : (impl_ShowMoney.j0 k a0 a1 (!t174)) = some r := H
   have A6 := Aside0.mk A60
   clear A60
   have H' := Aside0.mk H
   clear H
   go_wp2_with (first | (go_at_call 146; (with_reducible refine (impl_amount.calls a0 true _ A4.out).mono ?_); rintro e w' ⟨rfl, ⟨nd, rfl⟩⟩; (try first | exact ⟨rfl, _, World.drewN_drewN _ _ _⟩ | exact ⟨rfl, _, Eq.trans (World.drewN_drewN _ _ _) (congrArg (World.drewN _) (Nat.add_assoc _ _ _))⟩)) | (go_at_call 100; (with_reducible refine (impl_between.calls a1 0 6 t174 _ A6.out).mono ?_); rintro e w' ⟨rfl, ⟨nd, rfl⟩⟩; (try first | exact ⟨rfl, _, World.drewN_drewN _ _ _⟩ | exact ⟨rfl, _, Eq.trans (World.drewN_drewN _ _ _) (congrArg (World.drewN _) (Nat.add_assoc _ _ _))⟩)))
   repeat (go_quiet (first | (go_at_call 146; (with_reducible refine (impl_amount.calls a0 true _ A4.out).mono ?_); rintro e w' ⟨rfl, ⟨nd, rfl⟩⟩; (try first | exact ⟨rfl, _, World.drewN_drewN _ _ _⟩ | exact ⟨rfl, _, Eq.trans (World.drewN_drewN _ _ _) (congrArg (World.drewN _) (Nat.add_assoc _ _ _))⟩)) | (go_at_call 100; (with_reducible refine (impl_between.calls a1 0 6 t174 _ A6.out).mono ?_); rintro e w' ⟨rfl, ⟨nd, rfl⟩⟩; (try first | exact ⟨rfl, _, World.drewN_drewN _ _ _⟩ | exact ⟨rfl, _, Eq.trans (World.drewN_drewN _ _ _) (congrArg (World.drewN _) (Nat.add_assoc _ _ _))⟩))); try go_wp2_with (first | (go_at_call 146; (with_reducible refine (impl_amount.calls a0 true _ A4.out).mono ?_); rintro e w' ⟨rfl, ⟨nd, rfl⟩⟩; (try first | exact ⟨rfl, _, World.drewN_drewN _ _ _⟩ | exact ⟨rfl, _, Eq.trans (World.drewN_drewN _ _ _) (congrArg (World.drewN _) (Nat.add_assoc _ _ _))⟩)) | (go_at_call 100; (with_reducible refine (impl_between.calls a1 0 6 t174 _ A6.out).mono ?_); rintro e w' ⟨rfl, ⟨nd, rfl⟩⟩; (try first | exact ⟨rfl, _, World.drewN_drewN _ _ _⟩ | exact ⟨rfl, _, Eq.trans (World.drewN_drewN _ _ _) (congrArg (World.drewN _) (Nat.add_assoc _ _ _))⟩))))
   go_meet
   case rel => exact ⟨_, (!t174), (by first | rfl | (simp; done) | (simp [*]; done)), H', ⟨by first | omega | exact Nat.le_refl _⟩, ⟨by repeat (first | (with_reducible first | exact HB.out | apply qc0 | apply qa0 | apply qb0) | exact HB.out)⟩⟩
  replace c5 := Bool.eq_false_iff.mpr c5
  subst c5
  have H1 : (impl_ShowMoney.j0 k a0 a1 true) = some r := by rw [if_neg (show ¬ (false = true) by decide)] at H; exact H
  clear H
  have H := H1
  clear H1
  have H' := Aside0.mk H
  clear H
  go_wp2_with (first | (go_at_call 146; (with_reducible refine (impl_amount.calls a0 false _ A4.out).mono ?_); rintro e w' ⟨rfl, ⟨nd, rfl⟩⟩; (try first | exact ⟨rfl, _, World.drewN_drewN _ _ _⟩ | exact ⟨rfl, _, Eq.trans (World.drewN_drewN _ _ _) (congrArg (World.drewN _) (Nat.add_assoc _ _ _))⟩)))
  repeat (go_quiet (first | (go_at_call 146; (with_reducible refine (impl_amount.calls a0 false _ A4.out).mono ?_); rintro e w' ⟨rfl, ⟨nd, rfl⟩⟩; (try first | exact ⟨rfl, _, World.drewN_drewN _ _ _⟩ | exact ⟨rfl, _, Eq.trans (World.drewN_drewN _ _ _) (congrArg (World.drewN _) (Nat.add_assoc _ _ _))⟩))); try go_wp2_with (first | (go_at_call 146; (with_reducible refine (impl_amount.calls a0 false _ A4.out).mono ?_); rintro e w' ⟨rfl, ⟨nd, rfl⟩⟩; (try first | exact ⟨rfl, _, World.drewN_drewN _ _ _⟩ | exact ⟨rfl, _, Eq.trans (World.drewN_drewN _ _ _) (congrArg (World.drewN _) (Nat.add_assoc _ _ _))⟩))))
  go_meet
  case rel => exact ⟨_, (true), (by first | rfl | (simp; done) | (simp [*]; done)), H', ⟨by first | omega | exact Nat.le_refl _⟩, ⟨by repeat (first | (with_reducible first | exact HB.out | apply qc0 | apply qa0 | apply qb0) | exact HB.out)⟩⟩
 case rest =>
  clear HC3
  try clear c1
  try clear p2
  try clear c5
  obtain ⟨kq, x14_2, rfl, HA, HJ2, HB⟩ := hcut
  cases kq with
  | zero => exact absurd HA.out (by simp [impl_ShowMoney.j0])
  | succ kj2 =>
   have H := HA.out
   clear HA
   simp only [impl_ShowMoney.j0] at H
   by_cases c7 : x14_2 = true
   ·subst c7
    have H1 : (some (⟨#[]⟩ : ByteArray)) = some r := by rw [if_pos rfl] at H; exact H
    clear H
    have H := H1
    clear H1
    obtain rfl := Option.some.inj H
    go_wp2
    repeat (go_quiet (fail); try go_wp2)
    go_ret
    exact ⟨by first | rfl | (simp [errW_none, errW_some] <;> rfl) | (simp [*, errW_none, errW_some] <;> rfl), by repeat (first | (with_reducible first | exact HB.out | apply qc0 | apply qa0 | apply qb0) | exact HB.out)⟩
   replace c7 := Bool.eq_false_iff.mpr c7
   subst c7
   have H1 : (if a0 < 0 then (impl_ShowMoney.j1 kj2 (wrap64 (-a0)) a1 (⟨#[45]⟩ : ByteArray)) else (impl_ShowMoney.j1 kj2 a0 a1 (⟨#[]⟩ : ByteArray))) = some r := by rw [if_neg (show ¬ (false = true) by decide)] at H; exact H
   clear H
   have H := H1
   clear H1
   have HC8 := Aside0.mk H
   clear H
   go_upto_if 16 with (fail)
   repeat (go_quiet (fail); go_upto_if 16 with (fail))
   go_cut [0, 5] (fun v0 v5 wc => ∃ (kq : Nat) (x0_7 : Int) (x5_7 : ByteArray), v0 = .int .i64 x0_7 ∧ v5 = .string x5_7 ∧ Aside0 (impl_ShowMoney.j1 kq x0_7 a1 x5_7 = some r) ∧ Aside0 (kq ≤ kj2) ∧ Aside0 (Below w.heap.size w wc))
   case first =>
    have H := HC8.out
    clear HC8
    by_cases c9 : a0 < 0
    ·rw [if_pos c9] at H
     have c9b0 : decide (a0 < 0) = true := decide_eq_true c9
     clear c9
     (first | rw [c9b0] | (simp only [i64_w, i32_w]; rw [c9b0]) | skip)
     have H' := Aside0.mk H
     clear H
     go_wp2
     repeat (go_quiet (fail); try go_wp2)
     go_meet
     case rel => exact ⟨_, (wrap64 (-a0)), ((⟨#[45]⟩ : ByteArray)), (by first | rfl | (simp; done) | (simp [*]; done)), (by first | rfl | (simp; done) | (simp [*]; done)), H', ⟨by have := HJ2.out; first | omega | exact Nat.le_refl _⟩, ⟨by repeat (first | (with_reducible first | exact HB.out | apply qc0 | apply qa0 | apply qb0) | exact HB.out)⟩⟩
    rw [if_neg c9] at H
    have c9b0 : decide (a0 < 0) = false := decide_eq_false c9
    clear c9
    (first | rw [c9b0] | (simp only [i64_w, i32_w]; rw [c9b0]) | skip)
    have H' := Aside0.mk H
    clear H
    go_wp2
    repeat (go_quiet (fail); try go_wp2)
    go_meet
    case rel => exact ⟨_, (a0), ((⟨#[]⟩ : ByteArray)), (by first | rfl | (simp; done) | (simp [*]; done)), (by first | rfl | (simp; done) | (simp [*]; done)), H', ⟨by have := HJ2.out; first | omega | exact Nat.le_refl _⟩, ⟨by repeat (first | (with_reducible first | exact HB.out | apply qc0 | apply qa0 | apply qb0) | exact HB.out)⟩⟩
   case rest =>
    clear HC8
    try clear c1
    try clear p2
    try clear c5
    try clear p6
    try clear c7
    try clear c9
    try clear c9b0
    try clear p2
    obtain ⟨kq, x0_7, x5_7, rfl, rfl, HA, HJ7, HB⟩ := hcut
    cases kq with
    | zero => exact absurd HA.out (by simp [impl_ShowMoney.j1])
    | succ kj7 =>
     have H := HA.out
     clear HA
     simp only [impl_ShowMoney.j1] at H
     replace H := Option.bind_eq_some_iff.mp H
     obtain ⟨t175, A100, H⟩ := H
     replace H : (impl_ShowMoney.l0 kj7 a1 x5_7 t175) = some r := H
     have A10 := Aside0.mk A100
     clear A100
     have H' := Aside0.mk H
     clear H
     go_wp2_with (first | (go_at_call 102; (with_reducible refine (impl_decimal.calls kj7 x0_7 t175 _ A10.out).mono ?_); rintro e w11 ⟨rfl, hb⟩; have n0_ := Aside0.mk (qg0 (by repeat (first | (with_reducible first | exact HB.out | apply qc0 | apply qa0 | apply qb0) | exact HB.out)) hb); clear HB; have HB := n0_; clear n0_; (try clear hb); (try clear hb2); (try clear hk); (try clear hi)))
     repeat (go_quiet (first | (go_at_call 102; (with_reducible refine (impl_decimal.calls kj7 x0_7 t175 _ A10.out).mono ?_); rintro e w11 ⟨rfl, hb⟩; have n0_ := Aside0.mk (qg0 (by repeat (first | (with_reducible first | exact HB.out | apply qc0 | apply qa0 | apply qb0) | exact HB.out)) hb); clear HB; have HB := n0_; clear n0_; (try clear hb); (try clear hb2); (try clear hk); (try clear hi))); try go_wp2_with (first | (go_at_call 102; (with_reducible refine (impl_decimal.calls kj7 x0_7 t175 _ A10.out).mono ?_); rintro e w11 ⟨rfl, hb⟩; have n0_ := Aside0.mk (qg0 (by repeat (first | (with_reducible first | exact HB.out | apply qc0 | apply qa0 | apply qb0) | exact HB.out)) hb); clear HB; have HB := n0_; clear n0_; (try clear hb); (try clear hb2); (try clear hk); (try clear hi))))
     go_loopg [6] kj7 (fun kq v6 w' => ∃ (x6_3 : ByteArray), v6 = .string x6_3 ∧ Aside0 (impl_ShowMoney.l0 kq a1 x5_7 x6_3 = some r) ∧ Aside0 (kq ≤ kj7) ∧ Aside0 (Below w.heap.size w w'))
     case atStart => exact ⟨(t175), (by first | rfl | (simp; done) | (simp [*]; done)), H', ⟨Nat.le_refl _⟩, ⟨by repeat (first | (with_reducible first | exact HB.out | apply qc0 | apply qa0 | apply qb0) | exact HB.out)⟩⟩
     case round =>
      clear H'
      try clear c1
      try clear p2
      try clear c5
      try clear p6
      try clear c7
      try clear c9
      try clear c9b0
      try clear c10
      try clear p2
      try clear p6
      obtain ⟨x6_3, rfl, HA, HK3, HB⟩ := hrel
      cases gk with
      | zero => exact absurd HA.out (by simp [impl_ShowMoney.l0])
      | succ k3 =>
       have H := HA.out
       clear HA
       simp only [impl_ShowMoney.l0] at H
       by_cases c12 : (x6_3.size : Int) ≤ a1
       ·rw [if_pos c12] at H
        have c12b0 : decide ((x6_3.size : Int) ≤ a1) = true := decide_eq_true c12
        clear c12
        by_cases c13 : 1 + x6_3.size ≤ 9223372036854775807
        case neg => rw [if_neg c13] at H; exact absurd H (by simp)
        rw [if_pos c13] at H
        have c13b0 := eq_true c13
        have c13b1 : decide (1 + x6_3.size ≤ 9223372036854775807) = true := decide_eq_true c13
        try have c13b2 : (9223372036854775807 < 1 + x6_3.size) = False := eq_false (Nat.not_lt.2 c13)
        have H' := Aside0.mk H
        clear H
        go_wp2
        repeat (go_quiet (fail); try go_wp2)
        go_roundg k3
        case measure => have := HJ2.out; have := HJ7.out; have := HK3.out; omega
        case rel => exact ⟨((⟨#[48]⟩ : ByteArray) ++ x6_3), (by first | rfl | (simp; done) | (simp [*]; done)), H', ⟨by have := HJ2.out; have := HJ7.out; have := HK3.out; omega⟩, ⟨by repeat (first | (with_reducible first | exact HB.out | apply qc0 | apply qa0 | apply qb0) | exact HB.out)⟩⟩
       rw [if_neg c12] at H
       have c12b0 : decide ((x6_3.size : Int) ≤ a1) = false := decide_eq_false c12
       clear c12
       by_cases c14 : a1 = 0
       ·rw [if_pos c14] at H
        have c14b0 : (a1 == 0) = true := beq_iff_eq.mpr c14
        have c14b1 : (a1 != 0) = false := bne_eq_false_iff_eq.mpr c14
        clear c14
        by_cases c15 : x5_7.size + x6_3.size ≤ 9223372036854775807
        case neg => rw [if_neg c15] at H; exact absurd H (by simp)
        rw [if_pos c15] at H
        have c15b0 := eq_true c15
        have c15b1 : decide (x5_7.size + x6_3.size ≤ 9223372036854775807) = true := decide_eq_true c15
        try have c15b2 : (9223372036854775807 < x5_7.size + x6_3.size) = False := eq_false (Nat.not_lt.2 c15)
        obtain rfl := Option.some.inj H
        go_wp2
        repeat (go_quiet (fail); try go_wp2)
        go_ret
        exact ⟨by first | rfl | (simp [errW_none, errW_some] <;> rfl) | (simp [*, errW_none, errW_some] <;> rfl), by repeat (first | (with_reducible first | exact HB.out | apply qc0 | apply qa0 | apply qb0) | exact HB.out)⟩
       rw [if_neg c14] at H
       have c14b0 : (a1 == 0) = false := beq_eq_false_iff_ne.mpr c14
       have c14b1 : (a1 != 0) = true := bne_iff_ne.mpr c14
       obtain ⟨ji16, hji16⟩ : ∃ j_ : Int, (wrap64 ((x6_3.size : Int) - a1)) = j_ := ⟨_, rfl⟩
       replace H : (if 0 ≤ (ji16) then (if (ji16) ≤ (x6_3.size : Int) then (if x5_7.size + (x6_3.extract 0 ((ji16) : Int).toNat).size ≤ 9223372036854775807 then (if (x5_7 ++ (x6_3.extract 0 ((ji16) : Int).toNat)).size + 1 ≤ 9223372036854775807 then (if ((x5_7 ++ (x6_3.extract 0 ((ji16) : Int).toNat)) ++ (⟨#[46]⟩ : ByteArray)).size + (x6_3.extract ((ji16) : Int).toNat x6_3.size).size ≤ 9223372036854775807 then (some (((x5_7 ++ (x6_3.extract 0 ((ji16) : Int).toNat)) ++ (⟨#[46]⟩ : ByteArray)) ++ (x6_3.extract ((ji16) : Int).toNat x6_3.size))) else (none)) else (none)) else (none)) else (none)) else (none)) = some r := by first | (rw [hji16] at H; exact H) | (simp only [hji16] at H ⊢; exact H)
       have hji16w : (IntKind.i64.wrap ((x6_3.size : Int) - a1)) = ji16 := (i64_w _).trans hji16
       by_cases c17 : 0 ≤ (ji16)
       case neg => rw [if_neg c17] at H; exact absurd H (by simp)
       rw [if_pos c17] at H
       have c17b0 := eq_true c17
       have c17b1 : decide (0 ≤ (ji16)) = true := decide_eq_true c17
       clear c17
       by_cases c18 : (ji16) ≤ (x6_3.size : Int)
       case neg => rw [if_neg c18] at H; exact absurd H (by simp)
       rw [if_pos c18] at H
       have c18b0 := eq_true c18
       have c18b1 : decide ((ji16) ≤ (x6_3.size : Int)) = true := decide_eq_true c18
       clear c18
       by_cases c19 : x5_7.size + (x6_3.extract 0 ((ji16) : Int).toNat).size ≤ 9223372036854775807
       case neg => rw [if_neg c19] at H; exact absurd H (by simp)
       rw [if_pos c19] at H
       have c19b0 := eq_true c19
       have c19b1 : decide (x5_7.size + (x6_3.extract 0 ((ji16) : Int).toNat).size ≤ 9223372036854775807) = true := decide_eq_true c19
       try have c19b2 : (9223372036854775807 < x5_7.size + (x6_3.extract 0 ((ji16) : Int).toNat).size) = False := eq_false (Nat.not_lt.2 c19)
       (try have hsz46 : (⟨#[46]⟩ : ByteArray).size = 1 := rfl)
       have c19b3 : (9223372036854775807 < x5_7.size + min ji16.toNat x6_3.size) = False := by rw [← c19b2]; simp only [ByteArray.size_append, ByteArray.size_extract, Nat.sub_zero, Nat.min_self, show (⟨#[46]⟩ : ByteArray).size = 1 from rfl]
       by_cases c20 : (x5_7 ++ (x6_3.extract 0 ((ji16) : Int).toNat)).size + 1 ≤ 9223372036854775807
       case neg => rw [if_neg c20] at H; exact absurd H (by simp)
       rw [if_pos c20] at H
       have c20b0 := eq_true c20
       have c20b1 : decide ((x5_7 ++ (x6_3.extract 0 ((ji16) : Int).toNat)).size + 1 ≤ 9223372036854775807) = true := decide_eq_true c20
       try have c20b2 : (9223372036854775807 < (x5_7 ++ (x6_3.extract 0 ((ji16) : Int).toNat)).size + 1) = False := eq_false (Nat.not_lt.2 c20)
       (try have hsz46 : (⟨#[46]⟩ : ByteArray).size = 1 := rfl)
       have c20b3 : (9223372036854775807 < x5_7.size + min ji16.toNat x6_3.size + 1) = False := by rw [← c20b2]; simp only [ByteArray.size_append, ByteArray.size_extract, Nat.sub_zero, Nat.min_self, show (⟨#[46]⟩ : ByteArray).size = 1 from rfl]
       have c21b0 := eq_true (of_decide_eq_true (by first | (with_reducible assumption) | assumption) : 0 ≤ (ji16))
       have c22b0 := eq_true (of_decide_eq_true (by first | (with_reducible assumption) | assumption) : (ji16) ≤ (x6_3.size : Int))
       by_cases c23 : ((x5_7 ++ (x6_3.extract 0 ((ji16) : Int).toNat)) ++ (⟨#[46]⟩ : ByteArray)).size + (x6_3.extract ((ji16) : Int).toNat x6_3.size).size ≤ 9223372036854775807
       case neg => rw [if_neg c23] at H; exact absurd H (by simp)
       rw [if_pos c23] at H
       have c23b0 := eq_true c23
       have c23b1 : decide (((x5_7 ++ (x6_3.extract 0 ((ji16) : Int).toNat)) ++ (⟨#[46]⟩ : ByteArray)).size + (x6_3.extract ((ji16) : Int).toNat x6_3.size).size ≤ 9223372036854775807) = true := decide_eq_true c23
       try have c23b2 : (9223372036854775807 < ((x5_7 ++ (x6_3.extract 0 ((ji16) : Int).toNat)) ++ (⟨#[46]⟩ : ByteArray)).size + (x6_3.extract ((ji16) : Int).toNat x6_3.size).size) = False := eq_false (Nat.not_lt.2 c23)
       (try have hsz46 : (⟨#[46]⟩ : ByteArray).size = 1 := rfl)
       have c23b3 : (9223372036854775807 < x5_7.size + min ji16.toNat x6_3.size + 1 + (x6_3.size - ji16.toNat)) = False := by rw [← c23b2]; simp only [ByteArray.size_append, ByteArray.size_extract, Nat.sub_zero, Nat.min_self, show (⟨#[46]⟩ : ByteArray).size = 1 from rfl]
       obtain rfl := Option.some.inj H
       go_wp2
       repeat (go_quiet (fail); try go_wp2)
       go_ret
       exact ⟨by first | rfl | (simp [errW_none, errW_some] <;> rfl) | (simp only [← hji16]; first | rfl | (simp [errW_none, errW_some] <;> rfl)) | (simp [*, errW_none, errW_some] <;> rfl), by repeat (first | (with_reducible first | exact HB.out | apply qc0 | apply qa0 | apply qb0) | exact HB.out)⟩

end Go.Proofs.Ytkkdmmefnicmaaa.PFnExactWriteBank
