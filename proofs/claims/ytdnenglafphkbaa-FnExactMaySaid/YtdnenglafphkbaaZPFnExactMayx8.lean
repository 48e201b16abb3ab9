/- Lines by a program (a changed copy of the kit's print: this repo's wip/tools): Go functions as Lean functions, and proofs that the calls answer so. -/
import Derived.Test.YtdnenglafphkbaaZPFnExactMayx0
namespace Go.Proofs.Ytdnenglafphkbaa.PFnExactMay
open Go.RowKit Go.Proofs.YtdnenglafphkbaaW.PrintWords Go.Proofs.YtdnenglafphkbaaW.PrintLast Go.Proofs.YtdnenglafphkbaaW.PrintMore
/-- Runs of true and false, by turns. -/
def rb8l : Bool → List Nat → List Bool
 | _, [] => []
 | b, n :: r => List.replicate n b ++ rb8l (!b) r
def rb8 (l : List Nat) : Array Bool := (rb8l true l).toArray
attribute [local go_sem] max2_int min2_int max_two min_two max_three min_three max_four min_four   -- for this text's walks alone
set_option linter.unusedVariables false
set_option linter.unusedSimpArgs false

-- EXTERN (*loop.example/g00040/impl.Person).fits
/-! ### impl_Person_fits: function 113 -/
/-- Has a person the role, up to the amount? -/
def fitsB (x : S123) (role : ByteArray) (a : Int) : Bool := x.f1.any fun r => (r.toList == role.toList) && decide (a ≤ x.f2)
set_option maxHeartbeats 8000000 in
set_option maxRecDepth 100000 in
theorem fits_calls (ad : Addr) (x : S123) (role : ByteArray) (a : Int) (A1 : Option Addr) (c1 : Nat) (w : World) (h1 : w.cell? ⟨ad.block, ad.off + 1, none⟩ = some (.slice A1 x.f1.length c1)) (h2 : w.cell? ⟨ad.block, ad.off + 2, none⟩ = some (.int .i64 x.f2)) (hr : Kd.string.C w A1 x.f1.length x.f1) :
  Calls Try.prog 113 #[.pointer (some ad), .string role, .int .i64 a] w fun e w' => e = .returned (.bool (fitsB x role a)) ∧ Drawn0 w w' := by
 have HR := Aside0.mk hr
 have HL := Aside0.mk (Kd.C_max hr)
 clear hr
 go_enter Try.func113, Try.ntmps113
 go_wp2
 go_loopg [14] x.f1.length (fun kq v14 w' => ∃ i : Nat, i + kq = x.f1.length ∧ v14 = .int .i64 (i : Int) ∧ Aside0 (∀ r ∈ x.f1.take i, ((r.toList == role.toList) && decide (a ≤ x.f2)) = false) ∧ Drawn0 w w')
 case atStart => exact ⟨0, Nat.zero_add _, rfl, ⟨by simp⟩, by repeat (first | exact Drawn0.refl _ | apply Drawn0.step)⟩
 case round =>
  obtain ⟨i, hi, rfl, HN, ⟨m1, rfl⟩⟩ := hrel
  by_cases hlt : i < x.f1.length
  ·have hltb : decide ((i : Int) < (x.f1.length : Int)) = true := decide_eq_true (Int.ofNat_lt.2 hlt)
   have hlt0 : decide (0 ≤ (i : Int)) = true := decide_eq_true (Int.natCast_nonneg _)
   obtain ⟨ad1, e1, hx1⟩ := Kd.at_string HR.out (i : Int) (Int.natCast_nonneg _) (Int.ofNat_lt.2 hlt)
   cases e1
   rw [Int.toNat_natCast] at hx1
   have hltc : decide (i < x.f1.length) = true := decide_eq_true hlt
   have hltp : (i < x.f1.length) = True := eq_true hlt
   have hltq : ((i : Int) < (x.f1.length : Int)) = True := eq_true (Int.ofNat_lt.2 hlt)
   have hltr : (0 ≤ (i : Int)) = True := eq_true (Int.natCast_nonneg _)
   have HLT := Aside0.mk hlt
   have HI := Aside0.mk hi
   have HWR := Aside0.mk (show wrap64 ((i : Int) + 1) = ((i + 1 : Nat) : Int) by have := HL.out; unfold wrap64; omega)
   have HRD := Aside0.mk (show rdOf ByteArray.empty x.f1 (i : Int) = x.f1[i]'(HLT.out) by simp [rdOf, List.getD, hlt])
   clear hlt hi
   by_cases d1 : (rdOf ByteArray.empty x.f1 (i : Int)).toList = role.toList
   ·have c1b0 : ((rdOf ByteArray.empty x.f1 (i : Int)).toList == role.toList) = true := beq_iff_eq.mpr d1
    have C1 := Aside0.mk d1
    clear d1
    by_cases d2 : x.f2 ≥ a
    ·have d2b0 : decide (x.f2 ≥ a) = true := decide_eq_true d2
     have d2b1 : decide (a ≤ x.f2) = true := d2b0
     have C2 := Aside0.mk d2
     clear d2
     go_wp2
     go_ret
     refine ⟨?_, by repeat (first | exact Drawn0.refl _ | apply Drawn0.step)⟩
     have : fitsB x role a = true := by
      unfold fitsB
      rw [List.any_eq_true]
      refine ⟨x.f1[i]'HLT.out, List.getElem_mem _, ?_⟩
      rw [← HRD.out, c1b0, decide_eq_true C2.out]
      rfl
     rw [this]
     rfl
    ·have d2b0 : decide (x.f2 ≥ a) = false := decide_eq_false d2
     have d2b1 : decide (a ≤ x.f2) = false := d2b0
     have C2 := Aside0.mk d2
     clear d2
     go_wp2
     go_roundg (gk - 1)
     case rel =>
      refine ⟨i + 1, by have := HLT.out; have := HI.out; omega, by rw [HWR.out], ⟨fun r hr => ?_⟩, by repeat (first | exact Drawn0.refl _ | apply Drawn0.step)⟩
      rw [d2b1, Bool.and_false]
     case measure => have := HLT.out; have := HI.out; omega
   ·have c1b0 : ((rdOf ByteArray.empty x.f1 (i : Int)).toList == role.toList) = false := beq_eq_false_iff_ne.mpr d1
    have C1 := Aside0.mk d1
    clear d1
    go_wp2
    go_roundg (gk - 1)
    case rel =>
     refine ⟨i + 1, by have := HLT.out; have := HI.out; omega, by rw [HWR.out], ⟨fun r hr => ?_⟩, by repeat (first | exact Drawn0.refl _ | apply Drawn0.step)⟩
     rw [List.take_add_one, List.getElem?_eq_getElem HLT.out] at hr
     rcases List.mem_append.1 hr with hr | hr
     ·exact HN.out r hr
     ·have e_ : r = x.f1[i]'HLT.out := by simpa using hr
      rw [e_, ← HRD.out, c1b0, Bool.false_and]
    case measure => have := HLT.out; have := HI.out; omega
  ·have hltb : decide ((i : Int) < (x.f1.length : Int)) = false := decide_eq_false (by omega)
   have hltc : decide (i < x.f1.length) = false := decide_eq_false hlt
   have HNF := Aside0.mk (show fitsB x role a = false by
    have hall := HN.out
    rw [List.take_of_length_le (by omega)] at hall
    unfold fitsB
    rw [List.any_eq_false]
    intro r hr
    rw [hall r hr]
    decide)
   clear hlt hi
   go_wp2
   go_ret
   exact ⟨by rw [HNF.out]; rfl, by repeat (first | exact Drawn0.refl _ | apply Drawn0.step)⟩

-- EXTERN loop.example/g00040/impl.may
/-! ### impl_may: function 85 -/
/-- May a person do it? -/
def mayOf (w : S123) (role : ByteArray) (a : Int) (o : S123) : Bool := o.f4 && (o.f3.toList == w.f0.toList) && fitsB o role a
def mayB (l : List S123) (who : Int) (role : ByteArray) (a : Int) : Bool := if 0 ≤ who ∧ who < (l.length : Int) then (if (rd_T123 l who).f4 = true then false else (fitsB (rd_T123 l who) role a || l.any (mayOf (rd_T123 l who) role a))) else false
def impl_may.f (l0 : List S123) (a1 : Int) (a2 : ByteArray) (a3 : Int) : Option Bool := some (mayB l0 a1 a2 a3)
def impl_may.T10 : Bool × List (List Nat × List Nat) := (true, [([], []), ([0], [0]), ([1], [1]), ([2], [2]), ([3], [3]), ([4], [4]), ([5, 4], [4, 5]), ([6, 4], [4, 6]), ([7, 4], [4, 7]), ([4], [4]), ([9, 4], [4, 9]), ([10, 4], [4, 10]), ([11, 4], [4, 11]), ([8, 12, 4], [4, 8, 12]), ([4, 13], [4, 13]), ([14, 4], [14]), ([15], [15]), ([15], [15]), ([15], [15]), ([16, 17, 18, 15, 15], [15, 16, 17, 18]), ([15, 19], [15, 19])])
def impl_may.B10 : List Nat := [0, 1, 3, 7, 15, 31, 63, 127, 255, 31, 543, 1567, 3615, 8191, 16383, 32767, 65535, 65535, 65535, 524287, 1048575]
theorem impl_may.tab10 : rtab .any (opsOf Try.f85 10) = impl_may.T10 := by kernel_rfl
theorem impl_may.bits10 : waitsOk impl_may.T10.2 impl_may.B10 = true := by kernel_rfl
set_option maxHeartbeats 8000000 in
set_option maxRecDepth 100000 in
theorem impl_may.calls (A0 : Option Addr) (c0 : Nat) (l0 : List S123) (a1 : Int) (a2 : ByteArray) (a3 : Int) (r : Bool) (w : World) (hr0 : Kd.C k123 w A0 l0.length l0) (hc0 : l0.length ≤ c0) (h : impl_may.f l0 a1 a2 a3 = some r) :
  Calls Try.prog 85 #[.slice A0 l0.length c0, .int .i64 a1, .string a2, .int .i64 a3] w fun e w' => e = .returned (.bool r) ∧ Drawn0 w w' := by
 obtain rfl := Option.some.inj h
 clear h
 have HR0 := Aside0.mk hr0
 have HC0 := Aside0.mk hc0
 have HLN := Aside0.mk (Kd.C_max hr0)
 clear hr0 hc0
 by_cases d1 : a1 < 0
 ·have d1b0 : decide (a1 < 0) = true := decide_eq_true d1
  have HM := Aside0.mk (show mayB l0 a1 a2 a3 = false by unfold mayB; rw [if_neg (by omega)])
  clear d1
  go_enter Try.func85, Try.ntmps85
  go_wp2
  go_ret
  exact ⟨by rw [HM.out]; rfl, by repeat (first | exact Drawn0.refl _ | apply Drawn0.step)⟩
 ·by_cases d2 : a1 ≥ (l0.length : Int)
  ·have d1b0 : decide (a1 < 0) = false := decide_eq_false d1
   have d2b0 : decide (a1 ≥ (l0.length : Int)) = true := decide_eq_true d2
   have d2b1 : decide ((l0.length : Int) ≤ a1) = true := decide_eq_true d2
   have HM := Aside0.mk (show mayB l0 a1 a2 a3 = false by unfold mayB; rw [if_neg (by omega)])
   clear d1 d2
   go_enter Try.func85, Try.ntmps85
   go_wp2
   go_ret
   exact ⟨by rw [HM.out]; rfl, by repeat (first | exact Drawn0.refl _ | apply Drawn0.step)⟩
  ·have d1b0 : decide (a1 < 0) = false := decide_eq_false d1
   have d2b0 : decide (a1 ≥ (l0.length : Int)) = false := decide_eq_false d2
   have d2b1 : decide ((l0.length : Int) ≤ a1) = false := decide_eq_false d2
   have P1 := Aside0.mk (show 0 ≤ a1 ∧ a1 < (l0.length : Int) by omega)
   clear d1 d2
   obtain ⟨ad, Ax, cx, e1, hx0, hx1, hx2, hx3, hx4, hlx, hix⟩ := at_T123 HR0.out a1 P1.out.1 P1.out.2
   cases e1
   have HRX := Aside0.mk hix
   clear hlx hix
   have p1 : (0 ≤ a1) = True := eq_true P1.out.1
   have q1 : (a1 < (l0.length : Int)) = True := eq_true P1.out.2
   have p1b : decide (0 ≤ a1) = true := decide_eq_true P1.out.1
   have q1b : decide (a1 < (l0.length : Int)) = true := decide_eq_true P1.out.2
   by_cases d3 : (rd_T123 l0 a1).f4 = true
   ·have HM := Aside0.mk (show mayB l0 a1 a2 a3 = false by unfold mayB; rw [if_pos P1.out, if_pos d3])
    rw [d3] at hx4
    clear d3
    go_enter Try.func85, Try.ntmps85
    go_wp2
    go_ret
    exact ⟨by rw [HM.out]; rfl, by repeat (first | exact Drawn0.refl _ | apply Drawn0.step)⟩
   ·have HM0 := Aside0.mk (show mayB l0 a1 a2 a3 = (fitsB (rd_T123 l0 a1) a2 a3 || l0.any (mayOf (rd_T123 l0 a1) a2 a3)) by unfold mayB; rw [if_pos P1.out, if_neg d3])
    rw [Bool.eq_false_iff.mpr d3] at hx4
    clear d3
    by_cases d4 : fitsB (rd_T123 l0 a1) a2 a3 = true
    ·have HM := Aside0.mk (show mayB l0 a1 a2 a3 = true by rw [HM0.out, d4]; rfl)
     have F4 := Aside0.mk d4
     clear d4
     go_enter Try.func85, Try.ntmps85
     go_wp2_with fail
     refine (fits_calls (ad.add (a1.toNat * 5)) (rd_T123 l0 a1) a2 a3 Ax cx _ hx1 hx2 HRX.out).mono ?_
     rintro e w' ⟨rfl, ⟨nd, rfl⟩⟩
     rw [F4.out]
     go_wp2
     go_ret
     exact ⟨by rw [HM.out]; rfl, by repeat (first | exact Drawn0.refl _ | apply Drawn0.step)⟩
    ·have HM := Aside0.mk (show mayB l0 a1 a2 a3 = l0.any (mayOf (rd_T123 l0 a1) a2 a3) by rw [HM0.out, Bool.eq_false_iff.mpr d4, Bool.false_or])
     have F4 := Aside0.mk (Bool.eq_false_iff.mpr d4)
     clear d4 HM0
     go_enter Try.func85, Try.ntmps85
     go_wp2_with fail
     refine (fits_calls (ad.add (a1.toNat * 5)) (rd_T123 l0 a1) a2 a3 Ax cx _ hx1 hx2 HRX.out).mono ?_
     rintro e w' ⟨rfl, ⟨nd0, rfl⟩⟩
     rw [F4.out]
     go_wp2
     go_loopg [36] l0.length (fun kq v36 w' => ∃ i : Nat, i + kq = l0.length ∧ v36 = .int .i64 (i : Int) ∧ Aside0 (∀ o ∈ l0.take i, mayOf (rd_T123 l0 a1) a2 a3 o = false) ∧ Drawn0 w w')
     case atStart => exact ⟨0, Nat.zero_add _, rfl, ⟨by simp⟩, by repeat (first | exact Drawn0.refl _ | apply Drawn0.step)⟩
     case round =>
      obtain ⟨i, hi, rfl, HN, ⟨m1, rfl⟩⟩ := hrel
      by_cases hlt : i < l0.length
      ·have hltb : decide ((i : Int) < (l0.length : Int)) = true := decide_eq_true (Int.ofNat_lt.2 hlt)
       have hltc : decide (i < l0.length) = true := decide_eq_true hlt
       have hltp : (i < l0.length) = True := eq_true hlt
       have hltq : ((i : Int) < (l0.length : Int)) = True := eq_true (Int.ofNat_lt.2 hlt)
       have hltr : (0 ≤ (i : Int)) = True := eq_true (Int.natCast_nonneg _)
       obtain ⟨ad2, Ay, cy, e2, hy0, hy1, hy2, hy3, hy4, hly, hiy⟩ := at_T123 HR0.out (i : Int) (Int.natCast_nonneg _) (Int.ofNat_lt.2 hlt)
       obtain rfl : ad = ad2 := (by injection e2)
       rw [Int.toNat_natCast] at hy0 hy1 hy2 hy3 hy4
       have HRY := Aside0.mk hiy
       have HLT := Aside0.mk hlt
       have HI := Aside0.mk hi
       have HWR := Aside0.mk (show wrap64 ((i : Int) + 1) = ((i + 1 : Nat) : Int) by have := HLN.out; unfold wrap64; omega)
       have HRD := Aside0.mk (show rd_T123 l0 (i : Int) = l0[i]'(HLT.out) by simp [rd_T123, List.getD, hlt])
       clear hly hiy e2 hlt hi
       by_cases d5 : (rd_T123 l0 (i : Int)).f4 = true
       ·have hy4k := hy4
        rw [d5] at hy4
        by_cases d6 : (rd_T123 l0 (i : Int)).f3.toList = (rd_T123 l0 a1).f0.toList
        ·have d6b : ((rd_T123 l0 (i : Int)).f3.toList == (rd_T123 l0 a1).f0.toList) = true := beq_iff_eq.mpr d6
         have D6 := Aside0.mk d6
         clear d6
         by_cases d7 : fitsB (rd_T123 l0 (i : Int)) a2 a3 = true
         ·have F3 := d7
          have HZ := Aside0.mk (show mayOf (rd_T123 l0 a1) a2 a3 (rd_T123 l0 (i : Int)) = true by unfold mayOf; rw [d5, d6b, d7]; rfl)
          clear d5 d7
          go_wp2
          refine start_ (n := 21) (S := fun w' => w'.cell? ⟨(ad.add (i * 5)).block, (ad.add (i * 5)).off + 4, none⟩ = some (.bool true) ∧ w'.cell? ⟨(ad.add (i * 5)).block, (ad.add (i * 5)).off + 3, none⟩ = some (.string (rd_T123 l0 (i : Int)).f3) ∧ w'.cell? (ad.add (a1.toNat * 5)) = some (.string (rd_T123 l0 a1).f0)) (ds := []) (rb8 [0, 21]) (by kernel_rfl) rfl rfl ⟨hy4, hy3, hx0⟩ (fun hHeld => ?_); refine with_tabW impl_may.tab10 impl_may.bits10 (fun HT_ HW_ => ?_)
          refine pure_ (i := 0) (N := some 42) (v := ?_) (a' := ?_) (rb8 [1, 20]) rfl rfl (qf0 HT_.out (by kernel_rfl)) (fun _ _ _ h => h) (Or.inl ⟨by rfl, ?_⟩) ?_ ?_
          rotate_left
          ·intro w'
           go_simp
           with_reducible rfl
          rotate_left
          ·simp only [Act.put, List.setIfInBounds_toArray, List.set_cons_zero, List.set_cons_succ, i64_w, i32_w]
           rfl
          refine pure_ (i := 1) (N := some 43) (v := ?_) (a' := ?_) (rb8 [2, 19]) rfl rfl (qf0 HT_.out (by kernel_rfl)) (fun _ _ _ h => h) (Or.inl ⟨by rfl, ?_⟩) ?_ ?_
          rotate_left
          ·intro w'
           go_simp
           with_reducible rfl
          rotate_left
          ·simp only [Act.put, List.setIfInBounds_toArray, List.set_cons_zero, List.set_cons_succ, i64_w, i32_w]
           rfl
          refine pure_ (i := 2) (N := some 44) (v := ?_) (a' := ?_) (rb8 [3, 18]) rfl rfl (qf0 HT_.out (by kernel_rfl)) (fun _ _ _ h => h) (Or.inl ⟨by rfl, ?_⟩) ?_ ?_
          rotate_left
          ·intro w'
           go_simp
           with_reducible rfl
          rotate_left
          ·simp only [Act.put, List.setIfInBounds_toArray, List.set_cons_zero, List.set_cons_succ, i64_w, i32_w]
           rfl
          refine take_ (i := 3) (N := some 45) (v := ?_) (a' := ?_) (rb8 [4, 17]) rfl rfl (qu0 HT_.out HW_.out (by kernel_rfl)) (fun _ _ _ h => h) (Or.inl ⟨by rfl, ?_⟩) hHeld ?_ ?_
          rotate_left
          ·rintro w' ⟨s0, s1, s2⟩
           go_simp
           with_reducible rfl
          rotate_left
          ·simp only [Act.put, List.setIfInBounds_toArray, List.set_cons_zero, List.set_cons_succ, i64_w, i32_w]
           rfl
          refine pure_ (i := 4) (N := some 46) (v := ?_) (a' := ?_) (rb8 [5, 16]) rfl rfl (qf0 HT_.out (by kernel_rfl)) (fun _ _ _ h => h) (Or.inl ⟨by rfl, ?_⟩) ?_ ?_
          rotate_left
          ·intro w'
           go_simp
           with_reducible rfl
          rotate_left
          ·simp only [Act.put, List.setIfInBounds_toArray, List.set_cons_zero, List.set_cons_succ, i64_w, i32_w]
           rfl
          refine pure_ (i := 5) (N := some 47) (v := ?_) (a' := ?_) (rb8 [6, 15]) rfl rfl (qf0 HT_.out (by kernel_rfl)) (fun _ _ _ h => h) (Or.inl ⟨by rfl, ?_⟩) ?_ ?_
          rotate_left
          ·intro w'
           go_simp
           with_reducible rfl
          rotate_left
          ·simp only [Act.put, List.setIfInBounds_toArray, List.set_cons_zero, List.set_cons_succ, i64_w, i32_w]
           rfl
          refine pure_ (i := 6) (N := some 48) (v := ?_) (a' := ?_) (rb8 [7, 14]) rfl rfl (qf0 HT_.out (by kernel_rfl)) (fun _ _ _ h => h) (Or.inl ⟨by rfl, ?_⟩) ?_ ?_
          rotate_left
          ·intro w'
           go_simp
           with_reducible rfl
          rotate_left
          ·simp only [Act.put, List.setIfInBounds_toArray, List.set_cons_zero, List.set_cons_succ, i64_w, i32_w]
           rfl
          refine pure_ (i := 7) (N := some 49) (v := ?_) (a' := ?_) (rb8 [8, 13]) rfl rfl (qf0 HT_.out (by kernel_rfl)) (fun _ _ _ h => h) (Or.inl ⟨by rfl, ?_⟩) ?_ ?_
          rotate_left
          ·intro w'
           go_simp
           with_reducible rfl
          rotate_left
          ·simp only [Act.put, List.setIfInBounds_toArray, List.set_cons_zero, List.set_cons_succ, i64_w, i32_w]
           rfl
          refine pure_ (i := 9) (N := some 51) (v := ?_) (a' := ?_) (rb8 [8, 1, 1, 11]) rfl rfl (qf0 HT_.out (by kernel_rfl)) (fun _ _ _ h => h) (Or.inl ⟨by rfl, ?_⟩) ?_ ?_
          rotate_left
          ·intro w'
           go_simp
           with_reducible rfl
          rotate_left
          ·simp only [Act.put, List.setIfInBounds_toArray, List.set_cons_zero, List.set_cons_succ, i64_w, i32_w]
           rfl
          refine pure_ (i := 10) (N := some 52) (v := ?_) (a' := ?_) (rb8 [8, 1, 2, 10]) rfl rfl (qf0 HT_.out (by kernel_rfl)) (fun _ _ _ h => h) (Or.inl ⟨by rfl, ?_⟩) ?_ ?_
          rotate_left
          ·intro w'
           go_simp
           with_reducible rfl
          rotate_left
          ·simp only [Act.put, List.setIfInBounds_toArray, List.set_cons_zero, List.set_cons_succ, i64_w, i32_w]
           rfl
          refine pure_ (i := 11) (N := some 53) (v := ?_) (a' := ?_) (rb8 [8, 1, 3, 9]) rfl rfl (qf0 HT_.out (by kernel_rfl)) (fun _ _ _ h => h) (Or.inl ⟨by rfl, ?_⟩) ?_ ?_
          rotate_left
          ·intro w'
           go_simp
           with_reducible rfl
          rotate_left
          ·simp only [Act.put, List.setIfInBounds_toArray, List.set_cons_zero, List.set_cons_succ, i64_w, i32_w]
           rfl
          refine take_ (i := 8) (N := some 50) (v := ?_) (a' := ?_) (rb8 [12, 9]) rfl rfl (qu0 HT_.out HW_.out (by kernel_rfl)) (fun _ _ _ h => h) (Or.inl ⟨by rfl, ?_⟩) hHeld ?_ ?_
          rotate_left
          ·rintro w' ⟨s0, s1, s2⟩
           go_simp
           with_reducible rfl
          rotate_left
          ·simp only [Act.put, List.setIfInBounds_toArray, List.set_cons_zero, List.set_cons_succ, i64_w, i32_w]
           rfl
          refine take_ (i := 12) (N := some 54) (v := ?_) (a' := ?_) (rb8 [13, 8]) rfl rfl (qu0 HT_.out HW_.out (by kernel_rfl)) (fun _ _ _ h => h) (Or.inl ⟨by rfl, ?_⟩) hHeld ?_ ?_
          rotate_left
          ·rintro w' ⟨s0, s1, s2⟩
           go_simp
           with_reducible rfl
          rotate_left
          ·simp only [Act.put, List.setIfInBounds_toArray, List.set_cons_zero, List.set_cons_succ, i64_w, i32_w]
           rfl
          refine pure_ (i := 13) (N := some 55) (v := ?_) (a' := ?_) (rb8 [14, 7]) rfl rfl (qf0 HT_.out (by kernel_rfl)) (fun _ _ _ h => h) (Or.inl ⟨by rfl, ?_⟩) ?_ ?_
          rotate_left
          ·intro w'
           go_simp
           with_reducible rfl
          rotate_left
          ·simp only [Act.put, List.setIfInBounds_toArray, List.set_cons_zero, List.set_cons_succ, i64_w, i32_w]
           rfl
          refine pure_ (i := 14) (N := some 56) (v := ?_) (a' := ?_) (rb8 [15, 6]) rfl rfl (qf0 HT_.out (by kernel_rfl)) (fun _ _ _ h => h) (Or.inl ⟨by rfl, ?_⟩) ?_ ?_
          rotate_left
          ·intro w'
           go_simp
           with_reducible rfl
          rotate_left
          ·simp only [Act.put, List.setIfInBounds_toArray, List.set_cons_zero, List.set_cons_succ, i64_w, i32_w]
           rfl
          refine pure_ (i := 15) (N := some 57) (v := ?_) (a' := ?_) (rb8 [16, 5]) rfl rfl (qf0 HT_.out (by kernel_rfl)) (fun _ _ _ h => h) (Or.inl ⟨by rfl, ?_⟩) ?_ ?_
          rotate_left
          ·intro w'
           go_simp
           with_reducible rfl
          rotate_left
          ·simp only [Act.put, List.setIfInBounds_toArray, List.set_cons_zero, List.set_cons_succ, i64_w, i32_w]
           rfl
          refine pure_ (i := 16) (N := some 58) (v := ?_) (a' := ?_) (rb8 [17, 4]) rfl rfl (qf0 HT_.out (by kernel_rfl)) (fun _ _ _ h => h) (Or.inl ⟨by rfl, ?_⟩) ?_ ?_
          rotate_left
          ·intro w'
           go_simp
           with_reducible rfl
          rotate_left
          ·simp only [Act.put, List.setIfInBounds_toArray, List.set_cons_zero, List.set_cons_succ, i64_w, i32_w]
           rfl
          refine pure_ (i := 17) (N := some 59) (v := ?_) (a' := ?_) (rb8 [18, 3]) rfl rfl (qf0 HT_.out (by kernel_rfl)) (fun _ _ _ h => h) (Or.inl ⟨by rfl, ?_⟩) ?_ ?_
          rotate_left
          ·intro w'
           go_simp
           with_reducible rfl
          rotate_left
          ·simp only [Act.put, List.setIfInBounds_toArray, List.set_cons_zero, List.set_cons_succ, i64_w, i32_w]
           rfl
          refine pure_ (i := 18) (N := some 60) (v := ?_) (a' := ?_) (rb8 [19, 2]) rfl rfl (qf0 HT_.out (by kernel_rfl)) (fun _ _ _ h => h) (Or.inl ⟨by rfl, ?_⟩) ?_ ?_
          rotate_left
          ·intro w'
           go_simp
           with_reducible rfl
          rotate_left
          ·simp only [Act.put, List.setIfInBounds_toArray, List.set_cons_zero, List.set_cons_succ, i64_w, i32_w]
           rfl
          refine one_ (i := 19) (N := some 61) (rb8 [20, 1]) rfl rfl (one_of HT_.out (by kernel_rfl)) (by decide) (fun K hK => ?_)
          refine goes_ Try.func113 (by kernel_rfl) rfl #[.pointer (some (ad.add (i * 5))), .string a2, .int .i64 a3] (by rfl) rfl rfl (by (try simp only [List.map_toArray, List.map_cons, List.map_nil]); first | done | rfl) ?_
          refine (fits_calls (ad.add (i * 5)) (rd_T123 l0 (i : Int)) a2 a3 Ay cy ((w.drewN m1).drew) hy1 hy2 (Kd.qt0 (Kd.qn0 HRY.out m1))).mono ?_
          rintro e w' ⟨rfl, ⟨nd, rfl⟩⟩
          refine ⟨_, rfl, ?_⟩
          rw [F3]
          refine hK.out _ _ ⟨hy4, hy3, hx0⟩ (fun hHeld => ?_)
          clear hK K
          refine norm_ (a' := ?_) ?_ ?_
          rotate_left
          ·show Act.put _ (some 61) _ = _
           simp only [Act.put, List.setIfInBounds_toArray, List.set_cons_zero, List.set_cons_succ, i64_w, i32_w]
           rfl
          refine pure_ (i := 20) (N := some 62) (v := ?_) (a' := ?_) (rb8 [21]) rfl rfl (qf0 HT_.out (by kernel_rfl)) (fun _ _ _ h => h) (Or.inl ⟨by rfl, ?_⟩) ?_ ?_
          rotate_left
          ·intro w'
           go_simp
           with_reducible rfl
          rotate_left
          ·simp only [Act.put, List.setIfInBounds_toArray, List.set_cons_zero, List.set_cons_succ, i64_w, i32_w]
           rfl
          refine done_ (done_of HT_.out (by kernel_rfl)) ?_
          go_wp2
          go_ret
          refine ⟨?_, by repeat (first | exact Drawn0.refl _ | apply Drawn0.step)⟩
          rw [HM.out, show l0.any (mayOf (rd_T123 l0 a1) a2 a3) = true from List.any_eq_true.2 ⟨l0[i]'HLT.out, List.getElem_mem _, by rw [← HRD.out]; exact HZ.out⟩]
          rfl
         ·have F3 := Bool.eq_false_iff.mpr d7
          have HZ := Aside0.mk (show mayOf (rd_T123 l0 a1) a2 a3 (rd_T123 l0 (i : Int)) = false by unfold mayOf; rw [F3, Bool.and_false])
          clear d5 d7
          go_wp2
          refine start_ (n := 21) (S := fun w' => w'.cell? ⟨(ad.add (i * 5)).block, (ad.add (i * 5)).off + 4, none⟩ = some (.bool true) ∧ w'.cell? ⟨(ad.add (i * 5)).block, (ad.add (i * 5)).off + 3, none⟩ = some (.string (rd_T123 l0 (i : Int)).f3) ∧ w'.cell? (ad.add (a1.toNat * 5)) = some (.string (rd_T123 l0 a1).f0)) (ds := []) (rb8 [0, 21]) (by kernel_rfl) rfl rfl ⟨hy4, hy3, hx0⟩ (fun hHeld => ?_); refine with_tabW impl_may.tab10 impl_may.bits10 (fun HT_ HW_ => ?_)
          refine pure_ (i := 0) (N := some 42) (v := ?_) (a' := ?_) (rb8 [1, 20]) rfl rfl (qf0 HT_.out (by kernel_rfl)) (fun _ _ _ h => h) (Or.inl ⟨by rfl, ?_⟩) ?_ ?_
          rotate_left
          ·intro w'
           go_simp
           with_reducible rfl
          rotate_left
          ·simp only [Act.put, List.setIfInBounds_toArray, List.set_cons_zero, List.set_cons_succ, i64_w, i32_w]
           rfl
          refine pure_ (i := 1) (N := some 43) (v := ?_) (a' := ?_) (rb8 [2, 19]) rfl rfl (qf0 HT_.out (by kernel_rfl)) (fun _ _ _ h => h) (Or.inl ⟨by rfl, ?_⟩) ?_ ?_
          rotate_left
          ·intro w'
           go_simp
           with_reducible rfl
          rotate_left
          ·simp only [Act.put, List.setIfInBounds_toArray, List.set_cons_zero, List.set_cons_succ, i64_w, i32_w]
           rfl
          refine pure_ (i := 2) (N := some 44) (v := ?_) (a' := ?_) (rb8 [3, 18]) rfl rfl (qf0 HT_.out (by kernel_rfl)) (fun _ _ _ h => h) (Or.inl ⟨by rfl, ?_⟩) ?_ ?_
          rotate_left
          ·intro w'
           go_simp
           with_reducible rfl
          rotate_left
          ·simp only [Act.put, List.setIfInBounds_toArray, List.set_cons_zero, List.set_cons_succ, i64_w, i32_w]
           rfl
          refine take_ (i := 3) (N := some 45) (v := ?_) (a' := ?_) (rb8 [4, 17]) rfl rfl (qu0 HT_.out HW_.out (by kernel_rfl)) (fun _ _ _ h => h) (Or.inl ⟨by rfl, ?_⟩) hHeld ?_ ?_
          rotate_left
          ·rintro w' ⟨s0, s1, s2⟩
           go_simp
           with_reducible rfl
          rotate_left
          ·simp only [Act.put, List.setIfInBounds_toArray, List.set_cons_zero, List.set_cons_succ, i64_w, i32_w]
           rfl
          refine pure_ (i := 4) (N := some 46) (v := ?_) (a' := ?_) (rb8 [5, 16]) rfl rfl (qf0 HT_.out (by kernel_rfl)) (fun _ _ _ h => h) (Or.inl ⟨by rfl, ?_⟩) ?_ ?_
          rotate_left
          ·intro w'
           go_simp
           with_reducible rfl
          rotate_left
          ·simp only [Act.put, List.setIfInBounds_toArray, List.set_cons_zero, List.set_cons_succ, i64_w, i32_w]
           rfl
          refine pure_ (i := 5) (N := some 47) (v := ?_) (a' := ?_) (rb8 [6, 15]) rfl rfl (qf0 HT_.out (by kernel_rfl)) (fun _ _ _ h => h) (Or.inl ⟨by rfl, ?_⟩) ?_ ?_
          rotate_left
          ·intro w'
           go_simp
           with_reducible rfl
          rotate_left
          ·simp only [Act.put, List.setIfInBounds_toArray, List.set_cons_zero, List.set_cons_succ, i64_w, i32_w]
           rfl
          refine pure_ (i := 6) (N := some 48) (v := ?_) (a' := ?_) (rb8 [7, 14]) rfl rfl (qf0 HT_.out (by kernel_rfl)) (fun _ _ _ h => h) (Or.inl ⟨by rfl, ?_⟩) ?_ ?_
          rotate_left
          ·intro w'
           go_simp
           with_reducible rfl
          rotate_left
          ·simp only [Act.put, List.setIfInBounds_toArray, List.set_cons_zero, List.set_cons_succ, i64_w, i32_w]
           rfl
          refine pure_ (i := 7) (N := some 49) (v := ?_) (a' := ?_) (rb8 [8, 13]) rfl rfl (qf0 HT_.out (by kernel_rfl)) (fun _ _ _ h => h) (Or.inl ⟨by rfl, ?_⟩) ?_ ?_
          rotate_left
          ·intro w'
           go_simp
           with_reducible rfl
          rotate_left
          ·simp only [Act.put, List.setIfInBounds_toArray, List.set_cons_zero, List.set_cons_succ, i64_w, i32_w]
           rfl
          refine pure_ (i := 9) (N := some 51) (v := ?_) (a' := ?_) (rb8 [8, 1, 1, 11]) rfl rfl (qf0 HT_.out (by kernel_rfl)) (fun _ _ _ h => h) (Or.inl ⟨by rfl, ?_⟩) ?_ ?_
          rotate_left
          ·intro w'
           go_simp
           with_reducible rfl
          rotate_left
          ·simp only [Act.put, List.setIfInBounds_toArray, List.set_cons_zero, List.set_cons_succ, i64_w, i32_w]
           rfl
          refine pure_ (i := 10) (N := some 52) (v := ?_) (a' := ?_) (rb8 [8, 1, 2, 10]) rfl rfl (qf0 HT_.out (by kernel_rfl)) (fun _ _ _ h => h) (Or.inl ⟨by rfl, ?_⟩) ?_ ?_
          rotate_left
          ·intro w'
           go_simp
           with_reducible rfl
          rotate_left
          ·simp only [Act.put, List.setIfInBounds_toArray, List.set_cons_zero, List.set_cons_succ, i64_w, i32_w]
           rfl
          refine pure_ (i := 11) (N := some 53) (v := ?_) (a' := ?_) (rb8 [8, 1, 3, 9]) rfl rfl (qf0 HT_.out (by kernel_rfl)) (fun _ _ _ h => h) (Or.inl ⟨by rfl, ?_⟩) ?_ ?_
          rotate_left
          ·intro w'
           go_simp
           with_reducible rfl
          rotate_left
          ·simp only [Act.put, List.setIfInBounds_toArray, List.set_cons_zero, List.set_cons_succ, i64_w, i32_w]
           rfl
          refine take_ (i := 8) (N := some 50) (v := ?_) (a' := ?_) (rb8 [12, 9]) rfl rfl (qu0 HT_.out HW_.out (by kernel_rfl)) (fun _ _ _ h => h) (Or.inl ⟨by rfl, ?_⟩) hHeld ?_ ?_
          rotate_left
          ·rintro w' ⟨s0, s1, s2⟩
           go_simp
           with_reducible rfl
          rotate_left
          ·simp only [Act.put, List.setIfInBounds_toArray, List.set_cons_zero, List.set_cons_succ, i64_w, i32_w]
           rfl
          refine take_ (i := 12) (N := some 54) (v := ?_) (a' := ?_) (rb8 [13, 8]) rfl rfl (qu0 HT_.out HW_.out (by kernel_rfl)) (fun _ _ _ h => h) (Or.inl ⟨by rfl, ?_⟩) hHeld ?_ ?_
          rotate_left
          ·rintro w' ⟨s0, s1, s2⟩
           go_simp
           with_reducible rfl
          rotate_left
          ·simp only [Act.put, List.setIfInBounds_toArray, List.set_cons_zero, List.set_cons_succ, i64_w, i32_w]
           rfl
          refine pure_ (i := 13) (N := some 55) (v := ?_) (a' := ?_) (rb8 [14, 7]) rfl rfl (qf0 HT_.out (by kernel_rfl)) (fun _ _ _ h => h) (Or.inl ⟨by rfl, ?_⟩) ?_ ?_
          rotate_left
          ·intro w'
           go_simp
           with_reducible rfl
          rotate_left
          ·simp only [Act.put, List.setIfInBounds_toArray, List.set_cons_zero, List.set_cons_succ, i64_w, i32_w]
           rfl
          refine pure_ (i := 14) (N := some 56) (v := ?_) (a' := ?_) (rb8 [15, 6]) rfl rfl (qf0 HT_.out (by kernel_rfl)) (fun _ _ _ h => h) (Or.inl ⟨by rfl, ?_⟩) ?_ ?_
          rotate_left
          ·intro w'
           go_simp
           with_reducible rfl
          rotate_left
          ·simp only [Act.put, List.setIfInBounds_toArray, List.set_cons_zero, List.set_cons_succ, i64_w, i32_w]
           rfl
          refine pure_ (i := 15) (N := some 57) (v := ?_) (a' := ?_) (rb8 [16, 5]) rfl rfl (qf0 HT_.out (by kernel_rfl)) (fun _ _ _ h => h) (Or.inl ⟨by rfl, ?_⟩) ?_ ?_
          rotate_left
          ·intro w'
           go_simp
           with_reducible rfl
          rotate_left
          ·simp only [Act.put, List.setIfInBounds_toArray, List.set_cons_zero, List.set_cons_succ, i64_w, i32_w]
           rfl
          refine pure_ (i := 16) (N := some 58) (v := ?_) (a' := ?_) (rb8 [17, 4]) rfl rfl (qf0 HT_.out (by kernel_rfl)) (fun _ _ _ h => h) (Or.inl ⟨by rfl, ?_⟩) ?_ ?_
          rotate_left
          ·intro w'
           go_simp
           with_reducible rfl
          rotate_left
          ·simp only [Act.put, List.setIfInBounds_toArray, List.set_cons_zero, List.set_cons_succ, i64_w, i32_w]
           rfl
          refine pure_ (i := 17) (N := some 59) (v := ?_) (a' := ?_) (rb8 [18, 3]) rfl rfl (qf0 HT_.out (by kernel_rfl)) (fun _ _ _ h => h) (Or.inl ⟨by rfl, ?_⟩) ?_ ?_
          rotate_left
          ·intro w'
           go_simp
           with_reducible rfl
          rotate_left
          ·simp only [Act.put, List.setIfInBounds_toArray, List.set_cons_zero, List.set_cons_succ, i64_w, i32_w]
           rfl
          refine pure_ (i := 18) (N := some 60) (v := ?_) (a' := ?_) (rb8 [19, 2]) rfl rfl (qf0 HT_.out (by kernel_rfl)) (fun _ _ _ h => h) (Or.inl ⟨by rfl, ?_⟩) ?_ ?_
          rotate_left
          ·intro w'
           go_simp
           with_reducible rfl
          rotate_left
          ·simp only [Act.put, List.setIfInBounds_toArray, List.set_cons_zero, List.set_cons_succ, i64_w, i32_w]
           rfl
          refine one_ (i := 19) (N := some 61) (rb8 [20, 1]) rfl rfl (one_of HT_.out (by kernel_rfl)) (by decide) (fun K hK => ?_)
          refine goes_ Try.func113 (by kernel_rfl) rfl #[.pointer (some (ad.add (i * 5))), .string a2, .int .i64 a3] (by rfl) rfl rfl (by (try simp only [List.map_toArray, List.map_cons, List.map_nil]); first | done | rfl) ?_
          refine (fits_calls (ad.add (i * 5)) (rd_T123 l0 (i : Int)) a2 a3 Ay cy ((w.drewN m1).drew) hy1 hy2 (Kd.qt0 (Kd.qn0 HRY.out m1))).mono ?_
          rintro e w' ⟨rfl, ⟨nd, rfl⟩⟩
          refine ⟨_, rfl, ?_⟩
          rw [F3]
          refine hK.out _ _ ⟨hy4, hy3, hx0⟩ (fun hHeld => ?_)
          clear hK K
          refine norm_ (a' := ?_) ?_ ?_
          rotate_left
          ·show Act.put _ (some 61) _ = _
           simp only [Act.put, List.setIfInBounds_toArray, List.set_cons_zero, List.set_cons_succ, i64_w, i32_w]
           rfl
          refine pure_ (i := 20) (N := some 62) (v := ?_) (a' := ?_) (rb8 [21]) rfl rfl (qf0 HT_.out (by kernel_rfl)) (fun _ _ _ h => h) (Or.inl ⟨by rfl, ?_⟩) ?_ ?_
          rotate_left
          ·intro w'
           go_simp
           with_reducible rfl
          rotate_left
          ·simp only [Act.put, List.setIfInBounds_toArray, List.set_cons_zero, List.set_cons_succ, i64_w, i32_w]
           rfl
          refine done_ (done_of HT_.out (by kernel_rfl)) ?_
          go_wp2
          go_roundg (gk - 1)
          case rel =>
           refine ⟨i + 1, by have := HLT.out; have := HI.out; omega, by rw [HWR.out], ⟨fun o_ ho_ => ?_⟩, by repeat (first | exact Drawn0.refl _ | apply Drawn0.step)⟩
           rw [List.take_add_one, List.getElem?_eq_getElem HLT.out] at ho_
           rcases List.mem_append.1 ho_ with ho_ | ho_
           ·exact HN.out o_ ho_
           ·have e_ : o_ = l0[i]'HLT.out := by simpa using ho_
            rw [e_, ← HRD.out]
            exact HZ.out
          case measure => have := HLT.out; have := HI.out; omega
        ·have d6b : ((rd_T123 l0 (i : Int)).f3.toList == (rd_T123 l0 a1).f0.toList) = false := beq_eq_false_iff_ne.mpr d6
         have HZ := Aside0.mk (show mayOf (rd_T123 l0 a1) a2 a3 (rd_T123 l0 (i : Int)) = false by unfold mayOf; rw [d6b, Bool.and_false, Bool.false_and])
         clear d5 d6
         go_wp2
         refine start_ (n := 21) (S := fun w' => w'.cell? ⟨(ad.add (i * 5)).block, (ad.add (i * 5)).off + 4, none⟩ = some (.bool true) ∧ w'.cell? ⟨(ad.add (i * 5)).block, (ad.add (i * 5)).off + 3, none⟩ = some (.string (rd_T123 l0 (i : Int)).f3) ∧ w'.cell? (ad.add (a1.toNat * 5)) = some (.string (rd_T123 l0 a1).f0)) (ds := []) (rb8 [0, 21]) (by kernel_rfl) rfl rfl ⟨hy4, hy3, hx0⟩ (fun hHeld => ?_); refine with_tabW impl_may.tab10 impl_may.bits10 (fun HT_ HW_ => ?_)
         refine pure_ (i := 0) (N := some 42) (v := ?_) (a' := ?_) (rb8 [1, 20]) rfl rfl (qf0 HT_.out (by kernel_rfl)) (fun _ _ _ h => h) (Or.inl ⟨by rfl, ?_⟩) ?_ ?_
         rotate_left
         ·intro w'
          go_simp
          with_reducible rfl
         rotate_left
         ·simp only [Act.put, List.setIfInBounds_toArray, List.set_cons_zero, List.set_cons_succ, i64_w, i32_w]
          rfl
         refine pure_ (i := 1) (N := some 43) (v := ?_) (a' := ?_) (rb8 [2, 19]) rfl rfl (qf0 HT_.out (by kernel_rfl)) (fun _ _ _ h => h) (Or.inl ⟨by rfl, ?_⟩) ?_ ?_
         rotate_left
         ·intro w'
          go_simp
          with_reducible rfl
         rotate_left
         ·simp only [Act.put, List.setIfInBounds_toArray, List.set_cons_zero, List.set_cons_succ, i64_w, i32_w]
          rfl
         refine pure_ (i := 2) (N := some 44) (v := ?_) (a' := ?_) (rb8 [3, 18]) rfl rfl (qf0 HT_.out (by kernel_rfl)) (fun _ _ _ h => h) (Or.inl ⟨by rfl, ?_⟩) ?_ ?_
         rotate_left
         ·intro w'
          go_simp
          with_reducible rfl
         rotate_left
         ·simp only [Act.put, List.setIfInBounds_toArray, List.set_cons_zero, List.set_cons_succ, i64_w, i32_w]
          rfl
         refine take_ (i := 3) (N := some 45) (v := ?_) (a' := ?_) (rb8 [4, 17]) rfl rfl (qu0 HT_.out HW_.out (by kernel_rfl)) (fun _ _ _ h => h) (Or.inl ⟨by rfl, ?_⟩) hHeld ?_ ?_
         rotate_left
         ·rintro w' ⟨s0, s1, s2⟩
          go_simp
          with_reducible rfl
         rotate_left
         ·simp only [Act.put, List.setIfInBounds_toArray, List.set_cons_zero, List.set_cons_succ, i64_w, i32_w]
          rfl
         refine pure_ (i := 4) (N := some 46) (v := ?_) (a' := ?_) (rb8 [5, 16]) rfl rfl (qf0 HT_.out (by kernel_rfl)) (fun _ _ _ h => h) (Or.inl ⟨by rfl, ?_⟩) ?_ ?_
         rotate_left
         ·intro w'
          go_simp
          with_reducible rfl
         rotate_left
         ·simp only [Act.put, List.setIfInBounds_toArray, List.set_cons_zero, List.set_cons_succ, i64_w, i32_w]
          rfl
         refine pure_ (i := 5) (N := some 47) (v := ?_) (a' := ?_) (rb8 [6, 15]) rfl rfl (qf0 HT_.out (by kernel_rfl)) (fun _ _ _ h => h) (Or.inl ⟨by rfl, ?_⟩) ?_ ?_
         rotate_left
         ·intro w'
          go_simp
          with_reducible rfl
         rotate_left
         ·simp only [Act.put, List.setIfInBounds_toArray, List.set_cons_zero, List.set_cons_succ, i64_w, i32_w]
          rfl
         refine pure_ (i := 6) (N := some 48) (v := ?_) (a' := ?_) (rb8 [7, 14]) rfl rfl (qf0 HT_.out (by kernel_rfl)) (fun _ _ _ h => h) (Or.inl ⟨by rfl, ?_⟩) ?_ ?_
         rotate_left
         ·intro w'
          go_simp
          with_reducible rfl
         rotate_left
         ·simp only [Act.put, List.setIfInBounds_toArray, List.set_cons_zero, List.set_cons_succ, i64_w, i32_w]
          rfl
         refine pure_ (i := 7) (N := some 49) (v := ?_) (a' := ?_) (rb8 [8, 13]) rfl rfl (qf0 HT_.out (by kernel_rfl)) (fun _ _ _ h => h) (Or.inl ⟨by rfl, ?_⟩) ?_ ?_
         rotate_left
         ·intro w'
          go_simp
          with_reducible rfl
         rotate_left
         ·simp only [Act.put, List.setIfInBounds_toArray, List.set_cons_zero, List.set_cons_succ, i64_w, i32_w]
          rfl
         refine pure_ (i := 9) (N := some 51) (v := ?_) (a' := ?_) (rb8 [8, 1, 1, 11]) rfl rfl (qf0 HT_.out (by kernel_rfl)) (fun _ _ _ h => h) (Or.inl ⟨by rfl, ?_⟩) ?_ ?_
         rotate_left
         ·intro w'
          go_simp
          with_reducible rfl
         rotate_left
         ·simp only [Act.put, List.setIfInBounds_toArray, List.set_cons_zero, List.set_cons_succ, i64_w, i32_w]
          rfl
         refine pure_ (i := 10) (N := some 52) (v := ?_) (a' := ?_) (rb8 [8, 1, 2, 10]) rfl rfl (qf0 HT_.out (by kernel_rfl)) (fun _ _ _ h => h) (Or.inl ⟨by rfl, ?_⟩) ?_ ?_
         rotate_left
         ·intro w'
          go_simp
          with_reducible rfl
         rotate_left
         ·simp only [Act.put, List.setIfInBounds_toArray, List.set_cons_zero, List.set_cons_succ, i64_w, i32_w]
          rfl
         refine pure_ (i := 11) (N := some 53) (v := ?_) (a' := ?_) (rb8 [8, 1, 3, 9]) rfl rfl (qf0 HT_.out (by kernel_rfl)) (fun _ _ _ h => h) (Or.inl ⟨by rfl, ?_⟩) ?_ ?_
         rotate_left
         ·intro w'
          go_simp
          with_reducible rfl
         rotate_left
         ·simp only [Act.put, List.setIfInBounds_toArray, List.set_cons_zero, List.set_cons_succ, i64_w, i32_w]
          rfl
         refine take_ (i := 8) (N := some 50) (v := ?_) (a' := ?_) (rb8 [12, 9]) rfl rfl (qu0 HT_.out HW_.out (by kernel_rfl)) (fun _ _ _ h => h) (Or.inl ⟨by rfl, ?_⟩) hHeld ?_ ?_
         rotate_left
         ·rintro w' ⟨s0, s1, s2⟩
          go_simp
          with_reducible rfl
         rotate_left
         ·simp only [Act.put, List.setIfInBounds_toArray, List.set_cons_zero, List.set_cons_succ, i64_w, i32_w]
          rfl
         refine take_ (i := 12) (N := some 54) (v := ?_) (a' := ?_) (rb8 [13, 8]) rfl rfl (qu0 HT_.out HW_.out (by kernel_rfl)) (fun _ _ _ h => h) (Or.inl ⟨by rfl, ?_⟩) hHeld ?_ ?_
         rotate_left
         ·rintro w' ⟨s0, s1, s2⟩
          go_simp
          with_reducible rfl
         rotate_left
         ·simp only [Act.put, List.setIfInBounds_toArray, List.set_cons_zero, List.set_cons_succ, i64_w, i32_w]
          rfl
         refine pure_ (i := 13) (N := some 55) (v := ?_) (a' := ?_) (rb8 [14, 7]) rfl rfl (qf0 HT_.out (by kernel_rfl)) (fun _ _ _ h => h) (Or.inl ⟨by rfl, ?_⟩) ?_ ?_
         rotate_left
         ·intro w'
          go_simp
          with_reducible rfl
         rotate_left
         ·simp only [Act.put, List.setIfInBounds_toArray, List.set_cons_zero, List.set_cons_succ, i64_w, i32_w]
          rfl
         refine pure_ (i := 14) (N := some 56) (v := ?_) (a' := ?_) (rb8 [15, 6]) rfl rfl (qf0 HT_.out (by kernel_rfl)) (fun _ _ _ h => h) (Or.inl ⟨by rfl, ?_⟩) ?_ ?_
         rotate_left
         ·intro w'
          go_simp
          with_reducible rfl
         rotate_left
         ·simp only [Act.put, List.setIfInBounds_toArray, List.set_cons_zero, List.set_cons_succ, i64_w, i32_w]
          rfl
         refine pure_ (i := 15) (N := some 57) (v := ?_) (a' := ?_) (rb8 [16, 5]) rfl rfl (qf0 HT_.out (by kernel_rfl)) (fun _ _ _ h => h) (Or.inl ⟨by rfl, ?_⟩) ?_ ?_
         rotate_left
         ·intro w'
          go_simp
          with_reducible rfl
         rotate_left
         ·simp only [Act.put, List.setIfInBounds_toArray, List.set_cons_zero, List.set_cons_succ, i64_w, i32_w]
          rfl
         refine pure_ (i := 16) (N := some 58) (v := undef) (a' := ?_) (rb8 [17, 4]) rfl rfl (qf0 HT_.out (by kernel_rfl)) (fun _ _ _ h => h) (Or.inr ⟨by rfl, rfl⟩) ?_ ?_
         rotate_left
         ·simp only [Act.put, List.setIfInBounds_toArray, List.set_cons_zero, List.set_cons_succ, i64_w, i32_w]
          rfl
         refine pure_ (i := 17) (N := some 59) (v := undef) (a' := ?_) (rb8 [18, 3]) rfl rfl (qf0 HT_.out (by kernel_rfl)) (fun _ _ _ h => h) (Or.inr ⟨by rfl, rfl⟩) ?_ ?_
         rotate_left
         ·simp only [Act.put, List.setIfInBounds_toArray, List.set_cons_zero, List.set_cons_succ, i64_w, i32_w]
          rfl
         refine pure_ (i := 18) (N := some 60) (v := undef) (a' := ?_) (rb8 [19, 2]) rfl rfl (qf0 HT_.out (by kernel_rfl)) (fun _ _ _ h => h) (Or.inr ⟨by rfl, rfl⟩) ?_ ?_
         rotate_left
         ·simp only [Act.put, List.setIfInBounds_toArray, List.set_cons_zero, List.set_cons_succ, i64_w, i32_w]
          rfl
         refine pure_ (i := 19) (N := some 61) (v := undef) (a' := ?_) (rb8 [20, 1]) rfl rfl (qf0 HT_.out (by kernel_rfl)) (fun _ _ _ h => h) (Or.inr ⟨by rfl, rfl⟩) ?_ ?_
         rotate_left
         ·simp only [Act.put, List.setIfInBounds_toArray, List.set_cons_zero, List.set_cons_succ, i64_w, i32_w]
          rfl
         refine pure_ (i := 20) (N := some 62) (v := ?_) (a' := ?_) (rb8 [21]) rfl rfl (qf0 HT_.out (by kernel_rfl)) (fun _ _ _ h => h) (Or.inl ⟨by rfl, ?_⟩) ?_ ?_
         rotate_left
         ·intro w'
          go_simp
          with_reducible rfl
         rotate_left
         ·simp only [Act.put, List.setIfInBounds_toArray, List.set_cons_zero, List.set_cons_succ, i64_w, i32_w]
          rfl
         refine done_ (done_of HT_.out (by kernel_rfl)) ?_
         go_wp2
         go_roundg (gk - 1)
         case rel =>
          refine ⟨i + 1, by have := HLT.out; have := HI.out; omega, by rw [HWR.out], ⟨fun o_ ho_ => ?_⟩, by repeat (first | exact Drawn0.refl _ | apply Drawn0.step)⟩
          rw [List.take_add_one, List.getElem?_eq_getElem HLT.out] at ho_
          rcases List.mem_append.1 ho_ with ho_ | ho_
          ·exact HN.out o_ ho_
          ·have e_ : o_ = l0[i]'HLT.out := by simpa using ho_
           rw [e_, ← HRD.out]
           exact HZ.out
         case measure => have := HLT.out; have := HI.out; omega
       ·have F5 := Bool.eq_false_iff.mpr d5
        rw [F5] at hy4
        have HZ := Aside0.mk (show mayOf (rd_T123 l0 a1) a2 a3 (rd_T123 l0 (i : Int)) = false by unfold mayOf; rw [F5, Bool.false_and, Bool.false_and])
        clear d5 F5
        go_wp2
        refine start_ (n := 21) (S := fun w' => w'.cell? ⟨(ad.add (i * 5)).block, (ad.add (i * 5)).off + 4, none⟩ = some (.bool false) ∧ w'.cell? ⟨(ad.add (i * 5)).block, (ad.add (i * 5)).off + 3, none⟩ = some (.string (rd_T123 l0 (i : Int)).f3) ∧ w'.cell? (ad.add (a1.toNat * 5)) = some (.string (rd_T123 l0 a1).f0)) (ds := []) (rb8 [0, 21]) (by kernel_rfl) rfl rfl ⟨hy4, hy3, hx0⟩ (fun hHeld => ?_); refine with_tabW impl_may.tab10 impl_may.bits10 (fun HT_ HW_ => ?_)
        refine pure_ (i := 0) (N := some 42) (v := ?_) (a' := ?_) (rb8 [1, 20]) rfl rfl (qf0 HT_.out (by kernel_rfl)) (fun _ _ _ h => h) (Or.inl ⟨by rfl, ?_⟩) ?_ ?_
        rotate_left
        ·intro w'
         go_simp
         with_reducible rfl
        rotate_left
        ·simp only [Act.put, List.setIfInBounds_toArray, List.set_cons_zero, List.set_cons_succ, i64_w, i32_w]
         rfl
        refine pure_ (i := 1) (N := some 43) (v := ?_) (a' := ?_) (rb8 [2, 19]) rfl rfl (qf0 HT_.out (by kernel_rfl)) (fun _ _ _ h => h) (Or.inl ⟨by rfl, ?_⟩) ?_ ?_
        rotate_left
        ·intro w'
         go_simp
         with_reducible rfl
        rotate_left
        ·simp only [Act.put, List.setIfInBounds_toArray, List.set_cons_zero, List.set_cons_succ, i64_w, i32_w]
         rfl
        refine pure_ (i := 2) (N := some 44) (v := ?_) (a' := ?_) (rb8 [3, 18]) rfl rfl (qf0 HT_.out (by kernel_rfl)) (fun _ _ _ h => h) (Or.inl ⟨by rfl, ?_⟩) ?_ ?_
        rotate_left
        ·intro w'
         go_simp
         with_reducible rfl
        rotate_left
        ·simp only [Act.put, List.setIfInBounds_toArray, List.set_cons_zero, List.set_cons_succ, i64_w, i32_w]
         rfl
        refine take_ (i := 3) (N := some 45) (v := ?_) (a' := ?_) (rb8 [4, 17]) rfl rfl (qu0 HT_.out HW_.out (by kernel_rfl)) (fun _ _ _ h => h) (Or.inl ⟨by rfl, ?_⟩) hHeld ?_ ?_
        rotate_left
        ·rintro w' ⟨s0, s1, s2⟩
         go_simp
         with_reducible rfl
        rotate_left
        ·simp only [Act.put, List.setIfInBounds_toArray, List.set_cons_zero, List.set_cons_succ, i64_w, i32_w]
         rfl
        refine pure_ (i := 4) (N := some 46) (v := ?_) (a' := ?_) (rb8 [5, 16]) rfl rfl (qf0 HT_.out (by kernel_rfl)) (fun _ _ _ h => h) (Or.inl ⟨by rfl, ?_⟩) ?_ ?_
        rotate_left
        ·intro w'
         go_simp
         with_reducible rfl
        rotate_left
        ·simp only [Act.put, List.setIfInBounds_toArray, List.set_cons_zero, List.set_cons_succ, i64_w, i32_w]
         rfl
        refine pure_ (i := 5) (N := some 47) (v := undef) (a' := ?_) (rb8 [6, 15]) rfl rfl (qf0 HT_.out (by kernel_rfl)) (fun _ _ _ h => h) (Or.inr ⟨by rfl, rfl⟩) ?_ ?_
        rotate_left
        ·simp only [Act.put, List.setIfInBounds_toArray, List.set_cons_zero, List.set_cons_succ, i64_w, i32_w]
         rfl
        refine pure_ (i := 6) (N := some 48) (v := undef) (a' := ?_) (rb8 [7, 14]) rfl rfl (qf0 HT_.out (by kernel_rfl)) (fun _ _ _ h => h) (Or.inr ⟨by rfl, rfl⟩) ?_ ?_
        rotate_left
        ·simp only [Act.put, List.setIfInBounds_toArray, List.set_cons_zero, List.set_cons_succ, i64_w, i32_w]
         rfl
        refine pure_ (i := 7) (N := some 49) (v := undef) (a' := ?_) (rb8 [8, 13]) rfl rfl (qf0 HT_.out (by kernel_rfl)) (fun _ _ _ h => h) (Or.inr ⟨by rfl, rfl⟩) ?_ ?_
        rotate_left
        ·simp only [Act.put, List.setIfInBounds_toArray, List.set_cons_zero, List.set_cons_succ, i64_w, i32_w]
         rfl
        refine pure_ (i := 8) (N := some 50) (v := undef) (a' := ?_) (rb8 [9, 12]) rfl rfl (qf0 HT_.out (by kernel_rfl)) (fun _ _ _ h => h) (Or.inr ⟨by rfl, rfl⟩) ?_ ?_
        rotate_left
        ·simp only [Act.put, List.setIfInBounds_toArray, List.set_cons_zero, List.set_cons_succ, i64_w, i32_w]
         rfl
        refine pure_ (i := 9) (N := some 51) (v := undef) (a' := ?_) (rb8 [10, 11]) rfl rfl (qf0 HT_.out (by kernel_rfl)) (fun _ _ _ h => h) (Or.inr ⟨by rfl, rfl⟩) ?_ ?_
        rotate_left
        ·simp only [Act.put, List.setIfInBounds_toArray, List.set_cons_zero, List.set_cons_succ, i64_w, i32_w]
         rfl
        refine pure_ (i := 10) (N := some 52) (v := undef) (a' := ?_) (rb8 [11, 10]) rfl rfl (qf0 HT_.out (by kernel_rfl)) (fun _ _ _ h => h) (Or.inr ⟨by rfl, rfl⟩) ?_ ?_
        rotate_left
        ·simp only [Act.put, List.setIfInBounds_toArray, List.set_cons_zero, List.set_cons_succ, i64_w, i32_w]
         rfl
        refine pure_ (i := 11) (N := some 53) (v := undef) (a' := ?_) (rb8 [12, 9]) rfl rfl (qf0 HT_.out (by kernel_rfl)) (fun _ _ _ h => h) (Or.inr ⟨by rfl, rfl⟩) ?_ ?_
        rotate_left
        ·simp only [Act.put, List.setIfInBounds_toArray, List.set_cons_zero, List.set_cons_succ, i64_w, i32_w]
         rfl
        refine pure_ (i := 12) (N := some 54) (v := undef) (a' := ?_) (rb8 [13, 8]) rfl rfl (qf0 HT_.out (by kernel_rfl)) (fun _ _ _ h => h) (Or.inr ⟨by rfl, rfl⟩) ?_ ?_
        rotate_left
        ·simp only [Act.put, List.setIfInBounds_toArray, List.set_cons_zero, List.set_cons_succ, i64_w, i32_w]
         rfl
        refine pure_ (i := 13) (N := some 55) (v := undef) (a' := ?_) (rb8 [14, 7]) rfl rfl (qf0 HT_.out (by kernel_rfl)) (fun _ _ _ h => h) (Or.inr ⟨by rfl, rfl⟩) ?_ ?_
        rotate_left
        ·simp only [Act.put, List.setIfInBounds_toArray, List.set_cons_zero, List.set_cons_succ, i64_w, i32_w]
         rfl
        refine pure_ (i := 14) (N := some 56) (v := ?_) (a' := ?_) (rb8 [15, 6]) rfl rfl (qf0 HT_.out (by kernel_rfl)) (fun _ _ _ h => h) (Or.inl ⟨by rfl, ?_⟩) ?_ ?_
        rotate_left
        ·intro w'
         go_simp
         with_reducible rfl
        rotate_left
        ·simp only [Act.put, List.setIfInBounds_toArray, List.set_cons_zero, List.set_cons_succ, i64_w, i32_w]
         rfl
        refine pure_ (i := 15) (N := some 57) (v := ?_) (a' := ?_) (rb8 [16, 5]) rfl rfl (qf0 HT_.out (by kernel_rfl)) (fun _ _ _ h => h) (Or.inl ⟨by rfl, ?_⟩) ?_ ?_
        rotate_left
        ·intro w'
         go_simp
         with_reducible rfl
        rotate_left
        ·simp only [Act.put, List.setIfInBounds_toArray, List.set_cons_zero, List.set_cons_succ, i64_w, i32_w]
         rfl
        refine pure_ (i := 16) (N := some 58) (v := undef) (a' := ?_) (rb8 [17, 4]) rfl rfl (qf0 HT_.out (by kernel_rfl)) (fun _ _ _ h => h) (Or.inr ⟨by rfl, rfl⟩) ?_ ?_
        rotate_left
        ·simp only [Act.put, List.setIfInBounds_toArray, List.set_cons_zero, List.set_cons_succ, i64_w, i32_w]
         rfl
        refine pure_ (i := 17) (N := some 59) (v := undef) (a' := ?_) (rb8 [18, 3]) rfl rfl (qf0 HT_.out (by kernel_rfl)) (fun _ _ _ h => h) (Or.inr ⟨by rfl, rfl⟩) ?_ ?_
        rotate_left
        ·simp only [Act.put, List.setIfInBounds_toArray, List.set_cons_zero, List.set_cons_succ, i64_w, i32_w]
         rfl
        refine pure_ (i := 18) (N := some 60) (v := undef) (a' := ?_) (rb8 [19, 2]) rfl rfl (qf0 HT_.out (by kernel_rfl)) (fun _ _ _ h => h) (Or.inr ⟨by rfl, rfl⟩) ?_ ?_
        rotate_left
        ·simp only [Act.put, List.setIfInBounds_toArray, List.set_cons_zero, List.set_cons_succ, i64_w, i32_w]
         rfl
        refine pure_ (i := 19) (N := some 61) (v := undef) (a' := ?_) (rb8 [20, 1]) rfl rfl (qf0 HT_.out (by kernel_rfl)) (fun _ _ _ h => h) (Or.inr ⟨by rfl, rfl⟩) ?_ ?_
        rotate_left
        ·simp only [Act.put, List.setIfInBounds_toArray, List.set_cons_zero, List.set_cons_succ, i64_w, i32_w]
         rfl
        refine pure_ (i := 20) (N := some 62) (v := ?_) (a' := ?_) (rb8 [21]) rfl rfl (qf0 HT_.out (by kernel_rfl)) (fun _ _ _ h => h) (Or.inl ⟨by rfl, ?_⟩) ?_ ?_
        rotate_left
        ·intro w'
         go_simp
         with_reducible rfl
        rotate_left
        ·simp only [Act.put, List.setIfInBounds_toArray, List.set_cons_zero, List.set_cons_succ, i64_w, i32_w]
         rfl
        refine done_ (done_of HT_.out (by kernel_rfl)) ?_
        go_wp2
        go_roundg (gk - 1)
        case rel =>
         refine ⟨i + 1, by have := HLT.out; have := HI.out; omega, by rw [HWR.out], ⟨fun o_ ho_ => ?_⟩, by repeat (first | exact Drawn0.refl _ | apply Drawn0.step)⟩
         rw [List.take_add_one, List.getElem?_eq_getElem HLT.out] at ho_
         rcases List.mem_append.1 ho_ with ho_ | ho_
         ·exact HN.out o_ ho_
         ·have e_ : o_ = l0[i]'HLT.out := by simpa using ho_
          rw [e_, ← HRD.out]
          exact HZ.out
        case measure => have := HLT.out; have := HI.out; omega
      ·have hltb : decide ((i : Int) < (l0.length : Int)) = false := decide_eq_false (by omega)
       have hltc : decide (i < l0.length) = false := decide_eq_false hlt
       have HNF := Aside0.mk (show l0.any (mayOf (rd_T123 l0 a1) a2 a3) = false by
        have hall := HN.out
        rw [List.take_of_length_le (by omega)] at hall
        rw [List.any_eq_false]
        intro o_ ho_
        rw [hall o_ ho_]
        decide)
       clear hlt hi
       go_wp2
       go_ret
       exact ⟨by rw [HM.out, HNF.out]; rfl, by repeat (first | exact Drawn0.refl _ | apply Drawn0.step)⟩

end Go.Proofs.Ytdnenglafphkbaa.PFnExactMay
