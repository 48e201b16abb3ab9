/- Lines by a program (a changed copy of the kit's print: this repo's wip/tools): Go functions as Lean functions, and proofs that the calls answer so. -/
import Derived.Test.YtkkdmmefnicmaaaZPFnNoGapx0
namespace Go.Proofs.Ytkkdmmefnicmaaa.PFnNoGap
open Go.RowKit Go.Proofs.YtkkdmmefnicmaaaW.PrintWords Go.Proofs.YtkkdmmefnicmaaaW.PrintLast Go.Proofs.YtkkdmmefnicmaaaW.PrintMore
/-- Steps told in one row. -/
theorem y4_p {P : Prop} (h : P:=by (intro w';go_simp;with_reducible rfl)) : P:=h
theorem y4_s {P : Prop} (h : P:=by (simp only [Act.put,List.setIfInBounds_toArray,List.set_cons_zero,List.set_cons_succ,i64_w,i32_w];rfl)) : P:=h
theorem y4_a {P : Prop} (h : P:=by exact any_of HT_.out (by kernel_rfl)) : P:=h
theorem y4_h {P : Prop} (h : P:=by exact fun _ _ _ h => h) : P:=h
/-- Closing blocks told once. -/
theorem z4_0 {P : Prop} (h : P:=by repeat (first | (with_reducible first | exact HB.out | apply qm0 | apply qh0 | apply qi0) | exact HB.out)) : P:=h
theorem z4_1 {P : Prop} (h : P:=by (try simp only [List.map_toArray,List.map_cons,List.map_nil]);first | done | rfl | (simp only [List.length_drop,List.length_take];rfl)) : P:=h
theorem z4_2 {P : Prop} (h : P:=by first | rfl | (simp [errW_none,errW_some] <;> rfl) | (simp [*,errW_none,errW_some] <;> rfl)) : P:=h
attribute [local go_sem] max2_int min2_int max_two min_two max_three min_three max_four min_four   -- for this text's walks alone
set_option linter.unusedVariables false
set_option linter.unusedSimpArgs false

/-! ### spec_l1Text: function 94 -/
def spec_l1Text.f : Nat → Int → Option (ByteArray)
 | 0,_ => none
 | k + 1,a0 => if a0 < 0 then ((spec_l1Text.f k (wrap64 (-a0))).bind fun t184 => (if 1 + t184.size ≤ 9223372036854775807 then (some ((⟨#[45]⟩ : ByteArray) ++ t184)) else (none))) else (if a0 < 10 then (if 0 ≤ a0 then (if a0 ≤ (wrap64 (a0 + 1)) then (if (wrap64 (a0 + 1)) ≤ 10 then (some ((⟨#[48,49,50,51,52,53,54,55,56,57]⟩ : ByteArray).extract (a0 : Int).toNat ((wrap64 (a0 + 1)) : Int).toNat)) else (none)) else (none)) else (none)) else ((spec_l1Text.f k (wrap64 (Int.tdiv a0 10))).bind fun t185 => (if 0 ≤ (Int.tmod a0 10) then (if (Int.tmod a0 10) ≤ (wrap64 ((Int.tmod a0 10) + 1)) then (if (wrap64 ((Int.tmod a0 10) + 1)) ≤ 10 then (if t185.size + ((⟨#[48,49,50,51,52,53,54,55,56,57]⟩ : ByteArray).extract ((Int.tmod a0 10) : Int).toNat ((wrap64 ((Int.tmod a0 10) + 1)) : Int).toNat).size ≤ 9223372036854775807 then (some (t185 ++ ((⟨#[48,49,50,51,52,53,54,55,56,57]⟩ : ByteArray).extract ((Int.tmod a0 10) : Int).toNat ((wrap64 ((Int.tmod a0 10) + 1)) : Int).toNat))) else (none)) else (none)) else (none)) else (none))))
theorem spec_l1Text.mono_l : ∀ k,(∀ y0,LeO (spec_l1Text.f k y0) (spec_l1Text.f (k + 1) y0))
 | 0 => fun _ r h => by simp [spec_l1Text.f] at h
 | k + 1 => by
  have ih0:=spec_l1Text.mono_l k
  ·intro y0
   unfold spec_l1Text.f
   repeat' first
   | (with_reducible exact ih0 _)
   | (with_reducible exact LeO.refl _)
   | (with_reducible exact LeO.none _)
   | (with_reducible refine LeO.ite ?_ ?_)
   | (with_reducible refine LeO.bind ?_ (fun _ => ?_))
   | exact ih0 _
   | exact LeO.none _
   | refine LeO.ite ?_ ?_
   | refine LeO.bind ?_ (fun _ => ?_)
theorem spec_l1Text.mono : ∀ a0 k,LeO (spec_l1Text.f k a0) (spec_l1Text.f (k + 1) a0) := by
 intro a0 k;have ih0:=spec_l1Text.mono_l k;exact ih0 a0
def spec_l1Text.T5 : Bool × List (List Nat × List Nat) := (true,[([],[]),([0],[0]),([1],[1]),([],[]),([3],[3]),([],[]),([5],[5]),([6],[6]),([4,7],[4,7]),([2,8],[2,8]),([9,2,0,1,2,3,4,5,6,7,8,9],[9])])
def spec_l1Text.B5 : List Nat := [0,1,3,0,8,0,32,96,248,511,1023]
theorem spec_l1Text.tab5 : rtab .any (opsOf Try.f94 5) = spec_l1Text.T5:=by kernel_rfl
theorem spec_l1Text.bits5 : qu1 spec_l1Text.T5.2 spec_l1Text.B5 = true:=by kernel_rfl
set_option maxHeartbeats 8000000 in
set_option maxRecDepth 100000 in
theorem spec_l1Text.calls (k : Nat) : ∀ (a0 : Int) (r : ByteArray) (w : World) (h : spec_l1Text.f k a0 = some r),
  Calls Try.prog 94 #[.int .i64 a0] w fun e w' => e = .returned (.string r) ∧ Below w.heap.size w w' := by
 induction k using Nat.strongRecOn with
 | _ k ih =>
 intro a0 r w h
 cases k with
 | zero => exact absurd h (by simp [spec_l1Text.f])
 | succ k =>
 simp only [spec_l1Text.f] at h;have HB:=Aside0.mk (Below.refl w.heap.size w);have H : (if a0 < 0 then ((spec_l1Text.f k (wrap64 (-a0))).bind fun t184 => (if 1 + t184.size ≤ 9223372036854775807 then (some ((⟨#[45]⟩ : ByteArray) ++ t184)) else (none))) else (if a0 < 10 then (if 0 ≤ a0 then (if a0 ≤ (wrap64 (a0 + 1)) then (if (wrap64 (a0 + 1)) ≤ 10 then (some ((⟨#[48,49,50,51,52,53,54,55,56,57]⟩ : ByteArray).extract (a0 : Int).toNat ((wrap64 (a0 + 1)) : Int).toNat)) else (none)) else (none)) else (none)) else ((spec_l1Text.f k (wrap64 (Int.tdiv a0 10))).bind fun t185 => (if 0 ≤ (Int.tmod a0 10) then (if (Int.tmod a0 10) ≤ (wrap64 ((Int.tmod a0 10) + 1)) then (if (wrap64 ((Int.tmod a0 10) + 1)) ≤ 10 then (if t185.size + ((⟨#[48,49,50,51,52,53,54,55,56,57]⟩ : ByteArray).extract ((Int.tmod a0 10) : Int).toNat ((wrap64 ((Int.tmod a0 10) + 1)) : Int).toNat).size ≤ 9223372036854775807 then (some (t185 ++ ((⟨#[48,49,50,51,52,53,54,55,56,57]⟩ : ByteArray).extract ((Int.tmod a0 10) : Int).toNat ((wrap64 ((Int.tmod a0 10) + 1)) : Int).toNat))) else (none)) else (none)) else (none)) else (none))))) = some r:=h;clear h;by_cases c2 : a0 < 0
 ·rw [if_pos c2] at H
  have c2b0 : decide (a0 < 0) = true:=decide_eq_true c2;clear c2;replace H:=Option.bind_eq_some_iff.mp H;obtain ⟨t184,A30,H⟩ := H;replace H : (if 1 + t184.size ≤ 9223372036854775807 then (some ((⟨#[45]⟩ : ByteArray) ++ t184)) else (none)) = some r:=H;have A3:=Aside0.mk A30;clear A30;by_cases c4 : 1 + t184.size ≤ 9223372036854775807
  case neg => rw [if_neg c4] at H;exact absurd H (by simp)
  rw [if_pos c4] at H;have c4b0:=eq_true c4;have c4b1 : decide (1 + t184.size ≤ 9223372036854775807) = true:=decide_eq_true c4;(try have c4b2 : (9223372036854775807 < 1 + t184.size) = False:=eq_false (Nat.not_lt.2 c4));obtain rfl:=Option.some.inj H;go_enter Try.func94,Try.ntmps94;(go_wp2_with (first | ((with_reducible refine ql0 (f:=94) rfl ?_);refine qb1 (some 7) rfl rfl Try.func94 (by kernel_rfl) rfl #[.int .i64 (wrap64 (-a0))] rfl z4_1 ?_;(with_reducible refine (ih k (by omega) (wrap64 (-a0)) t184 _ A3.out).mono ?_);rintro e w5 ⟨rfl,hb⟩;refine ⟨_,rfl,?_⟩;have n0_:=Aside0.mk (qg0 z4_0 hb);clear HB;have HB:=n0_;clear n0_;(try clear hb);(try clear hb2);(try clear hk);(try clear hi))));go_ret;exact ⟨z4_2,z4_0⟩
 rw [if_neg c2] at H;have c2b0 : decide (a0 < 0) = false:=decide_eq_false c2;clear c2;by_cases c6 : a0 < 10
 ·rw [if_pos c6] at H
  have c6b0 : decide (a0 < 10) = true:=decide_eq_true c6;clear c6;by_cases c7 : 0 ≤ a0
  case neg => rw [if_neg c7] at H;exact absurd H (by simp)
  rw [if_pos c7] at H;have c7b0:=eq_true c7;have c7b1 : decide (0 ≤ a0) = true:=decide_eq_true c7;clear c7;by_cases c8 : a0 ≤ (wrap64 (a0 + 1))
  case neg => rw [if_neg c8] at H;exact absurd H (by simp)
  rw [if_pos c8] at H;have c8b0:=eq_true c8;have c8b1 : decide (a0 ≤ (wrap64 (a0 + 1))) = true:=decide_eq_true c8;by_cases c9 : (wrap64 (a0 + 1)) ≤ 10
  case neg => rw [if_neg c9] at H;exact absurd H (by simp)
  rw [if_pos c9] at H;have c9b0:=eq_true c9;have c9b1 : decide ((wrap64 (a0 + 1)) ≤ 10) = true:=decide_eq_true c9;obtain rfl:=Option.some.inj H;go_enter Try.func94,Try.ntmps94;go_wp2;go_ret;exact ⟨z4_2,z4_0⟩
 rw [if_neg c6] at H;have c6b0 : decide (a0 < 10) = false:=decide_eq_false c6;clear c6;replace H:=Option.bind_eq_some_iff.mp H;obtain ⟨t185,A100,H⟩ := H;replace H : (if 0 ≤ (Int.tmod a0 10) then (if (Int.tmod a0 10) ≤ (wrap64 ((Int.tmod a0 10) + 1)) then (if (wrap64 ((Int.tmod a0 10) + 1)) ≤ 10 then (if t185.size + ((⟨#[48,49,50,51,52,53,54,55,56,57]⟩ : ByteArray).extract ((Int.tmod a0 10) : Int).toNat ((wrap64 ((Int.tmod a0 10) + 1)) : Int).toNat).size ≤ 9223372036854775807 then (some (t185 ++ ((⟨#[48,49,50,51,52,53,54,55,56,57]⟩ : ByteArray).extract ((Int.tmod a0 10) : Int).toNat ((wrap64 ((Int.tmod a0 10) + 1)) : Int).toNat))) else (none)) else (none)) else (none)) else (none)) = some r:=H;have A10:=Aside0.mk A100;clear A100;(obtain ⟨ji11,hji11⟩ : ∃ j_ : Int,(Int.tmod a0 10) = j_:=⟨_,rfl⟩);(replace H : (if 0 ≤ (ji11) then (if (ji11) ≤ (wrap64 ((ji11) + 1)) then (if (wrap64 ((ji11) + 1)) ≤ 10 then (if t185.size + ((⟨#[48,49,50,51,52,53,54,55,56,57]⟩ : ByteArray).extract ((ji11) : Int).toNat ((wrap64 ((ji11) + 1)) : Int).toNat).size ≤ 9223372036854775807 then (some (t185 ++ ((⟨#[48,49,50,51,52,53,54,55,56,57]⟩ : ByteArray).extract ((ji11) : Int).toNat ((wrap64 ((ji11) + 1)) : Int).toNat))) else (none)) else (none)) else (none)) else (none)) = some r:=by first | (rw [hji11] at H;exact H) | (simp only [hji11] at H ⊢;exact H));(try rw [hji11] at A10);by_cases c12 : 0 ≤ (ji11)
 case neg => rw [if_neg c12] at H;exact absurd H (by simp)
 rw [if_pos c12] at H;have c12b0:=eq_true c12;have c12b1 : decide (0 ≤ (ji11)) = true:=decide_eq_true c12;clear c12;by_cases c13 : (ji11) ≤ (wrap64 ((ji11) + 1))
 case neg => rw [if_neg c13] at H;exact absurd H (by simp)
 rw [if_pos c13] at H;have c13b0:=eq_true c13;have c13b1 : decide ((ji11) ≤ (wrap64 ((ji11) + 1))) = true:=decide_eq_true c13;by_cases c14 : (wrap64 ((ji11) + 1)) ≤ 10
 case neg => rw [if_neg c14] at H;exact absurd H (by simp)
 rw [if_pos c14] at H;have c14b0:=eq_true c14;have c14b1 : decide ((wrap64 ((ji11) + 1)) ≤ 10) = true:=decide_eq_true c14;by_cases c15 : t185.size + ((⟨#[48,49,50,51,52,53,54,55,56,57]⟩ : ByteArray).extract ((ji11) : Int).toNat ((wrap64 ((ji11) + 1)) : Int).toNat).size ≤ 9223372036854775807
 case neg => rw [if_neg c15] at H;exact absurd H (by simp)
 rw [if_pos c15] at H;have c15b0:=eq_true c15;have c15b1 : decide (t185.size + ((⟨#[48,49,50,51,52,53,54,55,56,57]⟩ : ByteArray).extract ((ji11) : Int).toNat ((wrap64 ((ji11) + 1)) : Int).toNat).size ≤ 9223372036854775807) = true:=decide_eq_true c15;(try have c15b2 : (9223372036854775807 < t185.size + ((⟨#[48,49,50,51,52,53,54,55,56,57]⟩ : ByteArray).extract ((ji11) : Int).toNat ((wrap64 ((ji11) + 1)) : Int).toNat).size) = False:=eq_false (Nat.not_lt.2 c15));have c15b3 : (9223372036854775807 < t185.size + ((wrap64 (ji11 + 1)).toNat - ji11.toNat)) = False:=eq_false (by have h_:=c15;rw [ByteArray.size_extract] at h_;have h2_ : (⟨#[48,49,50,51,52,53,54,55,56,57]⟩ : ByteArray).size = 10:=rfl;have h3_:=of_eq_true c14b0;omega);obtain rfl:=Option.some.inj H;go_enter Try.func94,Try.ntmps94;(try go_wp2);have n0_:=Aside0.mk (qi0 HB.out);clear HB;have HB:=n0_;clear n0_;(refine qq1 (n:=11) (S:=fun w' => True) (ds := []) #[false,false,false,false,false,false,false,false,false,false,false] (by kernel_rfl) rfl rfl trivial (fun hHeld => ?_);refine qi1 spec_l1Text.tab5 spec_l1Text.bits5 (fun HT_ HW_ => ?_));generalize w.drew = w16 at HB hHeld ⊢;refine pure_ (i:=0) (N:=some 15) #[true,false,false,false,false,false,false,false,false,false,false] rfl rfl y4_a y4_h (Or.inl ⟨by rfl,y4_p⟩) y4_s ?_;refine pure_ (i:=1) (N:=some 16) #[true,true,false,false,false,false,false,false,false,false,false] rfl rfl y4_a y4_h (Or.inl ⟨by rfl,y4_p⟩) y4_s ?_;refine pure_ (i:=3) (N:=some 18) #[true,true,false,true,false,false,false,false,false,false,false] rfl rfl y4_a y4_h (Or.inl ⟨by rfl,y4_p⟩) y4_s ?_;refine pure_ (i:=4) (N:=some 19) #[true,true,false,true,true,false,false,false,false,false,false] rfl rfl y4_a y4_h (Or.inl ⟨by rfl,y4_p⟩) y4_s ?_;refine pure_ (i:=5) (N:=some 20) #[true,true,false,true,true,true,false,false,false,false,false] rfl rfl y4_a y4_h (Or.inl ⟨by rfl,y4_p⟩) y4_s ?_;refine pure_ (i:=6) (N:=some 21) #[true,true,false,true,true,true,true,false,false,false,false] rfl rfl y4_a y4_h (Or.inl ⟨by rfl,y4_p⟩) y4_s ?_;refine pure_ (i:=7) (N:=some 22) #[true,true,false,true,true,true,true,true,false,false,false] rfl rfl y4_a y4_h (Or.inl ⟨by rfl,y4_p⟩) y4_s ?_;refine pure_ (i:=8) (N:=some 23) #[true,true,false,true,true,true,true,true,true,false,false] rfl rfl y4_a y4_h (Or.inl ⟨by rfl,y4_p⟩) y4_s ?_;refine one_ (i:=2) (N:=some 17) #[true,true,true,true,true,true,true,true,true,false,false] rfl rfl (qj1 HT_.out (by kernel_rfl)) (by decide) (fun K hK => ?_);refine goes_ Try.func94 (by kernel_rfl) rfl #[.int .i64 (wrap64 (Int.tdiv a0 10))] (by rfl) rfl rfl z4_1 ?_;(with_reducible refine (ih k (by omega) (wrap64 (Int.tdiv a0 10)) t185 _ A10.out).mono ?_);rintro e w17 ⟨rfl,hb⟩;refine ⟨_,rfl,?_⟩;have n0_:=Aside0.mk (qg0 z4_0 hb);clear HB
 have HB:=n0_;clear n0_;(try clear hb);(try clear hb2);(try clear hk);(try clear hi);refine hK.out _ _ trivial (fun hHeld => ?_);clear hK K;refine norm_ (show Act.put _ (some 17) _ = _ from y4_s) ?_;refine pure_ (i:=9) (N:=some 24) #[true,true,true,true,true,true,true,true,true,true,false] rfl rfl y4_a y4_h (Or.inl ⟨by rfl,y4_p⟩) y4_s ?_;refine pure_ (i:=10) (N:=some 2) #[true,true,true,true,true,true,true,true,true,true,true] rfl rfl y4_a y4_h (Or.inl ⟨by rfl,y4_p⟩) y4_s ?_;refine done_ (qp1 HT_.out (by kernel_rfl)) ?_;(try go_wp2);go_ret;exact ⟨by first | rfl | (simp [errW_none,errW_some] <;> rfl) | (simp only [← hji11];first | rfl | (simp [errW_none,errW_some] <;> rfl)) | (simp [*,errW_none,errW_some] <;> rfl),z4_0⟩

end Go.Proofs.Ytkkdmmefnicmaaa.PFnNoGap
