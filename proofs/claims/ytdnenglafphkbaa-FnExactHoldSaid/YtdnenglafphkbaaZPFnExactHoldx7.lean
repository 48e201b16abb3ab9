/- Lines by a program (a changed copy of the kit's print: this repo's wip/tools): Go functions as Lean functions, and proofs that the calls answer so. -/
import Derived.Test.YtdnenglafphkbaaZPFnExactHoldx0
import Derived.Test.YtdnenglafphkbaaZPFnExactHoldx5
import Derived.Test.YtdnenglafphkbaaZPFnExactHoldx6
namespace Go.Proofs.Ytdnenglafphkbaa.PFnExactHold
open Go.RowKit Go.Proofs.YtdnenglafphkbaaW.PrintWords Go.Proofs.YtdnenglafphkbaaW.PrintLast Go.Proofs.YtdnenglafphkbaaW.PrintMore
attribute [local go_sem] max2_int min2_int max_two min_two max_three min_three max_four min_four   -- for this text's walks alone
set_option linter.unusedVariables false
set_option linter.unusedSimpArgs false

-- EXTERN loop.example/g00040/impl.Hold
/-! ### impl_Hold: function 25 -/
-- @rounds
-- @making
def hold_do.T2 : Bool × List (List Nat × List Nat) := (true, [([], []), ([0], [0]), ([1], [1]), ([2], [2]), ([], []), ([4], [4]), ([5], [5]), ([6], [6]), ([3, 7], [3, 7]), ([8, 0, 1, 2, 3, 4, 5, 6, 7, 8], [8])])
def hold_do.B2 : List Nat := [0, 1, 3, 7, 0, 16, 48, 112, 255, 511]
theorem hold_do.tab2 : rtab .any (opsOf Try.f75 2) = hold_do.T2 := by kernel_rfl
theorem hold_do.bits2 : waitsOk hold_do.T2.2 hold_do.B2 = true := by kernel_rfl

/-- What a hold leaves of a cell, and whether it may be. -/
def holdCell (x : S106) (q : Int) : S106 := ⟨x.f0, x.f1, x.f2, x.f3, x.f4, wrap64 (x.f5 + q)⟩
def holdOk (x : S106) (q : Int) : Bool := decide (wrap64 (x.f5 + q) ≤ x.f4)
set_option maxHeartbeats 8000000 in
set_option maxRecDepth 100000 in
theorem hold_do (w0 w : World) (P : Nat → Prop) (go co : Nat) (out : List S106) (i : Int) (q : Int) (hB : Below w0.heap.size w0 w) (hR : Kd.R k106 106 w w0.heap.size P (.slice (some ⟨go, 0, none⟩) out.length co) out) (h0 : 0 ≤ i) (h1 : i < (out.length : Int)) :
  Calls Try.prog 75 #[.pointer (some ⟨go, i.toNat * 6, none⟩), .int .i64 q] w fun e w' => e = .returned (.bool (holdOk (rd_T106 out i) q)) ∧ Kd.R k106 106 w' w0.heap.size P (.slice (some ⟨go, 0, none⟩) out.length co) (out.set i.toNat (holdCell (rd_T106 out i) q)) ∧ Below w0.heap.size w0 w' ∧ Kept w w' (fun k => k = go) := by
 obtain ⟨go', co', eo, gb, gl, cl, HG⟩ := Kd.R_form hR (by omega)
 obtain ⟨ce, hcl, hM, hcc, hfr⟩ := Kd.qo1 hR z106 i h0 h1
 obtain rfl := k106_openM hM
 have hx5 : w.cell? ⟨go, i.toNat * 6 + 5, none⟩ = some (.int .i64 (rd_T106 out i).f5) := hcc 5 _ rfl
 have hx4 : w.cell? ⟨go, i.toNat * 6 + 4, none⟩ = some (.int .i64 (rd_T106 out i).f4) := hcc 4 _ rfl
 have hf5 : w.frozen? ⟨go, i.toNat * 6 + 5, none⟩ = false := hfr 5
 have HP := Aside0.mk (Kd.R_seg hR i h0 h1 (seg := [.int .i64 (wrap64 ((rd_T106 out i).f5 + q))]) (j := 5) hcl hcc (show 6 ≤ 6 from by decide) (x' := holdCell (rd_T106 out i) q) (k106_mkM _ _ _ (holdCell (rd_T106 out i) q)) (fun _ hk => hk))
 have HGB := Aside0.mk (show w0.heap.size ≤ go by injection eo with ea_ _ _; injection ea_ with ea_; injection ea_ with eb_ _ _; omega)
 have HB := Aside0.mk hB
 have HII := Aside0.mk (And.intro h0 h1)
 have HR := Aside0.mk hR
 clear hB hR hcl hcc hfr hM eo gb gl HG
 have HI := Aside0.mk (show i.toNat < out.length by omega)
 clear h0 h1
 go_enter Try.func75, Try.ntmps75
 go_wp2_with fail
 have hR1 : Kd.R k106 106 (w.setCell ⟨go, i.toNat * 6 + 5, none⟩ (.int .i64 (wrap64 ((rd_T106 out i).f5 + q)))) w0.heap.size P (.slice (some ⟨go, 0, none⟩) out.length co) (out.set i.toNat (holdCell (rd_T106 out i) q)) := HP.out.1
 have hK1 : Kept w (w.setCell ⟨go, i.toNat * 6 + 5, none⟩ (.int .i64 (wrap64 ((rd_T106 out i).f5 + q)))) (fun k => k = go) := Kept.of_grown (S := fun k => k = go) HP.out.2 (Kept.refl _ _) (fun k hk => .inl (by injection hk with hk; exact hk.symm))
 have hB1 : Below w0.heap.size w0 (w.setCell ⟨go, i.toNat * 6 + 5, none⟩ (.int .i64 (wrap64 ((rd_T106 out i).f5 + q)))) := qg0 HB.out HGB.out
 clear HP HB HR hx5 hx4 hf5
 generalize w.setCell ⟨go, i.toNat * 6 + 5, none⟩ (.int .i64 (wrap64 ((rd_T106 out i).f5 + q))) = w1 at hR1 hK1 hB1 ⊢
 have HR1 := Aside0.mk hR1
 have HK1 := Aside0.mk hK1
 have HB1 := Aside0.mk hB1
 obtain ⟨ce, hcl, hM, hcc, hfr⟩ := Kd.qo1 (n := out.length) hR1 z106 i HII.out.1 HII.out.2
 rw [show (out.set i.toNat (holdCell (rd_T106 out i) q)).getD i.toNat z106 = holdCell (rd_T106 out i) q by simp [List.getD, HI.out]] at hM
 obtain rfl := k106_openM hM
 have hz5 : w1.cell? ⟨go, i.toNat * 6 + 5, none⟩ = some (.int .i64 (wrap64 ((rd_T106 out i).f5 + q))) := hcc 5 _ rfl
 have hz4 : w1.cell? ⟨go, i.toNat * 6 + 4, none⟩ = some (.int .i64 (rd_T106 out i).f4) := hcc 4 _ rfl
 clear hR1 hK1 hB1 hcl hM hcc hfr
 refine qq1 (n := 10) (S := fun w' => w'.cell? ⟨go, i.toNat * 6 + 5, none⟩ = some (.int .i64 (wrap64 ((rd_T106 out i).f5 + q))) ∧ w'.cell? ⟨go, i.toNat * 6 + 4, none⟩ = some (.int .i64 (rd_T106 out i).f4)) (ds := []) #[false, false, false, false, false, false, false, false, false, false] (by kernel_rfl) rfl rfl ⟨hz5, hz4⟩ (fun hHeld => ?_); refine qd1 hold_do.tab2 hold_do.bits2 (fun HT_ HW_ => ?_)
 refine pure_ (i := 0) (N := some 13) (v := ?_) (a' := ?_) #[true, false, false, false, false, false, false, false, false, false] rfl rfl (qq0 HT_.out (by kernel_rfl)) (fun _ _ _ h => h) (Or.inl ⟨by rfl, ?_⟩) ?_ ?_
 rotate_left
 ·intro w'
  go_simp
  with_reducible rfl
 rotate_left
 ·simp only [Act.put, List.setIfInBounds_toArray, List.set_cons_zero, List.set_cons_succ, i64_w, i32_w]
  rfl
 refine pure_ (i := 1) (N := some 14) (v := ?_) (a' := ?_) #[true, true, false, false, false, false, false, false, false, false] rfl rfl (qq0 HT_.out (by kernel_rfl)) (fun _ _ _ h => h) (Or.inl ⟨by rfl, ?_⟩) ?_ ?_
 rotate_left
 ·intro w'
  go_simp
  with_reducible rfl
 rotate_left
 ·simp only [Act.put, List.setIfInBounds_toArray, List.set_cons_zero, List.set_cons_succ, i64_w, i32_w]
  rfl
 refine pure_ (i := 2) (N := some 15) (v := ?_) (a' := ?_) #[true, true, true, false, false, false, false, false, false, false] rfl rfl (qq0 HT_.out (by kernel_rfl)) (fun _ _ _ h => h) (Or.inl ⟨by rfl, ?_⟩) ?_ ?_
 rotate_left
 ·intro w'
  go_simp
  with_reducible rfl
 rotate_left
 ·simp only [Act.put, List.setIfInBounds_toArray, List.set_cons_zero, List.set_cons_succ, i64_w, i32_w]
  rfl
 refine pure_ (i := 4) (N := some 17) (v := ?_) (a' := ?_) #[true, true, true, false, true, false, false, false, false, false] rfl rfl (qq0 HT_.out (by kernel_rfl)) (fun _ _ _ h => h) (Or.inl ⟨by rfl, ?_⟩) ?_ ?_
 rotate_left
 ·intro w'
  go_simp
  with_reducible rfl
 rotate_left
 ·simp only [Act.put, List.setIfInBounds_toArray, List.set_cons_zero, List.set_cons_succ, i64_w, i32_w]
  rfl
 refine pure_ (i := 5) (N := some 18) (v := ?_) (a' := ?_) #[true, true, true, false, true, true, false, false, false, false] rfl rfl (qq0 HT_.out (by kernel_rfl)) (fun _ _ _ h => h) (Or.inl ⟨by rfl, ?_⟩) ?_ ?_
 rotate_left
 ·intro w'
  go_simp
  with_reducible rfl
 rotate_left
 ·simp only [Act.put, List.setIfInBounds_toArray, List.set_cons_zero, List.set_cons_succ, i64_w, i32_w]
  rfl
 refine pure_ (i := 6) (N := some 19) (v := ?_) (a' := ?_) #[true, true, true, false, true, true, true, false, false, false] rfl rfl (qq0 HT_.out (by kernel_rfl)) (fun _ _ _ h => h) (Or.inl ⟨by rfl, ?_⟩) ?_ ?_
 rotate_left
 ·intro w'
  go_simp
  with_reducible rfl
 rotate_left
 ·simp only [Act.put, List.setIfInBounds_toArray, List.set_cons_zero, List.set_cons_succ, i64_w, i32_w]
  rfl
 refine take_ (i := 3) (N := some 16) (v := ?_) (a' := ?_) #[true, true, true, true, true, true, true, false, false, false] rfl rfl (take_ofW HT_.out HW_.out (by kernel_rfl)) (fun _ _ _ h => h) (Or.inl ⟨by rfl, ?_⟩) hHeld ?_ ?_
 rotate_left
 ·rintro w' ⟨s0, s1⟩
  go_simp
  with_reducible rfl
 rotate_left
 ·simp only [Act.put, List.setIfInBounds_toArray, List.set_cons_zero, List.set_cons_succ, i64_w, i32_w]
  rfl
 refine take_ (i := 7) (N := some 20) (v := ?_) (a' := ?_) #[true, true, true, true, true, true, true, true, false, false] rfl rfl (take_ofW HT_.out HW_.out (by kernel_rfl)) (fun _ _ _ h => h) (Or.inl ⟨by rfl, ?_⟩) hHeld ?_ ?_
 rotate_left
 ·rintro w' ⟨s0, s1⟩
  go_simp
  with_reducible rfl
 rotate_left
 ·simp only [Act.put, List.setIfInBounds_toArray, List.set_cons_zero, List.set_cons_succ, i64_w, i32_w]
  rfl
 refine pure_ (i := 8) (N := some 21) (v := ?_) (a' := ?_) #[true, true, true, true, true, true, true, true, true, false] rfl rfl (qq0 HT_.out (by kernel_rfl)) (fun _ _ _ h => h) (Or.inl ⟨by rfl, ?_⟩) ?_ ?_
 rotate_left
 ·intro w'
  go_simp
  with_reducible rfl
 rotate_left
 ·simp only [Act.put, List.setIfInBounds_toArray, List.set_cons_zero, List.set_cons_succ, i64_w, i32_w]
  rfl
 refine pure_ (i := 9) (N := some 4) (v := ?_) (a' := ?_) #[true, true, true, true, true, true, true, true, true, true] rfl rfl (qq0 HT_.out (by kernel_rfl)) (fun _ _ _ h => h) (Or.inl ⟨by rfl, ?_⟩) ?_ ?_
 rotate_left
 ·intro w'
  go_simp
  with_reducible rfl
 rotate_left
 ·simp only [Act.put, List.setIfInBounds_toArray, List.set_cons_zero, List.set_cons_succ, i64_w, i32_w]
  rfl
 refine done_ (qm1 HT_.out (by kernel_rfl)) ?_
 go_wp2
 go_ret
 exact ⟨rfl, Kd.qo0 HR1.out, qb0 HB1.out, Kept.drew HK1.out⟩
def each_do.T11 : Bool × List (List Nat × List Nat) := (true, [([], []), ([], []), ([], []), ([2], [2]), ([1, 3], [1, 3]), ([], []), ([5], [5]), ([0, 4, 6], [0, 4, 6]), ([7], [7])])
def each_do.B11 : List Nat := [0, 0, 0, 4, 14, 0, 32, 127, 255]
theorem each_do.tab11 : rtab .any (opsOf Try.f74 11) = each_do.T11 := by kernel_rfl
theorem each_do.bits11 : waitsOk each_do.T11.2 each_do.B11 = true := by kernel_rfl

/-- Picks, one after another, each done to the cell that it names. -/
def eachFrom (cp : List S106) (D : S106 → Int → S106 × Bool) : List S109 → List S106 → List S106 × Int
 | [], out => (out, 0)
 | p :: ps, out => if 0 ≤ p.f0 ∧ p.f0 < (out.length : Int) ∧ 1 ≤ p.f1 ∧ p.f1 ≤ 1000000 then (if (D (rd_T106 out p.f0) p.f1).2 = true then eachFrom cp D ps (out.set p.f0.toNat (D (rd_T106 out p.f0) p.f1).1) else (cp, 3)) else (cp, 2)
def each.f (D : S106 → Int → S106 × Bool) (k : Nat) (l0 : List S106) (l1 : List S109) : Option (List S106 × Int) := (impl_StockOk.f k l0).bind fun t => (if t = true then ((impl_copyStock.f l0).bind fun cp => (some (if (l1.length : Int) > 100 then (cp, 2) else eachFrom cp D l1 cp))) else (some ([], 1)))
set_option maxHeartbeats 8000000 in
set_option maxRecDepth 100000 in
theorem each.calls (g : Nat) (D : S106 → Int → S106 × Bool) (hen : ∀ (args : Array Value) (w : World), (callFunc g args).run Try.prog w = .ok (.enter g args) w) (hdo : ∀ (w0 w : World) (P : Nat → Prop) (go co : Nat) (out : List S106) (i q : Int), Below w0.heap.size w0 w → Kd.R k106 106 w w0.heap.size P (.slice (some ⟨go, 0, none⟩) out.length co) out → 0 ≤ i → i < (out.length : Int) → Calls Try.prog g #[.pointer (some ⟨go, i.toNat * 6, none⟩), .int .i64 q] w fun e w' => e = .returned (.bool (D (rd_T106 out i) q).2) ∧ Kd.R k106 106 w' w0.heap.size P (.slice (some ⟨go, 0, none⟩) out.length co) (out.set i.toNat (D (rd_T106 out i) q).1) ∧ Below w0.heap.size w0 w' ∧ Kept w w' (fun k => k = go))
  (k : Nat) (A0 : Option Addr) (c0 : Nat) (l0 : List S106) (A1 : Option Addr) (c1 : Nat) (l1 : List S109) (r1 : List S106) (r2 : Int) (w : World) (hr0 : Kd.C k106 w A0 l0.length l0) (hc0 : l0.length ≤ c0) (hr1 : Kd.C k109 w A1 l1.length l1) (hc1 : l1.length ≤ c1) (h : each.f D k l0 l1 = some (r1, r2)) :
  Calls Try.prog 74 #[.slice A0 l0.length c0, .slice A1 l1.length c1, .func (.func g) #[] #[]] w fun e w' => ∃ v0_ : Value, e = .returned (.tuple #[v0_, .int .i64 r2]) ∧ Kd.R k106 106 w' w.heap.size (fun _ => True) v0_ r1 ∧ Below w.heap.size w w' := by
 have HR0 := Aside0.mk hr0
 have HC0 := Aside0.mk hc0
 have HR1 := Aside0.mk hr1
 have HLN := Aside0.mk (Kd.C_max hr1)
 have HB := Aside0.mk (Below.refl w.heap.size w)
 clear hr0 hc0 hr1 hc1
 unfold each.f at h
 obtain ⟨t, e1, h⟩ := Option.bind_eq_some_iff.1 h
 have E1 := Aside0.mk e1
 clear e1
 by_cases d0 : t = true
 ·subst d0
  rw [if_pos rfl] at h
  obtain ⟨cp, e2, h⟩ := Option.bind_eq_some_iff.1 h
  have HCP := Aside0.mk e2
  clear e2
  by_cases d1 : (l1.length : Int) > 100
  ·rw [if_pos d1] at h
   have d1b : decide ((l1.length : Int) > 100) = true := decide_eq_true d1
   have d1c : decide (100 < (l1.length : Int)) = true := decide_eq_true d1
   have d1d : decide (100 < l1.length) = true := decide_eq_true (by omega)
   clear d1
   obtain ⟨rfl, rfl⟩ := Prod.mk.inj (Option.some.inj h)
   clear h
   go_enter Try.func74, Try.ntmps74
   go_wp2_with (first | (go_at_call 107; (refine (impl_StockOk.calls k _ _ l0 true _ ?s1 ?s2 E1.out).mono ?_); (case s1 => exact Kd.qf1 HR0.out (by repeat (first | (with_reducible first | exact HB.out | apply qc0 | apply qa0 | apply qb0) | exact HB.out))); (case s2 => exact HC0.out); rintro e w8 ⟨rfl, hb_⟩; have n1_ := Aside0.mk (qf0 (by repeat (first | (with_reducible first | exact HB.out | apply qc0 | apply qa0 | apply qb0) | exact HB.out)) hb_); clear HB hb_; have HB := n1_; clear n1_) | (go_at_call 108; (refine (impl_copyStock.calls _ _ l0 cp _ ?s1 ?s2 HCP.out).mono ?_); (case s1 => exact Kd.qf1 HR0.out (by repeat (first | (with_reducible first | exact HB.out | apply qc0 | apply qa0 | apply qb0) | exact HB.out))); (case s2 => exact HC0.out); rintro e w9 ⟨v9_, rfl, ho_, hb_⟩; have n0_ := Aside0.mk (Kd.qi1 ho_ (qh0 (by repeat (first | (with_reducible first | exact HB.out | apply qc0 | apply qa0 | apply qb0) | exact HB.out)))); have n1_ := Aside0.mk (qf0 (by repeat (first | (with_reducible first | exact HB.out | apply qc0 | apply qa0 | apply qb0) | exact HB.out)) hb_); clear HB ho_ hb_; have HO9 := n0_; have HB := n1_; clear n0_ n1_))
   go_ret2
   exact ⟨_, rfl, HO9.out, by repeat (first | (with_reducible first | exact HB.out | apply qc0 | apply qa0 | apply qb0) | exact HB.out)⟩
  ·rw [if_neg d1] at h
   have d1b : decide ((l1.length : Int) > 100) = false := decide_eq_false d1
   have d1c : decide (100 < (l1.length : Int)) = false := decide_eq_false d1
   have d1d : decide (100 < l1.length) = false := decide_eq_false (by omega)
   clear d1
   have HE := Aside0.mk (Option.some.inj h)
   clear h
   go_enter Try.func74, Try.ntmps74
   go_wp2_with (first | (go_at_call 107; (refine (impl_StockOk.calls k _ _ l0 true _ ?s1 ?s2 E1.out).mono ?_); (case s1 => exact Kd.qf1 HR0.out (by repeat (first | (with_reducible first | exact HB.out | apply qc0 | apply qa0 | apply qb0) | exact HB.out))); (case s2 => exact HC0.out); rintro e w8 ⟨rfl, hb_⟩; have n1_ := Aside0.mk (qf0 (by repeat (first | (with_reducible first | exact HB.out | apply qc0 | apply qa0 | apply qb0) | exact HB.out)) hb_); clear HB hb_; have HB := n1_; clear n1_) | (go_at_call 108; (refine (impl_copyStock.calls _ _ l0 cp _ ?s1 ?s2 HCP.out).mono ?_); (case s1 => exact Kd.qf1 HR0.out (by repeat (first | (with_reducible first | exact HB.out | apply qc0 | apply qa0 | apply qb0) | exact HB.out))); (case s2 => exact HC0.out); rintro e w9 ⟨v9_, rfl, ho_, hb_⟩; have n0_ := Aside0.mk (Kd.qi1 ho_ (qh0 (by repeat (first | (with_reducible first | exact HB.out | apply qc0 | apply qa0 | apply qb0) | exact HB.out)))); have n1_ := Aside0.mk (qf0 (by repeat (first | (with_reducible first | exact HB.out | apply qc0 | apply qa0 | apply qb0) | exact HB.out)) hb_); clear HB ho_ hb_; have HO9 := n0_; have HB := n1_; clear n0_ n1_))
   obtain ⟨Ao, co, eo⟩ := Kd.qh1 HO9.out
   subst eo
   go_loopg [23] l1.length (fun kq v23 w' => ∃ (i : Nat) (out : List S106), i + kq = l1.length ∧ v23 = .int .i64 (i : Int) ∧ Aside0 (eachFrom cp D (l1.drop i) out = (r1, r2)) ∧ Aside0 (Kd.R k106 106 w' w.heap.size (fun _ => True) (.slice Ao cp.length co) out) ∧ Aside0 (Below w.heap.size w w'))
   case atStart => exact ⟨0, cp, Nat.zero_add _, rfl, ⟨by rw [List.drop_zero]; exact HE.out⟩, HO9, HB⟩
   case round =>
    clear HO9 HB HE
    obtain ⟨i, out, hi, rfl, HE, HO, HB⟩ := hrel
    have HOL := Aside0.mk (Kd.qp0 HO.out).1
    by_cases hlt : i < l1.length
    ·have hltb : decide ((i : Int) < (l1.length : Int)) = true := decide_eq_true (Int.ofNat_lt.2 hlt)
     have hltc : decide (i < l1.length) = true := decide_eq_true hlt
     have hltp : (i < l1.length) = True := eq_true hlt
     have hltq : ((i : Int) < (l1.length : Int)) = True := eq_true (Int.ofNat_lt.2 hlt)
     have hltr : (0 ≤ (i : Int)) = True := eq_true (Int.natCast_nonneg _)
     obtain ⟨ad1, e2, hy0, hy1⟩ := at_T109 HR1.out (i : Int) (Int.natCast_nonneg _) (Int.ofNat_lt.2 hlt)
     cases e2
     rw [Int.toNat_natCast] at hy0 hy1
     replace hy0 := (HB.out.cell (World.block_lt_of_cell? w _ hy0)).trans hy0
     replace hy1 := (HB.out.cell (World.block_lt_of_cell? w _ hy1)).trans hy1
     have HLT := Aside0.mk hlt
     have HI := Aside0.mk hi
     have HWR := Aside0.mk (show wrap64 ((i : Int) + 1) = ((i + 1 : Nat) : Int) by have := HLN.out; unfold wrap64; omega)
     have hed : l1.drop i = (rd_T109 l1 (i : Int)) :: l1.drop (i + 1) := by rw [List.drop_eq_getElem_cons hlt]; congr 1; simp [rd_T109, List.getD, hlt]
     have HE1 := HE.out
     rw [hed, eachFrom] at HE1
     clear HE hed hlt hi
     by_cases p0 : (rd_T109 l1 (i : Int)).f0 < 0
     ·have p0b : decide ((rd_T109 l1 (i : Int)).f0 < 0) = true := decide_eq_true p0
      rw [if_neg (by omega)] at HE1
      obtain ⟨rfl, rfl⟩ := Prod.mk.inj HE1
      clear p0 HE1
      go_wp2_with (go_at_call 108; (refine (impl_copyStock.calls _ _ l0 cp _ ?s1 ?s2 HCP.out).mono ?_); (case s1 => exact Kd.qf1 HR0.out (by repeat (first | (with_reducible first | exact HB.out | apply qc0 | apply qa0 | apply qb0) | exact HB.out))); (case s2 => exact HC0.out); rintro e w9 ⟨v9_, rfl, ho_, hb_⟩; have n0_ := Aside0.mk (Kd.qi1 ho_ (qh0 (by repeat (first | (with_reducible first | exact HB.out | apply qc0 | apply qa0 | apply qb0) | exact HB.out)))); have n1_ := Aside0.mk (qf0 (by repeat (first | (with_reducible first | exact HB.out | apply qc0 | apply qa0 | apply qb0) | exact HB.out)) hb_); clear HB ho_ hb_; have HO9 := n0_; have HB := n1_; clear n0_ n1_)
      go_ret2
      exact ⟨_, rfl, HO9.out, by repeat (first | (with_reducible first | exact HB.out | apply qc0 | apply qa0 | apply qb0) | exact HB.out)⟩
     ·have p0b : decide ((rd_T109 l1 (i : Int)).f0 < 0) = false := decide_eq_false p0
      by_cases p1 : (rd_T109 l1 (i : Int)).f0 ≥ (cp.length : Int)
      ·have p1b : decide ((rd_T109 l1 (i : Int)).f0 ≥ (cp.length : Int)) = true := decide_eq_true p1
       have p1c : decide ((cp.length : Int) ≤ (rd_T109 l1 (i : Int)).f0) = true := p1b
       rw [if_neg (by have := HOL.out; omega)] at HE1
       obtain ⟨rfl, rfl⟩ := Prod.mk.inj HE1
       clear p0 p1 HE1
       go_wp2_with (go_at_call 108; (refine (impl_copyStock.calls _ _ l0 cp _ ?s1 ?s2 HCP.out).mono ?_); (case s1 => exact Kd.qf1 HR0.out (by repeat (first | (with_reducible first | exact HB.out | apply qc0 | apply qa0 | apply qb0) | exact HB.out))); (case s2 => exact HC0.out); rintro e w9 ⟨v9_, rfl, ho_, hb_⟩; have n0_ := Aside0.mk (Kd.qi1 ho_ (qh0 (by repeat (first | (with_reducible first | exact HB.out | apply qc0 | apply qa0 | apply qb0) | exact HB.out)))); have n1_ := Aside0.mk (qf0 (by repeat (first | (with_reducible first | exact HB.out | apply qc0 | apply qa0 | apply qb0) | exact HB.out)) hb_); clear HB ho_ hb_; have HO9 := n0_; have HB := n1_; clear n0_ n1_)
       go_ret2
       exact ⟨_, rfl, HO9.out, by repeat (first | (with_reducible first | exact HB.out | apply qc0 | apply qa0 | apply qb0) | exact HB.out)⟩
      ·have p1b : decide ((rd_T109 l1 (i : Int)).f0 ≥ (cp.length : Int)) = false := decide_eq_false p1
       have p1c : decide ((cp.length : Int) ≤ (rd_T109 l1 (i : Int)).f0) = false := p1b
       by_cases p2 : 1 ≤ (rd_T109 l1 (i : Int)).f1 ∧ (rd_T109 l1 (i : Int)).f1 ≤ 1000000
       ·have EB := Aside0.mk (show impl_between.f (rd_T109 l1 (i : Int)).f1 1 1000000 = some true by unfold impl_between.f; rw [if_pos p2.1, decide_eq_true p2.2])
        rw [if_pos (by have := HOL.out; omega)] at HE1
        obtain ⟨go, co', eo, gb0, gl0, cl0, hg0⟩ := Kd.R_form HO.out (by have := HOL.out; omega)
        obtain ⟨rfl, rfl⟩ : Ao = some ⟨go, 0, none⟩ ∧ co = co' := by injection eo with ea_ _ ec_; exact ⟨ea_, ec_⟩
        have HNE0 := Aside0.mk (show ¬ wr.heap.size = go by omega)
        clear eo gb0 gl0 hg0
        have HIN := Aside0.mk (show 0 ≤ (rd_T109 l1 (i : Int)).f0 ∧ (rd_T109 l1 (i : Int)).f0 < (out.length : Int) by have := HOL.out; omega)
        have pq0 : (0 ≤ (rd_T109 l1 (i : Int)).f0) = True := eq_true (by omega)
        have pq1 : ((rd_T109 l1 (i : Int)).f0 < (cp.length : Int)) = True := eq_true (by omega)
        clear p0 p1 p2
        by_cases p3 : (D (rd_T106 out (rd_T109 l1 (i : Int)).f0) (rd_T109 l1 (i : Int)).f1).2 = true
        ·have HD := Aside0.mk p3
         rw [if_pos p3] at HE1
         have HE := Aside0.mk HE1
         clear p3 HE1
         go_wp2_with (go_at_call 54; (refine (impl_between.calls (rd_T109 l1 (i : Int)).f1 1 1000000 true _ EB.out).mono ?_); rintro e w' ⟨rfl, ⟨nd, rfl⟩⟩)
         have hbx : (wr.alloc (.cells #[.int .i64 (rd_T109 l1 (i : Int)).f0, .int .i64 (rd_T109 l1 (i : Int)).f1] 109)).heap[wr.heap.size]? = some (.cells #[.int .i64 (rd_T109 l1 (i : Int)).f0, .int .i64 (rd_T109 l1 (i : Int)).f1] 109 (0, 0)) := by (show (wr.heap.push _)[wr.heap.size]? = _); rw [Array.getElem?_push_size]
         have hz0 : ((wr.alloc (.cells #[.int .i64 (rd_T109 l1 (i : Int)).f0, .int .i64 (rd_T109 l1 (i : Int)).f1] 109)).drewN nd).cell? ⟨wr.heap.size, 0, none⟩ = some (.int .i64 (rd_T109 l1 (i : Int)).f0) := (qe0 hbx 0).trans rfl
         have hz1 : ((wr.alloc (.cells #[.int .i64 (rd_T109 l1 (i : Int)).f0, .int .i64 (rd_T109 l1 (i : Int)).f1] 109)).drewN nd).cell? ⟨wr.heap.size, 1, none⟩ = some (.int .i64 (rd_T109 l1 (i : Int)).f1) := (qe0 hbx 1).trans rfl
         have HOx := Aside0.mk (Kd.ql0 (Kd.qm0 HO.out (.cells #[.int .i64 (rd_T109 l1 (i : Int)).f0, .int .i64 (rd_T109 l1 (i : Int)).f1] 109)) nd)
         have HBx := Aside0.mk (show Below w.heap.size w ((wr.alloc (.cells #[.int .i64 (rd_T109 l1 (i : Int)).f0, .int .i64 (rd_T109 l1 (i : Int)).f1] 109)).drewN nd) from by repeat (first | (with_reducible first | exact HB.out | apply qc0 | apply qa0 | apply qb0) | exact HB.out))
         have HNE := Aside0.mk (show ¬ (⟨wr.heap.size, 0, none⟩ : Addr).block = go from HNE0.out)
         clear hbx HO HB HNE0 hy0 hy1
         have HO := HOx
         have HB := HBx
         clear HOx HBx
         generalize (wr.alloc (.cells #[.int .i64 (rd_T109 l1 (i : Int)).f0, .int .i64 (rd_T109 l1 (i : Int)).f1] 109)).drewN nd = wx at HO HB hz0 hz1 ⊢
         generalize wr.heap.size = gb at hz0 hz1 HNE ⊢
         refine qq1 (n := 9) (S := fun w' => w'.cell? ⟨gb, 0, none⟩ = some (.int .i64 (rd_T109 l1 (i : Int)).f0) ∧ w'.cell? ⟨gb, 1, none⟩ = some (.int .i64 (rd_T109 l1 (i : Int)).f1)) (ds := []) #[false, false, false, false, false, false, false, false, false] (by kernel_rfl) rfl rfl ⟨hz0, hz1⟩ (fun hHeld => ?_); refine qd1 each_do.tab11 each_do.bits11 (fun HT_ HW_ => ?_)
         refine pure_ (i := 0) (N := some 45) (v := ?_) (a' := ?_) #[true, false, false, false, false, false, false, false, false] rfl rfl (qq0 HT_.out (by kernel_rfl)) (fun _ _ _ h => h) (Or.inl ⟨by rfl, ?_⟩) ?_ ?_
         rotate_left
         ·intro w'
          go_simp
          with_reducible rfl
         rotate_left
         ·simp only [Act.put, List.setIfInBounds_toArray, List.set_cons_zero, List.set_cons_succ, i64_w, i32_w]
          rfl
         refine pure_ (i := 1) (N := some 46) (v := ?_) (a' := ?_) #[true, true, false, false, false, false, false, false, false] rfl rfl (qq0 HT_.out (by kernel_rfl)) (fun _ _ _ h => h) (Or.inl ⟨by rfl, ?_⟩) ?_ ?_
         rotate_left
         ·intro w'
          go_simp
          with_reducible rfl
         rotate_left
         ·simp only [Act.put, List.setIfInBounds_toArray, List.set_cons_zero, List.set_cons_succ, i64_w, i32_w]
          rfl
         refine pure_ (i := 2) (N := some 47) (v := ?_) (a' := ?_) #[true, true, true, false, false, false, false, false, false] rfl rfl (qq0 HT_.out (by kernel_rfl)) (fun _ _ _ h => h) (Or.inl ⟨by rfl, ?_⟩) ?_ ?_
         rotate_left
         ·intro w'
          go_simp
          with_reducible rfl
         rotate_left
         ·simp only [Act.put, List.setIfInBounds_toArray, List.set_cons_zero, List.set_cons_succ, i64_w, i32_w]
          rfl
         refine pure_ (i := 5) (N := some 50) (v := ?_) (a' := ?_) #[true, true, true, false, false, true, false, false, false] rfl rfl (qq0 HT_.out (by kernel_rfl)) (fun _ _ _ h => h) (Or.inl ⟨by rfl, ?_⟩) ?_ ?_
         rotate_left
         ·intro w'
          go_simp
          with_reducible rfl
         rotate_left
         ·simp only [Act.put, List.setIfInBounds_toArray, List.set_cons_zero, List.set_cons_succ, i64_w, i32_w]
          rfl
         refine take_ (i := 3) (N := some 48) (v := ?_) (a' := ?_) #[true, true, true, true, false, true, false, false, false] rfl rfl (take_ofW HT_.out HW_.out (by kernel_rfl)) (fun _ _ _ h => h) (Or.inl ⟨by rfl, ?_⟩) hHeld ?_ ?_
         rotate_left
         ·rintro w' ⟨s0, s1⟩
          go_simp
          with_reducible rfl
         rotate_left
         ·simp only [Act.put, List.setIfInBounds_toArray, List.set_cons_zero, List.set_cons_succ, i64_w, i32_w]
          rfl
         refine pure_ (i := 4) (N := some 49) (v := ?_) (a' := ?_) #[true, true, true, true, true, true, false, false, false] rfl rfl (qq0 HT_.out (by kernel_rfl)) (fun _ _ _ h => h) (Or.inl ⟨by rfl, ?_⟩) ?_ ?_
         rotate_left
         ·intro w'
          go_simp
          with_reducible rfl
         rotate_left
         ·simp only [Act.put, List.setIfInBounds_toArray, List.set_cons_zero, List.set_cons_succ, i64_w, i32_w]
          rfl
         refine take_ (i := 6) (N := some 51) (v := ?_) (a' := ?_) #[true, true, true, true, true, true, true, false, false] rfl rfl (take_ofW HT_.out HW_.out (by kernel_rfl)) (fun _ _ _ h => h) (Or.inl ⟨by rfl, ?_⟩) hHeld ?_ ?_
         rotate_left
         ·rintro w' ⟨s0, s1⟩
          go_simp
          with_reducible rfl
         rotate_left
         ·simp only [Act.put, List.setIfInBounds_toArray, List.set_cons_zero, List.set_cons_succ, i64_w, i32_w]
          rfl
         refine one_ (i := 7) (N := some 52) #[true, true, true, true, true, true, true, true, false] rfl rfl (qt1 HT_.out (by kernel_rfl)) (by decide) (fun K hK => ?_)
         refine goesD_ hen #[.pointer (some ⟨go, (rd_T109 l1 (i : Int)).f0.toNat * 6, none⟩), .int .i64 (rd_T109 l1 (i : Int)).f1] (by rfl) rfl rfl rfl (by (try simp only [List.map_toArray, List.map_cons, List.map_nil]); first | done | rfl) ?_
         refine (hdo w _ (fun _ => True) go co out (rd_T109 l1 (i : Int)).f0 (rd_T109 l1 (i : Int)).f1 (qb0 HB.out) (Kd.qo0 (by have h_ := HO.out; rw [HOL.out] at h_; exact h_)) HIN.out.1 HIN.out.2).mono ?_
         rintro e w2 ⟨rfl, ho_, hb_, hk_⟩
         rw [HD.out]
         refine ⟨_, rfl, ?_⟩
         have HO2 := Aside0.mk ho_
         have HB2 := Aside0.mk hb_
         clear ho_ hb_
         refine hK.out _ _ ⟨cell_kept hz0 hk_ HNE.out, cell_kept hz1 hk_ HNE.out⟩ (fun hHeld => ?_)
         clear hk_
         clear hK K
         refine norm_ (a' := ?_) ?_ ?_
         rotate_left
         ·show Act.put _ (some 52) _ = _
          simp only [Act.put, List.setIfInBounds_toArray, List.set_cons_zero, List.set_cons_succ, i64_w, i32_w]
          rfl
         refine pure_ (i := 8) (N := some 53) (v := ?_) (a' := ?_) #[true, true, true, true, true, true, true, true, true] rfl rfl (qq0 HT_.out (by kernel_rfl)) (fun _ _ _ h => h) (Or.inl ⟨by rfl, ?_⟩) ?_ ?_
         rotate_left
         ·intro w'
          go_simp
          with_reducible rfl
         rotate_left
         ·simp only [Act.put, List.setIfInBounds_toArray, List.set_cons_zero, List.set_cons_succ, i64_w, i32_w]
          rfl
         refine done_ (qm1 HT_.out (by kernel_rfl)) ?_
         go_wp2
         go_roundg (gk - 1)
         case rel => exact ⟨i + 1, _, by have := HLT.out; have := HI.out; omega, by rw [HWR.out], HE, ⟨by have h_ := HO2.out; rw [← HOL.out] at h_; exact h_⟩, HB2⟩
         case measure => have := HLT.out; have := HI.out; omega
        ·have HD := Aside0.mk (Bool.eq_false_iff.mpr p3)
         rw [if_neg p3] at HE1
         obtain ⟨rfl, rfl⟩ := Prod.mk.inj HE1
         clear p3 HE1
         go_wp2_with (go_at_call 54; (refine (impl_between.calls (rd_T109 l1 (i : Int)).f1 1 1000000 true _ EB.out).mono ?_); rintro e w' ⟨rfl, ⟨nd, rfl⟩⟩)
         have hbx : (wr.alloc (.cells #[.int .i64 (rd_T109 l1 (i : Int)).f0, .int .i64 (rd_T109 l1 (i : Int)).f1] 109)).heap[wr.heap.size]? = some (.cells #[.int .i64 (rd_T109 l1 (i : Int)).f0, .int .i64 (rd_T109 l1 (i : Int)).f1] 109 (0, 0)) := by (show (wr.heap.push _)[wr.heap.size]? = _); rw [Array.getElem?_push_size]
         have hz0 : ((wr.alloc (.cells #[.int .i64 (rd_T109 l1 (i : Int)).f0, .int .i64 (rd_T109 l1 (i : Int)).f1] 109)).drewN nd).cell? ⟨wr.heap.size, 0, none⟩ = some (.int .i64 (rd_T109 l1 (i : Int)).f0) := (qe0 hbx 0).trans rfl
         have hz1 : ((wr.alloc (.cells #[.int .i64 (rd_T109 l1 (i : Int)).f0, .int .i64 (rd_T109 l1 (i : Int)).f1] 109)).drewN nd).cell? ⟨wr.heap.size, 1, none⟩ = some (.int .i64 (rd_T109 l1 (i : Int)).f1) := (qe0 hbx 1).trans rfl
         have HOx := Aside0.mk (Kd.ql0 (Kd.qm0 HO.out (.cells #[.int .i64 (rd_T109 l1 (i : Int)).f0, .int .i64 (rd_T109 l1 (i : Int)).f1] 109)) nd)
         have HBx := Aside0.mk (show Below w.heap.size w ((wr.alloc (.cells #[.int .i64 (rd_T109 l1 (i : Int)).f0, .int .i64 (rd_T109 l1 (i : Int)).f1] 109)).drewN nd) from by repeat (first | (with_reducible first | exact HB.out | apply qc0 | apply qa0 | apply qb0) | exact HB.out))
         have HNE := Aside0.mk (show ¬ (⟨wr.heap.size, 0, none⟩ : Addr).block = go from HNE0.out)
         clear hbx HO HB HNE0 hy0 hy1
         have HO := HOx
         have HB := HBx
         clear HOx HBx
         generalize (wr.alloc (.cells #[.int .i64 (rd_T109 l1 (i : Int)).f0, .int .i64 (rd_T109 l1 (i : Int)).f1] 109)).drewN nd = wx at HO HB hz0 hz1 ⊢
         generalize wr.heap.size = gb at hz0 hz1 HNE ⊢
         refine qq1 (n := 9) (S := fun w' => w'.cell? ⟨gb, 0, none⟩ = some (.int .i64 (rd_T109 l1 (i : Int)).f0) ∧ w'.cell? ⟨gb, 1, none⟩ = some (.int .i64 (rd_T109 l1 (i : Int)).f1)) (ds := []) #[false, false, false, false, false, false, false, false, false] (by kernel_rfl) rfl rfl ⟨hz0, hz1⟩ (fun hHeld => ?_); refine qd1 each_do.tab11 each_do.bits11 (fun HT_ HW_ => ?_)
         refine pure_ (i := 0) (N := some 45) (v := ?_) (a' := ?_) #[true, false, false, false, false, false, false, false, false] rfl rfl (qq0 HT_.out (by kernel_rfl)) (fun _ _ _ h => h) (Or.inl ⟨by rfl, ?_⟩) ?_ ?_
         rotate_left
         ·intro w'
          go_simp
          with_reducible rfl
         rotate_left
         ·simp only [Act.put, List.setIfInBounds_toArray, List.set_cons_zero, List.set_cons_succ, i64_w, i32_w]
          rfl
         refine pure_ (i := 1) (N := some 46) (v := ?_) (a' := ?_) #[true, true, false, false, false, false, false, false, false] rfl rfl (qq0 HT_.out (by kernel_rfl)) (fun _ _ _ h => h) (Or.inl ⟨by rfl, ?_⟩) ?_ ?_
         rotate_left
         ·intro w'
          go_simp
          with_reducible rfl
         rotate_left
         ·simp only [Act.put, List.setIfInBounds_toArray, List.set_cons_zero, List.set_cons_succ, i64_w, i32_w]
          rfl
         refine pure_ (i := 2) (N := some 47) (v := ?_) (a' := ?_) #[true, true, true, false, false, false, false, false, false] rfl rfl (qq0 HT_.out (by kernel_rfl)) (fun _ _ _ h => h) (Or.inl ⟨by rfl, ?_⟩) ?_ ?_
         rotate_left
         ·intro w'
          go_simp
          with_reducible rfl
         rotate_left
         ·simp only [Act.put, List.setIfInBounds_toArray, List.set_cons_zero, List.set_cons_succ, i64_w, i32_w]
          rfl
         refine pure_ (i := 5) (N := some 50) (v := ?_) (a' := ?_) #[true, true, true, false, false, true, false, false, false] rfl rfl (qq0 HT_.out (by kernel_rfl)) (fun _ _ _ h => h) (Or.inl ⟨by rfl, ?_⟩) ?_ ?_
         rotate_left
         ·intro w'
          go_simp
          with_reducible rfl
         rotate_left
         ·simp only [Act.put, List.setIfInBounds_toArray, List.set_cons_zero, List.set_cons_succ, i64_w, i32_w]
          rfl
         refine take_ (i := 3) (N := some 48) (v := ?_) (a' := ?_) #[true, true, true, true, false, true, false, false, false] rfl rfl (take_ofW HT_.out HW_.out (by kernel_rfl)) (fun _ _ _ h => h) (Or.inl ⟨by rfl, ?_⟩) hHeld ?_ ?_
         rotate_left
         ·rintro w' ⟨s0, s1⟩
          go_simp
          with_reducible rfl
         rotate_left
         ·simp only [Act.put, List.setIfInBounds_toArray, List.set_cons_zero, List.set_cons_succ, i64_w, i32_w]
          rfl
         refine pure_ (i := 4) (N := some 49) (v := ?_) (a' := ?_) #[true, true, true, true, true, true, false, false, false] rfl rfl (qq0 HT_.out (by kernel_rfl)) (fun _ _ _ h => h) (Or.inl ⟨by rfl, ?_⟩) ?_ ?_
         rotate_left
         ·intro w'
          go_simp
          with_reducible rfl
         rotate_left
         ·simp only [Act.put, List.setIfInBounds_toArray, List.set_cons_zero, List.set_cons_succ, i64_w, i32_w]
          rfl
         refine take_ (i := 6) (N := some 51) (v := ?_) (a' := ?_) #[true, true, true, true, true, true, true, false, false] rfl rfl (take_ofW HT_.out HW_.out (by kernel_rfl)) (fun _ _ _ h => h) (Or.inl ⟨by rfl, ?_⟩) hHeld ?_ ?_
         rotate_left
         ·rintro w' ⟨s0, s1⟩
          go_simp
          with_reducible rfl
         rotate_left
         ·simp only [Act.put, List.setIfInBounds_toArray, List.set_cons_zero, List.set_cons_succ, i64_w, i32_w]
          rfl
         refine one_ (i := 7) (N := some 52) #[true, true, true, true, true, true, true, true, false] rfl rfl (qt1 HT_.out (by kernel_rfl)) (by decide) (fun K hK => ?_)
         refine goesD_ hen #[.pointer (some ⟨go, (rd_T109 l1 (i : Int)).f0.toNat * 6, none⟩), .int .i64 (rd_T109 l1 (i : Int)).f1] (by rfl) rfl rfl rfl (by (try simp only [List.map_toArray, List.map_cons, List.map_nil]); first | done | rfl) ?_
         refine (hdo w _ (fun _ => True) go co out (rd_T109 l1 (i : Int)).f0 (rd_T109 l1 (i : Int)).f1 (qb0 HB.out) (Kd.qo0 (by have h_ := HO.out; rw [HOL.out] at h_; exact h_)) HIN.out.1 HIN.out.2).mono ?_
         rintro e w2 ⟨rfl, ho_, hb_, hk_⟩
         rw [HD.out]
         refine ⟨_, rfl, ?_⟩
         have HO2 := Aside0.mk ho_
         have HB2 := Aside0.mk hb_
         clear ho_ hb_
         refine hK.out _ _ ⟨cell_kept hz0 hk_ HNE.out, cell_kept hz1 hk_ HNE.out⟩ (fun hHeld => ?_)
         clear hk_
         clear hK K
         refine norm_ (a' := ?_) ?_ ?_
         rotate_left
         ·show Act.put _ (some 52) _ = _
          simp only [Act.put, List.setIfInBounds_toArray, List.set_cons_zero, List.set_cons_succ, i64_w, i32_w]
          rfl
         refine pure_ (i := 8) (N := some 53) (v := ?_) (a' := ?_) #[true, true, true, true, true, true, true, true, true] rfl rfl (qq0 HT_.out (by kernel_rfl)) (fun _ _ _ h => h) (Or.inl ⟨by rfl, ?_⟩) ?_ ?_
         rotate_left
         ·intro w'
          go_simp
          with_reducible rfl
         rotate_left
         ·simp only [Act.put, List.setIfInBounds_toArray, List.set_cons_zero, List.set_cons_succ, i64_w, i32_w]
          rfl
         refine done_ (qm1 HT_.out (by kernel_rfl)) ?_
         have HB := HB2
         go_wp2_with (go_at_call 108; (refine (impl_copyStock.calls _ _ l0 cp _ ?s1 ?s2 HCP.out).mono ?_); (case s1 => exact Kd.qf1 HR0.out (by repeat (first | (with_reducible first | exact HB.out | apply qc0 | apply qa0 | apply qb0) | exact HB.out))); (case s2 => exact HC0.out); rintro e w9 ⟨v9_, rfl, ho_, hb_⟩; have n0_ := Aside0.mk (Kd.qi1 ho_ (qh0 (by repeat (first | (with_reducible first | exact HB.out | apply qc0 | apply qa0 | apply qb0) | exact HB.out)))); have n1_ := Aside0.mk (qf0 (by repeat (first | (with_reducible first | exact HB.out | apply qc0 | apply qa0 | apply qb0) | exact HB.out)) hb_); clear HB ho_ hb_; have HO9 := n0_; have HB := n1_; clear n0_ n1_)
         go_ret2
         exact ⟨_, rfl, HO9.out, by repeat (first | (with_reducible first | exact HB.out | apply qc0 | apply qa0 | apply qb0) | exact HB.out)⟩
       ·have EB := Aside0.mk (show impl_between.f (rd_T109 l1 (i : Int)).f1 1 1000000 = some false by
          unfold impl_between.f
          by_cases c_ : (rd_T109 l1 (i : Int)).f1 ≥ 1
          ·rw [if_pos c_, decide_eq_false (by omega)]
          ·rw [if_neg c_])
        rw [if_neg (by omega)] at HE1
        obtain ⟨rfl, rfl⟩ := Prod.mk.inj HE1
        clear p0 p1 p2 HE1
        go_wp2_with (first | (go_at_call 54; (refine (impl_between.calls (rd_T109 l1 (i : Int)).f1 1 1000000 false _ EB.out).mono ?_); rintro e w' ⟨rfl, ⟨nd, rfl⟩⟩) | (go_at_call 108; (refine (impl_copyStock.calls _ _ l0 cp _ ?s1 ?s2 HCP.out).mono ?_); (case s1 => exact Kd.qf1 HR0.out (by repeat (first | (with_reducible first | exact HB.out | apply qc0 | apply qa0 | apply qb0) | exact HB.out))); (case s2 => exact HC0.out); rintro e w9 ⟨v9_, rfl, ho_, hb_⟩; have n0_ := Aside0.mk (Kd.qi1 ho_ (qh0 (by repeat (first | (with_reducible first | exact HB.out | apply qc0 | apply qa0 | apply qb0) | exact HB.out)))); have n1_ := Aside0.mk (qf0 (by repeat (first | (with_reducible first | exact HB.out | apply qc0 | apply qa0 | apply qb0) | exact HB.out)) hb_); clear HB ho_ hb_; have HO9 := n0_; have HB := n1_; clear n0_ n1_))
        go_ret2
        exact ⟨_, rfl, HO9.out, by repeat (first | (with_reducible first | exact HB.out | apply qc0 | apply qa0 | apply qb0) | exact HB.out)⟩
    ·have hltb : decide ((i : Int) < (l1.length : Int)) = false := decide_eq_false (by omega)
     have hltc : decide (i < l1.length) = false := decide_eq_false hlt
     have HE1 := HE.out
     rw [List.drop_eq_nil_of_le (by omega), eachFrom] at HE1
     obtain ⟨rfl, rfl⟩ := Prod.mk.inj HE1
     clear hlt hi HE HE1
     go_wp2
     go_ret2
     exact ⟨_, rfl, HO.out, HB.out⟩
 ·obtain rfl : t = false := Bool.eq_false_iff.mpr d0
  rw [if_neg (by decide)] at h
  obtain ⟨rfl, rfl⟩ := Prod.mk.inj (Option.some.inj h)
  clear h
  go_enter Try.func74, Try.ntmps74
  go_wp2_with (go_at_call 107; (refine (impl_StockOk.calls k _ _ l0 false _ ?s1 ?s2 E1.out).mono ?_); (case s1 => exact Kd.qf1 HR0.out (by repeat (first | (with_reducible first | exact HB.out | apply qc0 | apply qa0 | apply qb0) | exact HB.out))); (case s2 => exact HC0.out); rintro e w8 ⟨rfl, hb_⟩; have n1_ := Aside0.mk (qf0 (by repeat (first | (with_reducible first | exact HB.out | apply qc0 | apply qa0 | apply qb0) | exact HB.out)) hb_); clear HB hb_; have HB := n1_; clear n1_)
  go_ret2
  exact ⟨_, rfl, Kd.R_nil _ _ _ _ _, by repeat (first | (with_reducible first | exact HB.out | apply qc0 | apply qa0 | apply qb0) | exact HB.out)⟩
/-- The step as a pair. -/
def holdD (x : S106) (q : Int) : S106 × Bool := (holdCell x q, holdOk x q)
def impl_Hold.f (k : Nat) (l0 : List S106) (l1 : List S109) : Option (List S106 × Int) := each.f holdD k l0 l1
theorem impl_Hold.mono : ∀ a0 a1 k, LeO (impl_Hold.f k a0 a1) (impl_Hold.f (k + 1) a0 a1) := by
 intro l0 l1 k r h
 unfold impl_Hold.f each.f at h ⊢
 obtain ⟨t, e1, h⟩ := Option.bind_eq_some_iff.1 h
 rw [impl_StockOk.mono _ _ _ e1, Option.bind_some]
 exact h
set_option maxHeartbeats 8000000 in
set_option maxRecDepth 100000 in
theorem impl_Hold.calls (k : Nat) (A0 : Option Addr) (c0 : Nat) (l0 : List S106) (A1 : Option Addr) (c1 : Nat) (l1 : List S109) (r1 : List S106) (r2 : Int) (w : World) (hr0 : Kd.C k106 w A0 l0.length l0) (hc0 : l0.length ≤ c0) (hr1 : Kd.C k109 w A1 l1.length l1) (hc1 : l1.length ≤ c1) (h : impl_Hold.f k l0 l1 = some (r1, r2)) :
  Calls Try.prog 25 #[.slice A0 l0.length c0, .slice A1 l1.length c1] w fun e w' => ∃ v0_ : Value, e = .returned (.tuple #[v0_, .int .i64 r2]) ∧ Kd.R k106 106 w' w.heap.size (fun _ => True) v0_ r1 ∧ Below w.heap.size w w' := by
 go_enter Try.func25, Try.ntmps25
 go_wp2_with (go_at_call 74; (refine (each.calls 75 holdD (fn_enters Try.func75 (by kernel_rfl) rfl) (fun w0 w P go co out i q hB hR h0 h1 => hold_do w0 w P go co out i q hB hR h0 h1) k A0 c0 l0 A1 c1 l1 r1 r2 w hr0 hc0 hr1 hc1 h).mono ?_); rintro e w9 ⟨v9_, rfl, ho_, hb_⟩)
 go_ret2
 exact ⟨_, rfl, ho_, hb_⟩

/-! ### laws_eqCell: function 76 -/
def laws_eqCell.f (a0_0 : ByteArray) (a0_1 : ByteArray) (a0_2 : ByteArray) (a0_3 : Int) (a0_4 : Int) (a0_5 : Int) (a1_0 : ByteArray) (a1_1 : ByteArray) (a1_2 : ByteArray) (a1_3 : Int) (a1_4 : Int) (a1_5 : Int) : Option (Bool) := if a0_0.toList = a1_0.toList then (if a0_1.toList = a1_1.toList then (if a0_2.toList = a1_2.toList then (if a0_3 = a1_3 then (if a0_4 = a1_4 then (if a0_5 = a1_5 then (some true) else (some false)) else (some false)) else (some false)) else (some false)) else (some false)) else (some false)
set_option maxHeartbeats 8000000 in
set_option maxRecDepth 100000 in
theorem laws_eqCell.calls (a0_0 : ByteArray) (a0_1 : ByteArray) (a0_2 : ByteArray) (a0_3 : Int) (a0_4 : Int) (a0_5 : Int) (a1_0 : ByteArray) (a1_1 : ByteArray) (a1_2 : ByteArray) (a1_3 : Int) (a1_4 : Int) (a1_5 : Int) (r : Bool) (w : World) (h : laws_eqCell.f a0_0 a0_1 a0_2 a0_3 a0_4 a0_5 a1_0 a1_1 a1_2 a1_3 a1_4 a1_5 = some r) :
  Calls Try.prog 76 #[.agg #[.string a0_0, .string a0_1, .string a0_2, .int .i64 a0_3, .int .i64 a0_4, .int .i64 a0_5], .agg #[.string a1_0, .string a1_1, .string a1_2, .int .i64 a1_3, .int .i64 a1_4, .int .i64 a1_5]] w fun e w' => e = .returned (.bool r) ∧ Below w.heap.size w w' := by
 have hu106 := Try.underlying106
 have HB := Aside0.mk (Below.refl w.heap.size w)
 have H : (if a0_0.toList = a1_0.toList then (if a0_1.toList = a1_1.toList then (if a0_2.toList = a1_2.toList then (if a0_3 = a1_3 then (if a0_4 = a1_4 then (if a0_5 = a1_5 then (some true) else (some false)) else (some false)) else (some false)) else (some false)) else (some false)) else (some false)) = some r := h
 clear h
 by_cases c3 : a0_0.toList = a1_0.toList
 ·rw [if_pos c3] at H
  have c3b0 : (a0_0.toList == a1_0.toList) = true := beq_iff_eq.mpr c3
  have c3b1 : (a0_0.toList != a1_0.toList) = false := bne_eq_false_iff_eq.mpr c3
  clear c3
  by_cases c4 : a0_1.toList = a1_1.toList
  ·rw [if_pos c4] at H
   have c4b0 : (a0_1.toList == a1_1.toList) = true := beq_iff_eq.mpr c4
   have c4b1 : (a0_1.toList != a1_1.toList) = false := bne_eq_false_iff_eq.mpr c4
   clear c4
   by_cases c5 : a0_2.toList = a1_2.toList
   ·rw [if_pos c5] at H
    have c5b0 : (a0_2.toList == a1_2.toList) = true := beq_iff_eq.mpr c5
    have c5b1 : (a0_2.toList != a1_2.toList) = false := bne_eq_false_iff_eq.mpr c5
    clear c5
    by_cases c6 : a0_3 = a1_3
    ·rw [if_pos c6] at H
     have c6b0 : (a0_3 == a1_3) = true := beq_iff_eq.mpr c6
     have c6b1 : (a0_3 != a1_3) = false := bne_eq_false_iff_eq.mpr c6
     clear c6
     by_cases c7 : a0_4 = a1_4
     ·rw [if_pos c7] at H
      have c7b0 : (a0_4 == a1_4) = true := beq_iff_eq.mpr c7
      have c7b1 : (a0_4 != a1_4) = false := bne_eq_false_iff_eq.mpr c7
      clear c7
      by_cases c8 : a0_5 = a1_5
      ·rw [if_pos c8] at H
       have c8b0 : (a0_5 == a1_5) = true := beq_iff_eq.mpr c8
       have c8b1 : (a0_5 != a1_5) = false := bne_eq_false_iff_eq.mpr c8
       clear c8
       obtain rfl := Option.some.inj H
       go_enter Try.func76, Try.ntmps76
       go_wp2_with (first | ((with_reducible refine qt0 (N := 2) rfl ?_); refine qs0 ?hg (N := 2) ?hd (cs := #[.string a0_0, .string a0_1, .string a0_2, .int .i64 a0_3, .int .i64 a0_4, .int .i64 a0_5]) (t := 106) ?hr ?_; (case hd => rfl); (case hg => rfl); (case hr => first | (go_simp; done) | (go_simp; rfl)); intro gb215 hg w9 hbox hb; have n0_ := Aside0.mk (qf0 (by repeat (first | (with_reducible first | exact HB.out | apply qc0 | apply qa0 | apply qb0) | exact HB.out)) hb); have n1_ := Aside0.mk (hbox); have n2_ := Aside0.mk ((by rw [hg]; exact (qh0 (by repeat (first | (with_reducible first | exact HB.out | apply qc0 | apply qa0 | apply qb0) | exact HB.out))) : w.heap.size ≤ gb215)); have n3_ := Aside0.mk ((by rw [hg]; exact (qh0 (by repeat (first | (with_reducible first | exact HB.out | apply qc0 | apply qa0 | apply qb0) | exact HB.out))) : w.heap.size ≤ gb215)); clear HB; have HB := n0_; have BK215 := n1_; have GW215 := n2_; have GE215 := n3_; clear n0_ n1_ n2_ n3_; clear hb hbox hg) | ((with_reducible refine qt0 (N := 3) rfl ?_); refine qs0 ?hg (N := 3) ?hd (cs := #[.string a1_0, .string a1_1, .string a1_2, .int .i64 a1_3, .int .i64 a1_4, .int .i64 a1_5]) (t := 106) ?hr ?_; (case hd => rfl); (case hg => rfl); (case hr => first | (go_simp; done) | (go_simp; rfl)); intro gb216 hg w10 hbox hb; have n0_ := Aside0.mk (qb1 (g := gb215) (o := .cells #[.string a0_0, .string a0_1, .string a0_2, .int .i64 a0_3, .int .i64 a0_4, .int .i64 a0_5] 106 (0, 0)) (by (with_reducible repeat (first | refine qi0 ?_ _ | refine qk0 ?_ | refine qj0 ?_ _)); exact BK215.out) hb); have n1_ := Aside0.mk (qf0 (by repeat (first | (with_reducible first | exact HB.out | apply qc0 | apply qa0 | apply qb0 | refine qg0 ?_ GE215.out) | exact HB.out)) hb); have n2_ := Aside0.mk (hbox); have n3_ := Aside0.mk ((by rw [hg]; exact (qh0 (by repeat (first | (with_reducible first | exact HB.out | apply qc0 | apply qa0 | apply qb0 | refine qg0 ?_ GE215.out) | exact HB.out))) : w.heap.size ≤ gb216)); have n4_ := Aside0.mk ((by rw [hg]; exact (qh0 (by repeat (first | (with_reducible first | exact HB.out | apply qc0 | apply qa0 | apply qb0 | refine qg0 ?_ GE215.out) | exact HB.out))) : w.heap.size ≤ gb216)); have n5_ := Aside0.mk ((by rw [hg]; exact Nat.ne_of_lt (qg1 (g := gb215) (o := .cells #[.string a0_0, .string a0_1, .string a0_2, .int .i64 a0_3, .int .i64 a0_4, .int .i64 a0_5] 106 (0, 0)) (by (with_reducible repeat (first | refine qi0 ?_ _ | refine qk0 ?_ | refine qj0 ?_ _)); exact BK215.out)) : gb215 ≠ gb216)); have n6_ := Aside0.mk ((by rw [hg]; exact Nat.ne_of_gt (qg1 (g := gb215) (o := .cells #[.string a0_0, .string a0_1, .string a0_2, .int .i64 a0_3, .int .i64 a0_4, .int .i64 a0_5] 106 (0, 0)) (by (with_reducible repeat (first | refine qi0 ?_ _ | refine qk0 ?_ | refine qj0 ?_ _)); exact BK215.out)) : gb216 ≠ gb215)); clear BK215; clear HB; have BK215 := n0_; have HB := n1_; have BK216 := n2_; have GW216 := n3_; have GE216 := n4_; have NB215_216 := n5_; have NB216_215 := n6_; clear n0_ n1_ n2_ n3_ n4_ n5_ n6_; clear hb hbox hg; have hnb11 := NB215_216.out; have hnc11 := NB216_215.out; have hcz12_0 : w10.cell? ⟨gb215, 0, none⟩ = some (.string a0_0) := (qe0 BK215.out 0).trans rfl; have hcz12_1 : w10.cell? ⟨gb215, 1, none⟩ = some (.string a0_1) := (qe0 BK215.out 1).trans rfl; have hcz12_2 : w10.cell? ⟨gb215, 2, none⟩ = some (.string a0_2) := (qe0 BK215.out 2).trans rfl; have hcz12_3 : w10.cell? ⟨gb215, 3, none⟩ = some (.int .i64 a0_3) := (qe0 BK215.out 3).trans rfl; have hcz12_4 : w10.cell? ⟨gb215, 4, none⟩ = some (.int .i64 a0_4) := (qe0 BK215.out 4).trans rfl; have hcz12_5 : w10.cell? ⟨gb215, 5, none⟩ = some (.int .i64 a0_5) := (qe0 BK215.out 5).trans rfl; have hfz12_0 := qd0 BK215.out 0; have hfz12_1 := qd0 BK215.out 1; have hfz12_2 := qd0 BK215.out 2; have hfz12_3 := qd0 BK215.out 3; have hfz12_4 := qd0 BK215.out 4; have hfz12_5 := qd0 BK215.out 5; have hcz13_0 : w10.cell? ⟨gb216, 0, none⟩ = some (.string a1_0) := (qe0 BK216.out 0).trans rfl; have hcz13_1 : w10.cell? ⟨gb216, 1, none⟩ = some (.string a1_1) := (qe0 BK216.out 1).trans rfl; have hcz13_2 : w10.cell? ⟨gb216, 2, none⟩ = some (.string a1_2) := (qe0 BK216.out 2).trans rfl; have hcz13_3 : w10.cell? ⟨gb216, 3, none⟩ = some (.int .i64 a1_3) := (qe0 BK216.out 3).trans rfl; have hcz13_4 : w10.cell? ⟨gb216, 4, none⟩ = some (.int .i64 a1_4) := (qe0 BK216.out 4).trans rfl; have hcz13_5 : w10.cell? ⟨gb216, 5, none⟩ = some (.int .i64 a1_5) := (qe0 BK216.out 5).trans rfl; have hfz13_0 := qd0 BK216.out 0; have hfz13_1 := qd0 BK216.out 1; have hfz13_2 := qd0 BK216.out 2; have hfz13_3 := qd0 BK216.out 3; have hfz13_4 := qd0 BK216.out 4; have hfz13_5 := qd0 BK216.out 5))
       go_ret
       exact ⟨by first | rfl | (simp [errW_none, errW_some] <;> rfl) | (simp [*, errW_none, errW_some] <;> rfl), by repeat (first | (with_reducible first | exact HB.out | apply qc0 | apply qa0 | apply qb0 | refine qg0 ?_ GE215.out | refine qg0 ?_ GE216.out) | exact HB.out)⟩
      rw [if_neg c8] at H
      have c8b0 : (a0_5 == a1_5) = false := beq_eq_false_iff_ne.mpr c8
      have c8b1 : (a0_5 != a1_5) = true := bne_iff_ne.mpr c8
      obtain rfl := Option.some.inj H
      go_enter Try.func76, Try.ntmps76
      go_wp2_with (first | ((with_reducible refine qt0 (N := 2) rfl ?_); refine qs0 ?hg (N := 2) ?hd (cs := #[.string a0_0, .string a0_1, .string a0_2, .int .i64 a0_3, .int .i64 a0_4, .int .i64 a0_5]) (t := 106) ?hr ?_; (case hd => rfl); (case hg => rfl); (case hr => first | (go_simp; done) | (go_simp; rfl)); intro gb215 hg w14 hbox hb; have n0_ := Aside0.mk (qf0 (by repeat (first | (with_reducible first | exact HB.out | apply qc0 | apply qa0 | apply qb0) | exact HB.out)) hb); have n1_ := Aside0.mk (hbox); have n2_ := Aside0.mk ((by rw [hg]; exact (qh0 (by repeat (first | (with_reducible first | exact HB.out | apply qc0 | apply qa0 | apply qb0) | exact HB.out))) : w.heap.size ≤ gb215)); have n3_ := Aside0.mk ((by rw [hg]; exact (qh0 (by repeat (first | (with_reducible first | exact HB.out | apply qc0 | apply qa0 | apply qb0) | exact HB.out))) : w.heap.size ≤ gb215)); clear HB; have HB := n0_; have BK215 := n1_; have GW215 := n2_; have GE215 := n3_; clear n0_ n1_ n2_ n3_; clear hb hbox hg) | ((with_reducible refine qt0 (N := 3) rfl ?_); refine qs0 ?hg (N := 3) ?hd (cs := #[.string a1_0, .string a1_1, .string a1_2, .int .i64 a1_3, .int .i64 a1_4, .int .i64 a1_5]) (t := 106) ?hr ?_; (case hd => rfl); (case hg => rfl); (case hr => first | (go_simp; done) | (go_simp; rfl)); intro gb216 hg w15 hbox hb; have n0_ := Aside0.mk (qb1 (g := gb215) (o := .cells #[.string a0_0, .string a0_1, .string a0_2, .int .i64 a0_3, .int .i64 a0_4, .int .i64 a0_5] 106 (0, 0)) (by (with_reducible repeat (first | refine qi0 ?_ _ | refine qk0 ?_ | refine qj0 ?_ _)); exact BK215.out) hb); have n1_ := Aside0.mk (qf0 (by repeat (first | (with_reducible first | exact HB.out | apply qc0 | apply qa0 | apply qb0 | refine qg0 ?_ GE215.out) | exact HB.out)) hb); have n2_ := Aside0.mk (hbox); have n3_ := Aside0.mk ((by rw [hg]; exact (qh0 (by repeat (first | (with_reducible first | exact HB.out | apply qc0 | apply qa0 | apply qb0 | refine qg0 ?_ GE215.out) | exact HB.out))) : w.heap.size ≤ gb216)); have n4_ := Aside0.mk ((by rw [hg]; exact (qh0 (by repeat (first | (with_reducible first | exact HB.out | apply qc0 | apply qa0 | apply qb0 | refine qg0 ?_ GE215.out) | exact HB.out))) : w.heap.size ≤ gb216)); have n5_ := Aside0.mk ((by rw [hg]; exact Nat.ne_of_lt (qg1 (g := gb215) (o := .cells #[.string a0_0, .string a0_1, .string a0_2, .int .i64 a0_3, .int .i64 a0_4, .int .i64 a0_5] 106 (0, 0)) (by (with_reducible repeat (first | refine qi0 ?_ _ | refine qk0 ?_ | refine qj0 ?_ _)); exact BK215.out)) : gb215 ≠ gb216)); have n6_ := Aside0.mk ((by rw [hg]; exact Nat.ne_of_gt (qg1 (g := gb215) (o := .cells #[.string a0_0, .string a0_1, .string a0_2, .int .i64 a0_3, .int .i64 a0_4, .int .i64 a0_5] 106 (0, 0)) (by (with_reducible repeat (first | refine qi0 ?_ _ | refine qk0 ?_ | refine qj0 ?_ _)); exact BK215.out)) : gb216 ≠ gb215)); clear BK215; clear HB; have BK215 := n0_; have HB := n1_; have BK216 := n2_; have GW216 := n3_; have GE216 := n4_; have NB215_216 := n5_; have NB216_215 := n6_; clear n0_ n1_ n2_ n3_ n4_ n5_ n6_; clear hb hbox hg; have hnb16 := NB215_216.out; have hnc16 := NB216_215.out; have hcz17_0 : w15.cell? ⟨gb215, 0, none⟩ = some (.string a0_0) := (qe0 BK215.out 0).trans rfl; have hcz17_1 : w15.cell? ⟨gb215, 1, none⟩ = some (.string a0_1) := (qe0 BK215.out 1).trans rfl; have hcz17_2 : w15.cell? ⟨gb215, 2, none⟩ = some (.string a0_2) := (qe0 BK215.out 2).trans rfl; have hcz17_3 : w15.cell? ⟨gb215, 3, none⟩ = some (.int .i64 a0_3) := (qe0 BK215.out 3).trans rfl; have hcz17_4 : w15.cell? ⟨gb215, 4, none⟩ = some (.int .i64 a0_4) := (qe0 BK215.out 4).trans rfl; have hcz17_5 : w15.cell? ⟨gb215, 5, none⟩ = some (.int .i64 a0_5) := (qe0 BK215.out 5).trans rfl; have hfz17_0 := qd0 BK215.out 0; have hfz17_1 := qd0 BK215.out 1; have hfz17_2 := qd0 BK215.out 2; have hfz17_3 := qd0 BK215.out 3; have hfz17_4 := qd0 BK215.out 4; have hfz17_5 := qd0 BK215.out 5; have hcz18_0 : w15.cell? ⟨gb216, 0, none⟩ = some (.string a1_0) := (qe0 BK216.out 0).trans rfl; have hcz18_1 : w15.cell? ⟨gb216, 1, none⟩ = some (.string a1_1) := (qe0 BK216.out 1).trans rfl; have hcz18_2 : w15.cell? ⟨gb216, 2, none⟩ = some (.string a1_2) := (qe0 BK216.out 2).trans rfl; have hcz18_3 : w15.cell? ⟨gb216, 3, none⟩ = some (.int .i64 a1_3) := (qe0 BK216.out 3).trans rfl; have hcz18_4 : w15.cell? ⟨gb216, 4, none⟩ = some (.int .i64 a1_4) := (qe0 BK216.out 4).trans rfl; have hcz18_5 : w15.cell? ⟨gb216, 5, none⟩ = some (.int .i64 a1_5) := (qe0 BK216.out 5).trans rfl; have hfz18_0 := qd0 BK216.out 0; have hfz18_1 := qd0 BK216.out 1; have hfz18_2 := qd0 BK216.out 2; have hfz18_3 := qd0 BK216.out 3; have hfz18_4 := qd0 BK216.out 4; have hfz18_5 := qd0 BK216.out 5))
      go_ret
      exact ⟨by first | rfl | (simp [errW_none, errW_some] <;> rfl) | (simp [*, errW_none, errW_some] <;> rfl), by repeat (first | (with_reducible first | exact HB.out | apply qc0 | apply qa0 | apply qb0 | refine qg0 ?_ GE215.out | refine qg0 ?_ GE216.out) | exact HB.out)⟩
     rw [if_neg c7] at H
     have c7b0 : (a0_4 == a1_4) = false := beq_eq_false_iff_ne.mpr c7
     have c7b1 : (a0_4 != a1_4) = true := bne_iff_ne.mpr c7
     obtain rfl := Option.some.inj H
     go_enter Try.func76, Try.ntmps76
     go_wp2_with (first | ((with_reducible refine qt0 (N := 2) rfl ?_); refine qs0 ?hg (N := 2) ?hd (cs := #[.string a0_0, .string a0_1, .string a0_2, .int .i64 a0_3, .int .i64 a0_4, .int .i64 a0_5]) (t := 106) ?hr ?_; (case hd => rfl); (case hg => rfl); (case hr => first | (go_simp; done) | (go_simp; rfl)); intro gb215 hg w19 hbox hb; have n0_ := Aside0.mk (qf0 (by repeat (first | (with_reducible first | exact HB.out | apply qc0 | apply qa0 | apply qb0) | exact HB.out)) hb); have n1_ := Aside0.mk (hbox); have n2_ := Aside0.mk ((by rw [hg]; exact (qh0 (by repeat (first | (with_reducible first | exact HB.out | apply qc0 | apply qa0 | apply qb0) | exact HB.out))) : w.heap.size ≤ gb215)); have n3_ := Aside0.mk ((by rw [hg]; exact (qh0 (by repeat (first | (with_reducible first | exact HB.out | apply qc0 | apply qa0 | apply qb0) | exact HB.out))) : w.heap.size ≤ gb215)); clear HB; have HB := n0_; have BK215 := n1_; have GW215 := n2_; have GE215 := n3_; clear n0_ n1_ n2_ n3_; clear hb hbox hg) | ((with_reducible refine qt0 (N := 3) rfl ?_); refine qs0 ?hg (N := 3) ?hd (cs := #[.string a1_0, .string a1_1, .string a1_2, .int .i64 a1_3, .int .i64 a1_4, .int .i64 a1_5]) (t := 106) ?hr ?_; (case hd => rfl); (case hg => rfl); (case hr => first | (go_simp; done) | (go_simp; rfl)); intro gb216 hg w20 hbox hb; have n0_ := Aside0.mk (qb1 (g := gb215) (o := .cells #[.string a0_0, .string a0_1, .string a0_2, .int .i64 a0_3, .int .i64 a0_4, .int .i64 a0_5] 106 (0, 0)) (by (with_reducible repeat (first | refine qi0 ?_ _ | refine qk0 ?_ | refine qj0 ?_ _)); exact BK215.out) hb); have n1_ := Aside0.mk (qf0 (by repeat (first | (with_reducible first | exact HB.out | apply qc0 | apply qa0 | apply qb0 | refine qg0 ?_ GE215.out) | exact HB.out)) hb); have n2_ := Aside0.mk (hbox); have n3_ := Aside0.mk ((by rw [hg]; exact (qh0 (by repeat (first | (with_reducible first | exact HB.out | apply qc0 | apply qa0 | apply qb0 | refine qg0 ?_ GE215.out) | exact HB.out))) : w.heap.size ≤ gb216)); have n4_ := Aside0.mk ((by rw [hg]; exact (qh0 (by repeat (first | (with_reducible first | exact HB.out | apply qc0 | apply qa0 | apply qb0 | refine qg0 ?_ GE215.out) | exact HB.out))) : w.heap.size ≤ gb216)); have n5_ := Aside0.mk ((by rw [hg]; exact Nat.ne_of_lt (qg1 (g := gb215) (o := .cells #[.string a0_0, .string a0_1, .string a0_2, .int .i64 a0_3, .int .i64 a0_4, .int .i64 a0_5] 106 (0, 0)) (by (with_reducible repeat (first | refine qi0 ?_ _ | refine qk0 ?_ | refine qj0 ?_ _)); exact BK215.out)) : gb215 ≠ gb216)); have n6_ := Aside0.mk ((by rw [hg]; exact Nat.ne_of_gt (qg1 (g := gb215) (o := .cells #[.string a0_0, .string a0_1, .string a0_2, .int .i64 a0_3, .int .i64 a0_4, .int .i64 a0_5] 106 (0, 0)) (by (with_reducible repeat (first | refine qi0 ?_ _ | refine qk0 ?_ | refine qj0 ?_ _)); exact BK215.out)) : gb216 ≠ gb215)); clear BK215; clear HB; have BK215 := n0_; have HB := n1_; have BK216 := n2_; have GW216 := n3_; have GE216 := n4_; have NB215_216 := n5_; have NB216_215 := n6_; clear n0_ n1_ n2_ n3_ n4_ n5_ n6_; clear hb hbox hg; have hnb21 := NB215_216.out; have hnc21 := NB216_215.out; have hcz22_0 : w20.cell? ⟨gb215, 0, none⟩ = some (.string a0_0) := (qe0 BK215.out 0).trans rfl; have hcz22_1 : w20.cell? ⟨gb215, 1, none⟩ = some (.string a0_1) := (qe0 BK215.out 1).trans rfl; have hcz22_2 : w20.cell? ⟨gb215, 2, none⟩ = some (.string a0_2) := (qe0 BK215.out 2).trans rfl; have hcz22_3 : w20.cell? ⟨gb215, 3, none⟩ = some (.int .i64 a0_3) := (qe0 BK215.out 3).trans rfl; have hcz22_4 : w20.cell? ⟨gb215, 4, none⟩ = some (.int .i64 a0_4) := (qe0 BK215.out 4).trans rfl; have hcz22_5 : w20.cell? ⟨gb215, 5, none⟩ = some (.int .i64 a0_5) := (qe0 BK215.out 5).trans rfl; have hfz22_0 := qd0 BK215.out 0; have hfz22_1 := qd0 BK215.out 1; have hfz22_2 := qd0 BK215.out 2; have hfz22_3 := qd0 BK215.out 3; have hfz22_4 := qd0 BK215.out 4; have hfz22_5 := qd0 BK215.out 5; have hcz23_0 : w20.cell? ⟨gb216, 0, none⟩ = some (.string a1_0) := (qe0 BK216.out 0).trans rfl; have hcz23_1 : w20.cell? ⟨gb216, 1, none⟩ = some (.string a1_1) := (qe0 BK216.out 1).trans rfl; have hcz23_2 : w20.cell? ⟨gb216, 2, none⟩ = some (.string a1_2) := (qe0 BK216.out 2).trans rfl; have hcz23_3 : w20.cell? ⟨gb216, 3, none⟩ = some (.int .i64 a1_3) := (qe0 BK216.out 3).trans rfl; have hcz23_4 : w20.cell? ⟨gb216, 4, none⟩ = some (.int .i64 a1_4) := (qe0 BK216.out 4).trans rfl; have hcz23_5 : w20.cell? ⟨gb216, 5, none⟩ = some (.int .i64 a1_5) := (qe0 BK216.out 5).trans rfl; have hfz23_0 := qd0 BK216.out 0; have hfz23_1 := qd0 BK216.out 1; have hfz23_2 := qd0 BK216.out 2; have hfz23_3 := qd0 BK216.out 3; have hfz23_4 := qd0 BK216.out 4; have hfz23_5 := qd0 BK216.out 5))
     go_ret
     exact ⟨by first | rfl | (simp [errW_none, errW_some] <;> rfl) | (simp [*, errW_none, errW_some] <;> rfl), by repeat (first | (with_reducible first | exact HB.out | apply qc0 | apply qa0 | apply qb0 | refine qg0 ?_ GE215.out | refine qg0 ?_ GE216.out) | exact HB.out)⟩
    rw [if_neg c6] at H
    have c6b0 : (a0_3 == a1_3) = false := beq_eq_false_iff_ne.mpr c6
    have c6b1 : (a0_3 != a1_3) = true := bne_iff_ne.mpr c6
    obtain rfl := Option.some.inj H
    go_enter Try.func76, Try.ntmps76
    go_wp2_with (first | ((with_reducible refine qt0 (N := 2) rfl ?_); refine qs0 ?hg (N := 2) ?hd (cs := #[.string a0_0, .string a0_1, .string a0_2, .int .i64 a0_3, .int .i64 a0_4, .int .i64 a0_5]) (t := 106) ?hr ?_; (case hd => rfl); (case hg => rfl); (case hr => first | (go_simp; done) | (go_simp; rfl)); intro gb215 hg w24 hbox hb; have n0_ := Aside0.mk (qf0 (by repeat (first | (with_reducible first | exact HB.out | apply qc0 | apply qa0 | apply qb0) | exact HB.out)) hb); have n1_ := Aside0.mk (hbox); have n2_ := Aside0.mk ((by rw [hg]; exact (qh0 (by repeat (first | (with_reducible first | exact HB.out | apply qc0 | apply qa0 | apply qb0) | exact HB.out))) : w.heap.size ≤ gb215)); have n3_ := Aside0.mk ((by rw [hg]; exact (qh0 (by repeat (first | (with_reducible first | exact HB.out | apply qc0 | apply qa0 | apply qb0) | exact HB.out))) : w.heap.size ≤ gb215)); clear HB; have HB := n0_; have BK215 := n1_; have GW215 := n2_; have GE215 := n3_; clear n0_ n1_ n2_ n3_; clear hb hbox hg) | ((with_reducible refine qt0 (N := 3) rfl ?_); refine qs0 ?hg (N := 3) ?hd (cs := #[.string a1_0, .string a1_1, .string a1_2, .int .i64 a1_3, .int .i64 a1_4, .int .i64 a1_5]) (t := 106) ?hr ?_; (case hd => rfl); (case hg => rfl); (case hr => first | (go_simp; done) | (go_simp; rfl)); intro gb216 hg w25 hbox hb; have n0_ := Aside0.mk (qb1 (g := gb215) (o := .cells #[.string a0_0, .string a0_1, .string a0_2, .int .i64 a0_3, .int .i64 a0_4, .int .i64 a0_5] 106 (0, 0)) (by (with_reducible repeat (first | refine qi0 ?_ _ | refine qk0 ?_ | refine qj0 ?_ _)); exact BK215.out) hb); have n1_ := Aside0.mk (qf0 (by repeat (first | (with_reducible first | exact HB.out | apply qc0 | apply qa0 | apply qb0 | refine qg0 ?_ GE215.out) | exact HB.out)) hb); have n2_ := Aside0.mk (hbox); have n3_ := Aside0.mk ((by rw [hg]; exact (qh0 (by repeat (first | (with_reducible first | exact HB.out | apply qc0 | apply qa0 | apply qb0 | refine qg0 ?_ GE215.out) | exact HB.out))) : w.heap.size ≤ gb216)); have n4_ := Aside0.mk ((by rw [hg]; exact (qh0 (by repeat (first | (with_reducible first | exact HB.out | apply qc0 | apply qa0 | apply qb0 | refine qg0 ?_ GE215.out) | exact HB.out))) : w.heap.size ≤ gb216)); have n5_ := Aside0.mk ((by rw [hg]; exact Nat.ne_of_lt (qg1 (g := gb215) (o := .cells #[.string a0_0, .string a0_1, .string a0_2, .int .i64 a0_3, .int .i64 a0_4, .int .i64 a0_5] 106 (0, 0)) (by (with_reducible repeat (first | refine qi0 ?_ _ | refine qk0 ?_ | refine qj0 ?_ _)); exact BK215.out)) : gb215 ≠ gb216)); have n6_ := Aside0.mk ((by rw [hg]; exact Nat.ne_of_gt (qg1 (g := gb215) (o := .cells #[.string a0_0, .string a0_1, .string a0_2, .int .i64 a0_3, .int .i64 a0_4, .int .i64 a0_5] 106 (0, 0)) (by (with_reducible repeat (first | refine qi0 ?_ _ | refine qk0 ?_ | refine qj0 ?_ _)); exact BK215.out)) : gb216 ≠ gb215)); clear BK215; clear HB; have BK215 := n0_; have HB := n1_; have BK216 := n2_; have GW216 := n3_; have GE216 := n4_; have NB215_216 := n5_; have NB216_215 := n6_; clear n0_ n1_ n2_ n3_ n4_ n5_ n6_; clear hb hbox hg; have hnb26 := NB215_216.out; have hnc26 := NB216_215.out; have hcz27_0 : w25.cell? ⟨gb215, 0, none⟩ = some (.string a0_0) := (qe0 BK215.out 0).trans rfl; have hcz27_1 : w25.cell? ⟨gb215, 1, none⟩ = some (.string a0_1) := (qe0 BK215.out 1).trans rfl; have hcz27_2 : w25.cell? ⟨gb215, 2, none⟩ = some (.string a0_2) := (qe0 BK215.out 2).trans rfl; have hcz27_3 : w25.cell? ⟨gb215, 3, none⟩ = some (.int .i64 a0_3) := (qe0 BK215.out 3).trans rfl; have hcz27_4 : w25.cell? ⟨gb215, 4, none⟩ = some (.int .i64 a0_4) := (qe0 BK215.out 4).trans rfl; have hcz27_5 : w25.cell? ⟨gb215, 5, none⟩ = some (.int .i64 a0_5) := (qe0 BK215.out 5).trans rfl; have hfz27_0 := qd0 BK215.out 0; have hfz27_1 := qd0 BK215.out 1; have hfz27_2 := qd0 BK215.out 2; have hfz27_3 := qd0 BK215.out 3; have hfz27_4 := qd0 BK215.out 4; have hfz27_5 := qd0 BK215.out 5; have hcz28_0 : w25.cell? ⟨gb216, 0, none⟩ = some (.string a1_0) := (qe0 BK216.out 0).trans rfl; have hcz28_1 : w25.cell? ⟨gb216, 1, none⟩ = some (.string a1_1) := (qe0 BK216.out 1).trans rfl; have hcz28_2 : w25.cell? ⟨gb216, 2, none⟩ = some (.string a1_2) := (qe0 BK216.out 2).trans rfl; have hcz28_3 : w25.cell? ⟨gb216, 3, none⟩ = some (.int .i64 a1_3) := (qe0 BK216.out 3).trans rfl; have hcz28_4 : w25.cell? ⟨gb216, 4, none⟩ = some (.int .i64 a1_4) := (qe0 BK216.out 4).trans rfl; have hcz28_5 : w25.cell? ⟨gb216, 5, none⟩ = some (.int .i64 a1_5) := (qe0 BK216.out 5).trans rfl; have hfz28_0 := qd0 BK216.out 0; have hfz28_1 := qd0 BK216.out 1; have hfz28_2 := qd0 BK216.out 2; have hfz28_3 := qd0 BK216.out 3; have hfz28_4 := qd0 BK216.out 4; have hfz28_5 := qd0 BK216.out 5))
    go_ret
    exact ⟨by first | rfl | (simp [errW_none, errW_some] <;> rfl) | (simp [*, errW_none, errW_some] <;> rfl), by repeat (first | (with_reducible first | exact HB.out | apply qc0 | apply qa0 | apply qb0 | refine qg0 ?_ GE215.out | refine qg0 ?_ GE216.out) | exact HB.out)⟩
   rw [if_neg c5] at H
   have c5b0 : (a0_2.toList == a1_2.toList) = false := beq_eq_false_iff_ne.mpr c5
   have c5b1 : (a0_2.toList != a1_2.toList) = true := bne_iff_ne.mpr c5
   obtain rfl := Option.some.inj H
   go_enter Try.func76, Try.ntmps76
   go_wp2_with (first | ((with_reducible refine qt0 (N := 2) rfl ?_); refine qs0 ?hg (N := 2) ?hd (cs := #[.string a0_0, .string a0_1, .string a0_2, .int .i64 a0_3, .int .i64 a0_4, .int .i64 a0_5]) (t := 106) ?hr ?_; (case hd => rfl); (case hg => rfl); (case hr => first | (go_simp; done) | (go_simp; rfl)); intro gb215 hg w29 hbox hb; have n0_ := Aside0.mk (qf0 (by repeat (first | (with_reducible first | exact HB.out | apply qc0 | apply qa0 | apply qb0) | exact HB.out)) hb); have n1_ := Aside0.mk (hbox); have n2_ := Aside0.mk ((by rw [hg]; exact (qh0 (by repeat (first | (with_reducible first | exact HB.out | apply qc0 | apply qa0 | apply qb0) | exact HB.out))) : w.heap.size ≤ gb215)); have n3_ := Aside0.mk ((by rw [hg]; exact (qh0 (by repeat (first | (with_reducible first | exact HB.out | apply qc0 | apply qa0 | apply qb0) | exact HB.out))) : w.heap.size ≤ gb215)); clear HB; have HB := n0_; have BK215 := n1_; have GW215 := n2_; have GE215 := n3_; clear n0_ n1_ n2_ n3_; clear hb hbox hg) | ((with_reducible refine qt0 (N := 3) rfl ?_); refine qs0 ?hg (N := 3) ?hd (cs := #[.string a1_0, .string a1_1, .string a1_2, .int .i64 a1_3, .int .i64 a1_4, .int .i64 a1_5]) (t := 106) ?hr ?_; (case hd => rfl); (case hg => rfl); (case hr => first | (go_simp; done) | (go_simp; rfl)); intro gb216 hg w30 hbox hb; have n0_ := Aside0.mk (qb1 (g := gb215) (o := .cells #[.string a0_0, .string a0_1, .string a0_2, .int .i64 a0_3, .int .i64 a0_4, .int .i64 a0_5] 106 (0, 0)) (by (with_reducible repeat (first | refine qi0 ?_ _ | refine qk0 ?_ | refine qj0 ?_ _)); exact BK215.out) hb); have n1_ := Aside0.mk (qf0 (by repeat (first | (with_reducible first | exact HB.out | apply qc0 | apply qa0 | apply qb0 | refine qg0 ?_ GE215.out) | exact HB.out)) hb); have n2_ := Aside0.mk (hbox); have n3_ := Aside0.mk ((by rw [hg]; exact (qh0 (by repeat (first | (with_reducible first | exact HB.out | apply qc0 | apply qa0 | apply qb0 | refine qg0 ?_ GE215.out) | exact HB.out))) : w.heap.size ≤ gb216)); have n4_ := Aside0.mk ((by rw [hg]; exact (qh0 (by repeat (first | (with_reducible first | exact HB.out | apply qc0 | apply qa0 | apply qb0 | refine qg0 ?_ GE215.out) | exact HB.out))) : w.heap.size ≤ gb216)); have n5_ := Aside0.mk ((by rw [hg]; exact Nat.ne_of_lt (qg1 (g := gb215) (o := .cells #[.string a0_0, .string a0_1, .string a0_2, .int .i64 a0_3, .int .i64 a0_4, .int .i64 a0_5] 106 (0, 0)) (by (with_reducible repeat (first | refine qi0 ?_ _ | refine qk0 ?_ | refine qj0 ?_ _)); exact BK215.out)) : gb215 ≠ gb216)); have n6_ := Aside0.mk ((by rw [hg]; exact Nat.ne_of_gt (qg1 (g := gb215) (o := .cells #[.string a0_0, .string a0_1, .string a0_2, .int .i64 a0_3, .int .i64 a0_4, .int .i64 a0_5] 106 (0, 0)) (by (with_reducible repeat (first | refine qi0 ?_ _ | refine qk0 ?_ | refine qj0 ?_ _)); exact BK215.out)) : gb216 ≠ gb215)); clear BK215; clear HB; have BK215 := n0_; have HB := n1_; have BK216 := n2_; have GW216 := n3_; have GE216 := n4_; have NB215_216 := n5_; have NB216_215 := n6_; clear n0_ n1_ n2_ n3_ n4_ n5_ n6_; clear hb hbox hg; have hnb31 := NB215_216.out; have hnc31 := NB216_215.out; have hcz32_0 : w30.cell? ⟨gb215, 0, none⟩ = some (.string a0_0) := (qe0 BK215.out 0).trans rfl; have hcz32_1 : w30.cell? ⟨gb215, 1, none⟩ = some (.string a0_1) := (qe0 BK215.out 1).trans rfl; have hcz32_2 : w30.cell? ⟨gb215, 2, none⟩ = some (.string a0_2) := (qe0 BK215.out 2).trans rfl; have hcz32_3 : w30.cell? ⟨gb215, 3, none⟩ = some (.int .i64 a0_3) := (qe0 BK215.out 3).trans rfl; have hcz32_4 : w30.cell? ⟨gb215, 4, none⟩ = some (.int .i64 a0_4) := (qe0 BK215.out 4).trans rfl; have hcz32_5 : w30.cell? ⟨gb215, 5, none⟩ = some (.int .i64 a0_5) := (qe0 BK215.out 5).trans rfl; have hfz32_0 := qd0 BK215.out 0; have hfz32_1 := qd0 BK215.out 1; have hfz32_2 := qd0 BK215.out 2; have hfz32_3 := qd0 BK215.out 3; have hfz32_4 := qd0 BK215.out 4; have hfz32_5 := qd0 BK215.out 5; have hcz33_0 : w30.cell? ⟨gb216, 0, none⟩ = some (.string a1_0) := (qe0 BK216.out 0).trans rfl; have hcz33_1 : w30.cell? ⟨gb216, 1, none⟩ = some (.string a1_1) := (qe0 BK216.out 1).trans rfl; have hcz33_2 : w30.cell? ⟨gb216, 2, none⟩ = some (.string a1_2) := (qe0 BK216.out 2).trans rfl; have hcz33_3 : w30.cell? ⟨gb216, 3, none⟩ = some (.int .i64 a1_3) := (qe0 BK216.out 3).trans rfl; have hcz33_4 : w30.cell? ⟨gb216, 4, none⟩ = some (.int .i64 a1_4) := (qe0 BK216.out 4).trans rfl; have hcz33_5 : w30.cell? ⟨gb216, 5, none⟩ = some (.int .i64 a1_5) := (qe0 BK216.out 5).trans rfl; have hfz33_0 := qd0 BK216.out 0; have hfz33_1 := qd0 BK216.out 1; have hfz33_2 := qd0 BK216.out 2; have hfz33_3 := qd0 BK216.out 3; have hfz33_4 := qd0 BK216.out 4; have hfz33_5 := qd0 BK216.out 5))
   go_ret
   exact ⟨by first | rfl | (simp [errW_none, errW_some] <;> rfl) | (simp [*, errW_none, errW_some] <;> rfl), by repeat (first | (with_reducible first | exact HB.out | apply qc0 | apply qa0 | apply qb0 | refine qg0 ?_ GE215.out | refine qg0 ?_ GE216.out) | exact HB.out)⟩
  rw [if_neg c4] at H
  have c4b0 : (a0_1.toList == a1_1.toList) = false := beq_eq_false_iff_ne.mpr c4
  have c4b1 : (a0_1.toList != a1_1.toList) = true := bne_iff_ne.mpr c4
  obtain rfl := Option.some.inj H
  go_enter Try.func76, Try.ntmps76
  go_wp2_with (first | ((with_reducible refine qt0 (N := 2) rfl ?_); refine qs0 ?hg (N := 2) ?hd (cs := #[.string a0_0, .string a0_1, .string a0_2, .int .i64 a0_3, .int .i64 a0_4, .int .i64 a0_5]) (t := 106) ?hr ?_; (case hd => rfl); (case hg => rfl); (case hr => first | (go_simp; done) | (go_simp; rfl)); intro gb215 hg w34 hbox hb; have n0_ := Aside0.mk (qf0 (by repeat (first | (with_reducible first | exact HB.out | apply qc0 | apply qa0 | apply qb0) | exact HB.out)) hb); have n1_ := Aside0.mk (hbox); have n2_ := Aside0.mk ((by rw [hg]; exact (qh0 (by repeat (first | (with_reducible first | exact HB.out | apply qc0 | apply qa0 | apply qb0) | exact HB.out))) : w.heap.size ≤ gb215)); have n3_ := Aside0.mk ((by rw [hg]; exact (qh0 (by repeat (first | (with_reducible first | exact HB.out | apply qc0 | apply qa0 | apply qb0) | exact HB.out))) : w.heap.size ≤ gb215)); clear HB; have HB := n0_; have BK215 := n1_; have GW215 := n2_; have GE215 := n3_; clear n0_ n1_ n2_ n3_; clear hb hbox hg) | ((with_reducible refine qt0 (N := 3) rfl ?_); refine qs0 ?hg (N := 3) ?hd (cs := #[.string a1_0, .string a1_1, .string a1_2, .int .i64 a1_3, .int .i64 a1_4, .int .i64 a1_5]) (t := 106) ?hr ?_; (case hd => rfl); (case hg => rfl); (case hr => first | (go_simp; done) | (go_simp; rfl)); intro gb216 hg w35 hbox hb; have n0_ := Aside0.mk (qb1 (g := gb215) (o := .cells #[.string a0_0, .string a0_1, .string a0_2, .int .i64 a0_3, .int .i64 a0_4, .int .i64 a0_5] 106 (0, 0)) (by (with_reducible repeat (first | refine qi0 ?_ _ | refine qk0 ?_ | refine qj0 ?_ _)); exact BK215.out) hb); have n1_ := Aside0.mk (qf0 (by repeat (first | (with_reducible first | exact HB.out | apply qc0 | apply qa0 | apply qb0 | refine qg0 ?_ GE215.out) | exact HB.out)) hb); have n2_ := Aside0.mk (hbox); have n3_ := Aside0.mk ((by rw [hg]; exact (qh0 (by repeat (first | (with_reducible first | exact HB.out | apply qc0 | apply qa0 | apply qb0 | refine qg0 ?_ GE215.out) | exact HB.out))) : w.heap.size ≤ gb216)); have n4_ := Aside0.mk ((by rw [hg]; exact (qh0 (by repeat (first | (with_reducible first | exact HB.out | apply qc0 | apply qa0 | apply qb0 | refine qg0 ?_ GE215.out) | exact HB.out))) : w.heap.size ≤ gb216)); have n5_ := Aside0.mk ((by rw [hg]; exact Nat.ne_of_lt (qg1 (g := gb215) (o := .cells #[.string a0_0, .string a0_1, .string a0_2, .int .i64 a0_3, .int .i64 a0_4, .int .i64 a0_5] 106 (0, 0)) (by (with_reducible repeat (first | refine qi0 ?_ _ | refine qk0 ?_ | refine qj0 ?_ _)); exact BK215.out)) : gb215 ≠ gb216)); have n6_ := Aside0.mk ((by rw [hg]; exact Nat.ne_of_gt (qg1 (g := gb215) (o := .cells #[.string a0_0, .string a0_1, .string a0_2, .int .i64 a0_3, .int .i64 a0_4, .int .i64 a0_5] 106 (0, 0)) (by (with_reducible repeat (first | refine qi0 ?_ _ | refine qk0 ?_ | refine qj0 ?_ _)); exact BK215.out)) : gb216 ≠ gb215)); clear BK215; clear HB; have BK215 := n0_; have HB := n1_; have BK216 := n2_; have GW216 := n3_; have GE216 := n4_; have NB215_216 := n5_; have NB216_215 := n6_; clear n0_ n1_ n2_ n3_ n4_ n5_ n6_; clear hb hbox hg; have hnb36 := NB215_216.out; have hnc36 := NB216_215.out; have hcz37_0 : w35.cell? ⟨gb215, 0, none⟩ = some (.string a0_0) := (qe0 BK215.out 0).trans rfl; have hcz37_1 : w35.cell? ⟨gb215, 1, none⟩ = some (.string a0_1) := (qe0 BK215.out 1).trans rfl; have hcz37_2 : w35.cell? ⟨gb215, 2, none⟩ = some (.string a0_2) := (qe0 BK215.out 2).trans rfl; have hcz37_3 : w35.cell? ⟨gb215, 3, none⟩ = some (.int .i64 a0_3) := (qe0 BK215.out 3).trans rfl; have hcz37_4 : w35.cell? ⟨gb215, 4, none⟩ = some (.int .i64 a0_4) := (qe0 BK215.out 4).trans rfl; have hcz37_5 : w35.cell? ⟨gb215, 5, none⟩ = some (.int .i64 a0_5) := (qe0 BK215.out 5).trans rfl; have hfz37_0 := qd0 BK215.out 0; have hfz37_1 := qd0 BK215.out 1; have hfz37_2 := qd0 BK215.out 2; have hfz37_3 := qd0 BK215.out 3; have hfz37_4 := qd0 BK215.out 4; have hfz37_5 := qd0 BK215.out 5; have hcz38_0 : w35.cell? ⟨gb216, 0, none⟩ = some (.string a1_0) := (qe0 BK216.out 0).trans rfl; have hcz38_1 : w35.cell? ⟨gb216, 1, none⟩ = some (.string a1_1) := (qe0 BK216.out 1).trans rfl; have hcz38_2 : w35.cell? ⟨gb216, 2, none⟩ = some (.string a1_2) := (qe0 BK216.out 2).trans rfl; have hcz38_3 : w35.cell? ⟨gb216, 3, none⟩ = some (.int .i64 a1_3) := (qe0 BK216.out 3).trans rfl; have hcz38_4 : w35.cell? ⟨gb216, 4, none⟩ = some (.int .i64 a1_4) := (qe0 BK216.out 4).trans rfl; have hcz38_5 : w35.cell? ⟨gb216, 5, none⟩ = some (.int .i64 a1_5) := (qe0 BK216.out 5).trans rfl; have hfz38_0 := qd0 BK216.out 0; have hfz38_1 := qd0 BK216.out 1; have hfz38_2 := qd0 BK216.out 2; have hfz38_3 := qd0 BK216.out 3; have hfz38_4 := qd0 BK216.out 4; have hfz38_5 := qd0 BK216.out 5))
  go_ret
  exact ⟨by first | rfl | (simp [errW_none, errW_some] <;> rfl) | (simp [*, errW_none, errW_some] <;> rfl), by repeat (first | (with_reducible first | exact HB.out | apply qc0 | apply qa0 | apply qb0 | refine qg0 ?_ GE215.out | refine qg0 ?_ GE216.out) | exact HB.out)⟩
 rw [if_neg c3] at H
 have c3b0 : (a0_0.toList == a1_0.toList) = false := beq_eq_false_iff_ne.mpr c3
 have c3b1 : (a0_0.toList != a1_0.toList) = true := bne_iff_ne.mpr c3
 obtain rfl := Option.some.inj H
 go_enter Try.func76, Try.ntmps76
 go_wp2_with (first | ((with_reducible refine qt0 (N := 2) rfl ?_); refine qs0 ?hg (N := 2) ?hd (cs := #[.string a0_0, .string a0_1, .string a0_2, .int .i64 a0_3, .int .i64 a0_4, .int .i64 a0_5]) (t := 106) ?hr ?_; (case hd => rfl); (case hg => rfl); (case hr => first | (go_simp; done) | (go_simp; rfl)); intro gb215 hg w39 hbox hb; have n0_ := Aside0.mk (qf0 (by repeat (first | (with_reducible first | exact HB.out | apply qc0 | apply qa0 | apply qb0) | exact HB.out)) hb); have n1_ := Aside0.mk (hbox); have n2_ := Aside0.mk ((by rw [hg]; exact (qh0 (by repeat (first | (with_reducible first | exact HB.out | apply qc0 | apply qa0 | apply qb0) | exact HB.out))) : w.heap.size ≤ gb215)); have n3_ := Aside0.mk ((by rw [hg]; exact (qh0 (by repeat (first | (with_reducible first | exact HB.out | apply qc0 | apply qa0 | apply qb0) | exact HB.out))) : w.heap.size ≤ gb215)); clear HB; have HB := n0_; have BK215 := n1_; have GW215 := n2_; have GE215 := n3_; clear n0_ n1_ n2_ n3_; clear hb hbox hg) | ((with_reducible refine qt0 (N := 3) rfl ?_); refine qs0 ?hg (N := 3) ?hd (cs := #[.string a1_0, .string a1_1, .string a1_2, .int .i64 a1_3, .int .i64 a1_4, .int .i64 a1_5]) (t := 106) ?hr ?_; (case hd => rfl); (case hg => rfl); (case hr => first | (go_simp; done) | (go_simp; rfl)); intro gb216 hg w40 hbox hb; have n0_ := Aside0.mk (qb1 (g := gb215) (o := .cells #[.string a0_0, .string a0_1, .string a0_2, .int .i64 a0_3, .int .i64 a0_4, .int .i64 a0_5] 106 (0, 0)) (by (with_reducible repeat (first | refine qi0 ?_ _ | refine qk0 ?_ | refine qj0 ?_ _)); exact BK215.out) hb); have n1_ := Aside0.mk (qf0 (by repeat (first | (with_reducible first | exact HB.out | apply qc0 | apply qa0 | apply qb0 | refine qg0 ?_ GE215.out) | exact HB.out)) hb); have n2_ := Aside0.mk (hbox); have n3_ := Aside0.mk ((by rw [hg]; exact (qh0 (by repeat (first | (with_reducible first | exact HB.out | apply qc0 | apply qa0 | apply qb0 | refine qg0 ?_ GE215.out) | exact HB.out))) : w.heap.size ≤ gb216)); have n4_ := Aside0.mk ((by rw [hg]; exact (qh0 (by repeat (first | (with_reducible first | exact HB.out | apply qc0 | apply qa0 | apply qb0 | refine qg0 ?_ GE215.out) | exact HB.out))) : w.heap.size ≤ gb216)); have n5_ := Aside0.mk ((by rw [hg]; exact Nat.ne_of_lt (qg1 (g := gb215) (o := .cells #[.string a0_0, .string a0_1, .string a0_2, .int .i64 a0_3, .int .i64 a0_4, .int .i64 a0_5] 106 (0, 0)) (by (with_reducible repeat (first | refine qi0 ?_ _ | refine qk0 ?_ | refine qj0 ?_ _)); exact BK215.out)) : gb215 ≠ gb216)); have n6_ := Aside0.mk ((by rw [hg]; exact Nat.ne_of_gt (qg1 (g := gb215) (o := .cells #[.string a0_0, .string a0_1, .string a0_2, .int .i64 a0_3, .int .i64 a0_4, .int .i64 a0_5] 106 (0, 0)) (by (with_reducible repeat (first | refine qi0 ?_ _ | refine qk0 ?_ | refine qj0 ?_ _)); exact BK215.out)) : gb216 ≠ gb215)); clear BK215; clear HB; have BK215 := n0_; have HB := n1_; have BK216 := n2_; have GW216 := n3_; have GE216 := n4_; have NB215_216 := n5_; have NB216_215 := n6_; clear n0_ n1_ n2_ n3_ n4_ n5_ n6_; clear hb hbox hg; have hnb41 := NB215_216.out; have hnc41 := NB216_215.out; have hcz42_0 : w40.cell? ⟨gb215, 0, none⟩ = some (.string a0_0) := (qe0 BK215.out 0).trans rfl; have hcz42_1 : w40.cell? ⟨gb215, 1, none⟩ = some (.string a0_1) := (qe0 BK215.out 1).trans rfl; have hcz42_2 : w40.cell? ⟨gb215, 2, none⟩ = some (.string a0_2) := (qe0 BK215.out 2).trans rfl; have hcz42_3 : w40.cell? ⟨gb215, 3, none⟩ = some (.int .i64 a0_3) := (qe0 BK215.out 3).trans rfl; have hcz42_4 : w40.cell? ⟨gb215, 4, none⟩ = some (.int .i64 a0_4) := (qe0 BK215.out 4).trans rfl; have hcz42_5 : w40.cell? ⟨gb215, 5, none⟩ = some (.int .i64 a0_5) := (qe0 BK215.out 5).trans rfl; have hfz42_0 := qd0 BK215.out 0; have hfz42_1 := qd0 BK215.out 1; have hfz42_2 := qd0 BK215.out 2; have hfz42_3 := qd0 BK215.out 3; have hfz42_4 := qd0 BK215.out 4; have hfz42_5 := qd0 BK215.out 5; have hcz43_0 : w40.cell? ⟨gb216, 0, none⟩ = some (.string a1_0) := (qe0 BK216.out 0).trans rfl; have hcz43_1 : w40.cell? ⟨gb216, 1, none⟩ = some (.string a1_1) := (qe0 BK216.out 1).trans rfl; have hcz43_2 : w40.cell? ⟨gb216, 2, none⟩ = some (.string a1_2) := (qe0 BK216.out 2).trans rfl; have hcz43_3 : w40.cell? ⟨gb216, 3, none⟩ = some (.int .i64 a1_3) := (qe0 BK216.out 3).trans rfl; have hcz43_4 : w40.cell? ⟨gb216, 4, none⟩ = some (.int .i64 a1_4) := (qe0 BK216.out 4).trans rfl; have hcz43_5 : w40.cell? ⟨gb216, 5, none⟩ = some (.int .i64 a1_5) := (qe0 BK216.out 5).trans rfl; have hfz43_0 := qd0 BK216.out 0; have hfz43_1 := qd0 BK216.out 1; have hfz43_2 := qd0 BK216.out 2; have hfz43_3 := qd0 BK216.out 3; have hfz43_4 := qd0 BK216.out 4; have hfz43_5 := qd0 BK216.out 5))
 go_ret
 exact ⟨by first | rfl | (simp [errW_none, errW_some] <;> rfl) | (simp [*, errW_none, errW_some] <;> rfl), by repeat (first | (with_reducible first | exact HB.out | apply qc0 | apply qa0 | apply qb0 | refine qg0 ?_ GE215.out | refine qg0 ?_ GE216.out) | exact HB.out)⟩

end Go.Proofs.Ytdnenglafphkbaa.PFnExactHold
