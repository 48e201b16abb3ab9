/- Lines by a program (a changed copy of the kit's print: this repo's wip/tools): Go functions as Lean functions, and proofs that the calls answer so. -/
import Derived.Test.YtggfggmmecbdnaaZPFnExactTakeInx0
import Derived.Test.YtggfggmmecbdnaaZPFnExactTakeInx3
import Derived.Test.YtggfggmmecbdnaaZPFnExactTakeInx4
import Derived.Test.YtggfggmmecbdnaaZPFnExactTakeInx5
namespace Go.Proofs.Ytggfggmmecbdnaa.PFnExactTakeIn
open Go.RowKit Go.Proofs.YtggfggmmecbdnaaW.PrintWords Go.Proofs.YtggfggmmecbdnaaW.PrintLast Go.Proofs.YtggfggmmecbdnaaW.PrintMore
/-- Closing blocks told once. -/
theorem z6_0 {P : Prop} (h : P := by repeat (first | (with_reducible first | exact HB.out | apply qk0 | apply qh0 | apply qi0 | refine ql0 ?_ GE232.out | refine ql0 ?_ GE233.out) | exact HB.out)) : P := h
theorem z6_1 {P : Prop} (h : P := by repeat (first | (with_reducible first | exact HB.out | apply qk0 | apply qh0 | apply qi0) | exact HB.out)) : P := h
theorem z6_2 {P : Prop} (h : P := by (with_reducible repeat (first | apply Kd.qu0 | apply Kd.qt0 | apply Kd.qx0)); exact HO1_2.out) : P := h
theorem z6_3 {P : Prop} (h : P := by repeat (first | (with_reducible first | exact HK.out | apply Kept.alloc | apply Kept.drewN | apply Kept.drew | refine Kept.setCell ?_ (.inr GW211.out) _ | refine Kept.setCell ?_ (.inr GW212.out) _) | exact HK.out)) : P := h
theorem z6_4 {P : Prop} (h : P := by repeat (first | (with_reducible first | exact HK.out | apply Kept.alloc | apply Kept.drewN | apply Kept.drew) | exact HK.out)) : P := h
theorem z6_5 {P : Prop} (h : P := by (with_reducible repeat (first | refine qc0 ?_ _ | refine qe0 ?_ | refine qd0 ?_ _)); refine qm0 (cs := #[.int .i64 0, .int .i64 0, .slice none 0 0, .int .i64 0]) ?_ 3 _ rfl; (with_reducible repeat (first | refine qc0 ?_ _ | refine qe0 ?_ | refine qd0 ?_ _)); refine qm0 (cs := #[.int .i64 0, .int .i64 0, .slice none 0 0, .int .i64 0]) ?_ 2 _ rfl; (with_reducible repeat (first | refine qc0 ?_ _ | refine qe0 ?_ | refine qd0 ?_ _)); refine qm0 (cs := #[.int .i64 0, .int .i64 0, .slice none 0 0, .int .i64 0]) ?_ 1 _ rfl; (with_reducible repeat (first | refine qc0 ?_ _ | refine qe0 ?_ | refine qd0 ?_ _)); refine qm0 (cs := #[.int .i64 0, .int .i64 0, .slice none 0 0, .int .i64 0]) ?_ 0 _ rfl; (with_reducible repeat (first | refine qc0 ?_ _ | refine qe0 ?_ | refine qd0 ?_ _)); exact BK233.out) : P := h
theorem z6_6 {P : Prop} (h : P := by (try simp only [List.map_toArray, List.map_cons, List.map_nil]); first | done | rfl | (simp only [List.length_drop, List.length_take]; rfl)) : P := h
theorem z6_7 {P : Prop} (h : P := by (with_reducible repeat (first | refine qc0 ?_ _ | refine qe0 ?_ | refine qd0 ?_ _)); refine qv0 ?_ NB233_232.out _; (with_reducible repeat (first | refine qc0 ?_ _ | refine qe0 ?_ | refine qd0 ?_ _)); refine qv0 ?_ NB233_232.out _; (with_reducible repeat (first | refine qc0 ?_ _ | refine qe0 ?_ | refine qd0 ?_ _)); refine qv0 ?_ NB233_232.out _; (with_reducible repeat (first | refine qc0 ?_ _ | refine qe0 ?_ | refine qd0 ?_ _)); refine qv0 ?_ NB233_232.out _; (with_reducible repeat (first | refine qc0 ?_ _ | refine qe0 ?_ | refine qd0 ?_ _)); exact BK233.out) : P := h
theorem z6_8 {P : Prop} (h : P := by (with_reducible repeat (first | refine qc0 ?_ _ | refine qe0 ?_ | refine qd0 ?_ _)); exact BK211.out) : P := h
theorem z6_9 {P : Prop} (h : P := by (with_reducible repeat (first | refine qc0 ?_ _ | refine qe0 ?_ | refine qd0 ?_ _)); exact BK232.out) : P := h
theorem z6_10 {P : Prop} (h : P := by rw [hg]; exact (qn0 (by repeat (first | (with_reducible first | exact HB.out | apply qk0 | apply qh0 | apply qi0) | exact HB.out)))) : P := h
theorem z6_11 {P : Prop} (h : P := by rw [hg]; exact (by first | exact HK.out.1 | exact (show Kept w _ (fun k_ => P1_2_ k_) from by repeat (first | (with_reducible first | exact HK.out | apply Kept.alloc | apply Kept.drewN | apply Kept.drew) | exact HK.out)).1)) : P := h
theorem z6_12 {P : Prop} (h : P := by repeat (first | exact (Kd.C_below HR0_2.out (by repeat (first | (with_reducible first | exact HB.out | apply qk0 | apply qh0 | apply qi0 | refine ql0 ?_ GE232.out | refine ql0 ?_ GE233.out) | exact HB.out))) | (with_reducible refine Kd.C_alloc ?_ _) | (with_reducible refine Kd.C_drewN ?_ _) | (with_reducible refine Kd.C_drew ?_))) : P := h
theorem z6_14 {P : Prop} (h : P := by repeat (first | (with_reducible first | exact HB.out | apply qk0 | apply qh0 | apply qi0 | refine ql0 ?_ GE211.out | refine ql0 ?_ GE212.out) | exact HB.out)) : P := h
theorem z6_15 {P : Prop} (h : P := by first | (with_reducible assumption) | assumption) : P := h
theorem z6_16 {P : Prop} (h : P := by (with_reducible repeat (first | refine qc0 ?_ _ | refine qe0 ?_ | refine qd0 ?_ _)); exact BK233.out) : P := h
theorem z6_17 {P : Prop} (h : P := by (with_reducible repeat (first | apply Kd.qu0 | apply Kd.qt0 | apply Kd.qx0)); exact (Kd.qw0 (Kd.R_far (p := ⟨gb232, 3, none⟩) (Kd.R_far (p := ⟨gb232, 2, none⟩) (Kd.R_far (p := ⟨gb232, 1, none⟩) (Kd.R_far (p := ⟨gb232, 0, none⟩) (Kd.qz0 HO247.out BK232.out (by decide)) (fun _ hk => hk.2) (.int .i64 t243)) (fun _ hk => hk.2) (.int .i64 t244)) (fun _ hk => hk.2) (.slice Ao37 t245.length co37)) (fun _ hk => hk.2) (.int .i64 t248)) (fun _ h_ => h_.1))) : P := h
theorem z6_18 {P : Prop} (h : P := by (with_reducible repeat (first | apply Kd.qu0 | apply Kd.qt0 | apply Kd.qx0)); exact (Kd.qw0 (Kd.R_far (p := ⟨gb232, 3, none⟩) (Kd.R_far (p := ⟨gb232, 2, none⟩) (Kd.R_far (p := ⟨gb232, 1, none⟩) (Kd.R_far (p := ⟨gb232, 0, none⟩) (Kd.qz0 HO247.out BK232.out (by decide)) (fun _ hk => hk.2) (.int .i64 t243)) (fun _ hk => hk.2) (.int .i64 t244)) (fun _ hk => hk.2) (.slice Ao51 t245.length co51)) (fun _ hk => hk.2) (.int .i64 t248)) (fun _ h_ => h_.1))) : P := h
theorem z6_19 {P : Prop} (h : P := by first | (go_simp; done) | (go_simp; rfl)) : P := h
theorem z6_20 {P : Prop} (h : P := by first | rfl | (simp [errW_none, errW_some] <;> rfl) | (simp [*, errW_none, errW_some] <;> rfl)) : P := h
theorem z6_21 {P : Prop} (h : P := by repeat (first | (with_reducible first | exact HK.out | apply Kept.alloc | apply Kept.drewN | apply Kept.drew | refine Kept.setCell ?_ (.inr GW211.out) _) | exact HK.out)) : P := h
theorem z6_22 {P : Prop} (h : P := by repeat (first | (with_reducible first | exact HB.out | apply qk0 | apply qh0 | apply qi0 | refine ql0 ?_ GE211.out) | exact HB.out)) : P := h
theorem z6_23 {P : Prop} (h : P := by kernel_rfl) : P := h
theorem z6_24 {P : Prop} (h : P := by repeat (first | (with_reducible first | exact HK.out | apply Kept.alloc | apply Kept.drewN | apply Kept.drew | refine Kept.setCell ?_ (.inr GW198.out) _ | refine Kept.setCell ?_ (.inr GW199.out) _) | exact HK.out)) : P := h
theorem z6_25 {P : Prop} (h : P := by repeat (first | (with_reducible first | exact HK.out | apply Kept.alloc | apply Kept.drewN | apply Kept.drew | refine Kept.setCell ?_ (.inr GW203.out) _ | refine Kept.setCell ?_ (.inr GW204.out) _) | exact HK.out)) : P := h
theorem z6_26 {P : Prop} (h : P := by repeat (first | (with_reducible first | exact HK.out | apply Kept.alloc | apply Kept.drewN | apply Kept.drew | refine Kept.setCell ?_ (.inr GW224.out) _ | refine Kept.setCell ?_ (.inr GW225.out) _) | exact HK.out)) : P := h
theorem z6_27 {P : Prop} (h : P := by repeat (first | (with_reducible first | exact HB.out | apply qk0 | apply qh0 | apply qi0 | refine ql0 ?_ GE198.out | refine ql0 ?_ GE199.out) | exact HB.out)) : P := h
theorem z6_28 {P : Prop} (h : P := by (with_reducible repeat (first | refine qc0 ?_ _ | refine qe0 ?_ | refine qd0 ?_ _)); exact BK212.out) : P := h
theorem z6_29 {P : Prop} (h : P := by rw [hg]; exact (by first | exact HK.out.1 | exact (show Kept w _ (fun k_ => P1_2_ k_) from by repeat (first | (with_reducible first | exact HK.out | apply Kept.alloc | apply Kept.drewN | apply Kept.drew | refine Kept.setCell ?_ (.inr GW211.out) _) | exact HK.out)).1)) : P := h
theorem z6_31 {P : Prop} (h : P := by repeat (first | (with_reducible first | exact HB.out | apply qk0 | apply qh0 | apply qi0 | refine ql0 ?_ GE232.out) | exact HB.out)) : P := h
theorem z6_32 {P : Prop} (h : P := by (with_reducible repeat (first | refine qc0 ?_ _ | refine qe0 ?_ | refine qd0 ?_ _)); exact BK198.out) : P := h
theorem z6_33 {P : Prop} (h : P := by (with_reducible repeat (first | refine qc0 ?_ _ | refine qe0 ?_ | refine qd0 ?_ _)); exact BK203.out) : P := h
theorem z6_34 {P : Prop} (h : P := by (with_reducible repeat (first | refine qc0 ?_ _ | refine qe0 ?_ | refine qd0 ?_ _)); exact BK224.out) : P := h
theorem z6_35 {P : Prop} (h : P := by first | exact Kd.R_nil _ _ _ _ _ | exact Kd.N_nil _ _ _ _ _ | exact Kd.V_nil _ _ _ _ _ | exact Kd.Q_nil _ _ _ _ _ | exact Kd.S_nil _ _ _ _ _) : P := h
theorem z6_36 {P : Prop} (h : P := by rw [hg]; exact (qn0 (by repeat (first | (with_reducible first | exact HB.out | apply qk0 | apply qh0 | apply qi0 | refine ql0 ?_ GE211.out) | exact HB.out)))) : P := h
theorem z6_37 {P : Prop} (h : P := by rw [hg]; exact (qn0 (by repeat (first | (with_reducible first | exact HB.out | apply qk0 | apply qh0 | apply qi0 | refine ql0 ?_ GE232.out) | exact HB.out)))) : P := h
theorem z6_38 {P : Prop} (h : P := by repeat (first | (with_reducible first | exact HB.out | apply qk0 | apply qh0 | apply qi0 | refine ql0 ?_ GE203.out | refine ql0 ?_ GE204.out) | exact HB.out)) : P := h
theorem z6_39 {P : Prop} (h : P := by repeat (first | (with_reducible first | exact HB.out | apply qk0 | apply qh0 | apply qi0 | refine ql0 ?_ GE224.out | refine ql0 ?_ GE225.out) | exact HB.out)) : P := h
theorem z6_40 {P : Prop} (h : P := by repeat (first | (with_reducible first | exact HK.out | apply Kept.alloc | apply Kept.drewN | apply Kept.drew | refine Kept.setCell ?_ (.inr GW198.out) _) | exact HK.out)) : P := h
theorem z6_41 {P : Prop} (h : P := by repeat (first | (with_reducible first | exact HK.out | apply Kept.alloc | apply Kept.drewN | apply Kept.drew | refine Kept.setCell ?_ (.inr GW203.out) _) | exact HK.out)) : P := h
theorem z6_42 {P : Prop} (h : P := by repeat (first | (with_reducible first | exact HK.out | apply Kept.alloc | apply Kept.drewN | apply Kept.drew | refine Kept.setCell ?_ (.inr GW224.out) _) | exact HK.out)) : P := h
theorem z6_43 {P : Prop} (h : P := by repeat (first | (with_reducible first | exact HB.out | apply qk0 | apply qh0 | apply qi0 | refine ql0 ?_ GE198.out) | exact HB.out)) : P := h
theorem z6_44 {P : Prop} (h : P := by repeat (first | (with_reducible first | exact HB.out | apply qk0 | apply qh0 | apply qi0 | refine ql0 ?_ GE203.out) | exact HB.out)) : P := h
theorem z6_45 {P : Prop} (h : P := by repeat (first | (with_reducible first | exact HB.out | apply qk0 | apply qh0 | apply qi0 | refine ql0 ?_ GE224.out) | exact HB.out)) : P := h
theorem z6_46 {P : Prop} (h : P := by repeat (first | exact Drawn0.refl _ | apply Drawn0.step)) : P := h
attribute [local go_sem] max2_int min2_int max_two min_two max_three min_three max_four min_four   -- for this text's walks alone
set_option linter.unusedVariables false
set_option linter.unusedSimpArgs false

-- EXTERN loop.example/g00040/impl.takeIn
/-! ### impl_takeIn: function 39 -/
-- @rounds
-- @making
def rb6l : Bool → List Nat → List Bool
 | _, [] => []
 | b, n :: r => List.replicate n b ++ rb6l (!b) r
def rb6 (l : List Nat) : Array Bool := (rb6l true l).toArray
/-- The type of the method's receiver, by kind. -/
def mt (m : Int) : Nat := if m = 1 then 80 else if m = 2 then 81 else if m = 3 then 82 else 83
/-- The method that the receiver has. -/
def mf (m : Int) : Nat := if m = 1 then 76 else if m = 2 then 78 else if m = 3 then 80 else 82
theorem mt_cases (m : Int) : (mt m = 80 ∧ mf m = 76) ∨ (mt m = 81 ∧ mf m = 78) ∨ (mt m = 82 ∧ mf m = 80) ∨ (mt m = 83 ∧ mf m = 82) := by
 unfold mt mf
 by_cases h1 : m = 1
 ·simp [h1]
 ·by_cases h2 : m = 2
  ·simp [h2]
  ·by_cases h3 : m = 3
   ·simp [h3]
   ·simp [h1, h2, h3]
theorem in_method (m : Int) (W : World) : Sem.run Try.prog (method (102 + Made.depth) (mt m) (.agg #[]) "loop.example/g00040/impl.in") W = .ok (mf m, .agg #[]) W := by
 rcases mt_cases m with h | h | h | h <;> (rw [h.1, h.2]; kernel_rfl)
theorem in_ahead (m : Int) (W : World) : Sem.run Try.prog (nilAhead (102 + Made.depth) (mt m) (.agg #[]) "loop.example/g00040/impl.in") W = .ok (some false) W := by
 rcases mt_cases m with h | h | h | h <;> (rw [h.1]; kernel_rfl)
theorem in_check (m : Int) {ρ : Operand → Value} {o : Oper} (x : Operand) (W : World) (ho : o.op = .nilCheck x) (hx : ρ x = .func (.method "loop.example/g00040/impl.in") #[.iface (mt m) (.agg #[])] #[]) :
  (execOp ρ o).run Try.prog W = .ok (.value (.func (.method "loop.example/g00040/impl.in") #[.iface (mt m) (.agg #[])] #[])) W := by
 unfold execOp
 simp [ho, hx, in_ahead]
theorem in_enters (m : Int) (vs : Array Value) (W : World) : Sem.run Try.prog (callFunc (mf m) vs) W = .ok (.enter (mf m) vs) W := by
 rcases mt_cases m with h | h | h | h <;> rw [h.2]
 ·exact enters_ Try.func76 z6_23 rfl vs W
 ·exact enters_ Try.func78 z6_23 rfl vs W
 ·exact enters_ Try.func80 z6_23 rfl vs W
 ·exact enters_ Try.func82 z6_23 rfl vs W
theorem in_run (m : Int) {ρ : Operand → Value} {o : Oper} (r x y z : Operand) (ts : Array TypeId) (W : World) (args : Array Value) (ho : o.op = .call { callee := .invoke r "loop.example/g00040/impl.in", args := #[x, y, z], argTypes := ts }) (hr : ρ r = .iface (mt m) (.agg #[])) (ha : #[Value.agg #[], ρ x, ρ y, ρ z] = args) :
  (execOp ρ o).run Try.prog W = .ok (.enter (mf m) args) W := by
 subst ha
 unfold execOp
 simp [ho, resolve, invoke, callMethod, hr, in_method, in_enters]
def impl_methodOf.f (a0 : Int) : Option (Int) := some a0
set_option maxHeartbeats 8000000 in
set_option maxRecDepth 100000 in
theorem impl_methodOf.calls (a0 : Int) (r : Int) (w : World) (h : impl_methodOf.f a0 = some r) :
  Calls Try.prog 58 #[.int .i64 a0] w fun e w' => e = .returned (.iface (mt r) (.agg #[])) ∧ Drawn0 w w' := by
 obtain rfl := Option.some.inj h
 clear h
 by_cases h1 : a0 = 1
 ·subst h1
  go_enter Try.func58, Try.ntmps58
  go_wp2
  go_ret
  exact ⟨rfl, z6_46⟩
 ·have d1 : decide (a0 = 1) = false := decide_eq_false h1
  have b1 : (a0 == 1) = false := beq_eq_false_iff_ne.mpr h1
  by_cases h2 : a0 = 2
  ·subst h2
   go_enter Try.func58, Try.ntmps58
   go_wp2
   go_ret
   exact ⟨rfl, z6_46⟩
  ·have d2 : decide (a0 = 2) = false := decide_eq_false h2
   have b2 : (a0 == 2) = false := beq_eq_false_iff_ne.mpr h2
   by_cases h3 : a0 = 3
   ·subst h3
    go_enter Try.func58, Try.ntmps58
    go_wp2
    go_ret
    exact ⟨rfl, z6_46⟩
   ·have d3 : decide (a0 = 3) = false := decide_eq_false h3
    have b3 : (a0 == 3) = false := beq_eq_false_iff_ne.mpr h3
    have HM := Aside0.mk (show mt a0 = 83 by unfold mt; rw [if_neg h1, if_neg h2, if_neg h3])
    go_enter Try.func58, Try.ntmps58
    go_wp2
    go_ret
    exact ⟨by rw [HM.out]; rfl, z6_46⟩

def impl_oldest_in.f (a0 : Int) (a1_0 : Int) (a1_1 : Int) (l1_2 : List (S59)) (a1_3 : Int) (a2 : Int) (a3 : Int) : Option (Int × Int × (List (S59)) × Int) := if l1_2.length < 8796093022208 then (some (a1_0, a1_1, (l1_2 ++ [(⟨a2, a3⟩ : S59)]), a1_3)) else (none)
set_option maxHeartbeats 8000000 in
set_option maxRecDepth 100000 in
theorem impl_oldest_in.calls (a0 : Int) (a1_0 : Int) (a1_1 : Int) (P1_2_ : Nat → Prop) (u9000_ : Value) (l1_2 : List (S59)) (a1_3 : Int) (a2 : Int) (a3 : Int) (r1 : Int) (r2 : Int) (r3 : List (S59)) (r4 : Int) (w0 w : World) (hB : Below w0.heap.size w0 w) (ho1_2 : Kd.R k59 59 w w0.heap.size P1_2_ u9000_ l1_2) (h : impl_oldest_in.f a0 a1_0 a1_1 l1_2 a1_3 a2 a3 = some (r1, r2, r3, r4)) :
  Calls Try.prog 76 #[.agg #[], .agg #[.int .i64 a1_0, .int .i64 a1_1, u9000_, .int .i64 a1_3], .int .i64 a2, .int .i64 a3] w fun e w' => ∃ v2_ : Value, e = .returned (.agg #[.int .i64 r1, .int .i64 r2, v2_, .int .i64 r4]) ∧ Kd.R k59 59 w' w0.heap.size (fun k_ => (P1_2_ k_ ∨ w.heap.size ≤ k_)) v2_ r3 ∧ Below w0.heap.size w0 w' ∧ Kept w w' (fun k_ => P1_2_ k_) := by
 have hu37 := Try.underlying37
 have hu59 := Try.underlying59
 have HO1_2 := Aside0.mk (show Kd.R k59 59 w w0.heap.size (fun k_ => (P1_2_ k_ ∨ w.heap.size ≤ k_)) u9000_ l1_2 from Kd.qw0 ho1_2 (fun k_ hk => (.inl hk)))
 have HK := Aside0.mk (Kept.refl w (fun k_ => P1_2_ k_))
 have HW0 := Aside0.mk hB.size
 have HB := Aside0.mk hB
 clear hB
 have H : (if l1_2.length < 8796093022208 then (some (a1_0, a1_1, (l1_2 ++ [(⟨a2, a3⟩ : S59)]), a1_3)) else (none)) = some (r1, r2, r3, r4) := h
 clear h
 by_cases c5 : l1_2.length < 8796093022208
 case neg => rw [if_neg c5] at H; exact absurd H (by simp)
 rw [if_pos c5] at H
 have LMc5 := Aside0.mk c5
 clear c5
 obtain ⟨y200, hy200⟩ : ∃ y_ : List (S59), y_ = (l1_2 ++ [(⟨a2, a3⟩ : S59)]) := ⟨_, rfl⟩
 replace H : (some (a1_0, a1_1, y200, a1_3)) = some (r1, r2, r3, r4) := by first | (rw [hy200]; with_reducible exact H) | (have H2_ := (Option.bind_some _ _).symm.trans H; rw [hy200]; with_reducible exact H2_) | (have H2_ := (Option.bind_some _ _).symm.trans H; with_reducible exact H2_) | with_reducible exact H | (rw [hy200]; exact H) | exact H
 have Ny200 := Aside0.mk hy200
 clear hy200
 simp only [Option.some.injEq, Prod.mk.injEq] at H
 obtain ⟨rfl, rfl, rfl, rfl⟩ := H
 obtain ⟨Ao6, co6, eo6⟩ := Kd.qb1 HO1_2.out
 subst eo6
 go_enter Try.func76, Try.ntmps76
 go_wp2_with (first | ((with_reducible refine qr0 (N := 4) rfl ?_); refine qo0 ?hg (N := 4) ?hd (cs := #[]) (t := 80) ?hr ?_; (case hd => rfl); (case hg => rfl); (case hr => exact z6_19); intro gbz hg wz hbox hb; have n0_ := Aside0.mk (Kd.qp0 z6_2 hb); have n1_ := Aside0.mk (Kept.below (S := (fun k_ => P1_2_ k_)) z6_4 hb); have n2_ := Aside0.mk (qg0 z6_1 hb); clear HO1_2; clear HK; clear HB; have HO1_2 := n0_; have HK := n1_; have HB := n2_; clear n0_ n1_ n2_; clear hb hbox hg) | ((with_reducible refine qr0 (N := 5) rfl ?_); refine qo0 ?hg (N := 5) ?hd (cs := #[.int .i64 a1_0, .int .i64 a1_1, .slice Ao6 l1_2.length co6, .int .i64 a1_3]) (t := 37) ?hr ?_; (case hd => rfl); (case hg => rfl); (case hr => exact z6_19); intro gb198 hg w7 hbox hb; have n0_ := Aside0.mk (Kd.qp0 z6_2 hb); have n1_ := Aside0.mk (Kept.below (S := (fun k_ => P1_2_ k_)) z6_4 hb); have n2_ := Aside0.mk (qg0 z6_1 hb); have n3_ := Aside0.mk (hbox); have n4_ := Aside0.mk ((z6_11 : w.heap.size ≤ gb198)); have n5_ := Aside0.mk ((z6_10 : w0.heap.size ≤ gb198)); clear HO1_2; clear HK; clear HB; have HO1_2 := n0_; have HK := n1_; have HB := n2_; have BK198 := n3_; have GW198 := n4_; have GE198 := n5_; clear n0_ n1_ n2_ n3_ n4_ n5_; clear hb hbox hg) | ((with_reducible refine qr0 (N := 8) rfl ?_); refine qo0 ?hg (N := 8) ?hd (cs := #[.int .i64 0, .int .i64 0, .slice none 0 0, .int .i64 0]) (t := 37) ?hr ?_; (case hd => rfl); (case hg => rfl); (case hr => exact z6_19); intro gb199 hg w8 hbox hb; have n0_ := Aside0.mk (Kd.qp0 z6_2 hb); have n1_ := Aside0.mk (qf0 (g := gb198) (o := .cells #[.int .i64 a1_0, .int .i64 a1_1, .slice Ao6 l1_2.length co6, .int .i64 a1_3] 37 (0, 0)) z6_32 hb); have n2_ := Aside0.mk (Kept.below (S := (fun k_ => P1_2_ k_)) z6_40 hb); have n3_ := Aside0.mk (qg0 z6_43 hb); have n4_ := Aside0.mk (hbox); have n5_ := Aside0.mk ((by rw [hg]; exact (by first | exact HK.out.1 | exact (show Kept w _ (fun k_ => P1_2_ k_) from z6_40).1) : w.heap.size ≤ gb199)); have n6_ := Aside0.mk ((by rw [hg]; exact (qn0 z6_43) : w0.heap.size ≤ gb199)); have n7_ := Aside0.mk ((by rw [hg]; exact Nat.ne_of_lt (qe1 (g := gb198) (o := .cells #[.int .i64 a1_0, .int .i64 a1_1, .slice Ao6 l1_2.length co6, .int .i64 a1_3] 37 (0, 0)) z6_32) : gb198 ≠ gb199)); have n8_ := Aside0.mk ((by rw [hg]; exact Nat.ne_of_gt (qe1 (g := gb198) (o := .cells #[.int .i64 a1_0, .int .i64 a1_1, .slice Ao6 l1_2.length co6, .int .i64 a1_3] 37 (0, 0)) z6_32) : gb199 ≠ gb198)); clear HO1_2; clear BK198; clear HK; clear HB; have HO1_2 := n0_; have BK198 := n1_; have HK := n2_; have HB := n3_; have BK199 := n4_; have GW199 := n5_; have GE199 := n6_; have NB198_199 := n7_; have NB199_198 := n8_; clear n0_ n1_ n2_ n3_ n4_ n5_ n6_ n7_ n8_; clear hb hbox hg; have hnb9 := NB198_199.out; have hnc9 := NB199_198.out; have hcz10_0 : w8.cell? ⟨gb198, 0, none⟩ = some (.int .i64 a1_0) := (qb0 BK198.out 0).trans rfl; have hcz10_1 : w8.cell? ⟨gb198, 1, none⟩ = some (.int .i64 a1_1) := (qb0 BK198.out 1).trans rfl; have hcz10_2 : w8.cell? ⟨gb198, 2, none⟩ = some (.slice Ao6 l1_2.length co6) := (qb0 BK198.out 2).trans rfl; have hcz10_3 : w8.cell? ⟨gb198, 3, none⟩ = some (.int .i64 a1_3) := (qb0 BK198.out 3).trans rfl; have hfz10_0 := qa0 BK198.out 0; have hfz10_1 := qa0 BK198.out 1; have hfz10_2 := qa0 BK198.out 2; have hfz10_3 := qa0 BK198.out 3) | ((with_reducible refine gate_builtin (b := .append) (xs := #[.tmp 10, .tmp 14]) rfl ?_); at_builtin; refine Kd.R_append k59 (w0 := w0) w0.heap.size rfl (.tmp 10) (.tmp 14) 35 59 (.agg #[(.int .i64 0), (.int .i64 0)]) 16 rfl Try.underlying35 info59 rfl (by decide) (by omega) (.slice Ao6 l1_2.length co6) l1_2 (⟨a2, a3⟩ : S59) [.int .i64 a2, .int .i64 a3] (fun k_ => (P1_2_ k_ ∨ w.heap.size ≤ k_)) (fun _ => False) rfl rfl ?aP (fun _ hk => hk.elim) ?aF ?aO ?aB ?aS ?aL ?_; (case aP => exact k59_mkM _ _ _ (⟨a2, a3⟩ : S59)); (case aB => exact z6_27); (case aF => exact (fun k_ hk => (.inr (Nat.le_trans (by first | exact HK.out.1 | exact (show Kept w _ (fun k_ => P1_2_ k_) from z6_24).1) hk)))); (case aO => exact z6_2); (case aS => exact (qn0 z6_27)); (case aL => have := LMc5.out; omega); intro v201 w11 ho hb hg hat; rw [← Ny200.out] at ho; have n0_ := Aside0.mk (qa1 (g := gb198) (o := .cells #[.int .i64 a1_0, .int .i64 a1_1, .slice Ao6 l1_2.length co6, .int .i64 a1_3] 37 (0, 0)) z6_32 hg (Kd.R_ne HO1_2.out BK198.out (by decide))); have n1_ := Aside0.mk (qa1 (g := gb199) (o := .cells #[.int .i64 0, .int .i64 0, .slice none 0 0, .int .i64 0] 37 (0, 0)) (by (with_reducible repeat (first | refine qc0 ?_ _ | refine qe0 ?_ | refine qd0 ?_ _)); exact BK199.out) hg (Kd.R_ne HO1_2.out BK199.out (by decide))); have n2_ := Aside0.mk (hb); have n3_ := Aside0.mk (Kept.of_grown (S := (fun k_ => P1_2_ k_)) hg z6_24 (fun k_ e_ => (HO1_2.out.1 k_ e_))); have n4_ := Aside0.mk (ho); clear BK198; clear BK199; clear HB; clear HK; clear HO1_2; have BK198 := n0_; have BK199 := n1_; have HB := n2_; have HK := n3_; have HO202 := n4_; clear n0_ n1_ n2_ n3_ n4_; clear ho hb hg hat; obtain ⟨Ao12, co12, eo12⟩ := Kd.qb1 HO202.out; subst eo12; have hcz13_0 : w11.cell? ⟨gb198, 0, none⟩ = some (.int .i64 a1_0) := (qb0 BK198.out 0).trans rfl; have hcz13_1 : w11.cell? ⟨gb198, 1, none⟩ = some (.int .i64 a1_1) := (qb0 BK198.out 1).trans rfl; have hcz13_2 : w11.cell? ⟨gb198, 2, none⟩ = some (.slice Ao6 l1_2.length co6) := (qb0 BK198.out 2).trans rfl; have hcz13_3 : w11.cell? ⟨gb198, 3, none⟩ = some (.int .i64 a1_3) := (qb0 BK198.out 3).trans rfl; have hfz13_0 := qa0 BK198.out 0; have hfz13_1 := qa0 BK198.out 1; have hfz13_2 := qa0 BK198.out 2; have hfz13_3 := qa0 BK198.out 3; have hcz14_0 : w11.cell? ⟨gb199, 0, none⟩ = some (.int .i64 0) := (qb0 BK199.out 0).trans rfl; have hcz14_1 : w11.cell? ⟨gb199, 1, none⟩ = some (.int .i64 0) := (qb0 BK199.out 1).trans rfl; have hcz14_2 : w11.cell? ⟨gb199, 2, none⟩ = some (.slice none 0 0) := (qb0 BK199.out 2).trans rfl; have hcz14_3 : w11.cell? ⟨gb199, 3, none⟩ = some (.int .i64 0) := (qb0 BK199.out 3).trans rfl; have hfz14_0 := qa0 BK199.out 0; have hfz14_1 := qa0 BK199.out 1; have hfz14_2 := qa0 BK199.out 2; have hfz14_3 := qa0 BK199.out 3))
 refine bodyPost_ret (results_cell_row rfl _ _ gb199 37 #[.int .i64 a1_0, .int .i64 a1_1, .slice Ao12 y200.length co12, .int .i64 a1_3] (0, 0) _ rfl (by (with_reducible repeat (first | refine qc0 ?_ _ | refine qe0 ?_ | refine qd0 ?_ _)); refine qm0 (cs := #[.int .i64 a1_0, .int .i64 a1_1, .slice Ao12 y200.length co12, .int .i64 0]) ?_ 3 _ rfl; (with_reducible repeat (first | refine qc0 ?_ _ | refine qe0 ?_ | refine qd0 ?_ _)); refine qm0 (cs := #[.int .i64 a1_0, .int .i64 a1_1, .slice none 0 0, .int .i64 0]) ?_ 2 _ rfl; (with_reducible repeat (first | refine qc0 ?_ _ | refine qe0 ?_ | refine qd0 ?_ _)); refine qm0 (cs := #[.int .i64 a1_0, .int .i64 0, .slice none 0 0, .int .i64 0]) ?_ 1 _ rfl; (with_reducible repeat (first | refine qc0 ?_ _ | refine qe0 ?_ | refine qd0 ?_ _)); refine qm0 (cs := #[.int .i64 0, .int .i64 0, .slice none 0 0, .int .i64 0]) ?_ 0 _ rfl; (with_reducible repeat (first | refine qc0 ?_ _ | refine qe0 ?_ | refine qd0 ?_ _)); refine qv0 ?_ NB199_198.out _; (with_reducible repeat (first | refine qc0 ?_ _ | refine qe0 ?_ | refine qd0 ?_ _)); exact BK199.out) Try.underlying37 rfl z6_23) rfl ?_
 exact ⟨_, z6_20, by (with_reducible repeat (first | apply Kd.qu0 | apply Kd.qt0 | apply Kd.qx0)); exact Kd.qw0 (Kd.R_far (p := ⟨gb199, 3, none⟩) (Kd.R_far (p := ⟨gb199, 2, none⟩) (Kd.R_far (p := ⟨gb199, 1, none⟩) (Kd.R_far (p := ⟨gb199, 0, none⟩) (Kd.R_far (p := ⟨gb198, 2, none⟩) (Kd.qz0 (Kd.qz0 HO202.out BK198.out (by decide)) BK199.out (by decide)) (fun _ hk => hk.1.2) (.slice Ao12 y200.length co12)) (fun _ hk => hk.2) (.int .i64 a1_0)) (fun _ hk => hk.2) (.int .i64 a1_1)) (fun _ hk => hk.2) (.slice Ao12 y200.length co12)) (fun _ hk => hk.2) (.int .i64 a1_3)) (fun _ hk => hk.1.1), z6_27, z6_24⟩
def impl_newest_in.f (a0 : Int) (a1_0 : Int) (a1_1 : Int) (l1_2 : List (S59)) (a1_3 : Int) (a2 : Int) (a3 : Int) : Option (Int × Int × (List (S59)) × Int) := (impl_oldest_in.f a2 a1_0 a1_1 l1_2 a1_3 a2 a3).bind fun bt205 => (some (bt205.1, bt205.2.1, bt205.2.2.1, bt205.2.2.2))
set_option maxHeartbeats 8000000 in
set_option maxRecDepth 100000 in
theorem impl_newest_in.calls (a0 : Int) (a1_0 : Int) (a1_1 : Int) (P1_2_ : Nat → Prop) (u9000_ : Value) (l1_2 : List (S59)) (a1_3 : Int) (a2 : Int) (a3 : Int) (r1 : Int) (r2 : Int) (r3 : List (S59)) (r4 : Int) (w0 w : World) (hB : Below w0.heap.size w0 w) (ho1_2 : Kd.R k59 59 w w0.heap.size P1_2_ u9000_ l1_2) (h : impl_newest_in.f a0 a1_0 a1_1 l1_2 a1_3 a2 a3 = some (r1, r2, r3, r4)) :
  Calls Try.prog 78 #[.agg #[], .agg #[.int .i64 a1_0, .int .i64 a1_1, u9000_, .int .i64 a1_3], .int .i64 a2, .int .i64 a3] w fun e w' => ∃ v2_ : Value, e = .returned (.agg #[.int .i64 r1, .int .i64 r2, v2_, .int .i64 r4]) ∧ Kd.R k59 59 w' w0.heap.size (fun k_ => (P1_2_ k_ ∨ w.heap.size ≤ k_)) v2_ r3 ∧ Below w0.heap.size w0 w' ∧ Kept w w' (fun k_ => P1_2_ k_) := by
 have hu37 := Try.underlying37
 have HO1_2 := Aside0.mk (show Kd.R k59 59 w w0.heap.size (fun k_ => (P1_2_ k_ ∨ w.heap.size ≤ k_)) u9000_ l1_2 from Kd.qw0 ho1_2 (fun k_ hk => (.inl hk)))
 have HK := Aside0.mk (Kept.refl w (fun k_ => P1_2_ k_))
 have HW0 := Aside0.mk hB.size
 have HB := Aside0.mk hB
 clear hB
 have H : ((impl_oldest_in.f a2 a1_0 a1_1 l1_2 a1_3 a2 a3).bind fun bt205 => (some (bt205.1, bt205.2.1, bt205.2.2.1, bt205.2.2.2))) = some (r1, r2, r3, r4) := h
 clear h
 replace H := Option.bind_eq_some_iff.mp H
 obtain ⟨⟨t205, t206, t207, t210⟩, A50, H⟩ := H
 replace H : (some (t205, t206, t207, t210)) = some (r1, r2, r3, r4) := H
 have A5 := Aside0.mk A50
 clear A50
 simp only [Option.some.injEq, Prod.mk.injEq] at H
 obtain ⟨rfl, rfl, rfl, rfl⟩ := H
 obtain ⟨Ao6, co6, eo6⟩ := Kd.qb1 HO1_2.out
 subst eo6
 go_enter Try.func78, Try.ntmps78
 go_wp2_with (first | ((with_reducible refine qr0 (N := 4) rfl ?_); refine qo0 ?hg (N := 4) ?hd (cs := #[]) (t := 81) ?hr ?_; (case hd => rfl); (case hg => rfl); (case hr => exact z6_19); intro gbz hg wz hbox hb; have n0_ := Aside0.mk (Kd.qp0 z6_2 hb); have n1_ := Aside0.mk (Kept.below (S := (fun k_ => P1_2_ k_)) z6_4 hb); have n2_ := Aside0.mk (qg0 z6_1 hb); clear HO1_2; clear HK; clear HB; have HO1_2 := n0_; have HK := n1_; have HB := n2_; clear n0_ n1_ n2_; clear hb hbox hg) | ((with_reducible refine qr0 (N := 5) rfl ?_); refine qo0 ?hg (N := 5) ?hd (cs := #[.int .i64 a1_0, .int .i64 a1_1, .slice Ao6 l1_2.length co6, .int .i64 a1_3]) (t := 37) ?hr ?_; (case hd => rfl); (case hg => rfl); (case hr => exact z6_19); intro gb203 hg w7 hbox hb; have n0_ := Aside0.mk (Kd.qp0 z6_2 hb); have n1_ := Aside0.mk (Kept.below (S := (fun k_ => P1_2_ k_)) z6_4 hb); have n2_ := Aside0.mk (qg0 z6_1 hb); have n3_ := Aside0.mk (hbox); have n4_ := Aside0.mk ((z6_11 : w.heap.size ≤ gb203)); have n5_ := Aside0.mk ((z6_10 : w0.heap.size ≤ gb203)); clear HO1_2; clear HK; clear HB; have HO1_2 := n0_; have HK := n1_; have HB := n2_; have BK203 := n3_; have GW203 := n4_; have GE203 := n5_; clear n0_ n1_ n2_ n3_ n4_ n5_; clear hb hbox hg) | ((with_reducible refine qr0 (N := 8) rfl ?_); refine qo0 ?hg (N := 8) ?hd (cs := #[.int .i64 0, .int .i64 0, .slice none 0 0, .int .i64 0]) (t := 37) ?hr ?_; (case hd => rfl); (case hg => rfl); (case hr => exact z6_19); intro gb204 hg w8 hbox hb; have n0_ := Aside0.mk (Kd.qp0 z6_2 hb); have n1_ := Aside0.mk (qf0 (g := gb203) (o := .cells #[.int .i64 a1_0, .int .i64 a1_1, .slice Ao6 l1_2.length co6, .int .i64 a1_3] 37 (0, 0)) z6_33 hb); have n2_ := Aside0.mk (Kept.below (S := (fun k_ => P1_2_ k_)) z6_41 hb); have n3_ := Aside0.mk (qg0 z6_44 hb); have n4_ := Aside0.mk (hbox); have n5_ := Aside0.mk ((by rw [hg]; exact (by first | exact HK.out.1 | exact (show Kept w _ (fun k_ => P1_2_ k_) from z6_41).1) : w.heap.size ≤ gb204)); have n6_ := Aside0.mk ((by rw [hg]; exact (qn0 z6_44) : w0.heap.size ≤ gb204)); have n7_ := Aside0.mk ((by rw [hg]; exact Nat.ne_of_lt (qe1 (g := gb203) (o := .cells #[.int .i64 a1_0, .int .i64 a1_1, .slice Ao6 l1_2.length co6, .int .i64 a1_3] 37 (0, 0)) z6_33) : gb203 ≠ gb204)); have n8_ := Aside0.mk ((by rw [hg]; exact Nat.ne_of_gt (qe1 (g := gb203) (o := .cells #[.int .i64 a1_0, .int .i64 a1_1, .slice Ao6 l1_2.length co6, .int .i64 a1_3] 37 (0, 0)) z6_33) : gb204 ≠ gb203)); clear HO1_2; clear BK203; clear HK; clear HB; have HO1_2 := n0_; have BK203 := n1_; have HK := n2_; have HB := n3_; have BK204 := n4_; have GW204 := n5_; have GE204 := n6_; have NB203_204 := n7_; have NB204_203 := n8_; clear n0_ n1_ n2_ n3_ n4_ n5_ n6_ n7_ n8_; clear hb hbox hg; have hnb9 := NB203_204.out; have hnc9 := NB204_203.out; have hcz10_0 : w8.cell? ⟨gb203, 0, none⟩ = some (.int .i64 a1_0) := (qb0 BK203.out 0).trans rfl; have hcz10_1 : w8.cell? ⟨gb203, 1, none⟩ = some (.int .i64 a1_1) := (qb0 BK203.out 1).trans rfl; have hcz10_2 : w8.cell? ⟨gb203, 2, none⟩ = some (.slice Ao6 l1_2.length co6) := (qb0 BK203.out 2).trans rfl; have hcz10_3 : w8.cell? ⟨gb203, 3, none⟩ = some (.int .i64 a1_3) := (qb0 BK203.out 3).trans rfl; have hfz10_0 := qa0 BK203.out 0; have hfz10_1 := qa0 BK203.out 1; have hfz10_2 := qa0 BK203.out 2; have hfz10_3 := qa0 BK203.out 3) | ((with_reducible refine qj0 (f := 76) rfl ?_); refine qy0 (some 13) rfl rfl Try.func76 z6_23 rfl #[.agg #[], .agg #[.int .i64 a1_0, .int .i64 a1_1, .slice Ao6 l1_2.length co6, .int .i64 a1_3], .int .i64 a2, .int .i64 a3] rfl z6_6 ?_; (with_reducible refine (impl_oldest_in.calls a2 a1_0 a1_1 (fun k_ => some k_ = (.slice Ao6 l1_2.length co6 : Value).ownBlock) (.slice Ao6 l1_2.length co6) l1_2 a1_3 a2 a3 t205 t206 t207 t210 w0 _ ?side1 ?side2 A5.out).mono ?_); (case side1 => exact z6_38); (case side2 => exact Kd.R_tight rfl HO1_2.out); rintro e w11 ⟨v208, rfl, ho0, hb, hkp⟩; refine ⟨_, rfl, ?_⟩; have n0_ := Aside0.mk (qf1 z6_33 hkp (fun hs_ => (fun e_ => (Kd.R_ne HO1_2.out BK203.out (by decide)) e_) hs_)); have n1_ := Aside0.mk (qf1 (by (with_reducible repeat (first | refine qc0 ?_ _ | refine qe0 ?_ | refine qd0 ?_ _)); exact BK204.out) hkp (fun hs_ => (fun e_ => (Kd.R_ne HO1_2.out BK204.out (by decide)) e_) hs_)); have n2_ := Aside0.mk (Kd.qw0 (ok' := fun k_ => (P1_2_ k_ ∨ w.heap.size ≤ k_)) ho0 (fun k_ hk_ => Or.elim hk_ (fun hs_ => (HO1_2.out.1 k_ (hs_).symm)) (fun hn_ => (.inr (Nat.le_trans (by first | exact HK.out.1 | exact (show Kept w _ (fun k_ => P1_2_ k_) from z6_25).1) hn_))))); have n3_ := Aside0.mk (Kept.then_ (S := (fun k_ => P1_2_ k_)) z6_25 hkp (fun k_ hs_ => (fun e_ => (HO1_2.out.1 k_ e_.symm)) hs_)); have n4_ := Aside0.mk (hb); clear BK203; clear BK204; clear HK; clear HB; clear HO1_2; have BK203 := n0_; have BK204 := n1_; have HO209 := n2_; have HK := n3_; have HB := n4_; clear n0_ n1_ n2_ n3_ n4_; (try clear hb); (try clear hkp); (try clear ho0); have hcz12_0 : w11.cell? ⟨gb204, 0, none⟩ = some (.int .i64 0) := (qb0 BK204.out 0).trans rfl; have hcz12_1 : w11.cell? ⟨gb204, 1, none⟩ = some (.int .i64 0) := (qb0 BK204.out 1).trans rfl; have hcz12_2 : w11.cell? ⟨gb204, 2, none⟩ = some (.slice none 0 0) := (qb0 BK204.out 2).trans rfl; have hcz12_3 : w11.cell? ⟨gb204, 3, none⟩ = some (.int .i64 0) := (qb0 BK204.out 3).trans rfl; have hfz12_0 := qa0 BK204.out 0; have hfz12_1 := qa0 BK204.out 1; have hfz12_2 := qa0 BK204.out 2; have hfz12_3 := qa0 BK204.out 3; obtain ⟨Ao13, co13, eo13⟩ := Kd.qb1 HO209.out; subst eo13))
 refine bodyPost_ret (results_cell_row rfl _ _ gb204 37 #[.int .i64 t205, .int .i64 t206, .slice Ao13 t207.length co13, .int .i64 t210] (0, 0) _ rfl (by (with_reducible repeat (first | refine qc0 ?_ _ | refine qe0 ?_ | refine qd0 ?_ _)); refine qm0 (cs := #[.int .i64 t205, .int .i64 t206, .slice Ao13 t207.length co13, .int .i64 0]) ?_ 3 _ rfl; (with_reducible repeat (first | refine qc0 ?_ _ | refine qe0 ?_ | refine qd0 ?_ _)); refine qm0 (cs := #[.int .i64 t205, .int .i64 t206, .slice none 0 0, .int .i64 0]) ?_ 2 _ rfl; (with_reducible repeat (first | refine qc0 ?_ _ | refine qe0 ?_ | refine qd0 ?_ _)); refine qm0 (cs := #[.int .i64 t205, .int .i64 0, .slice none 0 0, .int .i64 0]) ?_ 1 _ rfl; (with_reducible repeat (first | refine qc0 ?_ _ | refine qe0 ?_ | refine qd0 ?_ _)); refine qm0 (cs := #[.int .i64 0, .int .i64 0, .slice none 0 0, .int .i64 0]) ?_ 0 _ rfl; (with_reducible repeat (first | refine qc0 ?_ _ | refine qe0 ?_ | refine qd0 ?_ _)); exact BK204.out) Try.underlying37 rfl z6_23) rfl ?_
 exact ⟨_, z6_20, by (with_reducible repeat (first | apply Kd.qu0 | apply Kd.qt0 | apply Kd.qx0)); exact Kd.qw0 (Kd.R_far (p := ⟨gb204, 3, none⟩) (Kd.R_far (p := ⟨gb204, 2, none⟩) (Kd.R_far (p := ⟨gb204, 1, none⟩) (Kd.R_far (p := ⟨gb204, 0, none⟩) (Kd.qz0 HO209.out BK204.out (by decide)) (fun _ hk => hk.2) (.int .i64 t205)) (fun _ hk => hk.2) (.int .i64 t206)) (fun _ hk => hk.2) (.slice Ao13 t207.length co13)) (fun _ hk => hk.2) (.int .i64 t210)) (fun _ hk => hk.1), z6_38, z6_25⟩
def impl_middle_in.f (a0 : Int) (a1_0 : Int) (a1_1 : Int) (l1_2 : List (S59)) (a1_3 : Int) (a2 : Int) (a3 : Int) : Option (Int × Int × (List (S59)) × Int) := if (l1_2.length : Int) = 0 then ((some (([(⟨0, 0⟩ : S59)] : List (S59)) : List (S59))).bind fun y213 => (if 0 < (y213.length : Int) then ((some (y213.set (0 : Int).toNat (⟨wrap64 (((rd_T59 y213 0).f0) + a2), (rd_T59 y213 0).f1⟩ : S59) : List (S59))).bind fun y217 => (some (a1_0, a1_1, (y217.set (0 : Int).toNat (⟨(rd_T59 y217 0).f0, wrap64 (((rd_T59 y217 0).f1) + a3)⟩ : S59)), a1_3))) else (none))) else (if 0 < (l1_2.length : Int) then ((some (l1_2.set (0 : Int).toNat (⟨wrap64 (((rd_T59 l1_2 0).f0) + a2), (rd_T59 l1_2 0).f1⟩ : S59) : List (S59))).bind fun y221 => (some (a1_0, a1_1, (y221.set (0 : Int).toNat (⟨(rd_T59 y221 0).f0, wrap64 (((rd_T59 y221 0).f1) + a3)⟩ : S59)), a1_3))) else (none))
set_option maxHeartbeats 8000000 in
set_option maxRecDepth 100000 in
theorem impl_middle_in.calls (a0 : Int) (a1_0 : Int) (a1_1 : Int) (P1_2_ : Nat → Prop) (u9000_ : Value) (l1_2 : List (S59)) (a1_3 : Int) (a2 : Int) (a3 : Int) (r1 : Int) (r2 : Int) (r3 : List (S59)) (r4 : Int) (w0 w : World) (hB : Below w0.heap.size w0 w) (ho1_2 : Kd.R k59 59 w w0.heap.size P1_2_ u9000_ l1_2) (h : impl_middle_in.f a0 a1_0 a1_1 l1_2 a1_3 a2 a3 = some (r1, r2, r3, r4)) :
  Calls Try.prog 80 #[.agg #[], .agg #[.int .i64 a1_0, .int .i64 a1_1, u9000_, .int .i64 a1_3], .int .i64 a2, .int .i64 a3] w fun e w' => ∃ v2_ : Value, e = .returned (.agg #[.int .i64 r1, .int .i64 r2, v2_, .int .i64 r4]) ∧ Kd.R k59 59 w' w0.heap.size (fun k_ => (P1_2_ k_ ∨ w.heap.size ≤ k_)) v2_ r3 ∧ Below w0.heap.size w0 w' ∧ Kept w w' (fun k_ => P1_2_ k_) := by
 have hu37 := Try.underlying37
 have hu59 := Try.underlying59
 have HO1_2 := Aside0.mk (show Kd.R k59 59 w w0.heap.size (fun k_ => (P1_2_ k_ ∨ w.heap.size ≤ k_)) u9000_ l1_2 from Kd.qw0 ho1_2 (fun k_ hk => (.inl hk)))
 have HK := Aside0.mk (Kept.refl w (fun k_ => P1_2_ k_))
 have HW0 := Aside0.mk hB.size
 have HB := Aside0.mk hB
 clear hB
 have H : (if (l1_2.length : Int) = 0 then ((some (([(⟨0, 0⟩ : S59)] : List (S59)) : List (S59))).bind fun y213 => (if 0 < (y213.length : Int) then ((some (y213.set (0 : Int).toNat (⟨wrap64 (((rd_T59 y213 0).f0) + a2), (rd_T59 y213 0).f1⟩ : S59) : List (S59))).bind fun y217 => (some (a1_0, a1_1, (y217.set (0 : Int).toNat (⟨(rd_T59 y217 0).f0, wrap64 (((rd_T59 y217 0).f1) + a3)⟩ : S59)), a1_3))) else (none))) else (if 0 < (l1_2.length : Int) then ((some (l1_2.set (0 : Int).toNat (⟨wrap64 (((rd_T59 l1_2 0).f0) + a2), (rd_T59 l1_2 0).f1⟩ : S59) : List (S59))).bind fun y221 => (some (a1_0, a1_1, (y221.set (0 : Int).toNat (⟨(rd_T59 y221 0).f0, wrap64 (((rd_T59 y221 0).f1) + a3)⟩ : S59)), a1_3))) else (none))) = some (r1, r2, r3, r4) := h
 clear h
 by_cases c5 : (l1_2.length : Int) = 0
 ·rw [if_pos c5] at H
  have c5b0 : ((l1_2.length : Int) == 0) = true := beq_iff_eq.mpr c5
  have c5b1 : ((l1_2.length : Int) != 0) = false := bne_eq_false_iff_eq.mpr c5
  clear c5
  obtain ⟨y213, hy213⟩ : ∃ y_ : List (S59), y_ = (([(⟨0, 0⟩ : S59)] : List (S59))) := ⟨_, rfl⟩
  replace H : (if 0 < (y213.length : Int) then ((some (y213.set (0 : Int).toNat (⟨wrap64 (((rd_T59 y213 0).f0) + a2), (rd_T59 y213 0).f1⟩ : S59) : List (S59))).bind fun y217 => (some (a1_0, a1_1, (y217.set (0 : Int).toNat (⟨(rd_T59 y217 0).f0, wrap64 (((rd_T59 y217 0).f1) + a3)⟩ : S59)), a1_3))) else (none)) = some (r1, r2, r3, r4) := by first | (rw [hy213]; with_reducible exact H) | (have H2_ := (Option.bind_some _ _).symm.trans H; rw [hy213]; with_reducible exact H2_) | (have H2_ := (Option.bind_some _ _).symm.trans H; with_reducible exact H2_) | with_reducible exact H | (rw [hy213]; exact H) | exact H
  have Ny213 := Aside0.mk hy213
  clear hy213
  by_cases c6 : 0 < (y213.length : Int)
  case neg => rw [if_neg c6] at H; exact absurd H (by simp)
  rw [if_pos c6] at H
  have c6b0 : decide (0 < (y213.length : Int)) = true := decide_eq_true c6
  have c6b1 : decide (0 < y213.length) = true := decide_eq_true (by omega)
  clear c6
  obtain ⟨y217, hy217⟩ : ∃ y_ : List (S59), y_ = (y213.set (0 : Int).toNat (⟨wrap64 (((rd_T59 y213 0).f0) + a2), (rd_T59 y213 0).f1⟩ : S59)) := ⟨_, rfl⟩
  replace H : (some (a1_0, a1_1, (y217.set (0 : Int).toNat (⟨(rd_T59 y217 0).f0, wrap64 (((rd_T59 y217 0).f1) + a3)⟩ : S59)), a1_3)) = some (r1, r2, r3, r4) := by first | (rw [hy217]; with_reducible exact H) | (have H2_ := (Option.bind_some _ _).symm.trans H; rw [hy217]; with_reducible exact H2_) | (have H2_ := (Option.bind_some _ _).symm.trans H; with_reducible exact H2_) | with_reducible exact H | (rw [hy217]; exact H) | exact H
  have Ny217 := Aside0.mk hy217
  clear hy217
  obtain ⟨y219, hy219⟩ : ∃ y_ : List (S59), y_ = (y217.set (0 : Int).toNat (⟨(rd_T59 y217 0).f0, wrap64 (((rd_T59 y217 0).f1) + a3)⟩ : S59)) := ⟨_, rfl⟩
  replace H : (some (a1_0, a1_1, y219, a1_3)) = some (r1, r2, r3, r4) := by first | (rw [hy219]; with_reducible exact H) | (have H2_ := (Option.bind_some _ _).symm.trans H; rw [hy219]; with_reducible exact H2_) | (have H2_ := (Option.bind_some _ _).symm.trans H; with_reducible exact H2_) | with_reducible exact H | (rw [hy219]; exact H) | exact H
  have Ny219 := Aside0.mk hy219
  clear hy219
  simp only [Option.some.injEq, Prod.mk.injEq] at H
  obtain ⟨rfl, rfl, rfl, rfl⟩ := H
  obtain ⟨Ao9, co9, eo9⟩ := Kd.qb1 HO1_2.out
  subst eo9
  go_enter Try.func80, Try.ntmps80
  go_wp2_with (first | ((with_reducible refine qr0 (N := 4) rfl ?_); refine qo0 ?hg (N := 4) ?hd (cs := #[]) (t := 82) ?hr ?_; (case hd => rfl); (case hg => rfl); (case hr => exact z6_19); intro gbz hg wz hbox hb; have n0_ := Aside0.mk (Kd.qp0 z6_2 hb); have n1_ := Aside0.mk (Kept.below (S := (fun k_ => P1_2_ k_)) z6_4 hb); have n2_ := Aside0.mk (qg0 z6_1 hb); clear HO1_2; clear HK; clear HB; have HO1_2 := n0_; have HK := n1_; have HB := n2_; clear n0_ n1_ n2_; clear hb hbox hg) | ((with_reducible refine qr0 (N := 5) rfl ?_); refine qo0 ?hg (N := 5) ?hd (cs := #[.int .i64 a1_0, .int .i64 a1_1, .slice Ao9 l1_2.length co9, .int .i64 a1_3]) (t := 37) ?hr ?_; (case hd => rfl); (case hg => rfl); (case hr => exact z6_19); intro gb211 hg w10 hbox hb; have n0_ := Aside0.mk (Kd.qp0 z6_2 hb); have n1_ := Aside0.mk (Kept.below (S := (fun k_ => P1_2_ k_)) z6_4 hb); have n2_ := Aside0.mk (qg0 z6_1 hb); have n3_ := Aside0.mk (hbox); have n4_ := Aside0.mk ((z6_11 : w.heap.size ≤ gb211)); have n5_ := Aside0.mk ((z6_10 : w0.heap.size ≤ gb211)); clear HO1_2; clear HK; clear HB; have HO1_2 := n0_; have HK := n1_; have HB := n2_; have BK211 := n3_; have GW211 := n4_; have GE211 := n5_; clear n0_ n1_ n2_ n3_ n4_ n5_; clear hb hbox hg) | ((with_reducible refine qr0 (N := 8) rfl ?_); refine qo0 ?hg (N := 8) ?hd (cs := #[.int .i64 0, .int .i64 0, .slice none 0 0, .int .i64 0]) (t := 37) ?hr ?_; (case hd => rfl); (case hg => rfl); (case hr => exact z6_19); intro gb212 hg w11 hbox hb; have n0_ := Aside0.mk (Kd.qp0 z6_2 hb); have n1_ := Aside0.mk (qf0 (g := gb211) (o := .cells #[.int .i64 a1_0, .int .i64 a1_1, .slice Ao9 l1_2.length co9, .int .i64 a1_3] 37 (0, 0)) z6_8 hb); have n2_ := Aside0.mk (Kept.below (S := (fun k_ => P1_2_ k_)) z6_21 hb); have n3_ := Aside0.mk (qg0 z6_22 hb); have n4_ := Aside0.mk (hbox); have n5_ := Aside0.mk ((z6_29 : w.heap.size ≤ gb212)); have n6_ := Aside0.mk ((z6_36 : w0.heap.size ≤ gb212)); have n7_ := Aside0.mk ((by rw [hg]; exact Nat.ne_of_lt (qe1 (g := gb211) (o := .cells #[.int .i64 a1_0, .int .i64 a1_1, .slice Ao9 l1_2.length co9, .int .i64 a1_3] 37 (0, 0)) z6_8) : gb211 ≠ gb212)); have n8_ := Aside0.mk ((by rw [hg]; exact Nat.ne_of_gt (qe1 (g := gb211) (o := .cells #[.int .i64 a1_0, .int .i64 a1_1, .slice Ao9 l1_2.length co9, .int .i64 a1_3] 37 (0, 0)) z6_8) : gb212 ≠ gb211)); clear HO1_2; clear BK211; clear HK; clear HB; have HO1_2 := n0_; have BK211 := n1_; have HK := n2_; have HB := n3_; have BK212 := n4_; have GW212 := n5_; have GE212 := n6_; have NB211_212 := n7_; have NB212_211 := n8_; clear n0_ n1_ n2_ n3_ n4_ n5_ n6_ n7_ n8_; clear hb hbox hg; have hnb12 := NB211_212.out; have hnc12 := NB212_211.out; have hcz13_0 : w11.cell? ⟨gb211, 0, none⟩ = some (.int .i64 a1_0) := (qb0 BK211.out 0).trans rfl; have hcz13_1 : w11.cell? ⟨gb211, 1, none⟩ = some (.int .i64 a1_1) := (qb0 BK211.out 1).trans rfl; have hcz13_2 : w11.cell? ⟨gb211, 2, none⟩ = some (.slice Ao9 l1_2.length co9) := (qb0 BK211.out 2).trans rfl; have hcz13_3 : w11.cell? ⟨gb211, 3, none⟩ = some (.int .i64 a1_3) := (qb0 BK211.out 3).trans rfl; have hfz13_0 := qa0 BK211.out 0; have hfz13_1 := qa0 BK211.out 1; have hfz13_2 := qa0 BK211.out 2; have hfz13_3 := qa0 BK211.out 3) | ((with_reducible refine qr0 (N := 14) rfl ?_); refine Kd.R_lit k59 _ 59 ?hg (N := 14) ?hd (xs := ([(⟨0, 0⟩ : S59)] : List (S59))) (inner := [.int .i64 0, .int .i64 0]) (ok := fun _ => True) (okp := fun _ => True) ?hr ?hp (fun _ hk => hk) trivial (Below.refl _ _) (Nat.le_refl _) (by simp) ?_; (case hd => rfl); (case hg => rfl); (case hr => exact z6_19); (case hp => exact (Reps.c2 (show Kd.M k59 _ _ _ (⟨0, 0⟩ : S59) [.int .i64 0, .int .i64 0] from (k59_mkM _ _ _ (⟨0, 0⟩ : S59) )) (Reps.none _ _))); intro v214 w14 ho15 hb hg_ hnew_; clear hg_ hnew_; (first | rw [← Ny213.out] at ho15 | (simp only [Int.reduceToNat] at ho15; rw [← Ny213.out] at ho15)); have n0_ := Aside0.mk (Kd.qg1 z6_2 (Kd.qn1 ho15) hb); have n1_ := Aside0.mk (Kd.qh1 (Kd.qm1 (Kd.R_newM (M := fun k_ => (P1_2_ k_ ∨ w.heap.size ≤ k_)) ho15 (by first | exact HK.out.1 | exact (show Kept w _ (fun k_ => P1_2_ k_) from z6_3).1) (fun k_ h_ => .inr h_)) (Kd.R_lt z6_2)) (qn0 z6_14)); have n2_ := Aside0.mk (qf0 (g := gb211) (o := .cells #[.int .i64 a1_0, .int .i64 a1_1, .slice Ao9 l1_2.length co9, .int .i64 a1_3] 37 (0, 0)) z6_8 hb); have n3_ := Aside0.mk (qf0 (g := gb212) (o := .cells #[.int .i64 0, .int .i64 0, .slice none 0 0, .int .i64 0] 37 (0, 0)) z6_28 hb); have n4_ := Aside0.mk (Kept.below (S := (fun k_ => P1_2_ k_)) z6_3 hb); have n5_ := Aside0.mk (qg0 z6_14 hb); clear HO1_2; clear BK211; clear BK212; clear HK; clear HB; have HO1_2 := n0_; have HO215 := n1_; have BK211 := n2_; have BK212 := n3_; have HK := n4_; have HB := n5_; clear n0_ n1_ n2_ n3_ n4_ n5_; clear hb ho15; obtain ⟨Ao16, co16, eo16⟩ := Kd.qb1 HO215.out; subst eo16; have hcz17_0 : w14.cell? ⟨gb211, 0, none⟩ = some (.int .i64 a1_0) := (qb0 BK211.out 0).trans rfl; have hcz17_1 : w14.cell? ⟨gb211, 1, none⟩ = some (.int .i64 a1_1) := (qb0 BK211.out 1).trans rfl; have hcz17_2 : w14.cell? ⟨gb211, 2, none⟩ = some (.slice Ao9 l1_2.length co9) := (qb0 BK211.out 2).trans rfl; have hcz17_3 : w14.cell? ⟨gb211, 3, none⟩ = some (.int .i64 a1_3) := (qb0 BK211.out 3).trans rfl; have hfz17_0 := qa0 BK211.out 0; have hfz17_1 := qa0 BK211.out 1; have hfz17_2 := qa0 BK211.out 2; have hfz17_3 := qa0 BK211.out 3) | ((with_reducible refine gate_store (t := 35) (p := 15) rfl ?_); refine store_event (t := 35) (p := 15) (v := ?vo_w18) (w1 := (w14.setCell ⟨gb211, 2, none⟩ (.slice Ao16 y213.length co16))) ?hg ?ho ?hn ?hr ?_; (case ho => rfl); (case hg => rfl); (case hn => rfl); (case hr => exact z6_19); intro w18 hw; have n0_ : Aside0 (Kd.R k59 59 w18 w0.heap.size (fun k_ => (P1_2_ k_ ∨ w.heap.size ≤ k_) ∧ some k_ ≠ (.slice Ao16 y213.length co16 : Value).ownBlock) (.slice Ao9 l1_2.length co9) l1_2) := ⟨(by rw [hw]; exact (by (with_reducible repeat (first | apply Kd.qu0 | apply Kd.qt0 | apply Kd.qx0)); exact Kd.qw0 (Kd.R_far (p := ⟨gb211, 2, none⟩) (Kd.qz0 HO1_2.out BK211.out (by decide)) (fun _ hk => hk.2) (.slice Ao16 y213.length co16)) (fun _ hk => ⟨hk.1.1, hk.1.2⟩)))⟩; have n1_ : Aside0 (Kd.R k59 59 w18 w0.heap.size (fun k_ => (P1_2_ k_ ∨ w.heap.size ≤ k_) ∧ some k_ ≠ (.slice Ao9 l1_2.length co9 : Value).ownBlock) (.slice Ao16 y213.length co16) y213) := ⟨(by rw [hw]; exact (by (with_reducible repeat (first | apply Kd.qu0 | apply Kd.qt0 | apply Kd.qx0)); exact Kd.qw0 (Kd.R_far (p := ⟨gb211, 2, none⟩) (Kd.qz0 HO215.out BK211.out (by decide)) (fun _ hk => hk.2) (.slice Ao16 y213.length co16)) (fun _ hk => ⟨hk.1.1.1, hk.1.2⟩)))⟩; have n2_ : Aside0 (w18.heap[gb211]? = some (.cells #[.int .i64 a1_0, .int .i64 a1_1, .slice Ao16 y213.length co16, .int .i64 a1_3] 37 (0, 0))) := ⟨(by rw [hw]; exact (by (with_reducible repeat (first | refine qc0 ?_ _ | refine qe0 ?_ | refine qd0 ?_ _)); refine qm0 (cs := #[.int .i64 a1_0, .int .i64 a1_1, .slice Ao9 l1_2.length co9, .int .i64 a1_3]) ?_ 2 _ rfl; (with_reducible repeat (first | refine qc0 ?_ _ | refine qe0 ?_ | refine qd0 ?_ _)); exact BK211.out))⟩; have n3_ : Aside0 (w18.heap[gb212]? = some (.cells #[.int .i64 0, .int .i64 0, .slice none 0 0, .int .i64 0] 37 (0, 0))) := ⟨(by rw [hw]; exact (by (with_reducible repeat (first | refine qc0 ?_ _ | refine qe0 ?_ | refine qd0 ?_ _)); refine qv0 ?_ NB212_211.out _; (with_reducible repeat (first | refine qc0 ?_ _ | refine qe0 ?_ | refine qd0 ?_ _)); exact BK212.out))⟩; have n4_ : Aside0 (Kept w w18 (fun k_ => P1_2_ k_)) := ⟨(by rw [hw]; exact z6_3)⟩; have n5_ : Aside0 (Below w0.heap.size w0 w18) := ⟨(by rw [hw]; exact z6_14)⟩; clear hw; clear HO1_2; clear HO215; clear BK211; clear BK212; clear HK; clear HB; have HO1_2 := n0_; have HO215 := n1_; have BK211 := n2_; have BK212 := n3_; have HK := n4_; have HB := n5_; clear n0_ n1_ n2_ n3_ n4_ n5_; have hcz19_0 : w18.cell? ⟨gb211, 0, none⟩ = some (.int .i64 a1_0) := (qb0 BK211.out 0).trans rfl; have hcz19_1 : w18.cell? ⟨gb211, 1, none⟩ = some (.int .i64 a1_1) := (qb0 BK211.out 1).trans rfl; have hcz19_2 : w18.cell? ⟨gb211, 2, none⟩ = some (.slice Ao16 y213.length co16) := (qb0 BK211.out 2).trans rfl; have hcz19_3 : w18.cell? ⟨gb211, 3, none⟩ = some (.int .i64 a1_3) := (qb0 BK211.out 3).trans rfl; have hfz19_0 := qa0 BK211.out 0; have hfz19_1 := qa0 BK211.out 1; have hfz19_2 := qa0 BK211.out 2; have hfz19_3 := qa0 BK211.out 3; have p216 : 0 ≤ (0 : Int) := (by omega); have q216 : 0 < (y213.length : Int) := of_decide_eq_true z6_15; obtain ⟨ad216, e216, hx216_0, hx216_1⟩ := at_T59 (Kd.qq0 HO215.out).2.2 0 p216 q216; cases e216; have qi216 : (0 < y213.length) = True := eq_true (by omega); (try rw [show ((0 : Int)).toNat = 0 from rfl] at hx216_0); (try rw [show 0 * 2 = 0 from rfl] at hx216_0); (try rw [Addr.add_zero'] at hx216_0); (try rw [show ((0 : Int)).toNat = 0 from rfl] at hx216_1); (try rw [show 0 * 2 = 0 from rfl] at hx216_1); (try rw [Addr.add_zero'] at hx216_1); replace p216 := eq_true p216; replace q216 := eq_true q216; have p7 : 0 ≤ (0 : Int) := (by omega); have q7 : (0 : Int) < ((y213.length : Int) : Int) := of_decide_eq_true z6_15; have qi7 : (0 < y213.length) = True := eq_true (by omega); obtain ⟨go7, co7, eo7, gb7, gl7, cl7, HG7⟩ := Kd.R_form HO215.out (by omega); (first | cases eo7 | (injection eo7 with ea_ en_ ec_; (first | subst ea_ | (injection ea_ with ea_; subst ea_)); subst ec_; clear en_)); have GB7 := Aside0.mk gb7; have GG7 := Aside0.mk HG7; clear gb7 gl7 HG7; have HMgo7 := Aside0.mk (show (P1_2_ go7 ∨ w.heap.size ≤ go7) from (HO215.out.1 _ rfl).1); (first | simp only [add_plain] at hx216_0 | skip); (first | simp only [add_plain] at hx216_1 | skip); obtain ⟨ce7, hcl7, hM7, hcc7, hfr7⟩ := Kd.R_elem HO215.out z59 (0 : Int) p7 q7; obtain rfl := k59_openM hM7; have hx7_0 : w18.cell? ⟨go7, (0 : Int).toNat * 2, none⟩ = some (.int .i64 ((rd_T59 y213 0).f0)) := hcc7 0 _ rfl; have hx7_1 : w18.cell? ⟨go7, (0 : Int).toNat * 2 + 1, none⟩ = some (.int .i64 ((rd_T59 y213 0).f1)) := hcc7 1 _ rfl; have hf7_0 : w18.frozen? ⟨go7, (0 : Int).toNat * 2, none⟩ = false := hfr7 0; have hf7_1 : w18.frozen? ⟨go7, (0 : Int).toNat * 2 + 1, none⟩ = false := hfr7 1; clear hcl7 hcc7 hfr7 hM7; (try rw [show ((0 : Int)).toNat = 0 from rfl] at hx7_0); (try simp only [Nat.reduceMul, Nat.zero_mul, Nat.zero_add, Nat.reduceAdd] at hx7_0); (try rw [show ((0 : Int)).toNat = 0 from rfl] at hf7_0); (try simp only [Nat.reduceMul, Nat.zero_mul, Nat.zero_add, Nat.reduceAdd] at hf7_0); (try rw [show ((0 : Int)).toNat = 0 from rfl] at hx7_1); (try simp only [Nat.reduceMul, Nat.zero_mul, Nat.zero_add, Nat.reduceAdd] at hx7_1); (try rw [show ((0 : Int)).toNat = 0 from rfl] at hf7_1); (try simp only [Nat.reduceMul, Nat.zero_mul, Nat.zero_add, Nat.reduceAdd] at hf7_1); replace p7 := eq_true p7; replace q7 := eq_true q7; have HX20 := Aside0.mk (show Kd.R k59 59 w18 w0.heap.size (fun k_ => (P1_2_ k_ ∨ w.heap.size ≤ k_) ∧ some k_ ≠ (.slice Ao9 l1_2.length co9 : Value).ownBlock) (.slice (some ⟨go7, 0, none⟩) y213.length co16) y213 from (by (with_reducible repeat (first | apply Kd.qu0 | apply Kd.qt0 | apply Kd.qx0)); exact HO215.out)); obtain ⟨ce20, hcl20, hM20, hcc20, hfr20⟩ := Kd.R_elem HX20.out z59 (0 : Int) (by omega) (by have h_ : (0 : Int) < ((y213.length : Int) : Int) := of_decide_eq_true z6_15; first | exact h_ | (have e_ := (Kd.qq0 HO215.out).1; omega) | simpa using h_); obtain rfl := k59_openM hM20; have HP20 := Kd.R_seg HX20.out (0 : Int) (by omega) (by have h_ : (0 : Int) < ((y213.length : Int) : Int) := of_decide_eq_true z6_15; first | exact h_ | (have e_ := (Kd.qq0 HO215.out).1; omega) | simpa using h_) (seg := [.int .i64 (wrap64 (((rd_T59 y213 0).f0) + a2))]) (j := 0) hcl20 hcc20 (show 1 ≤ 2 from by decide) (x' := (⟨wrap64 (((rd_T59 y213 0).f0) + a2), (rd_T59 y213 0).f1⟩ : S59)) (k59_mkM _ _ _ (⟨wrap64 (((rd_T59 y213 0).f0) + a2), (rd_T59 y213 0).f1⟩ : S59) ) (fun _ hk => hk); have hx20_0 := hcc20 0 _ rfl; (try simp only [show (k59).sz = 2 from rfl, Nat.mul_one, Nat.add_zero] at hx20_0); (try rw [show ((0 : Int)).toNat = 0 from rfl] at hx20_0); (try simp only [Nat.reduceMul, Nat.zero_mul, Nat.zero_add, Nat.reduceAdd] at hx20_0); have hf20_0 := hfr20 0; (try simp only [show (k59).sz = 2 from rfl, Nat.mul_one, Nat.add_zero] at hf20_0); (try rw [show ((0 : Int)).toNat = 0 from rfl] at hf20_0); (try simp only [Nat.reduceMul, Nat.zero_mul, Nat.zero_add, Nat.reduceAdd] at hf20_0); clear hcl20 hcc20 hfr20 hM20) | ((with_reducible refine gate_store (t := 3) (p := 24) rfl ?_); refine store_event (t := 3) (p := 24) (v := ?vo_w21) (w1 := (w18.setCell ⟨go7, 0, none⟩ (.int .i64 (wrap64 (((rd_T59 y213 0).f0) + a2))))) ?hg ?ho ?hn ?hr ?_; (case ho => rfl); (case hg => rfl); (case hn => rfl); (case hr => exact z6_19); intro w21 hw; have hg : w18.grownBy w21 (some go7) := (by rw [hw]; exact HP20.2); have hp_ : Kd.R k59 59 w21 w0.heap.size (fun k_ => (P1_2_ k_ ∨ w.heap.size ≤ k_) ∧ some k_ ≠ (.slice Ao9 l1_2.length co9 : Value).ownBlock) (.slice (some ⟨go7, 0, none⟩) y213.length co16) y217 := (by rw [hw, Ny217.out]; exact HP20.1); clear HP20; have n0_ := Aside0.mk (Kd.R_after (v := (.slice (some ⟨go7, 0, none⟩) y213.length co16)) (v1 := (.slice (some ⟨go7, 0, none⟩) y213.length co16)) (ok := (fun k_ => (P1_2_ k_ ∨ w.heap.size ≤ k_))) z6_2 hg (.inl rfl)); have n1_ := Aside0.mk (qa1 (g := gb211) (o := .cells #[.int .i64 a1_0, .int .i64 a1_1, .slice (some ⟨go7, 0, none⟩) y213.length co16, .int .i64 a1_3] 37 (0, 0)) z6_8 hg (Kd.R_ne HO215.out BK211.out (by decide))); have n2_ := Aside0.mk (qa1 (g := gb212) (o := .cells #[.int .i64 0, .int .i64 0, .slice none 0 0, .int .i64 0] 37 (0, 0)) z6_28 hg (Kd.R_ne HO215.out BK212.out (by decide))); have n3_ := Aside0.mk (hp_); have n4_ := Aside0.mk ((by rw [hw]; exact ql0 (HB.out) GB7.out : Below w0.heap.size w0 w21)); have n5_ := Aside0.mk (Kept.of_grown (S := (fun k_ => P1_2_ k_)) hg z6_3 (fun k_ e_ => (HO215.out.1 k_ e_).1)); clear HO1_2; clear BK211; clear BK212; clear HO215; clear HB; clear HK; have HO1_2 := n0_; have BK211 := n1_; have BK212 := n2_; have HO215 := n3_; have HB := n4_; have HK := n5_; clear n0_ n1_ n2_ n3_ n4_ n5_; clear hg hw hp_; have hcz22_0 : w21.cell? ⟨gb211, 0, none⟩ = some (.int .i64 a1_0) := (qb0 BK211.out 0).trans rfl; have hcz22_1 : w21.cell? ⟨gb211, 1, none⟩ = some (.int .i64 a1_1) := (qb0 BK211.out 1).trans rfl; have hcz22_2 : w21.cell? ⟨gb211, 2, none⟩ = some (.slice (some ⟨go7, 0, none⟩) y213.length co16) := (qb0 BK211.out 2).trans rfl; have hcz22_3 : w21.cell? ⟨gb211, 3, none⟩ = some (.int .i64 a1_3) := (qb0 BK211.out 3).trans rfl; have hfz22_0 := qa0 BK211.out 0; have hfz22_1 := qa0 BK211.out 1; have hfz22_2 := qa0 BK211.out 2; have hfz22_3 := qa0 BK211.out 3; have p218 : 0 ≤ (0 : Int) := (by omega); have q218 : 0 < (y217.length : Int) := (by have h_ : (0 : Int) < ((y213.length : Int) : Int) := of_decide_eq_true z6_15; first | (have e_ := (Kd.qq0 HO215.out).1; omega) | simpa only [Ny217.out, List.length_set] using h_); have ql218 : ((0 : Int) < ((y213.length : Int) : Int)) = True := eq_true (of_decide_eq_true z6_15); (try have qn218 : (0 < y213.length) = True := eq_true (by have h_ : (0 : Int) < ((y213.length : Int) : Int) := of_decide_eq_true z6_15; omega)); obtain ⟨ad218, e218, hx218_0, hx218_1⟩ := at_T59 (Kd.qq0 HO215.out).2.2 0 p218 q218; obtain rfl : (⟨go7, 0, none⟩ : Addr) = ad218 := (by injection e218); (first | simp only [add_plain] at hx218_0 | simp only [add_at] at hx218_0 | simp only [Addr.add, Nat.zero_add] at hx218_0 | skip); (first | simp only [add_plain] at hx218_1 | simp only [add_at] at hx218_1 | simp only [Addr.add, Nat.zero_add] at hx218_1 | skip); have qi218 : (0 < y217.length) = True := eq_true (by omega); (try rw [show ((0 : Int)).toNat = 0 from rfl] at hx218_0); (try rw [show 0 * 2 = 0 from rfl] at hx218_0); (try rw [Addr.add_zero'] at hx218_0); (try rw [show ((0 : Int)).toNat = 0 from rfl] at hx218_1); (try rw [show 0 * 2 = 0 from rfl] at hx218_1); (try rw [Addr.add_zero'] at hx218_1); replace p218 := eq_true p218; replace q218 := eq_true q218; have p8 : 0 ≤ (0 : Int) := (by omega); have q8 : (0 : Int) < ((y213.length : Int) : Int) := of_decide_eq_true z6_15; have qi8 : (0 < y213.length) = True := eq_true (by omega); obtain ⟨ce8, hcl8, hM8, hcc8, hfr8⟩ := Kd.R_elem HO215.out z59 (0 : Int) p8 q8; obtain rfl := k59_openM hM8; have hx8_0 : w21.cell? ⟨go7, (0 : Int).toNat * 2, none⟩ = some (.int .i64 ((rd_T59 y217 0).f0)) := hcc8 0 _ rfl; have hx8_1 : w21.cell? ⟨go7, (0 : Int).toNat * 2 + 1, none⟩ = some (.int .i64 ((rd_T59 y217 0).f1)) := hcc8 1 _ rfl; have hf8_0 : w21.frozen? ⟨go7, (0 : Int).toNat * 2, none⟩ = false := hfr8 0; have hf8_1 : w21.frozen? ⟨go7, (0 : Int).toNat * 2 + 1, none⟩ = false := hfr8 1; clear hcl8 hcc8 hfr8 hM8; (try rw [show ((0 : Int)).toNat = 0 from rfl] at hx8_0); (try simp only [Nat.reduceMul, Nat.zero_mul, Nat.zero_add, Nat.reduceAdd] at hx8_0); (try rw [show ((0 : Int)).toNat = 0 from rfl] at hf8_0); (try simp only [Nat.reduceMul, Nat.zero_mul, Nat.zero_add, Nat.reduceAdd] at hf8_0); (try rw [show ((0 : Int)).toNat = 0 from rfl] at hx8_1); (try simp only [Nat.reduceMul, Nat.zero_mul, Nat.zero_add, Nat.reduceAdd] at hx8_1); (try rw [show ((0 : Int)).toNat = 0 from rfl] at hf8_1); (try simp only [Nat.reduceMul, Nat.zero_mul, Nat.zero_add, Nat.reduceAdd] at hf8_1); replace p8 := eq_true p8; replace q8 := eq_true q8; have HX23 := Aside0.mk (show Kd.R k59 59 w21 w0.heap.size (fun k_ => (P1_2_ k_ ∨ w.heap.size ≤ k_) ∧ some k_ ≠ (.slice Ao9 l1_2.length co9 : Value).ownBlock) (.slice (some ⟨go7, 0, none⟩) y213.length co16) y217 from (by (with_reducible repeat (first | apply Kd.qu0 | apply Kd.qt0 | apply Kd.qx0)); exact HO215.out)); obtain ⟨ce23, hcl23, hM23, hcc23, hfr23⟩ := Kd.R_elem HX23.out z59 (0 : Int) (by omega) (by have h_ : (0 : Int) < ((y213.length : Int) : Int) := of_decide_eq_true z6_15; first | exact h_ | (have e_ := (Kd.qq0 HO215.out).1; omega) | simpa using h_); obtain rfl := k59_openM hM23; have HP23 := Kd.R_seg HX23.out (0 : Int) (by omega) (by have h_ : (0 : Int) < ((y213.length : Int) : Int) := of_decide_eq_true z6_15; first | exact h_ | (have e_ := (Kd.qq0 HO215.out).1; omega) | simpa using h_) (seg := [.int .i64 (wrap64 (((rd_T59 y217 0).f1) + a3))]) (j := 1) hcl23 hcc23 (show 2 ≤ 2 from by decide) (x' := (⟨(rd_T59 y217 0).f0, wrap64 (((rd_T59 y217 0).f1) + a3)⟩ : S59)) (k59_mkM _ _ _ (⟨(rd_T59 y217 0).f0, wrap64 (((rd_T59 y217 0).f1) + a3)⟩ : S59) ) (fun _ hk => hk); have hx23_1 := hcc23 1 _ rfl; (try simp only [show (k59).sz = 2 from rfl, Nat.mul_one, Nat.add_zero] at hx23_1); (try rw [show ((0 : Int)).toNat = 0 from rfl] at hx23_1); (try simp only [Nat.reduceMul, Nat.zero_mul, Nat.zero_add, Nat.reduceAdd] at hx23_1); have hf23_1 := hfr23 1; (try simp only [show (k59).sz = 2 from rfl, Nat.mul_one, Nat.add_zero] at hf23_1); (try rw [show ((0 : Int)).toNat = 0 from rfl] at hf23_1); (try simp only [Nat.reduceMul, Nat.zero_mul, Nat.zero_add, Nat.reduceAdd] at hf23_1); clear hcl23 hcc23 hfr23 hM23) | ((with_reducible refine gate_store (t := 3) (p := 33) rfl ?_); refine store_event (t := 3) (p := 33) (v := ?vo_w24) (w1 := (w21.setCell ⟨go7, 1, none⟩ (.int .i64 (wrap64 (((rd_T59 y217 0).f1) + a3))))) ?hg ?ho ?hn ?hr ?_; (case ho => rfl); (case hg => rfl); (case hn => rfl); (case hr => exact z6_19); intro w24 hw; have hg : w21.grownBy w24 (some go7) := (by rw [hw]; exact HP23.2); have hp_ : Kd.R k59 59 w24 w0.heap.size (fun k_ => (P1_2_ k_ ∨ w.heap.size ≤ k_) ∧ some k_ ≠ (.slice Ao9 l1_2.length co9 : Value).ownBlock) (.slice (some ⟨go7, 0, none⟩) y213.length co16) y219 := (by rw [hw, Ny219.out]; exact HP23.1); clear HP23; have n0_ := Aside0.mk (Kd.R_after (v := (.slice (some ⟨go7, 0, none⟩) y213.length co16)) (v1 := (.slice (some ⟨go7, 0, none⟩) y213.length co16)) (ok := (fun k_ => (P1_2_ k_ ∨ w.heap.size ≤ k_))) z6_2 hg (.inl rfl)); have n1_ := Aside0.mk (qa1 (g := gb211) (o := .cells #[.int .i64 a1_0, .int .i64 a1_1, .slice (some ⟨go7, 0, none⟩) y213.length co16, .int .i64 a1_3] 37 (0, 0)) z6_8 hg (Kd.R_ne HO215.out BK211.out (by decide))); have n2_ := Aside0.mk (qa1 (g := gb212) (o := .cells #[.int .i64 0, .int .i64 0, .slice none 0 0, .int .i64 0] 37 (0, 0)) z6_28 hg (Kd.R_ne HO215.out BK212.out (by decide))); have n3_ := Aside0.mk (hp_); have n4_ := Aside0.mk ((by rw [hw]; exact ql0 (HB.out) GB7.out : Below w0.heap.size w0 w24)); have n5_ := Aside0.mk (Kept.of_grown (S := (fun k_ => P1_2_ k_)) hg z6_3 (fun k_ e_ => (HO215.out.1 k_ e_).1)); clear HO1_2; clear BK211; clear BK212; clear HO215; clear HB; clear HK; have HO1_2 := n0_; have BK211 := n1_; have BK212 := n2_; have HO215 := n3_; have HB := n4_; have HK := n5_; clear n0_ n1_ n2_ n3_ n4_ n5_; clear hg hw hp_; have hcz25_0 : w24.cell? ⟨gb211, 0, none⟩ = some (.int .i64 a1_0) := (qb0 BK211.out 0).trans rfl; have hcz25_1 : w24.cell? ⟨gb211, 1, none⟩ = some (.int .i64 a1_1) := (qb0 BK211.out 1).trans rfl; have hcz25_2 : w24.cell? ⟨gb211, 2, none⟩ = some (.slice (some ⟨go7, 0, none⟩) y213.length co16) := (qb0 BK211.out 2).trans rfl; have hcz25_3 : w24.cell? ⟨gb211, 3, none⟩ = some (.int .i64 a1_3) := (qb0 BK211.out 3).trans rfl; have hfz25_0 := qa0 BK211.out 0; have hfz25_1 := qa0 BK211.out 1; have hfz25_2 := qa0 BK211.out 2; have hfz25_3 := qa0 BK211.out 3; have hcz26_0 : w24.cell? ⟨gb212, 0, none⟩ = some (.int .i64 0) := (qb0 BK212.out 0).trans rfl; have hcz26_1 : w24.cell? ⟨gb212, 1, none⟩ = some (.int .i64 0) := (qb0 BK212.out 1).trans rfl; have hcz26_2 : w24.cell? ⟨gb212, 2, none⟩ = some (.slice none 0 0) := (qb0 BK212.out 2).trans rfl; have hcz26_3 : w24.cell? ⟨gb212, 3, none⟩ = some (.int .i64 0) := (qb0 BK212.out 3).trans rfl; have hfz26_0 := qa0 BK212.out 0; have hfz26_1 := qa0 BK212.out 1; have hfz26_2 := qa0 BK212.out 2; have hfz26_3 := qa0 BK212.out 3))
  refine bodyPost_ret (results_cell_row rfl _ _ gb212 37 #[.int .i64 a1_0, .int .i64 a1_1, .slice (some ⟨go7, 0, none⟩) y213.length co16, .int .i64 a1_3] (0, 0) _ rfl (by (with_reducible repeat (first | refine qc0 ?_ _ | refine qe0 ?_ | refine qd0 ?_ _)); refine qm0 (cs := #[.int .i64 a1_0, .int .i64 a1_1, .slice (some ⟨go7, 0, none⟩) y213.length co16, .int .i64 0]) ?_ 3 _ rfl; (with_reducible repeat (first | refine qc0 ?_ _ | refine qe0 ?_ | refine qd0 ?_ _)); refine qm0 (cs := #[.int .i64 a1_0, .int .i64 a1_1, .slice none 0 0, .int .i64 0]) ?_ 2 _ rfl; (with_reducible repeat (first | refine qc0 ?_ _ | refine qe0 ?_ | refine qd0 ?_ _)); refine qm0 (cs := #[.int .i64 a1_0, .int .i64 0, .slice none 0 0, .int .i64 0]) ?_ 1 _ rfl; (with_reducible repeat (first | refine qc0 ?_ _ | refine qe0 ?_ | refine qd0 ?_ _)); refine qm0 (cs := #[.int .i64 0, .int .i64 0, .slice none 0 0, .int .i64 0]) ?_ 0 _ rfl; (with_reducible repeat (first | refine qc0 ?_ _ | refine qe0 ?_ | refine qd0 ?_ _)); exact BK212.out) Try.underlying37 rfl z6_23) rfl ?_
  exact ⟨_, z6_20, by (with_reducible repeat (first | apply Kd.qu0 | apply Kd.qt0 | apply Kd.qx0)); exact Kd.qw0 (Kd.R_far (p := ⟨gb212, 3, none⟩) (Kd.R_far (p := ⟨gb212, 2, none⟩) (Kd.R_far (p := ⟨gb212, 1, none⟩) (Kd.R_far (p := ⟨gb212, 0, none⟩) (Kd.qz0 HO215.out BK212.out (by decide)) (fun _ hk => hk.2) (.int .i64 a1_0)) (fun _ hk => hk.2) (.int .i64 a1_1)) (fun _ hk => hk.2) (.slice (some ⟨go7, 0, none⟩) y213.length co16)) (fun _ hk => hk.2) (.int .i64 a1_3)) (fun _ hk => hk.1.1), z6_14, z6_3⟩
 rw [if_neg c5] at H
 have c5b0 : ((l1_2.length : Int) == 0) = false := beq_eq_false_iff_ne.mpr c5
 have c5b1 : ((l1_2.length : Int) != 0) = true := bne_iff_ne.mpr c5
 have c5b2 : ¬ (l1_2 = []) := fun h_ => c5 (by rw [h_]; rfl)
 by_cases c27 : 0 < (l1_2.length : Int)
 case neg => rw [if_neg c27] at H; exact absurd H (by simp)
 rw [if_pos c27] at H
 have c27b0 : decide (0 < (l1_2.length : Int)) = true := decide_eq_true c27
 have c27b1 : decide (0 < l1_2.length) = true := decide_eq_true (by omega)
 clear c27
 obtain ⟨y221, hy221⟩ : ∃ y_ : List (S59), y_ = (l1_2.set (0 : Int).toNat (⟨wrap64 (((rd_T59 l1_2 0).f0) + a2), (rd_T59 l1_2 0).f1⟩ : S59)) := ⟨_, rfl⟩
 replace H : (some (a1_0, a1_1, (y221.set (0 : Int).toNat (⟨(rd_T59 y221 0).f0, wrap64 (((rd_T59 y221 0).f1) + a3)⟩ : S59)), a1_3)) = some (r1, r2, r3, r4) := by first | (rw [hy221]; with_reducible exact H) | (have H2_ := (Option.bind_some _ _).symm.trans H; rw [hy221]; with_reducible exact H2_) | (have H2_ := (Option.bind_some _ _).symm.trans H; with_reducible exact H2_) | with_reducible exact H | (rw [hy221]; exact H) | exact H
 have Ny221 := Aside0.mk hy221
 clear hy221
 obtain ⟨y223, hy223⟩ : ∃ y_ : List (S59), y_ = (y221.set (0 : Int).toNat (⟨(rd_T59 y221 0).f0, wrap64 (((rd_T59 y221 0).f1) + a3)⟩ : S59)) := ⟨_, rfl⟩
 replace H : (some (a1_0, a1_1, y223, a1_3)) = some (r1, r2, r3, r4) := by first | (rw [hy223]; with_reducible exact H) | (have H2_ := (Option.bind_some _ _).symm.trans H; rw [hy223]; with_reducible exact H2_) | (have H2_ := (Option.bind_some _ _).symm.trans H; with_reducible exact H2_) | with_reducible exact H | (rw [hy223]; exact H) | exact H
 have Ny223 := Aside0.mk hy223
 clear hy223
 simp only [Option.some.injEq, Prod.mk.injEq] at H
 obtain ⟨rfl, rfl, rfl, rfl⟩ := H
 obtain ⟨Ao30, co30, eo30⟩ := Kd.qb1 HO1_2.out
 subst eo30
 go_enter Try.func80, Try.ntmps80
 go_wp2_with (first | ((with_reducible refine qr0 (N := 4) rfl ?_); refine qo0 ?hg (N := 4) ?hd (cs := #[]) (t := 82) ?hr ?_; (case hd => rfl); (case hg => rfl); (case hr => exact z6_19); intro gbz hg wz hbox hb; have n0_ := Aside0.mk (Kd.qp0 z6_2 hb); have n1_ := Aside0.mk (Kept.below (S := (fun k_ => P1_2_ k_)) z6_4 hb); have n2_ := Aside0.mk (qg0 z6_1 hb); clear HO1_2; clear HK; clear HB; have HO1_2 := n0_; have HK := n1_; have HB := n2_; clear n0_ n1_ n2_; clear hb hbox hg) | ((with_reducible refine qr0 (N := 5) rfl ?_); refine qo0 ?hg (N := 5) ?hd (cs := #[.int .i64 a1_0, .int .i64 a1_1, .slice Ao30 l1_2.length co30, .int .i64 a1_3]) (t := 37) ?hr ?_; (case hd => rfl); (case hg => rfl); (case hr => exact z6_19); intro gb211 hg w31 hbox hb; have n0_ := Aside0.mk (Kd.qp0 z6_2 hb); have n1_ := Aside0.mk (Kept.below (S := (fun k_ => P1_2_ k_)) z6_4 hb); have n2_ := Aside0.mk (qg0 z6_1 hb); have n3_ := Aside0.mk (hbox); have n4_ := Aside0.mk ((z6_11 : w.heap.size ≤ gb211)); have n5_ := Aside0.mk ((z6_10 : w0.heap.size ≤ gb211)); clear HO1_2; clear HK; clear HB; have HO1_2 := n0_; have HK := n1_; have HB := n2_; have BK211 := n3_; have GW211 := n4_; have GE211 := n5_; clear n0_ n1_ n2_ n3_ n4_ n5_; clear hb hbox hg) | ((with_reducible refine qr0 (N := 8) rfl ?_); refine qo0 ?hg (N := 8) ?hd (cs := #[.int .i64 0, .int .i64 0, .slice none 0 0, .int .i64 0]) (t := 37) ?hr ?_; (case hd => rfl); (case hg => rfl); (case hr => exact z6_19); intro gb212 hg w32 hbox hb; have n0_ := Aside0.mk (Kd.qp0 z6_2 hb); have n1_ := Aside0.mk (qf0 (g := gb211) (o := .cells #[.int .i64 a1_0, .int .i64 a1_1, .slice Ao30 l1_2.length co30, .int .i64 a1_3] 37 (0, 0)) z6_8 hb); have n2_ := Aside0.mk (Kept.below (S := (fun k_ => P1_2_ k_)) z6_21 hb); have n3_ := Aside0.mk (qg0 z6_22 hb); have n4_ := Aside0.mk (hbox); have n5_ := Aside0.mk ((z6_29 : w.heap.size ≤ gb212)); have n6_ := Aside0.mk ((z6_36 : w0.heap.size ≤ gb212)); have n7_ := Aside0.mk ((by rw [hg]; exact Nat.ne_of_lt (qe1 (g := gb211) (o := .cells #[.int .i64 a1_0, .int .i64 a1_1, .slice Ao30 l1_2.length co30, .int .i64 a1_3] 37 (0, 0)) z6_8) : gb211 ≠ gb212)); have n8_ := Aside0.mk ((by rw [hg]; exact Nat.ne_of_gt (qe1 (g := gb211) (o := .cells #[.int .i64 a1_0, .int .i64 a1_1, .slice Ao30 l1_2.length co30, .int .i64 a1_3] 37 (0, 0)) z6_8) : gb212 ≠ gb211)); clear HO1_2; clear BK211; clear HK; clear HB; have HO1_2 := n0_; have BK211 := n1_; have HK := n2_; have HB := n3_; have BK212 := n4_; have GW212 := n5_; have GE212 := n6_; have NB211_212 := n7_; have NB212_211 := n8_; clear n0_ n1_ n2_ n3_ n4_ n5_ n6_ n7_ n8_; clear hb hbox hg; have hnb33 := NB211_212.out; have hnc33 := NB212_211.out; have hcz34_0 : w32.cell? ⟨gb211, 0, none⟩ = some (.int .i64 a1_0) := (qb0 BK211.out 0).trans rfl; have hcz34_1 : w32.cell? ⟨gb211, 1, none⟩ = some (.int .i64 a1_1) := (qb0 BK211.out 1).trans rfl; have hcz34_2 : w32.cell? ⟨gb211, 2, none⟩ = some (.slice Ao30 l1_2.length co30) := (qb0 BK211.out 2).trans rfl; have hcz34_3 : w32.cell? ⟨gb211, 3, none⟩ = some (.int .i64 a1_3) := (qb0 BK211.out 3).trans rfl; have hfz34_0 := qa0 BK211.out 0; have hfz34_1 := qa0 BK211.out 1; have hfz34_2 := qa0 BK211.out 2; have hfz34_3 := qa0 BK211.out 3; have p220 : 0 ≤ (0 : Int) := (by omega); have q220 : 0 < (l1_2.length : Int) := of_decide_eq_true z6_15; obtain ⟨ad220, e220, hx220_0, hx220_1⟩ := at_T59 (Kd.qq0 HO1_2.out).2.2 0 p220 q220; cases e220; have qi220 : (0 < l1_2.length) = True := eq_true (by omega); (try rw [show ((0 : Int)).toNat = 0 from rfl] at hx220_0); (try rw [show 0 * 2 = 0 from rfl] at hx220_0); (try rw [Addr.add_zero'] at hx220_0); (try rw [show ((0 : Int)).toNat = 0 from rfl] at hx220_1); (try rw [show 0 * 2 = 0 from rfl] at hx220_1); (try rw [Addr.add_zero'] at hx220_1); replace p220 := eq_true p220; replace q220 := eq_true q220; have p28 : 0 ≤ (0 : Int) := (by omega); have q28 : (0 : Int) < ((l1_2.length : Int) : Int) := of_decide_eq_true z6_15; have qi28 : (0 < l1_2.length) = True := eq_true (by omega); obtain ⟨go28, co28, eo28, gb28, gl28, cl28, HG28⟩ := Kd.R_form HO1_2.out (by omega); (first | cases eo28 | (injection eo28 with ea_ en_ ec_; (first | subst ea_ | (injection ea_ with ea_; subst ea_)); subst ec_; clear en_)); have GB28 := Aside0.mk gb28; have GG28 := Aside0.mk HG28; clear gb28 gl28 HG28; have HMgo28 := Aside0.mk (show (P1_2_ go28 ∨ w.heap.size ≤ go28) from (HO1_2.out.1 _ rfl)); (first | simp only [add_plain] at hx220_0 | skip); (first | simp only [add_plain] at hx220_1 | skip); obtain ⟨ce28, hcl28, hM28, hcc28, hfr28⟩ := Kd.R_elem HO1_2.out z59 (0 : Int) p28 q28; obtain rfl := k59_openM hM28; have hx28_0 : w32.cell? ⟨go28, (0 : Int).toNat * 2, none⟩ = some (.int .i64 ((rd_T59 l1_2 0).f0)) := hcc28 0 _ rfl; have hx28_1 : w32.cell? ⟨go28, (0 : Int).toNat * 2 + 1, none⟩ = some (.int .i64 ((rd_T59 l1_2 0).f1)) := hcc28 1 _ rfl; have hf28_0 : w32.frozen? ⟨go28, (0 : Int).toNat * 2, none⟩ = false := hfr28 0; have hf28_1 : w32.frozen? ⟨go28, (0 : Int).toNat * 2 + 1, none⟩ = false := hfr28 1; clear hcl28 hcc28 hfr28 hM28; (try rw [show ((0 : Int)).toNat = 0 from rfl] at hx28_0); (try simp only [Nat.reduceMul, Nat.zero_mul, Nat.zero_add, Nat.reduceAdd] at hx28_0); (try rw [show ((0 : Int)).toNat = 0 from rfl] at hf28_0); (try simp only [Nat.reduceMul, Nat.zero_mul, Nat.zero_add, Nat.reduceAdd] at hf28_0); (try rw [show ((0 : Int)).toNat = 0 from rfl] at hx28_1); (try simp only [Nat.reduceMul, Nat.zero_mul, Nat.zero_add, Nat.reduceAdd] at hx28_1); (try rw [show ((0 : Int)).toNat = 0 from rfl] at hf28_1); (try simp only [Nat.reduceMul, Nat.zero_mul, Nat.zero_add, Nat.reduceAdd] at hf28_1); replace p28 := eq_true p28; replace q28 := eq_true q28; have HX35 := Aside0.mk (show Kd.R k59 59 w32 w0.heap.size (fun k_ => (P1_2_ k_ ∨ w.heap.size ≤ k_)) (.slice (some ⟨go28, 0, none⟩) l1_2.length co30) l1_2 from z6_2); obtain ⟨ce35, hcl35, hM35, hcc35, hfr35⟩ := Kd.R_elem HX35.out z59 (0 : Int) (by omega) (by have h_ : (0 : Int) < ((l1_2.length : Int) : Int) := of_decide_eq_true z6_15; first | exact h_ | (have e_ := (Kd.qq0 HO1_2.out).1; omega) | simpa using h_); obtain rfl := k59_openM hM35; have HP35 := Kd.R_seg HX35.out (0 : Int) (by omega) (by have h_ : (0 : Int) < ((l1_2.length : Int) : Int) := of_decide_eq_true z6_15; first | exact h_ | (have e_ := (Kd.qq0 HO1_2.out).1; omega) | simpa using h_) (seg := [.int .i64 (wrap64 (((rd_T59 l1_2 0).f0) + a2))]) (j := 0) hcl35 hcc35 (show 1 ≤ 2 from by decide) (x' := (⟨wrap64 (((rd_T59 l1_2 0).f0) + a2), (rd_T59 l1_2 0).f1⟩ : S59)) (k59_mkM _ _ _ (⟨wrap64 (((rd_T59 l1_2 0).f0) + a2), (rd_T59 l1_2 0).f1⟩ : S59) ) (fun _ hk => hk); have hx35_0 := hcc35 0 _ rfl; (try simp only [show (k59).sz = 2 from rfl, Nat.mul_one, Nat.add_zero] at hx35_0); (try rw [show ((0 : Int)).toNat = 0 from rfl] at hx35_0); (try simp only [Nat.reduceMul, Nat.zero_mul, Nat.zero_add, Nat.reduceAdd] at hx35_0); have hf35_0 := hfr35 0; (try simp only [show (k59).sz = 2 from rfl, Nat.mul_one, Nat.add_zero] at hf35_0); (try rw [show ((0 : Int)).toNat = 0 from rfl] at hf35_0); (try simp only [Nat.reduceMul, Nat.zero_mul, Nat.zero_add, Nat.reduceAdd] at hf35_0); clear hcl35 hcc35 hfr35 hM35) | ((with_reducible refine gate_store (t := 3) (p := 24) rfl ?_); refine store_event (t := 3) (p := 24) (v := ?vo_w36) (w1 := (w32.setCell ⟨go28, 0, none⟩ (.int .i64 (wrap64 (((rd_T59 l1_2 0).f0) + a2))))) ?hg ?ho ?hn ?hr ?_; (case ho => rfl); (case hg => rfl); (case hn => rfl); (case hr => exact z6_19); intro w36 hw; have hg : w32.grownBy w36 (some go28) := (by rw [hw]; exact HP35.2); have hp_ : Kd.R k59 59 w36 w0.heap.size (fun k_ => (P1_2_ k_ ∨ w.heap.size ≤ k_)) (.slice (some ⟨go28, 0, none⟩) l1_2.length co30) y221 := (by rw [hw, Ny221.out]; exact HP35.1); clear HP35; have n0_ := Aside0.mk (hp_); have n1_ := Aside0.mk (qa1 (g := gb211) (o := .cells #[.int .i64 a1_0, .int .i64 a1_1, .slice (some ⟨go28, 0, none⟩) l1_2.length co30, .int .i64 a1_3] 37 (0, 0)) z6_8 hg (Kd.R_ne HO1_2.out BK211.out (by decide))); have n2_ := Aside0.mk (qa1 (g := gb212) (o := .cells #[.int .i64 0, .int .i64 0, .slice none 0 0, .int .i64 0] 37 (0, 0)) z6_28 hg (Kd.R_ne HO1_2.out BK212.out (by decide))); have n3_ := Aside0.mk ((by rw [hw]; exact ql0 (HB.out) GB28.out : Below w0.heap.size w0 w36)); have n4_ := Aside0.mk (Kept.of_grown (S := (fun k_ => P1_2_ k_)) hg z6_3 (fun k_ e_ => (HO1_2.out.1 k_ e_))); clear HO1_2; clear BK211; clear BK212; clear HB; clear HK; have HO1_2 := n0_; have BK211 := n1_; have BK212 := n2_; have HB := n3_; have HK := n4_; clear n0_ n1_ n2_ n3_ n4_; clear hg hw hp_; have hcz37_0 : w36.cell? ⟨gb211, 0, none⟩ = some (.int .i64 a1_0) := (qb0 BK211.out 0).trans rfl; have hcz37_1 : w36.cell? ⟨gb211, 1, none⟩ = some (.int .i64 a1_1) := (qb0 BK211.out 1).trans rfl; have hcz37_2 : w36.cell? ⟨gb211, 2, none⟩ = some (.slice (some ⟨go28, 0, none⟩) l1_2.length co30) := (qb0 BK211.out 2).trans rfl; have hcz37_3 : w36.cell? ⟨gb211, 3, none⟩ = some (.int .i64 a1_3) := (qb0 BK211.out 3).trans rfl; have hfz37_0 := qa0 BK211.out 0; have hfz37_1 := qa0 BK211.out 1; have hfz37_2 := qa0 BK211.out 2; have hfz37_3 := qa0 BK211.out 3; have p222 : 0 ≤ (0 : Int) := (by omega); have q222 : 0 < (y221.length : Int) := (by have h_ : (0 : Int) < ((l1_2.length : Int) : Int) := of_decide_eq_true z6_15; first | (have e_ := (Kd.qq0 HO1_2.out).1; omega) | simpa only [Ny221.out, List.length_set] using h_); have ql222 : ((0 : Int) < ((l1_2.length : Int) : Int)) = True := eq_true (of_decide_eq_true z6_15); (try have qn222 : (0 < l1_2.length) = True := eq_true (by have h_ : (0 : Int) < ((l1_2.length : Int) : Int) := of_decide_eq_true z6_15; omega)); obtain ⟨ad222, e222, hx222_0, hx222_1⟩ := at_T59 (Kd.qq0 HO1_2.out).2.2 0 p222 q222; obtain rfl : (⟨go28, 0, none⟩ : Addr) = ad222 := (by injection e222); (first | simp only [add_plain] at hx222_0 | simp only [add_at] at hx222_0 | simp only [Addr.add, Nat.zero_add] at hx222_0 | skip); (first | simp only [add_plain] at hx222_1 | simp only [add_at] at hx222_1 | simp only [Addr.add, Nat.zero_add] at hx222_1 | skip); have qi222 : (0 < y221.length) = True := eq_true (by omega); (try rw [show ((0 : Int)).toNat = 0 from rfl] at hx222_0); (try rw [show 0 * 2 = 0 from rfl] at hx222_0); (try rw [Addr.add_zero'] at hx222_0); (try rw [show ((0 : Int)).toNat = 0 from rfl] at hx222_1); (try rw [show 0 * 2 = 0 from rfl] at hx222_1); (try rw [Addr.add_zero'] at hx222_1); replace p222 := eq_true p222; replace q222 := eq_true q222; have p29 : 0 ≤ (0 : Int) := (by omega); have q29 : (0 : Int) < ((l1_2.length : Int) : Int) := of_decide_eq_true z6_15; have qi29 : (0 < l1_2.length) = True := eq_true (by omega); obtain ⟨ce29, hcl29, hM29, hcc29, hfr29⟩ := Kd.R_elem HO1_2.out z59 (0 : Int) p29 q29; obtain rfl := k59_openM hM29; have hx29_0 : w36.cell? ⟨go28, (0 : Int).toNat * 2, none⟩ = some (.int .i64 ((rd_T59 y221 0).f0)) := hcc29 0 _ rfl; have hx29_1 : w36.cell? ⟨go28, (0 : Int).toNat * 2 + 1, none⟩ = some (.int .i64 ((rd_T59 y221 0).f1)) := hcc29 1 _ rfl; have hf29_0 : w36.frozen? ⟨go28, (0 : Int).toNat * 2, none⟩ = false := hfr29 0; have hf29_1 : w36.frozen? ⟨go28, (0 : Int).toNat * 2 + 1, none⟩ = false := hfr29 1; clear hcl29 hcc29 hfr29 hM29; (try rw [show ((0 : Int)).toNat = 0 from rfl] at hx29_0); (try simp only [Nat.reduceMul, Nat.zero_mul, Nat.zero_add, Nat.reduceAdd] at hx29_0); (try rw [show ((0 : Int)).toNat = 0 from rfl] at hf29_0); (try simp only [Nat.reduceMul, Nat.zero_mul, Nat.zero_add, Nat.reduceAdd] at hf29_0); (try rw [show ((0 : Int)).toNat = 0 from rfl] at hx29_1); (try simp only [Nat.reduceMul, Nat.zero_mul, Nat.zero_add, Nat.reduceAdd] at hx29_1); (try rw [show ((0 : Int)).toNat = 0 from rfl] at hf29_1); (try simp only [Nat.reduceMul, Nat.zero_mul, Nat.zero_add, Nat.reduceAdd] at hf29_1); replace p29 := eq_true p29; replace q29 := eq_true q29; have HX38 := Aside0.mk (show Kd.R k59 59 w36 w0.heap.size (fun k_ => (P1_2_ k_ ∨ w.heap.size ≤ k_)) (.slice (some ⟨go28, 0, none⟩) l1_2.length co30) y221 from z6_2); obtain ⟨ce38, hcl38, hM38, hcc38, hfr38⟩ := Kd.R_elem HX38.out z59 (0 : Int) (by omega) (by have h_ : (0 : Int) < ((l1_2.length : Int) : Int) := of_decide_eq_true z6_15; first | exact h_ | (have e_ := (Kd.qq0 HO1_2.out).1; omega) | simpa using h_); obtain rfl := k59_openM hM38; have HP38 := Kd.R_seg HX38.out (0 : Int) (by omega) (by have h_ : (0 : Int) < ((l1_2.length : Int) : Int) := of_decide_eq_true z6_15; first | exact h_ | (have e_ := (Kd.qq0 HO1_2.out).1; omega) | simpa using h_) (seg := [.int .i64 (wrap64 (((rd_T59 y221 0).f1) + a3))]) (j := 1) hcl38 hcc38 (show 2 ≤ 2 from by decide) (x' := (⟨(rd_T59 y221 0).f0, wrap64 (((rd_T59 y221 0).f1) + a3)⟩ : S59)) (k59_mkM _ _ _ (⟨(rd_T59 y221 0).f0, wrap64 (((rd_T59 y221 0).f1) + a3)⟩ : S59) ) (fun _ hk => hk); have hx38_1 := hcc38 1 _ rfl; (try simp only [show (k59).sz = 2 from rfl, Nat.mul_one, Nat.add_zero] at hx38_1); (try rw [show ((0 : Int)).toNat = 0 from rfl] at hx38_1); (try simp only [Nat.reduceMul, Nat.zero_mul, Nat.zero_add, Nat.reduceAdd] at hx38_1); have hf38_1 := hfr38 1; (try simp only [show (k59).sz = 2 from rfl, Nat.mul_one, Nat.add_zero] at hf38_1); (try rw [show ((0 : Int)).toNat = 0 from rfl] at hf38_1); (try simp only [Nat.reduceMul, Nat.zero_mul, Nat.zero_add, Nat.reduceAdd] at hf38_1); clear hcl38 hcc38 hfr38 hM38) | ((with_reducible refine gate_store (t := 3) (p := 33) rfl ?_); refine store_event (t := 3) (p := 33) (v := ?vo_w39) (w1 := (w36.setCell ⟨go28, 1, none⟩ (.int .i64 (wrap64 (((rd_T59 y221 0).f1) + a3))))) ?hg ?ho ?hn ?hr ?_; (case ho => rfl); (case hg => rfl); (case hn => rfl); (case hr => exact z6_19); intro w39 hw; have hg : w36.grownBy w39 (some go28) := (by rw [hw]; exact HP38.2); have hp_ : Kd.R k59 59 w39 w0.heap.size (fun k_ => (P1_2_ k_ ∨ w.heap.size ≤ k_)) (.slice (some ⟨go28, 0, none⟩) l1_2.length co30) y223 := (by rw [hw, Ny223.out]; exact HP38.1); clear HP38; have n0_ := Aside0.mk (hp_); have n1_ := Aside0.mk (qa1 (g := gb211) (o := .cells #[.int .i64 a1_0, .int .i64 a1_1, .slice (some ⟨go28, 0, none⟩) l1_2.length co30, .int .i64 a1_3] 37 (0, 0)) z6_8 hg (Kd.R_ne HO1_2.out BK211.out (by decide))); have n2_ := Aside0.mk (qa1 (g := gb212) (o := .cells #[.int .i64 0, .int .i64 0, .slice none 0 0, .int .i64 0] 37 (0, 0)) z6_28 hg (Kd.R_ne HO1_2.out BK212.out (by decide))); have n3_ := Aside0.mk ((by rw [hw]; exact ql0 (HB.out) GB28.out : Below w0.heap.size w0 w39)); have n4_ := Aside0.mk (Kept.of_grown (S := (fun k_ => P1_2_ k_)) hg z6_3 (fun k_ e_ => (HO1_2.out.1 k_ e_))); clear HO1_2; clear BK211; clear BK212; clear HB; clear HK; have HO1_2 := n0_; have BK211 := n1_; have BK212 := n2_; have HB := n3_; have HK := n4_; clear n0_ n1_ n2_ n3_ n4_; clear hg hw hp_; have hcz40_0 : w39.cell? ⟨gb211, 0, none⟩ = some (.int .i64 a1_0) := (qb0 BK211.out 0).trans rfl; have hcz40_1 : w39.cell? ⟨gb211, 1, none⟩ = some (.int .i64 a1_1) := (qb0 BK211.out 1).trans rfl; have hcz40_2 : w39.cell? ⟨gb211, 2, none⟩ = some (.slice (some ⟨go28, 0, none⟩) l1_2.length co30) := (qb0 BK211.out 2).trans rfl; have hcz40_3 : w39.cell? ⟨gb211, 3, none⟩ = some (.int .i64 a1_3) := (qb0 BK211.out 3).trans rfl; have hfz40_0 := qa0 BK211.out 0; have hfz40_1 := qa0 BK211.out 1; have hfz40_2 := qa0 BK211.out 2; have hfz40_3 := qa0 BK211.out 3; have hcz41_0 : w39.cell? ⟨gb212, 0, none⟩ = some (.int .i64 0) := (qb0 BK212.out 0).trans rfl; have hcz41_1 : w39.cell? ⟨gb212, 1, none⟩ = some (.int .i64 0) := (qb0 BK212.out 1).trans rfl; have hcz41_2 : w39.cell? ⟨gb212, 2, none⟩ = some (.slice none 0 0) := (qb0 BK212.out 2).trans rfl; have hcz41_3 : w39.cell? ⟨gb212, 3, none⟩ = some (.int .i64 0) := (qb0 BK212.out 3).trans rfl; have hfz41_0 := qa0 BK212.out 0; have hfz41_1 := qa0 BK212.out 1; have hfz41_2 := qa0 BK212.out 2; have hfz41_3 := qa0 BK212.out 3))
 refine bodyPost_ret (results_cell_row rfl _ _ gb212 37 #[.int .i64 a1_0, .int .i64 a1_1, .slice (some ⟨go28, 0, none⟩) l1_2.length co30, .int .i64 a1_3] (0, 0) _ rfl (by (with_reducible repeat (first | refine qc0 ?_ _ | refine qe0 ?_ | refine qd0 ?_ _)); refine qm0 (cs := #[.int .i64 a1_0, .int .i64 a1_1, .slice (some ⟨go28, 0, none⟩) l1_2.length co30, .int .i64 0]) ?_ 3 _ rfl; (with_reducible repeat (first | refine qc0 ?_ _ | refine qe0 ?_ | refine qd0 ?_ _)); refine qm0 (cs := #[.int .i64 a1_0, .int .i64 a1_1, .slice none 0 0, .int .i64 0]) ?_ 2 _ rfl; (with_reducible repeat (first | refine qc0 ?_ _ | refine qe0 ?_ | refine qd0 ?_ _)); refine qm0 (cs := #[.int .i64 a1_0, .int .i64 0, .slice none 0 0, .int .i64 0]) ?_ 1 _ rfl; (with_reducible repeat (first | refine qc0 ?_ _ | refine qe0 ?_ | refine qd0 ?_ _)); refine qm0 (cs := #[.int .i64 0, .int .i64 0, .slice none 0 0, .int .i64 0]) ?_ 0 _ rfl; (with_reducible repeat (first | refine qc0 ?_ _ | refine qe0 ?_ | refine qd0 ?_ _)); exact BK212.out) Try.underlying37 rfl z6_23) rfl ?_
 exact ⟨_, z6_20, by (with_reducible repeat (first | apply Kd.qu0 | apply Kd.qt0 | apply Kd.qx0)); exact Kd.qw0 (Kd.R_far (p := ⟨gb212, 3, none⟩) (Kd.R_far (p := ⟨gb212, 2, none⟩) (Kd.R_far (p := ⟨gb212, 1, none⟩) (Kd.R_far (p := ⟨gb212, 0, none⟩) (Kd.qz0 HO1_2.out BK212.out (by decide)) (fun _ hk => hk.2) (.int .i64 a1_0)) (fun _ hk => hk.2) (.int .i64 a1_1)) (fun _ hk => hk.2) (.slice (some ⟨go28, 0, none⟩) l1_2.length co30)) (fun _ hk => hk.2) (.int .i64 a1_3)) (fun _ hk => hk.1), z6_14, z6_3⟩
def impl_fixed_in.f (a0 : Int) (a1_0 : Int) (a1_1 : Int) (l1_2 : List (S59)) (a1_3 : Int) (a2 : Int) (a3 : Int) : Option (Int × Int × (List (S59)) × Int) := (impl_middle_in.f a2 a1_0 a1_1 l1_2 a1_3 a2 (wrap64 (a2 * a1_1))).bind fun bt226 => (some (bt226.1, bt226.2.1, bt226.2.2.1, wrap64 (bt226.2.2.2 + (wrap64 (a3 - (wrap64 (a2 * bt226.2.1)))))))
set_option maxHeartbeats 8000000 in
set_option maxRecDepth 100000 in
theorem impl_fixed_in.calls (a0 : Int) (a1_0 : Int) (a1_1 : Int) (P1_2_ : Nat → Prop) (u9000_ : Value) (l1_2 : List (S59)) (a1_3 : Int) (a2 : Int) (a3 : Int) (r1 : Int) (r2 : Int) (r3 : List (S59)) (r4 : Int) (w0 w : World) (hB : Below w0.heap.size w0 w) (ho1_2 : Kd.R k59 59 w w0.heap.size P1_2_ u9000_ l1_2) (h : impl_fixed_in.f a0 a1_0 a1_1 l1_2 a1_3 a2 a3 = some (r1, r2, r3, r4)) :
  Calls Try.prog 82 #[.agg #[], .agg #[.int .i64 a1_0, .int .i64 a1_1, u9000_, .int .i64 a1_3], .int .i64 a2, .int .i64 a3] w fun e w' => ∃ v2_ : Value, e = .returned (.agg #[.int .i64 r1, .int .i64 r2, v2_, .int .i64 r4]) ∧ Kd.R k59 59 w' w0.heap.size (fun k_ => (P1_2_ k_ ∨ w.heap.size ≤ k_)) v2_ r3 ∧ Below w0.heap.size w0 w' ∧ Kept w w' (fun k_ => P1_2_ k_) := by
 have hu37 := Try.underlying37
 have HO1_2 := Aside0.mk (show Kd.R k59 59 w w0.heap.size (fun k_ => (P1_2_ k_ ∨ w.heap.size ≤ k_)) u9000_ l1_2 from Kd.qw0 ho1_2 (fun k_ hk => (.inl hk)))
 have HK := Aside0.mk (Kept.refl w (fun k_ => P1_2_ k_))
 have HW0 := Aside0.mk hB.size
 have HB := Aside0.mk hB
 clear hB
 have H : ((impl_middle_in.f a2 a1_0 a1_1 l1_2 a1_3 a2 (wrap64 (a2 * a1_1))).bind fun bt226 => (some (bt226.1, bt226.2.1, bt226.2.2.1, wrap64 (bt226.2.2.2 + (wrap64 (a3 - (wrap64 (a2 * bt226.2.1)))))))) = some (r1, r2, r3, r4) := h
 clear h
 replace H := Option.bind_eq_some_iff.mp H
 obtain ⟨⟨t226, t227, t228, t231⟩, A50, H⟩ := H
 replace H : (some (t226, t227, t228, wrap64 (t231 + (wrap64 (a3 - (wrap64 (a2 * t227))))))) = some (r1, r2, r3, r4) := H
 have A5 := Aside0.mk A50
 clear A50
 simp only [Option.some.injEq, Prod.mk.injEq] at H
 obtain ⟨rfl, rfl, rfl, rfl⟩ := H
 obtain ⟨Ao6, co6, eo6⟩ := Kd.qb1 HO1_2.out
 subst eo6
 go_enter Try.func82, Try.ntmps82
 go_upto_region 2 with (first | ((with_reducible refine qr0 (N := 4) rfl ?_); refine qo0 ?hg (N := 4) ?hd (cs := #[]) (t := 83) ?hr ?_; (case hd => rfl); (case hg => rfl); (case hr => exact z6_19); intro gbz hg wz hbox hb; have n0_ := Aside0.mk (Kd.qp0 z6_2 hb); have n1_ := Aside0.mk (Kept.below (S := (fun k_ => P1_2_ k_)) z6_4 hb); have n2_ := Aside0.mk (qg0 z6_1 hb); clear HO1_2; clear HK; clear HB; have HO1_2 := n0_; have HK := n1_; have HB := n2_; clear n0_ n1_ n2_; clear hb hbox hg) | ((with_reducible refine qr0 (N := 5) rfl ?_); refine qo0 ?hg (N := 5) ?hd (cs := #[.int .i64 a1_0, .int .i64 a1_1, .slice Ao6 l1_2.length co6, .int .i64 a1_3]) (t := 37) ?hr ?_; (case hd => rfl); (case hg => rfl); (case hr => exact z6_19); intro gb224 hg w7 hbox hb; have n0_ := Aside0.mk (Kd.qp0 z6_2 hb); have n1_ := Aside0.mk (Kept.below (S := (fun k_ => P1_2_ k_)) z6_4 hb); have n2_ := Aside0.mk (qg0 z6_1 hb); have n3_ := Aside0.mk (hbox); have n4_ := Aside0.mk ((z6_11 : w.heap.size ≤ gb224)); have n5_ := Aside0.mk ((z6_10 : w0.heap.size ≤ gb224)); clear HO1_2; clear HK; clear HB; have HO1_2 := n0_; have HK := n1_; have HB := n2_; have BK224 := n3_; have GW224 := n4_; have GE224 := n5_; clear n0_ n1_ n2_ n3_ n4_ n5_; clear hb hbox hg) | ((with_reducible refine qr0 (N := 8) rfl ?_); refine qo0 ?hg (N := 8) ?hd (cs := #[.int .i64 0, .int .i64 0, .slice none 0 0, .int .i64 0]) (t := 37) ?hr ?_; (case hd => rfl); (case hg => rfl); (case hr => exact z6_19); intro gb225 hg w8 hbox hb; have n0_ := Aside0.mk (Kd.qp0 z6_2 hb); have n1_ := Aside0.mk (qf0 (g := gb224) (o := .cells #[.int .i64 a1_0, .int .i64 a1_1, .slice Ao6 l1_2.length co6, .int .i64 a1_3] 37 (0, 0)) z6_34 hb); have n2_ := Aside0.mk (Kept.below (S := (fun k_ => P1_2_ k_)) z6_42 hb); have n3_ := Aside0.mk (qg0 z6_45 hb); have n4_ := Aside0.mk (hbox); have n5_ := Aside0.mk ((by rw [hg]; exact (by first | exact HK.out.1 | exact (show Kept w _ (fun k_ => P1_2_ k_) from z6_42).1) : w.heap.size ≤ gb225)); have n6_ := Aside0.mk ((by rw [hg]; exact (qn0 z6_45) : w0.heap.size ≤ gb225)); have n7_ := Aside0.mk ((by rw [hg]; exact Nat.ne_of_lt (qe1 (g := gb224) (o := .cells #[.int .i64 a1_0, .int .i64 a1_1, .slice Ao6 l1_2.length co6, .int .i64 a1_3] 37 (0, 0)) z6_34) : gb224 ≠ gb225)); have n8_ := Aside0.mk ((by rw [hg]; exact Nat.ne_of_gt (qe1 (g := gb224) (o := .cells #[.int .i64 a1_0, .int .i64 a1_1, .slice Ao6 l1_2.length co6, .int .i64 a1_3] 37 (0, 0)) z6_34) : gb225 ≠ gb224)); clear HO1_2; clear BK224; clear HK; clear HB; have HO1_2 := n0_; have BK224 := n1_; have HK := n2_; have HB := n3_; have BK225 := n4_; have GW225 := n5_; have GE225 := n6_; have NB224_225 := n7_; have NB225_224 := n8_; clear n0_ n1_ n2_ n3_ n4_ n5_ n6_ n7_ n8_; clear hb hbox hg; have hnb9 := NB224_225.out; have hnc9 := NB225_224.out; have hcz10_0 : w8.cell? ⟨gb224, 0, none⟩ = some (.int .i64 a1_0) := (qb0 BK224.out 0).trans rfl; have hcz10_1 : w8.cell? ⟨gb224, 1, none⟩ = some (.int .i64 a1_1) := (qb0 BK224.out 1).trans rfl; have hcz10_2 : w8.cell? ⟨gb224, 2, none⟩ = some (.slice Ao6 l1_2.length co6) := (qb0 BK224.out 2).trans rfl; have hcz10_3 : w8.cell? ⟨gb224, 3, none⟩ = some (.int .i64 a1_3) := (qb0 BK224.out 3).trans rfl; have hfz10_0 := qa0 BK224.out 0; have hfz10_1 := qa0 BK224.out 1; have hfz10_2 := qa0 BK224.out 2; have hfz10_3 := qa0 BK224.out 3) | ((with_reducible refine qj0 (f := 80) rfl ?_); refine qy0 (some 16) rfl rfl Try.func80 z6_23 rfl #[.agg #[], .agg #[.int .i64 a1_0, .int .i64 a1_1, .slice Ao6 l1_2.length co6, .int .i64 a1_3], .int .i64 a2, .int .i64 (wrap64 (a2 * a1_1))] rfl z6_6 ?_; (with_reducible refine (impl_middle_in.calls a2 a1_0 a1_1 (fun k_ => some k_ = (.slice Ao6 l1_2.length co6 : Value).ownBlock) (.slice Ao6 l1_2.length co6) l1_2 a1_3 a2 (wrap64 (a2 * a1_1)) t226 t227 t228 t231 w0 _ ?side1 ?side2 A5.out).mono ?_); (case side1 => exact z6_39); (case side2 => exact Kd.R_tight rfl HO1_2.out); rintro e w11 ⟨v229, rfl, ho0, hb, hkp⟩; refine ⟨_, rfl, ?_⟩; have n0_ := Aside0.mk (qf1 z6_34 hkp (fun hs_ => (fun e_ => (Kd.R_ne HO1_2.out BK224.out (by decide)) e_) hs_)); have n1_ := Aside0.mk (qf1 (by (with_reducible repeat (first | refine qc0 ?_ _ | refine qe0 ?_ | refine qd0 ?_ _)); exact BK225.out) hkp (fun hs_ => (fun e_ => (Kd.R_ne HO1_2.out BK225.out (by decide)) e_) hs_)); have n2_ := Aside0.mk (Kd.qw0 (ok' := fun k_ => (P1_2_ k_ ∨ w.heap.size ≤ k_)) ho0 (fun k_ hk_ => Or.elim hk_ (fun hs_ => (HO1_2.out.1 k_ (hs_).symm)) (fun hn_ => (.inr (Nat.le_trans (by first | exact HK.out.1 | exact (show Kept w _ (fun k_ => P1_2_ k_) from z6_26).1) hn_))))); have n3_ := Aside0.mk (Kept.then_ (S := (fun k_ => P1_2_ k_)) z6_26 hkp (fun k_ hs_ => (fun e_ => (HO1_2.out.1 k_ e_.symm)) hs_)); have n4_ := Aside0.mk (hb); clear BK224; clear BK225; clear HK; clear HB; clear HO1_2; have BK224 := n0_; have BK225 := n1_; have HO230 := n2_; have HK := n3_; have HB := n4_; clear n0_ n1_ n2_ n3_ n4_; (try clear hb); (try clear hkp); (try clear ho0); have hcz12_0 : w11.cell? ⟨gb224, 0, none⟩ = some (.int .i64 a1_0) := (qb0 BK224.out 0).trans rfl; have hcz12_1 : w11.cell? ⟨gb224, 1, none⟩ = some (.int .i64 a1_1) := (qb0 BK224.out 1).trans rfl; have hcz12_2 : w11.cell? ⟨gb224, 2, none⟩ = some (.slice Ao6 l1_2.length co6) := (qb0 BK224.out 2).trans rfl; have hcz12_3 : w11.cell? ⟨gb224, 3, none⟩ = some (.int .i64 a1_3) := (qb0 BK224.out 3).trans rfl; have hfz12_0 := qa0 BK224.out 0; have hfz12_1 := qa0 BK224.out 1; have hfz12_2 := qa0 BK224.out 2; have hfz12_3 := qa0 BK224.out 3; obtain ⟨Ao13, co13, eo13⟩ := Kd.qb1 HO230.out; subst eo13; have hcz14_0 : w11.cell? ⟨gb225, 0, none⟩ = some (.int .i64 0) := (qb0 BK225.out 0).trans rfl; have hcz14_1 : w11.cell? ⟨gb225, 1, none⟩ = some (.int .i64 0) := (qb0 BK225.out 1).trans rfl; have hcz14_2 : w11.cell? ⟨gb225, 2, none⟩ = some (.slice none 0 0) := (qb0 BK225.out 2).trans rfl; have hcz14_3 : w11.cell? ⟨gb225, 3, none⟩ = some (.int .i64 0) := (qb0 BK225.out 3).trans rfl; have hfz14_0 := qa0 BK225.out 0; have hfz14_1 := qa0 BK225.out 1; have hfz14_2 := qa0 BK225.out 2; have hfz14_3 := qa0 BK225.out 3))
 (try simp only [Act.put, List.setIfInBounds_toArray, List.set_cons_zero, List.set_cons_succ])
 have n0_ := Aside0.mk (show ((((w11.setCell ⟨gb224, 0, none⟩ (.int .i64 t226)).setCell ⟨gb224, 1, none⟩ (.int .i64 t227)).setCell ⟨gb224, 2, none⟩ (.slice Ao13 t228.length co13)).setCell ⟨gb224, 3, none⟩ (.int .i64 t231)).heap[gb224]? = some (.cells #[.int .i64 t226, .int .i64 t227, .slice Ao13 t228.length co13, .int .i64 t231] 37 (0, 0)) from qm0 (cs := #[.int .i64 t226, .int .i64 t227, .slice Ao13 t228.length co13, .int .i64 a1_3]) (qm0 (cs := #[.int .i64 t226, .int .i64 t227, .slice Ao6 l1_2.length co6, .int .i64 a1_3]) (qm0 (cs := #[.int .i64 t226, .int .i64 a1_1, .slice Ao6 l1_2.length co6, .int .i64 a1_3]) (qm0 (cs := #[.int .i64 a1_0, .int .i64 a1_1, .slice Ao6 l1_2.length co6, .int .i64 a1_3]) BK224.out 0 _ rfl) 1 _ rfl) 2 _ rfl) 3 _ rfl)
 have n1_ := Aside0.mk (show ((((w11.setCell ⟨gb224, 0, none⟩ (.int .i64 t226)).setCell ⟨gb224, 1, none⟩ (.int .i64 t227)).setCell ⟨gb224, 2, none⟩ (.slice Ao13 t228.length co13)).setCell ⟨gb224, 3, none⟩ (.int .i64 t231)).heap[gb225]? = some (.cells #[.int .i64 0, .int .i64 0, .slice none 0 0, .int .i64 0] 37 (0, 0)) from qv0 (qv0 (qv0 (qv0 BK225.out NB225_224.out _) NB225_224.out _) NB225_224.out _) NB225_224.out _)
 have n2_ := Aside0.mk (Kd.qw0 (Kd.R_far (p := ⟨gb224, 3, none⟩) (Kd.R_far (p := ⟨gb224, 2, none⟩) (Kd.R_far (p := ⟨gb224, 1, none⟩) (Kd.R_far (p := ⟨gb224, 0, none⟩) (Kd.qz0 HO230.out BK224.out (by decide)) (fun _ hk => hk.2) (.int .i64 t226)) (fun _ hk => hk.2) (.int .i64 t227)) (fun _ hk => hk.2) (.slice Ao13 t228.length co13)) (fun _ hk => hk.2) (.int .i64 t231)) (fun _ hk => hk.1))
 have n3_ := Aside0.mk (show Below w0.heap.size w0 ((((w11.setCell ⟨gb224, 0, none⟩ (.int .i64 t226)).setCell ⟨gb224, 1, none⟩ (.int .i64 t227)).setCell ⟨gb224, 2, none⟩ (.slice Ao13 t228.length co13)).setCell ⟨gb224, 3, none⟩ (.int .i64 t231)) from by repeat (first | (with_reducible first | exact HB.out | refine ql0 ?_ GE224.out) | exact HB.out))
 have n4_ := Aside0.mk (show Kept w ((((w11.setCell ⟨gb224, 0, none⟩ (.int .i64 t226)).setCell ⟨gb224, 1, none⟩ (.int .i64 t227)).setCell ⟨gb224, 2, none⟩ (.slice Ao13 t228.length co13)).setCell ⟨gb224, 3, none⟩ (.int .i64 t231)) (fun k_ => P1_2_ k_) from by repeat (first | (with_reducible first | exact HK.out | refine Kept.setCell ?_ (.inr GW224.out) _) | exact HK.out))
 clear BK224 BK225 HB HK HO230
 have BK224 := n0_
 have BK225 := n1_
 have HO230 := n2_
 have HB := n3_
 have HK := n4_
 clear n0_ n1_ n2_ n3_ n4_
 generalize ((((w11.setCell ⟨gb224, 0, none⟩ (.int .i64 t226)).setCell ⟨gb224, 1, none⟩ (.int .i64 t227)).setCell ⟨gb224, 2, none⟩ (.slice Ao13 t228.length co13)).setCell ⟨gb224, 3, none⟩ (.int .i64 t231)) = wy at BK224 BK225 HO230 HB HK ⊢
 have hcy_0 : wy.cell? ⟨gb224, 0, none⟩ = some (.int .i64 t226) := (qb0 BK224.out 0).trans rfl
 have hfy_0 := qa0 BK224.out 0
 have hcy_1 : wy.cell? ⟨gb224, 1, none⟩ = some (.int .i64 t227) := (qb0 BK224.out 1).trans rfl
 have hfy_1 := qa0 BK224.out 1
 have hcy_2 : wy.cell? ⟨gb224, 2, none⟩ = some (.slice Ao13 t228.length co13) := (qb0 BK224.out 2).trans rfl
 have hfy_2 := qa0 BK224.out 2
 have hcy_3 : wy.cell? ⟨gb224, 3, none⟩ = some (.int .i64 t231) := (qb0 BK224.out 3).trans rfl
 have hfy_3 := qa0 BK224.out 3
 have hcz_0 : wy.cell? ⟨gb225, 0, none⟩ = some (.int .i64 0) := (qb0 BK225.out 0).trans rfl
 have hfz_0 := qa0 BK225.out 0
 have hcz_1 : wy.cell? ⟨gb225, 1, none⟩ = some (.int .i64 0) := (qb0 BK225.out 1).trans rfl
 have hfz_1 := qa0 BK225.out 1
 have hcz_2 : wy.cell? ⟨gb225, 2, none⟩ = some (.slice none 0 0) := (qb0 BK225.out 2).trans rfl
 have hfz_2 := qa0 BK225.out 2
 have hcz_3 : wy.cell? ⟨gb225, 3, none⟩ = some (.int .i64 0) := (qb0 BK225.out 3).trans rfl
 have hfz_3 := qa0 BK225.out 3
 have hny := NB225_224.out
 have hnz := NB224_225.out
 go_wp2
 refine bodyPost_ret (results_cell_row rfl _ _ gb225 37 #[.int .i64 t226, .int .i64 t227, .slice Ao13 t228.length co13, .int .i64 (wrap64 (t231 + (wrap64 (a3 - (wrap64 (a2 * t227))))))] (0, 0) _ rfl (by (with_reducible repeat (first | refine qc0 ?_ _ | refine qe0 ?_ | refine qd0 ?_ _)); refine qm0 (cs := #[.int .i64 t226, .int .i64 t227, .slice Ao13 t228.length co13, .int .i64 0]) ?_ 3 _ rfl; (with_reducible repeat (first | refine qc0 ?_ _ | refine qe0 ?_ | refine qd0 ?_ _)); refine qm0 (cs := #[.int .i64 t226, .int .i64 t227, .slice none 0 0, .int .i64 0]) ?_ 2 _ rfl; (with_reducible repeat (first | refine qc0 ?_ _ | refine qe0 ?_ | refine qd0 ?_ _)); refine qm0 (cs := #[.int .i64 t226, .int .i64 0, .slice none 0 0, .int .i64 0]) ?_ 1 _ rfl; (with_reducible repeat (first | refine qc0 ?_ _ | refine qe0 ?_ | refine qd0 ?_ _)); refine qm0 (cs := #[.int .i64 0, .int .i64 0, .slice none 0 0, .int .i64 0]) ?_ 0 _ rfl; (with_reducible repeat (first | refine qc0 ?_ _ | refine qe0 ?_ | refine qd0 ?_ _)); refine qv0 ?_ NB225_224.out _; (with_reducible repeat (first | refine qc0 ?_ _ | refine qe0 ?_ | refine qd0 ?_ _)); exact BK225.out) Try.underlying37 rfl z6_23) rfl ?_
 exact ⟨_, z6_20, by (with_reducible repeat (first | apply Kd.qu0 | apply Kd.qt0 | apply Kd.qx0)); exact Kd.qw0 (Kd.R_far (p := ⟨gb225, 3, none⟩) (Kd.R_far (p := ⟨gb225, 2, none⟩) (Kd.R_far (p := ⟨gb225, 1, none⟩) (Kd.R_far (p := ⟨gb225, 0, none⟩) (Kd.R_far (p := ⟨gb224, 3, none⟩) (Kd.qz0 (Kd.qz0 HO230.out BK224.out (by decide)) BK225.out (by decide)) (fun _ hk => hk.1.2) (.int .i64 (wrap64 (t231 + (wrap64 (a3 - (wrap64 (a2 * t227)))))))) (fun _ hk => hk.2) (.int .i64 t226)) (fun _ hk => hk.2) (.int .i64 t227)) (fun _ hk => hk.2) (.slice Ao13 t228.length co13)) (fun _ hk => hk.2) (.int .i64 (wrap64 (t231 + (wrap64 (a3 - (wrap64 (a2 * t227)))))))) (fun _ hk => hk.1.1), z6_39, z6_26⟩

/-- The dispatched call: by the kind. -/
def impl_in.f (a0 : Int) (a1_0 : Int) (a1_1 : Int) (l1_2 : List (S59)) (a1_3 : Int) (a2 : Int) (a3 : Int) : Option (Int × Int × (List (S59)) × Int) := if a0 = 1 then impl_oldest_in.f a0 a1_0 a1_1 l1_2 a1_3 a2 a3 else if a0 = 2 then impl_newest_in.f a0 a1_0 a1_1 l1_2 a1_3 a2 a3 else if a0 = 3 then impl_middle_in.f a0 a1_0 a1_1 l1_2 a1_3 a2 a3 else impl_fixed_in.f a0 a1_0 a1_1 l1_2 a1_3 a2 a3
theorem impl_in.calls (a0 : Int) (a1_0 : Int) (a1_1 : Int) (P1_2_ : Nat → Prop) (u9000_ : Value) (l1_2 : List (S59)) (a1_3 : Int) (a2 : Int) (a3 : Int) (r1 : Int) (r2 : Int) (r3 : List (S59)) (r4 : Int) (w0 w : World) (hB : Below w0.heap.size w0 w) (ho1_2 : Kd.R k59 59 w w0.heap.size P1_2_ u9000_ l1_2) (h : impl_in.f a0 a1_0 a1_1 l1_2 a1_3 a2 a3 = some (r1, r2, r3, r4)) :
  Calls Try.prog (mf a0) #[.agg #[], .agg #[.int .i64 a1_0, .int .i64 a1_1, u9000_, .int .i64 a1_3], .int .i64 a2, .int .i64 a3] w fun e w' => ∃ v2_ : Value, e = .returned (.agg #[.int .i64 r1, .int .i64 r2, v2_, .int .i64 r4]) ∧ Kd.R k59 59 w' w0.heap.size (fun k_ => (P1_2_ k_ ∨ w.heap.size ≤ k_)) v2_ r3 ∧ Below w0.heap.size w0 w' ∧ Kept w w' (fun k_ => P1_2_ k_) := by
 unfold impl_in.f at h
 unfold mf
 by_cases h1 : a0 = 1
 ·rw [if_pos h1] at h ⊢
  exact impl_oldest_in.calls a0 a1_0 a1_1 P1_2_ u9000_ l1_2 a1_3 a2 a3 r1 r2 r3 r4 w0 w hB ho1_2 h
 ·rw [if_neg h1] at h ⊢
  by_cases h2 : a0 = 2
  ·rw [if_pos h2] at h ⊢
   exact impl_newest_in.calls a0 a1_0 a1_1 P1_2_ u9000_ l1_2 a1_3 a2 a3 r1 r2 r3 r4 w0 w hB ho1_2 h
  ·rw [if_neg h2] at h ⊢
   by_cases h3 : a0 = 3
   ·rw [if_pos h3] at h ⊢
    exact impl_middle_in.calls a0 a1_0 a1_1 P1_2_ u9000_ l1_2 a1_3 a2 a3 r1 r2 r3 r4 w0 w hB ho1_2 h
   ·rw [if_neg h3] at h ⊢
    exact impl_fixed_in.calls a0 a1_0 a1_1 P1_2_ u9000_ l1_2 a1_3 a2 a3 r1 r2 r3 r4 w0 w hB ho1_2 h

def impl_takeIn.j0 : Nat → Int → Int → Bool → Int → Int → List (S59) → Int → Option (Int × Int × (List (S59)) × Int × Bool)
 | 0, _, _, _, _, _, _, _ => none
 | k + 1, x1, x2, x15, x233000, x233001, x233002, x233003 => if x15 = true then (some (0, 0, ([] : List (S59)), 0, false)) else ((impl_methodOf.f x233000).bind fun t236 => ((impl_copyWorth.f x233000 x233001 x233002 x233003).bind fun bt237 => ((impl_in.f t236 bt237.1 bt237.2.1 bt237.2.2.1 bt237.2.2.2 x1 x2).bind fun bt243 => (if (bt243.2.2.1.length : Int) > 300 then (some (0, 0, ([] : List (S59)), 0, false)) else ((impl_WorthOk.f k bt243.1 bt243.2.1 bt243.2.2.1 bt243.2.2.2).bind fun t249 => (if t249 = true then (some (bt243.1, bt243.2.1, bt243.2.2.1, bt243.2.2.2, true)) else (some (0, 0, ([] : List (S59)), 0, false))))))))
def impl_takeIn.f (k : Nat) (a0_0 : Int) (a0_1 : Int) (l0_2 : List (S59)) (a0_3 : Int) (a1 : Int) (a2 : Int) : Option (Int × Int × (List (S59)) × Int × Bool) := (impl_between.f a1 1 1000000).bind fun t234 => (if t234 = true then ((impl_money.f a2).bind fun t235 => (impl_takeIn.j0 k a1 a2 (!t235) a0_0 a0_1 l0_2 a0_3)) else (impl_takeIn.j0 k a1 a2 true a0_0 a0_1 l0_2 a0_3))
theorem impl_takeIn.mono_l : ∀ k, (∀ y0 y1 y2 y3 y4 y5 y6, LeO (impl_takeIn.j0 k y0 y1 y2 y3 y4 y5 y6) (impl_takeIn.j0 (k + 1) y0 y1 y2 y3 y4 y5 y6))
 | 0 => fun _ _ _ _ _ _ _ r h => by simp [impl_takeIn.j0] at h
 | k + 1 => by
  have ih0 := impl_takeIn.mono_l k
  ·intro y0 y1 y2 y3 y4 y5 y6
   unfold impl_takeIn.j0
   repeat' first
   | (with_reducible exact ih0 _ _ _ _ _ _ _)
   | (with_reducible exact impl_WorthOk.mono _ _ _ _ _)
   | (with_reducible exact LeO.refl _)
   | (with_reducible exact LeO.none _)
   | (with_reducible refine LeO.ite ?_ ?_)
   | (with_reducible refine LeO.bind ?_ (fun _ => ?_))
   | exact ih0 _ _ _ _ _ _ _
   | exact impl_WorthOk.mono _ _ _ _ _
   | exact LeO.none _
   | refine LeO.ite ?_ ?_
   | refine LeO.bind ?_ (fun _ => ?_)
theorem impl_takeIn.mono : ∀ a0 a1 a2 a3 a4 a5 k, LeO (impl_takeIn.f k a0 a1 a2 a3 a4 a5) (impl_takeIn.f (k + 1) a0 a1 a2 a3 a4 a5) := by
 intro a0 a1 a2 a3 a4 a5 k
 have ih0 := impl_takeIn.mono_l k
 unfold impl_takeIn.f
 repeat' first
   | (with_reducible exact ih0 _ _ _ _ _ _ _)
   | (with_reducible exact impl_WorthOk.mono _ _ _ _ _)
   | (with_reducible exact LeO.refl _)
   | (with_reducible exact LeO.none _)
   | (with_reducible refine LeO.ite ?_ ?_)
   | (with_reducible refine LeO.bind ?_ (fun _ => ?_))
   | exact ih0 _ _ _ _ _ _ _
   | exact impl_WorthOk.mono _ _ _ _ _
   | exact LeO.none _
   | refine LeO.ite ?_ ?_
   | refine LeO.bind ?_ (fun _ => ?_)
def impl_takeIn.T3 : Bool × List (List Nat × List Nat) := (true, [([], []), ([0], [0]), ([1], [1]), ([], []), ([3, 2], [3]), ([], []), ([], []), ([2], [2]), ([7], [7]), ([2, 7, 8], [2]), ([9, 4, 5, 6, 4], [4, 5, 6, 9]), ([10, 10, 0, 1, 2, 3, 4, 5, 6, 7, 8, 9, 10], [10])])
def impl_takeIn.B3 : List Nat := [0, 1, 3, 0, 15, 0, 0, 7, 135, 391, 1023, 2047]
theorem impl_takeIn.tab3 : rtab .any (opsOf Try.f39 3) = impl_takeIn.T3 := by kernel_rfl
theorem impl_takeIn.bits3 : waitsOk impl_takeIn.T3.2 impl_takeIn.B3 = true := by kernel_rfl
set_option maxHeartbeats 8000000 in
set_option maxRecDepth 100000 in
theorem impl_takeIn.calls (k : Nat) (a0_0 : Int) (a0_1 : Int) (A0_2 : Option Addr) (c0_2 : Nat) (l0_2 : List (S59)) (a0_3 : Int) (a1 : Int) (a2 : Int) (r1 : Int) (r2 : Int) (r3 : List (S59)) (r4 : Int) (r5 : Bool) (w : World) (hr0_2 : Kd.C k59 w A0_2 l0_2.length l0_2) (hc0_2 : l0_2.length ≤ c0_2) (h : impl_takeIn.f k a0_0 a0_1 l0_2 a0_3 a1 a2 = some (r1, r2, r3, r4, r5)) :
  Calls Try.prog 39 #[.agg #[.int .i64 a0_0, .int .i64 a0_1, .slice A0_2 l0_2.length c0_2, .int .i64 a0_3], .int .i64 a1, .int .i64 a2] w fun e w' => ∃ v2_ : Value, e = .returned (.tuple #[.agg #[.int .i64 r1, .int .i64 r2, v2_, .int .i64 r4], .bool r5]) ∧ Kd.R k59 59 w' w.heap.size (fun _ => True) v2_ r3 ∧ Below w.heap.size w w' := by
 have hu37 := Try.underlying37
 have HR0_2 := Aside0.mk hr0_2
 have HC0_2 := Aside0.mk hc0_2
 clear hr0_2 hc0_2
 have HB := Aside0.mk (Below.refl w.heap.size w)
 have H : ((impl_between.f a1 1 1000000).bind fun t234 => (if t234 = true then ((impl_money.f a2).bind fun t235 => (impl_takeIn.j0 k a1 a2 (!t235) a0_0 a0_1 l0_2 a0_3)) else (impl_takeIn.j0 k a1 a2 true a0_0 a0_1 l0_2 a0_3))) = some (r1, r2, r3, r4, r5) := h
 clear h
 have HC4 := Aside0.mk H
 clear H
 go_enter Try.func39, Try.ntmps39
 go_upto_region 1 with (first | ((with_reducible refine qr0 (N := 3) rfl ?_); refine qo0 ?hg (N := 3) ?hd (cs := #[.int .i64 a0_0, .int .i64 a0_1, .slice A0_2 l0_2.length c0_2, .int .i64 a0_3]) (t := 37) ?hr ?_; (case hd => rfl); (case hg => rfl); (case hr => exact z6_19); intro gb232 hg w5 hbox hb; have n0_ := Aside0.mk (qg0 z6_1 hb); have n1_ := Aside0.mk (hbox); have n2_ := Aside0.mk ((z6_10 : w.heap.size ≤ gb232)); have n3_ := Aside0.mk ((z6_10 : w.heap.size ≤ gb232)); clear HB; have HB := n0_; have BK232 := n1_; have GW232 := n2_; have GE232 := n3_; clear n0_ n1_ n2_ n3_; clear hb hbox hg) | ((with_reducible refine qr0 (N := 6) rfl ?_); refine qo0 ?hg (N := 6) ?hd (cs := #[.int .i64 0, .int .i64 0, .slice none 0 0, .int .i64 0]) (t := 37) ?hr ?_; (case hd => rfl); (case hg => rfl); (case hr => exact z6_19); intro gb233 hg w6 hbox hb; have n0_ := Aside0.mk (qf0 (g := gb232) (o := .cells #[.int .i64 a0_0, .int .i64 a0_1, .slice A0_2 l0_2.length c0_2, .int .i64 a0_3] 37 (0, 0)) z6_9 hb); have n1_ := Aside0.mk (qg0 z6_31 hb); have n2_ := Aside0.mk (hbox); have n3_ := Aside0.mk ((z6_37 : w.heap.size ≤ gb233)); have n4_ := Aside0.mk ((z6_37 : w.heap.size ≤ gb233)); have n5_ := Aside0.mk ((by rw [hg]; exact Nat.ne_of_lt (qe1 (g := gb232) (o := .cells #[.int .i64 a0_0, .int .i64 a0_1, .slice A0_2 l0_2.length c0_2, .int .i64 a0_3] 37 (0, 0)) z6_9) : gb232 ≠ gb233)); have n6_ := Aside0.mk ((by rw [hg]; exact Nat.ne_of_gt (qe1 (g := gb232) (o := .cells #[.int .i64 a0_0, .int .i64 a0_1, .slice A0_2 l0_2.length c0_2, .int .i64 a0_3] 37 (0, 0)) z6_9) : gb233 ≠ gb232)); clear BK232; clear HB; have BK232 := n0_; have HB := n1_; have BK233 := n2_; have GW233 := n3_; have GE233 := n4_; have NB232_233 := n5_; have NB233_232 := n6_; clear n0_ n1_ n2_ n3_ n4_ n5_ n6_; clear hb hbox hg))
 (try simp only [Act.put, List.setIfInBounds_toArray, List.set_cons_zero, List.set_cons_succ])
 go_cut [15] (fun v15 wc => ∃ (kq : Nat) (x15_3 : Bool), v15 = .bool x15_3 ∧ Aside0 (impl_takeIn.j0 kq a1 a2 x15_3 a0_0 a0_1 l0_2 a0_3 = some (r1, r2, r3, r4, r5)) ∧ Aside0 (kq ≤ k) ∧ Aside0 (wc.heap[gb232]? = some (.cells #[.int .i64 a0_0, .int .i64 a0_1, (.slice A0_2 l0_2.length c0_2), .int .i64 a0_3] 37 (0, 0))) ∧ Aside0 (wc.heap[gb233]? = some (.cells #[.int .i64 0, .int .i64 0, (.slice none 0 0), .int .i64 0] 37 (0, 0))) ∧ Aside0 (Below w.heap.size w wc))
 case first =>
  have H := HC4.out
  clear HC4
  replace H := Option.bind_eq_some_iff.mp H
  obtain ⟨t234, A70, H⟩ := H
  replace H : (if t234 = true then ((impl_money.f a2).bind fun t235 => (impl_takeIn.j0 k a1 a2 (!t235) a0_0 a0_1 l0_2 a0_3)) else (impl_takeIn.j0 k a1 a2 true a0_0 a0_1 l0_2 a0_3)) = some (r1, r2, r3, r4, r5) := H
  have A7 := Aside0.mk A70
  clear A70
  by_cases c8 : t234 = true
  ·subst c8
   have H1 : ((impl_money.f a2).bind fun t235 => (impl_takeIn.j0 k a1 a2 (!t235) a0_0 a0_1 l0_2 a0_3)) = some (r1, r2, r3, r4, r5) := by rw [if_pos rfl] at H; exact H
   clear H
   have H := H1
   clear H1
   replace H := Option.bind_eq_some_iff.mp H
   obtain ⟨t235, A90, H⟩ := H
   replace H : (impl_takeIn.j0 k a1 a2 (!t235) a0_0 a0_1 l0_2 a0_3) = some (r1, r2, r3, r4, r5) := H
   have A9 := Aside0.mk A90
   clear A90
   have H' := Aside0.mk H
   clear H
   go_wp2_with (first | ((with_reducible refine qj0 (f := 27) rfl ?_); refine qy0 (some 9) rfl rfl Try.func27 z6_23 rfl #[.int .i64 a1, .int .i64 1, .int .i64 1000000] rfl z6_6 ?_; (with_reducible refine (impl_between.calls a1 1 1000000 true _ A7.out).mono ?_); rintro e w' ⟨rfl, ⟨nd, rfl⟩⟩; refine ⟨_, rfl, ?_⟩) | (go_at_call 57; (with_reducible refine (impl_money.calls a2 t235 _ A9.out).mono ?_); rintro e w' ⟨rfl, ⟨nd, rfl⟩⟩))
   go_meet
   case rel => exact ⟨_, (!t235), (by first | rfl | (simp; done) | (simp [*]; done)), H', ⟨by first | omega | exact Nat.le_refl _⟩, ⟨z6_9⟩, ⟨z6_16⟩, ⟨z6_0⟩⟩
  replace c8 := Bool.eq_false_iff.mpr c8
  subst c8
  have H1 : (impl_takeIn.j0 k a1 a2 true a0_0 a0_1 l0_2 a0_3) = some (r1, r2, r3, r4, r5) := by rw [if_neg (show ¬ (false = true) by decide)] at H; exact H
  clear H
  have H := H1
  clear H1
  have H' := Aside0.mk H
  clear H
  go_wp2_with (first | ((with_reducible refine qj0 (f := 27) rfl ?_); refine qy0 (some 9) rfl rfl Try.func27 z6_23 rfl #[.int .i64 a1, .int .i64 1, .int .i64 1000000] rfl z6_6 ?_; (with_reducible refine (impl_between.calls a1 1 1000000 false _ A7.out).mono ?_); rintro e w' ⟨rfl, ⟨nd, rfl⟩⟩; refine ⟨_, rfl, ?_⟩))
  go_meet
  case rel => exact ⟨_, (true), (by first | rfl | (simp; done) | (simp [*]; done)), H', ⟨by first | omega | exact Nat.le_refl _⟩, ⟨z6_9⟩, ⟨z6_16⟩, ⟨z6_0⟩⟩
 case rest =>
  clear HC4
  try clear c2
  try clear p2
  try clear c3
  try clear c8
  obtain ⟨kq, x15_3, rfl, HA, HJ3, BK232, BK233, HB⟩ := hcut
  cases kq with
  | zero => exact absurd HA.out (by simp [impl_takeIn.j0])
  | succ kj3 =>
   have H := HA.out
   clear HA
   simp only [impl_takeIn.j0] at H
   by_cases c10 : x15_3 = true
   ·subst c10
    have H1 : (some (0, 0, ([] : List (S59)), 0, false)) = some (r1, r2, r3, r4, r5) := by rw [if_pos rfl] at H; exact H
    clear H
    have H := H1
    clear H1
    simp only [Option.some.injEq, Prod.mk.injEq] at H
    obtain ⟨rfl, rfl, rfl, rfl, rfl⟩ := H
    have hnb11 := NB233_232.out
    have hnc11 := NB232_233.out
    have hcz12_0 : wc.cell? ⟨gb233, 0, none⟩ = some (.int .i64 0) := (qb0 BK233.out 0).trans rfl
    have hcz12_1 : wc.cell? ⟨gb233, 1, none⟩ = some (.int .i64 0) := (qb0 BK233.out 1).trans rfl
    have hcz12_2 : wc.cell? ⟨gb233, 2, none⟩ = some (.slice none 0 0) := (qb0 BK233.out 2).trans rfl
    have hcz12_3 : wc.cell? ⟨gb233, 3, none⟩ = some (.int .i64 0) := (qb0 BK233.out 3).trans rfl
    have hfz12_0 := qa0 BK233.out 0
    have hfz12_1 := qa0 BK233.out 1
    have hfz12_2 := qa0 BK233.out 2
    have hfz12_3 := qa0 BK233.out 3
    go_wp2
    refine bodyPost_ret (results_ct rfl _ _ gb233 37 #[.int .i64 0, .int .i64 0, .slice none 0 0, .int .i64 0] (0, 0) _ rfl z6_5 Try.underlying37 rfl z6_23) rfl ?_
    exact ⟨_, z6_20, z6_35, z6_0⟩
   replace c10 := Bool.eq_false_iff.mpr c10
   subst c10
   have H1 : ((impl_methodOf.f a0_0).bind fun t236 => ((impl_copyWorth.f a0_0 a0_1 l0_2 a0_3).bind fun bt237 => ((impl_in.f t236 bt237.1 bt237.2.1 bt237.2.2.1 bt237.2.2.2 a1 a2).bind fun bt243 => (if (bt243.2.2.1.length : Int) > 300 then (some (0, 0, ([] : List (S59)), 0, false)) else ((impl_WorthOk.f kj3 bt243.1 bt243.2.1 bt243.2.2.1 bt243.2.2.2).bind fun t249 => (if t249 = true then (some (bt243.1, bt243.2.1, bt243.2.2.1, bt243.2.2.2, true)) else (some (0, 0, ([] : List (S59)), 0, false)))))))) = some (r1, r2, r3, r4, r5) := by rw [if_neg (show ¬ (false = true) by decide)] at H; exact H
   clear H
   have H := H1
   clear H1
   replace H := Option.bind_eq_some_iff.mp H
   obtain ⟨t236, A130, H⟩ := H
   replace H : ((impl_copyWorth.f a0_0 a0_1 l0_2 a0_3).bind fun bt237 => ((impl_in.f t236 bt237.1 bt237.2.1 bt237.2.2.1 bt237.2.2.2 a1 a2).bind fun bt243 => (if (bt243.2.2.1.length : Int) > 300 then (some (0, 0, ([] : List (S59)), 0, false)) else ((impl_WorthOk.f kj3 bt243.1 bt243.2.1 bt243.2.2.1 bt243.2.2.2).bind fun t249 => (if t249 = true then (some (bt243.1, bt243.2.1, bt243.2.2.1, bt243.2.2.2, true)) else (some (0, 0, ([] : List (S59)), 0, false))))))) = some (r1, r2, r3, r4, r5) := H
   have A13 := Aside0.mk A130
   clear A130
   replace H := Option.bind_eq_some_iff.mp H
   obtain ⟨⟨t237, t238, t239, t242⟩, A140, H⟩ := H
   replace H : ((impl_in.f t236 t237 t238 t239 t242 a1 a2).bind fun bt243 => (if (bt243.2.2.1.length : Int) > 300 then (some (0, 0, ([] : List (S59)), 0, false)) else ((impl_WorthOk.f kj3 bt243.1 bt243.2.1 bt243.2.2.1 bt243.2.2.2).bind fun t249 => (if t249 = true then (some (bt243.1, bt243.2.1, bt243.2.2.1, bt243.2.2.2, true)) else (some (0, 0, ([] : List (S59)), 0, false)))))) = some (r1, r2, r3, r4, r5) := H
   have A14 := Aside0.mk A140
   clear A140
   replace H := Option.bind_eq_some_iff.mp H
   obtain ⟨⟨t243, t244, t245, t248⟩, A150, H⟩ := H
   replace H : (if (t245.length : Int) > 300 then (some (0, 0, ([] : List (S59)), 0, false)) else ((impl_WorthOk.f kj3 t243 t244 t245 t248).bind fun t249 => (if t249 = true then (some (t243, t244, t245, t248, true)) else (some (0, 0, ([] : List (S59)), 0, false))))) = some (r1, r2, r3, r4, r5) := H
   have A15 := Aside0.mk A150
   clear A150
   by_cases c16 : (t245.length : Int) > 300
   ·rw [if_pos c16] at H
    have c16b0 : decide (300 < (t245.length : Int)) = true := decide_eq_true c16
    have c16b1 : decide (300 < t245.length) = true := decide_eq_true (by omega)
    clear c16
    simp only [Option.some.injEq, Prod.mk.injEq] at H
    obtain ⟨rfl, rfl, rfl, rfl, rfl⟩ := H
    try go_wp2
    have n0_ := Aside0.mk (qe0 BK232.out)
    have n1_ := Aside0.mk (qe0 BK233.out)
    have n2_ := Aside0.mk (qi0 HB.out)
    clear BK232
    clear BK233
    clear HB
    have BK232 := n0_
    have BK233 := n1_
    have HB := n2_
    clear n0_ n1_ n2_
    refine start_ (n := 12) (S := fun w' => w'.cell? ⟨gb232, 0, none⟩ = some (.int .i64 a0_0) ∧ w'.cell? ⟨gb232, 1, none⟩ = some (.int .i64 a0_1) ∧ w'.cell? ⟨gb232, 2, none⟩ = some (.slice A0_2 l0_2.length c0_2) ∧ w'.cell? ⟨gb232, 3, none⟩ = some (.int .i64 a0_3)) (ds := [11]) (rb6 [0, 12]) z6_23 rfl rfl ⟨(qb0 BK232.out 0).trans rfl, (qb0 BK232.out 1).trans rfl, (qb0 BK232.out 2).trans rfl, (qb0 BK232.out 3).trans rfl⟩ (fun hHeld => ?_); refine with_tabW impl_takeIn.tab3 impl_takeIn.bits3 (fun HT_ HW_ => ?_)
    generalize wc.drew = w17 at BK232 BK233 HB hHeld ⊢
    refine pure_ (i := 0) (N := some 17) (v := ?_) (a' := ?_) (rb6 [1, 11]) rfl rfl (qs0 HT_.out z6_23) (fun _ _ _ h => h) (Or.inl ⟨by rfl, ?_⟩) ?_ ?_
    rotate_left
    ·intro w'
     go_simp
     with_reducible rfl
    rotate_left
    ·simp only [Act.put, List.setIfInBounds_toArray, List.set_cons_zero, List.set_cons_succ, i64_w, i32_w]
     rfl
    refine pure_ (i := 5) (N := some 22) (v := ?_) (a' := ?_) (rb6 [1, 4, 1, 6]) rfl rfl (qs0 HT_.out z6_23) (fun _ _ _ h => h) (Or.inl ⟨by rfl, ?_⟩) ?_ ?_
    rotate_left
    ·intro w'
     go_simp
     with_reducible rfl
    rotate_left
    ·simp only [Act.put, List.setIfInBounds_toArray, List.set_cons_zero, List.set_cons_succ, i64_w, i32_w]
     rfl
    refine pure_ (i := 6) (N := some 23) (v := ?_) (a' := ?_) (rb6 [1, 4, 2, 5]) rfl rfl (qs0 HT_.out z6_23) (fun _ _ _ h => h) (Or.inl ⟨by rfl, ?_⟩) ?_ ?_
    rotate_left
    ·intro w'
     go_simp
     with_reducible rfl
    rotate_left
    ·simp only [Act.put, List.setIfInBounds_toArray, List.set_cons_zero, List.set_cons_succ, i64_w, i32_w]
     rfl
    refine take_ (i := 1) (N := some 18) (v := ?_) (a' := ?_) (rb6 [2, 3, 2, 5]) rfl rfl (qd1 HT_.out HW_.out z6_23) (fun _ _ _ h => h) (Or.inl ⟨by rfl, ?_⟩) hHeld ?_ ?_
    rotate_left
    ·rintro w' ⟨s0, s1, s2, s3⟩
     go_simp
     with_reducible rfl
    rotate_left
    ·simp only [Act.put, List.setIfInBounds_toArray, List.set_cons_zero, List.set_cons_succ, i64_w, i32_w]
     rfl
    refine take_ (i := 3) (N := some 20) (v := ?_) (a' := ?_) (rb6 [2, 1, 1, 1, 2, 5]) rfl rfl (qd1 HT_.out HW_.out z6_23) (fun _ _ _ h => h) (Or.inl ⟨by rfl, ?_⟩) hHeld ?_ ?_
    rotate_left
    ·rintro w' ⟨s0, s1, s2, s3⟩
     go_simp
     with_reducible rfl
    rotate_left
    ·simp only [Act.put, List.setIfInBounds_toArray, List.set_cons_zero, List.set_cons_succ, i64_w, i32_w]
     rfl
    refine one_ (i := 2) (N := some 19) (rb6 [4, 1, 2, 5]) rfl rfl (one_of HT_.out z6_23) (by decide) (fun K hK => ?_)
    refine goes_ Try.func58 z6_23 rfl #[.int .i64 a0_0] (by rfl) rfl rfl z6_6 ?_
    with_reducible refine (impl_methodOf.calls a0_0 t236 _ A13.out).mono ?_
    rintro e w' ⟨rfl, ⟨nd, rfl⟩⟩
    refine ⟨_, rfl, ?_⟩
    refine hK.out _ _ ⟨(qb0 BK232.out 0).trans rfl, (qb0 BK232.out 1).trans rfl, (qb0 BK232.out 2).trans rfl, (qb0 BK232.out 3).trans rfl⟩ (fun hHeld => ?_)
    clear hK K
    refine norm_ (a' := ?_) ?_ ?_
    rotate_left
    ·show Act.put _ (some 19) _ = _
     simp only [Act.put, List.setIfInBounds_toArray, List.set_cons_zero, List.set_cons_succ, i64_w, i32_w]
     rfl
    refine pure_ (i := 7) (N := some 24) (v := ?_) (a' := ?_) (rb6 [4, 1, 3, 4]) rfl rfl (qs0 HT_.out z6_23) (fun _ _ _ h => h) (Or.inl ⟨by rfl, ?_⟩) ?_ ?_
    rotate_left
    ·intro w'
     go_simp
     with_reducible rfl
    rotate_left
    ·simp only [Act.put, List.setIfInBounds_toArray, List.set_cons_zero, List.set_cons_succ, i64_w, i32_w]
     rfl
    refine pure_ (i := 8) (N := some 25) (v := ?_) (a' := ?_) (rb6 [4, 1, 4, 3]) rfl rfl (qs0 HT_.out z6_23) (fun _ _ _ h => h) (Or.inl ⟨by rfl, ?_⟩) ?_ ?_
    rotate_left
    ·intro w'
     refine in_check t236 (.tmp 24) w' ?_ ?_
     ·rfl
     ·rfl
    rotate_left
    ·simp only [Act.put, List.setIfInBounds_toArray, List.set_cons_zero, List.set_cons_succ, i64_w, i32_w]
     rfl
    refine pure_ (i := 9) (N := some 26) (v := ?_) (a' := ?_) (rb6 [4, 1, 5, 2]) rfl rfl (qs0 HT_.out z6_23) (fun _ _ _ h => h) (Or.inl ⟨by rfl, ?_⟩) ?_ ?_
    rotate_left
    ·intro w'
     go_simp
     with_reducible rfl
    rotate_left
    ·simp only [Act.put, List.setIfInBounds_toArray, List.set_cons_zero, List.set_cons_succ, i64_w, i32_w]
     rfl
    refine one_ (i := 4) (N := some 21) (rb6 [10, 2]) rfl rfl (one_of HT_.out z6_23) (by decide) (fun K hK => ?_)
    refine goes_ Try.func59 z6_23 rfl #[.agg #[.int .i64 a0_0, .int .i64 a0_1, .slice A0_2 l0_2.length c0_2, .int .i64 a0_3]] (by rfl) rfl rfl z6_6 ?_
    with_reducible refine (impl_copyWorth.calls a0_0 a0_1 _ _ l0_2 a0_3 t237 t238 t239 t242 _ ?side1 ?side2 A14.out).mono ?_
    (case side1 => exact z6_12)
    (case side2 => exact HC0_2.out)
    rintro e w18 ⟨v240, rfl, ho0, hb⟩
    refine ⟨_, rfl, ?_⟩
    have n0_ := Aside0.mk (Kd.qh1 ho0 (qn0 z6_0))
    have n1_ := Aside0.mk (qf0 (g := gb232) (o := .cells #[.int .i64 a0_0, .int .i64 a0_1, .slice A0_2 l0_2.length c0_2, .int .i64 a0_3] 37 (0, 0)) z6_9 hb)
    have n2_ := Aside0.mk (qf0 (g := gb233) (o := .cells #[.int .i64 0, .int .i64 0, .slice none 0 0, .int .i64 0] 37 (0, 0)) z6_16 hb)
    have n3_ := Aside0.mk (qg0 z6_0 hb)
    clear BK232
    clear BK233
    clear HB
    have HO241 := n0_
    have BK232 := n1_
    have BK233 := n2_
    have HB := n3_
    clear n0_ n1_ n2_ n3_
    (try clear hb)
    (try clear hb2)
    (try clear hk)
    (try clear hi)
    (try clear ho0)
    obtain ⟨Ao19, co19, eo19⟩ := Kd.qb1 HO241.out
    (first | subst eo19 | (injection eo19 with f1_ f2_ f3_; have f4_ := f1_.symm; have f5_ := f3_.symm; clear f1_ f2_ f3_; subst f4_; subst f5_))
    refine hK.out _ _ ⟨(qb0 BK232.out 0).trans rfl, (qb0 BK232.out 1).trans rfl, (qb0 BK232.out 2).trans rfl, (qb0 BK232.out 3).trans rfl⟩ (fun hHeld => ?_)
    clear hK K
    refine norm_ (a' := ?_) ?_ ?_
    rotate_left
    ·show Act.put _ (some 21) _ = _
     simp only [Act.put, List.setIfInBounds_toArray, List.set_cons_zero, List.set_cons_succ, i64_w, i32_w]
     rfl
    refine one_ (i := 10) (N := some 27) (rb6 [11, 1]) rfl rfl (one_of HT_.out z6_23) (by decide) (fun K hK => ?_)
    refine call_ (mf t236) #[.agg #[], .agg #[.int .i64 t237, .int .i64 t238, .slice Ao19 t239.length co19, .int .i64 t242], .int .i64 a1, .int .i64 a2] (by rfl) rfl (in_run t236 (.tmp 26) (.tmp 21) (.tmp 22) (.tmp 23) _ _ _ rfl rfl rfl) ?_
    with_reducible refine (impl_in.calls t236 t237 t238 (fun k_ => some k_ = (.slice Ao19 t239.length co19 : Value).ownBlock) (.slice Ao19 t239.length co19) t239 t242 a1 a2 t243 t244 t245 t248 w _ ?side1 ?side2 A15.out).mono ?_
    (case side1 => exact z6_0)
    (case side2 => exact Kd.R_tight rfl HO241.out)
    rintro e w20 ⟨v246, rfl, ho0, hb, hkp⟩
    refine ⟨_, rfl, ?_⟩
    have n0_ := Aside0.mk (qf1 z6_9 hkp (fun hs_ => (fun e_ => (Kd.R_ne HO241.out BK232.out (by decide)) e_) hs_))
    have n1_ := Aside0.mk (qf1 z6_16 hkp (fun hs_ => (fun e_ => (Kd.R_ne HO241.out BK233.out (by decide)) e_) hs_))
    have n2_ := Aside0.mk (Kd.qw0 (ok' := fun k_ => True) ho0 (fun k_ hk_ => trivial))
    have n3_ := Aside0.mk (hb)
    clear BK232
    clear BK233
    clear HB
    clear HO241
    have BK232 := n0_
    have BK233 := n1_
    have HO247 := n2_
    have HB := n3_
    clear n0_ n1_ n2_ n3_
    (try clear hb)
    (try clear hkp)
    (try clear ho0)
    obtain ⟨Ao23, co23, eo23⟩ := Kd.qb1 HO247.out
    (first | subst eo23 | (injection eo23 with f1_ f2_ f3_; have f4_ := f1_.symm; have f5_ := f3_.symm; clear f1_ f2_ f3_; subst f4_; subst f5_))
    refine hK.out _ _ ⟨(qb0 BK232.out 0).trans rfl, (qb0 BK232.out 1).trans rfl, (qb0 BK232.out 2).trans rfl, (qb0 BK232.out 3).trans rfl⟩ (fun hHeld => ?_)
    clear hK K
    refine norm_ (a' := ?_) ?_ ?_
    rotate_left
    ·show Act.put _ (some 27) _ = _
     simp only [Act.put, List.setIfInBounds_toArray, List.set_cons_zero, List.set_cons_succ, i64_w, i32_w]
     rfl
    refine last_ (i := 11) (N := none) (rb6 [12]) rfl rfl (one_of HT_.out z6_23) (by decide) (fun K hK => ?_)
    have hs21 : w20.cell? ⟨gb232, 0, none⟩ = some (.int .i64 a0_0) := (qb0 BK232.out 0).trans rfl
    have hfs21 := qa0 BK232.out 0
    have hns21_1 := NB233_232.out
    have hms21_1 := NB232_233.out
    have hs22 : w20.cell? ⟨gb232, 1, none⟩ = some (.int .i64 a0_1) := (qb0 BK232.out 1).trans rfl
    have hfs22 := qa0 BK232.out 1
    have hns22_1 := NB233_232.out
    have hms22_1 := NB232_233.out
    have hs24 : w20.cell? ⟨gb232, 2, none⟩ = some (.slice A0_2 l0_2.length c0_2) := (qb0 BK232.out 2).trans rfl
    have hfs24 := qa0 BK232.out 2
    have hns24_1 := NB233_232.out
    have hms24_1 := NB232_233.out
    have hs25 : w20.cell? ⟨gb232, 3, none⟩ = some (.int .i64 a0_3) := (qb0 BK232.out 3).trans rfl
    have hfs25 := qa0 BK232.out 3
    have hns25_1 := NB233_232.out
    have hms25_1 := NB232_233.out
    refine skip_ (w1 := ?_) (by rfl) rfl ?_ ?_
    rotate_left
    ·go_simp
     rfl
    refine hK.out _ _ ?_
    clear hK K
    refine done_ (done_of HT_.out z6_23) ?_
    have hnb26 := NB232_233.out
    have hnc26 := NB233_232.out
    have hcz27_0 : w20.cell? ⟨gb232, 0, none⟩ = some (.int .i64 a0_0) := (qb0 BK232.out 0).trans rfl
    have hcz27_1 : w20.cell? ⟨gb232, 1, none⟩ = some (.int .i64 a0_1) := (qb0 BK232.out 1).trans rfl
    have hcz27_2 : w20.cell? ⟨gb232, 2, none⟩ = some (.slice A0_2 l0_2.length c0_2) := (qb0 BK232.out 2).trans rfl
    have hcz27_3 : w20.cell? ⟨gb232, 3, none⟩ = some (.int .i64 a0_3) := (qb0 BK232.out 3).trans rfl
    have hfz27_0 := qa0 BK232.out 0
    have hfz27_1 := qa0 BK232.out 1
    have hfz27_2 := qa0 BK232.out 2
    have hfz27_3 := qa0 BK232.out 3
    have hcz28_0 : w20.cell? ⟨gb233, 0, none⟩ = some (.int .i64 0) := (qb0 BK233.out 0).trans rfl
    have hcz28_1 : w20.cell? ⟨gb233, 1, none⟩ = some (.int .i64 0) := (qb0 BK233.out 1).trans rfl
    have hcz28_2 : w20.cell? ⟨gb233, 2, none⟩ = some (.slice none 0 0) := (qb0 BK233.out 2).trans rfl
    have hcz28_3 : w20.cell? ⟨gb233, 3, none⟩ = some (.int .i64 0) := (qb0 BK233.out 3).trans rfl
    have hfz28_0 := qa0 BK233.out 0
    have hfz28_1 := qa0 BK233.out 1
    have hfz28_2 := qa0 BK233.out 2
    have hfz28_3 := qa0 BK233.out 3
    try go_wp2
    refine bodyPost_ret (results_ct rfl _ _ gb233 37 #[.int .i64 0, .int .i64 0, .slice none 0 0, .int .i64 0] (0, 0) _ rfl (by (with_reducible repeat (first | refine qc0 ?_ _ | refine qe0 ?_ | refine qd0 ?_ _)); refine qm0 (cs := #[.int .i64 0, .int .i64 0, .slice none 0 0, .int .i64 0]) ?_ 3 _ rfl; (with_reducible repeat (first | refine qc0 ?_ _ | refine qe0 ?_ | refine qd0 ?_ _)); refine qm0 (cs := #[.int .i64 0, .int .i64 0, .slice none 0 0, .int .i64 0]) ?_ 2 _ rfl; (with_reducible repeat (first | refine qc0 ?_ _ | refine qe0 ?_ | refine qd0 ?_ _)); refine qm0 (cs := #[.int .i64 0, .int .i64 0, .slice none 0 0, .int .i64 0]) ?_ 1 _ rfl; (with_reducible repeat (first | refine qc0 ?_ _ | refine qe0 ?_ | refine qd0 ?_ _)); refine qm0 (cs := #[.int .i64 0, .int .i64 0, .slice none 0 0, .int .i64 0]) ?_ 0 _ rfl; (with_reducible repeat (first | refine qc0 ?_ _ | refine qe0 ?_ | refine qd0 ?_ _)); refine qv0 ?_ NB233_232.out _; (with_reducible repeat (first | refine qc0 ?_ _ | refine qe0 ?_ | refine qd0 ?_ _)); refine qv0 ?_ NB233_232.out _; (with_reducible repeat (first | refine qc0 ?_ _ | refine qe0 ?_ | refine qd0 ?_ _)); refine qv0 ?_ NB233_232.out _; (with_reducible repeat (first | refine qc0 ?_ _ | refine qe0 ?_ | refine qd0 ?_ _)); refine qv0 ?_ NB233_232.out _; (with_reducible repeat (first | refine qc0 ?_ _ | refine qe0 ?_ | refine qd0 ?_ _)); exact BK233.out) Try.underlying37 rfl z6_23) rfl ?_
    exact ⟨_, z6_20, z6_35, z6_0⟩
   rw [if_neg c16] at H
   have c16b0 : decide (300 < (t245.length : Int)) = false := decide_eq_false c16
   have c16b1 : decide (300 < t245.length) = false := decide_eq_false (by omega)
   clear c16
   replace H := Option.bind_eq_some_iff.mp H
   obtain ⟨t249, A290, H⟩ := H
   replace H : (if t249 = true then (some (t243, t244, t245, t248, true)) else (some (0, 0, ([] : List (S59)), 0, false))) = some (r1, r2, r3, r4, r5) := H
   have A29 := Aside0.mk A290
   clear A290
   by_cases c30 : t249 = true
   ·subst c30
    have H1 : (some (t243, t244, t245, t248, true)) = some (r1, r2, r3, r4, r5) := by rw [if_pos rfl] at H; exact H
    clear H
    have H := H1
    clear H1
    simp only [Option.some.injEq, Prod.mk.injEq] at H
    obtain ⟨rfl, rfl, rfl, rfl, rfl⟩ := H
    try go_wp2
    have n0_ := Aside0.mk (qe0 BK232.out)
    have n1_ := Aside0.mk (qe0 BK233.out)
    have n2_ := Aside0.mk (qi0 HB.out)
    clear BK232
    clear BK233
    clear HB
    have BK232 := n0_
    have BK233 := n1_
    have HB := n2_
    clear n0_ n1_ n2_
    refine start_ (n := 12) (S := fun w' => w'.cell? ⟨gb232, 0, none⟩ = some (.int .i64 a0_0) ∧ w'.cell? ⟨gb232, 1, none⟩ = some (.int .i64 a0_1) ∧ w'.cell? ⟨gb232, 2, none⟩ = some (.slice A0_2 l0_2.length c0_2) ∧ w'.cell? ⟨gb232, 3, none⟩ = some (.int .i64 a0_3)) (ds := [11]) (rb6 [0, 12]) z6_23 rfl rfl ⟨(qb0 BK232.out 0).trans rfl, (qb0 BK232.out 1).trans rfl, (qb0 BK232.out 2).trans rfl, (qb0 BK232.out 3).trans rfl⟩ (fun hHeld => ?_); refine with_tabW impl_takeIn.tab3 impl_takeIn.bits3 (fun HT_ HW_ => ?_)
    generalize wc.drew = w31 at BK232 BK233 HB hHeld ⊢
    refine pure_ (i := 0) (N := some 17) (v := ?_) (a' := ?_) (rb6 [1, 11]) rfl rfl (qs0 HT_.out z6_23) (fun _ _ _ h => h) (Or.inl ⟨by rfl, ?_⟩) ?_ ?_
    rotate_left
    ·intro w'
     go_simp
     with_reducible rfl
    rotate_left
    ·simp only [Act.put, List.setIfInBounds_toArray, List.set_cons_zero, List.set_cons_succ, i64_w, i32_w]
     rfl
    refine pure_ (i := 5) (N := some 22) (v := ?_) (a' := ?_) (rb6 [1, 4, 1, 6]) rfl rfl (qs0 HT_.out z6_23) (fun _ _ _ h => h) (Or.inl ⟨by rfl, ?_⟩) ?_ ?_
    rotate_left
    ·intro w'
     go_simp
     with_reducible rfl
    rotate_left
    ·simp only [Act.put, List.setIfInBounds_toArray, List.set_cons_zero, List.set_cons_succ, i64_w, i32_w]
     rfl
    refine pure_ (i := 6) (N := some 23) (v := ?_) (a' := ?_) (rb6 [1, 4, 2, 5]) rfl rfl (qs0 HT_.out z6_23) (fun _ _ _ h => h) (Or.inl ⟨by rfl, ?_⟩) ?_ ?_
    rotate_left
    ·intro w'
     go_simp
     with_reducible rfl
    rotate_left
    ·simp only [Act.put, List.setIfInBounds_toArray, List.set_cons_zero, List.set_cons_succ, i64_w, i32_w]
     rfl
    refine take_ (i := 1) (N := some 18) (v := ?_) (a' := ?_) (rb6 [2, 3, 2, 5]) rfl rfl (qd1 HT_.out HW_.out z6_23) (fun _ _ _ h => h) (Or.inl ⟨by rfl, ?_⟩) hHeld ?_ ?_
    rotate_left
    ·rintro w' ⟨s0, s1, s2, s3⟩
     go_simp
     with_reducible rfl
    rotate_left
    ·simp only [Act.put, List.setIfInBounds_toArray, List.set_cons_zero, List.set_cons_succ, i64_w, i32_w]
     rfl
    refine take_ (i := 3) (N := some 20) (v := ?_) (a' := ?_) (rb6 [2, 1, 1, 1, 2, 5]) rfl rfl (qd1 HT_.out HW_.out z6_23) (fun _ _ _ h => h) (Or.inl ⟨by rfl, ?_⟩) hHeld ?_ ?_
    rotate_left
    ·rintro w' ⟨s0, s1, s2, s3⟩
     go_simp
     with_reducible rfl
    rotate_left
    ·simp only [Act.put, List.setIfInBounds_toArray, List.set_cons_zero, List.set_cons_succ, i64_w, i32_w]
     rfl
    refine one_ (i := 2) (N := some 19) (rb6 [4, 1, 2, 5]) rfl rfl (one_of HT_.out z6_23) (by decide) (fun K hK => ?_)
    refine goes_ Try.func58 z6_23 rfl #[.int .i64 a0_0] (by rfl) rfl rfl z6_6 ?_
    with_reducible refine (impl_methodOf.calls a0_0 t236 _ A13.out).mono ?_
    rintro e w' ⟨rfl, ⟨nd, rfl⟩⟩
    refine ⟨_, rfl, ?_⟩
    refine hK.out _ _ ⟨(qb0 BK232.out 0).trans rfl, (qb0 BK232.out 1).trans rfl, (qb0 BK232.out 2).trans rfl, (qb0 BK232.out 3).trans rfl⟩ (fun hHeld => ?_)
    clear hK K
    refine norm_ (a' := ?_) ?_ ?_
    rotate_left
    ·show Act.put _ (some 19) _ = _
     simp only [Act.put, List.setIfInBounds_toArray, List.set_cons_zero, List.set_cons_succ, i64_w, i32_w]
     rfl
    refine pure_ (i := 7) (N := some 24) (v := ?_) (a' := ?_) (rb6 [4, 1, 3, 4]) rfl rfl (qs0 HT_.out z6_23) (fun _ _ _ h => h) (Or.inl ⟨by rfl, ?_⟩) ?_ ?_
    rotate_left
    ·intro w'
     go_simp
     with_reducible rfl
    rotate_left
    ·simp only [Act.put, List.setIfInBounds_toArray, List.set_cons_zero, List.set_cons_succ, i64_w, i32_w]
     rfl
    refine pure_ (i := 8) (N := some 25) (v := ?_) (a' := ?_) (rb6 [4, 1, 4, 3]) rfl rfl (qs0 HT_.out z6_23) (fun _ _ _ h => h) (Or.inl ⟨by rfl, ?_⟩) ?_ ?_
    rotate_left
    ·intro w'
     refine in_check t236 (.tmp 24) w' ?_ ?_
     ·rfl
     ·rfl
    rotate_left
    ·simp only [Act.put, List.setIfInBounds_toArray, List.set_cons_zero, List.set_cons_succ, i64_w, i32_w]
     rfl
    refine pure_ (i := 9) (N := some 26) (v := ?_) (a' := ?_) (rb6 [4, 1, 5, 2]) rfl rfl (qs0 HT_.out z6_23) (fun _ _ _ h => h) (Or.inl ⟨by rfl, ?_⟩) ?_ ?_
    rotate_left
    ·intro w'
     go_simp
     with_reducible rfl
    rotate_left
    ·simp only [Act.put, List.setIfInBounds_toArray, List.set_cons_zero, List.set_cons_succ, i64_w, i32_w]
     rfl
    refine one_ (i := 4) (N := some 21) (rb6 [10, 2]) rfl rfl (one_of HT_.out z6_23) (by decide) (fun K hK => ?_)
    refine goes_ Try.func59 z6_23 rfl #[.agg #[.int .i64 a0_0, .int .i64 a0_1, .slice A0_2 l0_2.length c0_2, .int .i64 a0_3]] (by rfl) rfl rfl z6_6 ?_
    with_reducible refine (impl_copyWorth.calls a0_0 a0_1 _ _ l0_2 a0_3 t237 t238 t239 t242 _ ?side1 ?side2 A14.out).mono ?_
    (case side1 => exact z6_12)
    (case side2 => exact HC0_2.out)
    rintro e w32 ⟨v240, rfl, ho0, hb⟩
    refine ⟨_, rfl, ?_⟩
    have n0_ := Aside0.mk (Kd.qh1 ho0 (qn0 z6_0))
    have n1_ := Aside0.mk (qf0 (g := gb232) (o := .cells #[.int .i64 a0_0, .int .i64 a0_1, .slice A0_2 l0_2.length c0_2, .int .i64 a0_3] 37 (0, 0)) z6_9 hb)
    have n2_ := Aside0.mk (qf0 (g := gb233) (o := .cells #[.int .i64 0, .int .i64 0, .slice none 0 0, .int .i64 0] 37 (0, 0)) z6_16 hb)
    have n3_ := Aside0.mk (qg0 z6_0 hb)
    clear BK232
    clear BK233
    clear HB
    have HO241 := n0_
    have BK232 := n1_
    have BK233 := n2_
    have HB := n3_
    clear n0_ n1_ n2_ n3_
    (try clear hb)
    (try clear hb2)
    (try clear hk)
    (try clear hi)
    (try clear ho0)
    obtain ⟨Ao33, co33, eo33⟩ := Kd.qb1 HO241.out
    (first | subst eo33 | (injection eo33 with f1_ f2_ f3_; have f4_ := f1_.symm; have f5_ := f3_.symm; clear f1_ f2_ f3_; subst f4_; subst f5_))
    refine hK.out _ _ ⟨(qb0 BK232.out 0).trans rfl, (qb0 BK232.out 1).trans rfl, (qb0 BK232.out 2).trans rfl, (qb0 BK232.out 3).trans rfl⟩ (fun hHeld => ?_)
    clear hK K
    refine norm_ (a' := ?_) ?_ ?_
    rotate_left
    ·show Act.put _ (some 21) _ = _
     simp only [Act.put, List.setIfInBounds_toArray, List.set_cons_zero, List.set_cons_succ, i64_w, i32_w]
     rfl
    refine one_ (i := 10) (N := some 27) (rb6 [11, 1]) rfl rfl (one_of HT_.out z6_23) (by decide) (fun K hK => ?_)
    refine call_ (mf t236) #[.agg #[], .agg #[.int .i64 t237, .int .i64 t238, .slice Ao33 t239.length co33, .int .i64 t242], .int .i64 a1, .int .i64 a2] (by rfl) rfl (in_run t236 (.tmp 26) (.tmp 21) (.tmp 22) (.tmp 23) _ _ _ rfl rfl rfl) ?_
    with_reducible refine (impl_in.calls t236 t237 t238 (fun k_ => some k_ = (.slice Ao33 t239.length co33 : Value).ownBlock) (.slice Ao33 t239.length co33) t239 t242 a1 a2 t243 t244 t245 t248 w _ ?side1 ?side2 A15.out).mono ?_
    (case side1 => exact z6_0)
    (case side2 => exact Kd.R_tight rfl HO241.out)
    rintro e w34 ⟨v246, rfl, ho0, hb, hkp⟩
    refine ⟨_, rfl, ?_⟩
    have n0_ := Aside0.mk (qf1 z6_9 hkp (fun hs_ => (fun e_ => (Kd.R_ne HO241.out BK232.out (by decide)) e_) hs_))
    have n1_ := Aside0.mk (qf1 z6_16 hkp (fun hs_ => (fun e_ => (Kd.R_ne HO241.out BK233.out (by decide)) e_) hs_))
    have n2_ := Aside0.mk (Kd.qw0 (ok' := fun k_ => True) ho0 (fun k_ hk_ => trivial))
    have n3_ := Aside0.mk (hb)
    clear BK232
    clear BK233
    clear HB
    clear HO241
    have BK232 := n0_
    have BK233 := n1_
    have HO247 := n2_
    have HB := n3_
    clear n0_ n1_ n2_ n3_
    (try clear hb)
    (try clear hkp)
    (try clear ho0)
    obtain ⟨Ao37, co37, eo37⟩ := Kd.qb1 HO247.out
    (first | subst eo37 | (injection eo37 with f1_ f2_ f3_; have f4_ := f1_.symm; have f5_ := f3_.symm; clear f1_ f2_ f3_; subst f4_; subst f5_))
    refine hK.out _ _ ⟨(qb0 BK232.out 0).trans rfl, (qb0 BK232.out 1).trans rfl, (qb0 BK232.out 2).trans rfl, (qb0 BK232.out 3).trans rfl⟩ (fun hHeld => ?_)
    clear hK K
    refine norm_ (a' := ?_) ?_ ?_
    rotate_left
    ·show Act.put _ (some 27) _ = _
     simp only [Act.put, List.setIfInBounds_toArray, List.set_cons_zero, List.set_cons_succ, i64_w, i32_w]
     rfl
    refine last_ (i := 11) (N := none) (rb6 [12]) rfl rfl (one_of HT_.out z6_23) (by decide) (fun K hK => ?_)
    have hs35 : w34.cell? ⟨gb232, 0, none⟩ = some (.int .i64 a0_0) := (qb0 BK232.out 0).trans rfl
    have hfs35 := qa0 BK232.out 0
    have hns35_1 := NB233_232.out
    have hms35_1 := NB232_233.out
    have hs36 : w34.cell? ⟨gb232, 1, none⟩ = some (.int .i64 a0_1) := (qb0 BK232.out 1).trans rfl
    have hfs36 := qa0 BK232.out 1
    have hns36_1 := NB233_232.out
    have hms36_1 := NB232_233.out
    have hs38 : w34.cell? ⟨gb232, 2, none⟩ = some (.slice A0_2 l0_2.length c0_2) := (qb0 BK232.out 2).trans rfl
    have hfs38 := qa0 BK232.out 2
    have hns38_1 := NB233_232.out
    have hms38_1 := NB232_233.out
    have hs39 : w34.cell? ⟨gb232, 3, none⟩ = some (.int .i64 a0_3) := (qb0 BK232.out 3).trans rfl
    have hfs39 := qa0 BK232.out 3
    have hns39_1 := NB233_232.out
    have hms39_1 := NB232_233.out
    refine skip_ (w1 := ?_) (by rfl) rfl ?_ ?_
    rotate_left
    ·go_simp
     rfl
    refine hK.out _ _ ?_
    clear hK K
    refine done_ (done_of HT_.out z6_23) ?_
    have hnb40 := NB232_233.out
    have hnc40 := NB233_232.out
    have hcz41_0 : w34.cell? ⟨gb232, 0, none⟩ = some (.int .i64 a0_0) := (qb0 BK232.out 0).trans rfl
    have hcz41_1 : w34.cell? ⟨gb232, 1, none⟩ = some (.int .i64 a0_1) := (qb0 BK232.out 1).trans rfl
    have hcz41_2 : w34.cell? ⟨gb232, 2, none⟩ = some (.slice A0_2 l0_2.length c0_2) := (qb0 BK232.out 2).trans rfl
    have hcz41_3 : w34.cell? ⟨gb232, 3, none⟩ = some (.int .i64 a0_3) := (qb0 BK232.out 3).trans rfl
    have hfz41_0 := qa0 BK232.out 0
    have hfz41_1 := qa0 BK232.out 1
    have hfz41_2 := qa0 BK232.out 2
    have hfz41_3 := qa0 BK232.out 3
    try go_wp2_with (first | (go_at_call 38; (with_reducible refine (impl_WorthOk.calls kj3 t243 t244 _ _ t245 t248 true _ ?side1 ?side2 A29.out).mono ?_); (case side1 => refine (Kd.qq0 (e := 59) (base := w.heap.size) (ok := fun k_ => True) (n := t245.length) (c := co37) ?_).2.2; exact z6_17); (case side2 => exact (Kd.qq0 HO247.out).2.1); rintro e w42 ⟨rfl, hb⟩; have n0_ := Aside0.mk (Kd.qp0 z6_17 hb); have n1_ := Aside0.mk (qf0 (g := gb232) (o := .cells #[.int .i64 t243, .int .i64 t244, .slice Ao37 t245.length co37, .int .i64 t248] 37 (0, 0)) (by (with_reducible repeat (first | refine qc0 ?_ _ | refine qe0 ?_ | refine qd0 ?_ _)); refine qm0 (cs := #[.int .i64 t243, .int .i64 t244, .slice Ao37 t245.length co37, .int .i64 a0_3]) ?_ 3 _ rfl; (with_reducible repeat (first | refine qc0 ?_ _ | refine qe0 ?_ | refine qd0 ?_ _)); refine qm0 (cs := #[.int .i64 t243, .int .i64 t244, .slice A0_2 l0_2.length c0_2, .int .i64 a0_3]) ?_ 2 _ rfl; (with_reducible repeat (first | refine qc0 ?_ _ | refine qe0 ?_ | refine qd0 ?_ _)); refine qm0 (cs := #[.int .i64 t243, .int .i64 a0_1, .slice A0_2 l0_2.length c0_2, .int .i64 a0_3]) ?_ 1 _ rfl; (with_reducible repeat (first | refine qc0 ?_ _ | refine qe0 ?_ | refine qd0 ?_ _)); refine qm0 (cs := #[.int .i64 a0_0, .int .i64 a0_1, .slice A0_2 l0_2.length c0_2, .int .i64 a0_3]) ?_ 0 _ rfl; (with_reducible repeat (first | refine qc0 ?_ _ | refine qe0 ?_ | refine qd0 ?_ _)); exact BK232.out) hb); have n2_ := Aside0.mk (qf0 (g := gb233) (o := .cells #[.int .i64 0, .int .i64 0, .slice none 0 0, .int .i64 0] 37 (0, 0)) z6_7 hb); have n3_ := Aside0.mk (qg0 z6_0 hb); clear HO247; clear BK232; clear BK233; clear HB; have HO247 := n0_; have BK232 := n1_; have BK233 := n2_; have HB := n3_; clear n0_ n1_ n2_ n3_; (try clear hb); (try clear hb2); (try clear hk); (try clear hi); have hcz43_0 : w42.cell? ⟨gb232, 0, none⟩ = some (.int .i64 t243) := (qb0 BK232.out 0).trans rfl; have hcz43_1 : w42.cell? ⟨gb232, 1, none⟩ = some (.int .i64 t244) := (qb0 BK232.out 1).trans rfl; have hcz43_2 : w42.cell? ⟨gb232, 2, none⟩ = some (.slice Ao37 t245.length co37) := (qb0 BK232.out 2).trans rfl; have hcz43_3 : w42.cell? ⟨gb232, 3, none⟩ = some (.int .i64 t248) := (qb0 BK232.out 3).trans rfl; have hfz43_0 := qa0 BK232.out 0; have hfz43_1 := qa0 BK232.out 1; have hfz43_2 := qa0 BK232.out 2; have hfz43_3 := qa0 BK232.out 3; have hcz44_0 : w42.cell? ⟨gb233, 0, none⟩ = some (.int .i64 0) := (qb0 BK233.out 0).trans rfl; have hcz44_1 : w42.cell? ⟨gb233, 1, none⟩ = some (.int .i64 0) := (qb0 BK233.out 1).trans rfl; have hcz44_2 : w42.cell? ⟨gb233, 2, none⟩ = some (.slice none 0 0) := (qb0 BK233.out 2).trans rfl; have hcz44_3 : w42.cell? ⟨gb233, 3, none⟩ = some (.int .i64 0) := (qb0 BK233.out 3).trans rfl; have hfz44_0 := qa0 BK233.out 0; have hfz44_1 := qa0 BK233.out 1; have hfz44_2 := qa0 BK233.out 2; have hfz44_3 := qa0 BK233.out 3))
    refine bodyPost_ret (results_ct rfl _ _ gb233 37 #[.int .i64 t243, .int .i64 t244, .slice Ao37 t245.length co37, .int .i64 t248] (0, 0) _ rfl (by (with_reducible repeat (first | refine qc0 ?_ _ | refine qe0 ?_ | refine qd0 ?_ _)); refine qm0 (cs := #[.int .i64 t243, .int .i64 t244, .slice Ao37 t245.length co37, .int .i64 0]) ?_ 3 _ rfl; (with_reducible repeat (first | refine qc0 ?_ _ | refine qe0 ?_ | refine qd0 ?_ _)); refine qm0 (cs := #[.int .i64 t243, .int .i64 t244, .slice none 0 0, .int .i64 0]) ?_ 2 _ rfl; (with_reducible repeat (first | refine qc0 ?_ _ | refine qe0 ?_ | refine qd0 ?_ _)); refine qm0 (cs := #[.int .i64 t243, .int .i64 0, .slice none 0 0, .int .i64 0]) ?_ 1 _ rfl; (with_reducible repeat (first | refine qc0 ?_ _ | refine qe0 ?_ | refine qd0 ?_ _)); refine qm0 (cs := #[.int .i64 0, .int .i64 0, .slice none 0 0, .int .i64 0]) ?_ 0 _ rfl; (with_reducible repeat (first | refine qc0 ?_ _ | refine qe0 ?_ | refine qd0 ?_ _)); exact BK233.out) Try.underlying37 rfl z6_23) rfl ?_
    exact ⟨_, z6_20, by (with_reducible repeat (first | apply Kd.qu0 | apply Kd.qt0 | apply Kd.qx0)); exact Kd.qw0 (Kd.R_far (p := ⟨gb233, 3, none⟩) (Kd.R_far (p := ⟨gb233, 2, none⟩) (Kd.R_far (p := ⟨gb233, 1, none⟩) (Kd.R_far (p := ⟨gb233, 0, none⟩) (Kd.qz0 HO247.out BK233.out (by decide)) (fun _ hk => hk.2) (.int .i64 t243)) (fun _ hk => hk.2) (.int .i64 t244)) (fun _ hk => hk.2) (.slice Ao37 t245.length co37)) (fun _ hk => hk.2) (.int .i64 t248)) (fun _ hk => trivial), z6_0⟩
   replace c30 := Bool.eq_false_iff.mpr c30
   subst c30
   have H1 : (some (0, 0, ([] : List (S59)), 0, false)) = some (r1, r2, r3, r4, r5) := by rw [if_neg (show ¬ (false = true) by decide)] at H; exact H
   clear H
   have H := H1
   clear H1
   simp only [Option.some.injEq, Prod.mk.injEq] at H
   obtain ⟨rfl, rfl, rfl, rfl, rfl⟩ := H
   try go_wp2
   have n0_ := Aside0.mk (qe0 BK232.out)
   have n1_ := Aside0.mk (qe0 BK233.out)
   have n2_ := Aside0.mk (qi0 HB.out)
   clear BK232
   clear BK233
   clear HB
   have BK232 := n0_
   have BK233 := n1_
   have HB := n2_
   clear n0_ n1_ n2_
   refine start_ (n := 12) (S := fun w' => w'.cell? ⟨gb232, 0, none⟩ = some (.int .i64 a0_0) ∧ w'.cell? ⟨gb232, 1, none⟩ = some (.int .i64 a0_1) ∧ w'.cell? ⟨gb232, 2, none⟩ = some (.slice A0_2 l0_2.length c0_2) ∧ w'.cell? ⟨gb232, 3, none⟩ = some (.int .i64 a0_3)) (ds := [11]) (rb6 [0, 12]) z6_23 rfl rfl ⟨(qb0 BK232.out 0).trans rfl, (qb0 BK232.out 1).trans rfl, (qb0 BK232.out 2).trans rfl, (qb0 BK232.out 3).trans rfl⟩ (fun hHeld => ?_); refine with_tabW impl_takeIn.tab3 impl_takeIn.bits3 (fun HT_ HW_ => ?_)
   generalize wc.drew = w45 at BK232 BK233 HB hHeld ⊢
   refine pure_ (i := 0) (N := some 17) (v := ?_) (a' := ?_) (rb6 [1, 11]) rfl rfl (qs0 HT_.out z6_23) (fun _ _ _ h => h) (Or.inl ⟨by rfl, ?_⟩) ?_ ?_
   rotate_left
   ·intro w'
    go_simp
    with_reducible rfl
   rotate_left
   ·simp only [Act.put, List.setIfInBounds_toArray, List.set_cons_zero, List.set_cons_succ, i64_w, i32_w]
    rfl
   refine pure_ (i := 5) (N := some 22) (v := ?_) (a' := ?_) (rb6 [1, 4, 1, 6]) rfl rfl (qs0 HT_.out z6_23) (fun _ _ _ h => h) (Or.inl ⟨by rfl, ?_⟩) ?_ ?_
   rotate_left
   ·intro w'
    go_simp
    with_reducible rfl
   rotate_left
   ·simp only [Act.put, List.setIfInBounds_toArray, List.set_cons_zero, List.set_cons_succ, i64_w, i32_w]
    rfl
   refine pure_ (i := 6) (N := some 23) (v := ?_) (a' := ?_) (rb6 [1, 4, 2, 5]) rfl rfl (qs0 HT_.out z6_23) (fun _ _ _ h => h) (Or.inl ⟨by rfl, ?_⟩) ?_ ?_
   rotate_left
   ·intro w'
    go_simp
    with_reducible rfl
   rotate_left
   ·simp only [Act.put, List.setIfInBounds_toArray, List.set_cons_zero, List.set_cons_succ, i64_w, i32_w]
    rfl
   refine take_ (i := 1) (N := some 18) (v := ?_) (a' := ?_) (rb6 [2, 3, 2, 5]) rfl rfl (qd1 HT_.out HW_.out z6_23) (fun _ _ _ h => h) (Or.inl ⟨by rfl, ?_⟩) hHeld ?_ ?_
   rotate_left
   ·rintro w' ⟨s0, s1, s2, s3⟩
    go_simp
    with_reducible rfl
   rotate_left
   ·simp only [Act.put, List.setIfInBounds_toArray, List.set_cons_zero, List.set_cons_succ, i64_w, i32_w]
    rfl
   refine take_ (i := 3) (N := some 20) (v := ?_) (a' := ?_) (rb6 [2, 1, 1, 1, 2, 5]) rfl rfl (qd1 HT_.out HW_.out z6_23) (fun _ _ _ h => h) (Or.inl ⟨by rfl, ?_⟩) hHeld ?_ ?_
   rotate_left
   ·rintro w' ⟨s0, s1, s2, s3⟩
    go_simp
    with_reducible rfl
   rotate_left
   ·simp only [Act.put, List.setIfInBounds_toArray, List.set_cons_zero, List.set_cons_succ, i64_w, i32_w]
    rfl
   refine one_ (i := 2) (N := some 19) (rb6 [4, 1, 2, 5]) rfl rfl (one_of HT_.out z6_23) (by decide) (fun K hK => ?_)
   refine goes_ Try.func58 z6_23 rfl #[.int .i64 a0_0] (by rfl) rfl rfl z6_6 ?_
   with_reducible refine (impl_methodOf.calls a0_0 t236 _ A13.out).mono ?_
   rintro e w' ⟨rfl, ⟨nd, rfl⟩⟩
   refine ⟨_, rfl, ?_⟩
   refine hK.out _ _ ⟨(qb0 BK232.out 0).trans rfl, (qb0 BK232.out 1).trans rfl, (qb0 BK232.out 2).trans rfl, (qb0 BK232.out 3).trans rfl⟩ (fun hHeld => ?_)
   clear hK K
   refine norm_ (a' := ?_) ?_ ?_
   rotate_left
   ·show Act.put _ (some 19) _ = _
    simp only [Act.put, List.setIfInBounds_toArray, List.set_cons_zero, List.set_cons_succ, i64_w, i32_w]
    rfl
   refine pure_ (i := 7) (N := some 24) (v := ?_) (a' := ?_) (rb6 [4, 1, 3, 4]) rfl rfl (qs0 HT_.out z6_23) (fun _ _ _ h => h) (Or.inl ⟨by rfl, ?_⟩) ?_ ?_
   rotate_left
   ·intro w'
    go_simp
    with_reducible rfl
   rotate_left
   ·simp only [Act.put, List.setIfInBounds_toArray, List.set_cons_zero, List.set_cons_succ, i64_w, i32_w]
    rfl
   refine pure_ (i := 8) (N := some 25) (v := ?_) (a' := ?_) (rb6 [4, 1, 4, 3]) rfl rfl (qs0 HT_.out z6_23) (fun _ _ _ h => h) (Or.inl ⟨by rfl, ?_⟩) ?_ ?_
   rotate_left
   ·intro w'
    refine in_check t236 (.tmp 24) w' ?_ ?_
    ·rfl
    ·rfl
   rotate_left
   ·simp only [Act.put, List.setIfInBounds_toArray, List.set_cons_zero, List.set_cons_succ, i64_w, i32_w]
    rfl
   refine pure_ (i := 9) (N := some 26) (v := ?_) (a' := ?_) (rb6 [4, 1, 5, 2]) rfl rfl (qs0 HT_.out z6_23) (fun _ _ _ h => h) (Or.inl ⟨by rfl, ?_⟩) ?_ ?_
   rotate_left
   ·intro w'
    go_simp
    with_reducible rfl
   rotate_left
   ·simp only [Act.put, List.setIfInBounds_toArray, List.set_cons_zero, List.set_cons_succ, i64_w, i32_w]
    rfl
   refine one_ (i := 4) (N := some 21) (rb6 [10, 2]) rfl rfl (one_of HT_.out z6_23) (by decide) (fun K hK => ?_)
   refine goes_ Try.func59 z6_23 rfl #[.agg #[.int .i64 a0_0, .int .i64 a0_1, .slice A0_2 l0_2.length c0_2, .int .i64 a0_3]] (by rfl) rfl rfl z6_6 ?_
   with_reducible refine (impl_copyWorth.calls a0_0 a0_1 _ _ l0_2 a0_3 t237 t238 t239 t242 _ ?side1 ?side2 A14.out).mono ?_
   (case side1 => exact z6_12)
   (case side2 => exact HC0_2.out)
   rintro e w46 ⟨v240, rfl, ho0, hb⟩
   refine ⟨_, rfl, ?_⟩
   have n0_ := Aside0.mk (Kd.qh1 ho0 (qn0 z6_0))
   have n1_ := Aside0.mk (qf0 (g := gb232) (o := .cells #[.int .i64 a0_0, .int .i64 a0_1, .slice A0_2 l0_2.length c0_2, .int .i64 a0_3] 37 (0, 0)) z6_9 hb)
   have n2_ := Aside0.mk (qf0 (g := gb233) (o := .cells #[.int .i64 0, .int .i64 0, .slice none 0 0, .int .i64 0] 37 (0, 0)) z6_16 hb)
   have n3_ := Aside0.mk (qg0 z6_0 hb)
   clear BK232
   clear BK233
   clear HB
   have HO241 := n0_
   have BK232 := n1_
   have BK233 := n2_
   have HB := n3_
   clear n0_ n1_ n2_ n3_
   (try clear hb)
   (try clear hb2)
   (try clear hk)
   (try clear hi)
   (try clear ho0)
   obtain ⟨Ao47, co47, eo47⟩ := Kd.qb1 HO241.out
   (first | subst eo47 | (injection eo47 with f1_ f2_ f3_; have f4_ := f1_.symm; have f5_ := f3_.symm; clear f1_ f2_ f3_; subst f4_; subst f5_))
   refine hK.out _ _ ⟨(qb0 BK232.out 0).trans rfl, (qb0 BK232.out 1).trans rfl, (qb0 BK232.out 2).trans rfl, (qb0 BK232.out 3).trans rfl⟩ (fun hHeld => ?_)
   clear hK K
   refine norm_ (a' := ?_) ?_ ?_
   rotate_left
   ·show Act.put _ (some 21) _ = _
    simp only [Act.put, List.setIfInBounds_toArray, List.set_cons_zero, List.set_cons_succ, i64_w, i32_w]
    rfl
   refine one_ (i := 10) (N := some 27) (rb6 [11, 1]) rfl rfl (one_of HT_.out z6_23) (by decide) (fun K hK => ?_)
   refine call_ (mf t236) #[.agg #[], .agg #[.int .i64 t237, .int .i64 t238, .slice Ao47 t239.length co47, .int .i64 t242], .int .i64 a1, .int .i64 a2] (by rfl) rfl (in_run t236 (.tmp 26) (.tmp 21) (.tmp 22) (.tmp 23) _ _ _ rfl rfl rfl) ?_
   with_reducible refine (impl_in.calls t236 t237 t238 (fun k_ => some k_ = (.slice Ao47 t239.length co47 : Value).ownBlock) (.slice Ao47 t239.length co47) t239 t242 a1 a2 t243 t244 t245 t248 w _ ?side1 ?side2 A15.out).mono ?_
   (case side1 => exact z6_0)
   (case side2 => exact Kd.R_tight rfl HO241.out)
   rintro e w48 ⟨v246, rfl, ho0, hb, hkp⟩
   refine ⟨_, rfl, ?_⟩
   have n0_ := Aside0.mk (qf1 z6_9 hkp (fun hs_ => (fun e_ => (Kd.R_ne HO241.out BK232.out (by decide)) e_) hs_))
   have n1_ := Aside0.mk (qf1 z6_16 hkp (fun hs_ => (fun e_ => (Kd.R_ne HO241.out BK233.out (by decide)) e_) hs_))
   have n2_ := Aside0.mk (Kd.qw0 (ok' := fun k_ => True) ho0 (fun k_ hk_ => trivial))
   have n3_ := Aside0.mk (hb)
   clear BK232
   clear BK233
   clear HB
   clear HO241
   have BK232 := n0_
   have BK233 := n1_
   have HO247 := n2_
   have HB := n3_
   clear n0_ n1_ n2_ n3_
   (try clear hb)
   (try clear hkp)
   (try clear ho0)
   obtain ⟨Ao51, co51, eo51⟩ := Kd.qb1 HO247.out
   (first | subst eo51 | (injection eo51 with f1_ f2_ f3_; have f4_ := f1_.symm; have f5_ := f3_.symm; clear f1_ f2_ f3_; subst f4_; subst f5_))
   refine hK.out _ _ ⟨(qb0 BK232.out 0).trans rfl, (qb0 BK232.out 1).trans rfl, (qb0 BK232.out 2).trans rfl, (qb0 BK232.out 3).trans rfl⟩ (fun hHeld => ?_)
   clear hK K
   refine norm_ (a' := ?_) ?_ ?_
   rotate_left
   ·show Act.put _ (some 27) _ = _
    simp only [Act.put, List.setIfInBounds_toArray, List.set_cons_zero, List.set_cons_succ, i64_w, i32_w]
    rfl
   refine last_ (i := 11) (N := none) (rb6 [12]) rfl rfl (one_of HT_.out z6_23) (by decide) (fun K hK => ?_)
   have hs49 : w48.cell? ⟨gb232, 0, none⟩ = some (.int .i64 a0_0) := (qb0 BK232.out 0).trans rfl
   have hfs49 := qa0 BK232.out 0
   have hns49_1 := NB233_232.out
   have hms49_1 := NB232_233.out
   have hs50 : w48.cell? ⟨gb232, 1, none⟩ = some (.int .i64 a0_1) := (qb0 BK232.out 1).trans rfl
   have hfs50 := qa0 BK232.out 1
   have hns50_1 := NB233_232.out
   have hms50_1 := NB232_233.out
   have hs52 : w48.cell? ⟨gb232, 2, none⟩ = some (.slice A0_2 l0_2.length c0_2) := (qb0 BK232.out 2).trans rfl
   have hfs52 := qa0 BK232.out 2
   have hns52_1 := NB233_232.out
   have hms52_1 := NB232_233.out
   have hs53 : w48.cell? ⟨gb232, 3, none⟩ = some (.int .i64 a0_3) := (qb0 BK232.out 3).trans rfl
   have hfs53 := qa0 BK232.out 3
   have hns53_1 := NB233_232.out
   have hms53_1 := NB232_233.out
   refine skip_ (w1 := ?_) (by rfl) rfl ?_ ?_
   rotate_left
   ·go_simp
    rfl
   refine hK.out _ _ ?_
   clear hK K
   refine done_ (done_of HT_.out z6_23) ?_
   have hnb54 := NB232_233.out
   have hnc54 := NB233_232.out
   have hcz55_0 : w48.cell? ⟨gb232, 0, none⟩ = some (.int .i64 a0_0) := (qb0 BK232.out 0).trans rfl
   have hcz55_1 : w48.cell? ⟨gb232, 1, none⟩ = some (.int .i64 a0_1) := (qb0 BK232.out 1).trans rfl
   have hcz55_2 : w48.cell? ⟨gb232, 2, none⟩ = some (.slice A0_2 l0_2.length c0_2) := (qb0 BK232.out 2).trans rfl
   have hcz55_3 : w48.cell? ⟨gb232, 3, none⟩ = some (.int .i64 a0_3) := (qb0 BK232.out 3).trans rfl
   have hfz55_0 := qa0 BK232.out 0
   have hfz55_1 := qa0 BK232.out 1
   have hfz55_2 := qa0 BK232.out 2
   have hfz55_3 := qa0 BK232.out 3
   try go_wp2_with (first | (go_at_call 38; (with_reducible refine (impl_WorthOk.calls kj3 t243 t244 _ _ t245 t248 false _ ?side1 ?side2 A29.out).mono ?_); (case side1 => refine (Kd.qq0 (e := 59) (base := w.heap.size) (ok := fun k_ => True) (n := t245.length) (c := co51) ?_).2.2; exact z6_18); (case side2 => exact (Kd.qq0 HO247.out).2.1); rintro e w56 ⟨rfl, hb⟩; have n0_ := Aside0.mk (Kd.qp0 z6_18 hb); have n1_ := Aside0.mk (qf0 (g := gb232) (o := .cells #[.int .i64 t243, .int .i64 t244, .slice Ao51 t245.length co51, .int .i64 t248] 37 (0, 0)) (by (with_reducible repeat (first | refine qc0 ?_ _ | refine qe0 ?_ | refine qd0 ?_ _)); refine qm0 (cs := #[.int .i64 t243, .int .i64 t244, .slice Ao51 t245.length co51, .int .i64 a0_3]) ?_ 3 _ rfl; (with_reducible repeat (first | refine qc0 ?_ _ | refine qe0 ?_ | refine qd0 ?_ _)); refine qm0 (cs := #[.int .i64 t243, .int .i64 t244, .slice A0_2 l0_2.length c0_2, .int .i64 a0_3]) ?_ 2 _ rfl; (with_reducible repeat (first | refine qc0 ?_ _ | refine qe0 ?_ | refine qd0 ?_ _)); refine qm0 (cs := #[.int .i64 t243, .int .i64 a0_1, .slice A0_2 l0_2.length c0_2, .int .i64 a0_3]) ?_ 1 _ rfl; (with_reducible repeat (first | refine qc0 ?_ _ | refine qe0 ?_ | refine qd0 ?_ _)); refine qm0 (cs := #[.int .i64 a0_0, .int .i64 a0_1, .slice A0_2 l0_2.length c0_2, .int .i64 a0_3]) ?_ 0 _ rfl; (with_reducible repeat (first | refine qc0 ?_ _ | refine qe0 ?_ | refine qd0 ?_ _)); exact BK232.out) hb); have n2_ := Aside0.mk (qf0 (g := gb233) (o := .cells #[.int .i64 0, .int .i64 0, .slice none 0 0, .int .i64 0] 37 (0, 0)) z6_7 hb); have n3_ := Aside0.mk (qg0 z6_0 hb); clear HO247; clear BK232; clear BK233; clear HB; have HO247 := n0_; have BK232 := n1_; have BK233 := n2_; have HB := n3_; clear n0_ n1_ n2_ n3_; (try clear hb); (try clear hb2); (try clear hk); (try clear hi); have hcz57_0 : w56.cell? ⟨gb233, 0, none⟩ = some (.int .i64 0) := (qb0 BK233.out 0).trans rfl; have hcz57_1 : w56.cell? ⟨gb233, 1, none⟩ = some (.int .i64 0) := (qb0 BK233.out 1).trans rfl; have hcz57_2 : w56.cell? ⟨gb233, 2, none⟩ = some (.slice none 0 0) := (qb0 BK233.out 2).trans rfl; have hcz57_3 : w56.cell? ⟨gb233, 3, none⟩ = some (.int .i64 0) := (qb0 BK233.out 3).trans rfl; have hfz57_0 := qa0 BK233.out 0; have hfz57_1 := qa0 BK233.out 1; have hfz57_2 := qa0 BK233.out 2; have hfz57_3 := qa0 BK233.out 3))
   refine bodyPost_ret (results_ct rfl _ _ gb233 37 #[.int .i64 0, .int .i64 0, .slice none 0 0, .int .i64 0] (0, 0) _ rfl z6_5 Try.underlying37 rfl z6_23) rfl ?_
   exact ⟨_, z6_20, z6_35, z6_0⟩


end Go.Proofs.Ytggfggmmecbdnaa.PFnExactTakeIn
