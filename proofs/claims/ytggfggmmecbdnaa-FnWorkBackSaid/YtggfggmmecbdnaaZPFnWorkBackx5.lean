/- Lines by a program (a changed copy of the kit's print: this repo's wip/tools): Go functions as Lean functions, and proofs that the calls answer so. -/
import Derived.Test.YtggfggmmecbdnaaZPFnWorkBackx0
namespace Go.Proofs.Ytggfggmmecbdnaa.PFnWorkBack
open Go.RowKit Go.Proofs.YtggfggmmecbdnaaW.PrintWords Go.Proofs.YtggfggmmecbdnaaW.PrintLast Go.Proofs.YtggfggmmecbdnaaW.PrintMore
/-- Closing blocks told once. -/
theorem z5_0 {P : Prop} (h : P := by repeat (first | (with_reducible first | exact HB.out | apply qh0 | apply qe0 | apply qi0) | exact HB.out)) : P := h
theorem z5_1 {P : Prop} (h : P := by rw [hg]; exact (below_size (by repeat (first | (with_reducible first | exact HB.out | apply qh0 | apply qe0 | apply qi0) | exact HB.out)))) : P := h
theorem z5_2 {P : Prop} (h : P := by first | (with_reducible assumption) | assumption) : P := h
theorem z5_3 {P : Prop} (h : P := by repeat (first | (with_reducible first | exact HB.out | apply qh0 | apply qe0 | apply qi0 | refine qo0 ?_ GE231.out) | exact HB.out)) : P := h
theorem z5_4 {P : Prop} (h : P := by repeat (first | (with_reducible first | exact HB.out | apply qh0 | apply qe0 | apply qi0 | refine qo0 ?_ GE238.out) | exact HB.out)) : P := h
theorem z5_5 {P : Prop} (h : P := by (with_reducible repeat (first | refine qj0 ?_ _ | refine qk0 ?_ | refine qg0 ?_ _)); exact BK231.out) : P := h
theorem z5_6 {P : Prop} (h : P := by first | rfl | (simp; done) | (simp [*]; done)) : P := h
theorem z5_7 {P : Prop} (h : P := by first | rfl | (simp [errW_none, errW_some] <;> rfl) | (simp only [← hji4, ← hji6]; first | rfl | (simp [errW_none, errW_some] <;> rfl)) | (simp [*, errW_none, errW_some] <;> rfl)) : P := h
theorem z5_8 {P : Prop} (h : P := by (try simp only [List.map_toArray, List.map_cons, List.map_nil]); first | done | rfl | (simp only [List.length_drop, List.length_take]; rfl)) : P := h
theorem z5_9 {P : Prop} (h : P := by first | (go_simp; done) | (go_simp; rfl)) : P := h
theorem z5_10 {P : Prop} (h : P := by first | rfl | (simp [errW_none, errW_some] <;> rfl) | (simp [*, errW_none, errW_some] <;> rfl)) : P := h
theorem z5_11 {P : Prop} (h : P := by repeat (first | exact Drawn0.refl _ | apply Drawn0.step)) : P := h
attribute [local go_sem] max2_int min2_int max_two min_two max_three min_three max_four min_four   -- for this text's walks alone
set_option linter.unusedVariables false
set_option linter.unusedSimpArgs false

/-! ### spec_l1In: function 31 -/
def spec_l1In.f (a0 : Int) (a1 : Int) (a2 : Int) : Option (Bool) := if a0 ≥ a1 then (some (decide (a0 ≤ a2))) else (some false)
set_option maxHeartbeats 8000000 in
set_option maxRecDepth 100000 in
theorem spec_l1In.calls (a0 : Int) (a1 : Int) (a2 : Int) (r : Bool) (w : World) (h : spec_l1In.f a0 a1 a2 = some r) :
  Calls Try.prog 31 #[.int .i64 a0, .int .i64 a1, .int .i64 a2] w fun e w' => e = .returned (.bool r) ∧ Drawn0 w w' := by
 have H : (if a0 ≥ a1 then (some (decide (a0 ≤ a2))) else (some false)) = some r := h
 clear h
 by_cases c4 : a0 ≥ a1
 ·rw [if_pos c4] at H
  have c4b0 : decide (a1 ≤ a0) = true := decide_eq_true c4
  clear c4
  obtain rfl := Option.some.inj H
  go_enter Try.func31, Try.ntmps31
  go_wp2
  go_ret
  exact ⟨z5_6, z5_11⟩
 rw [if_neg c4] at H
 have c4b0 : decide (a1 ≤ a0) = false := decide_eq_false c4
 clear c4
 obtain rfl := Option.some.inj H
 go_enter Try.func31, Try.ntmps31
 go_wp2
 go_ret
 exact ⟨z5_6, z5_11⟩

/-! ### spec_l2Day: function 30 -/
def spec_l2Day.f (a0 : Int) : Option (Bool) := (spec_l1In.f a0 0 40000).bind fun t230 => (some t230)
set_option maxHeartbeats 8000000 in
set_option maxRecDepth 100000 in
theorem spec_l2Day.calls (a0 : Int) (r : Bool) (w : World) (h : spec_l2Day.f a0 = some r) :
  Calls Try.prog 30 #[.int .i64 a0] w fun e w' => e = .returned (.bool r) ∧ Drawn0 w w' := by
 have H : ((spec_l1In.f a0 0 40000).bind fun t230 => (some t230)) = some r := h
 clear h
 replace H := Option.bind_eq_some_iff.mp H
 obtain ⟨t230, A20, H⟩ := H
 replace H : (some t230) = some r := H
 have A2 := Aside0.mk A20
 clear A20
 obtain rfl := Option.some.inj H
 go_enter Try.func30, Try.ntmps30
 go_wp2_with (first | ((with_reducible refine qc0 (f := 31) rfl ?_); refine qm0 (some 4) rfl rfl Try.func31 (by kernel_rfl) rfl #[.int .i64 a0, .int .i64 0, .int .i64 40000] rfl z5_8 ?_; (with_reducible refine (spec_l1In.calls a0 0 40000 t230 _ A2.out).mono ?_); rintro e w' ⟨rfl, ⟨nd, rfl⟩⟩; refine ⟨_, rfl, ?_⟩))
 go_ret
 exact ⟨z5_6, z5_11⟩

/-! ### spec_CalOk: function 29 -/
mutual
def spec_CalOk.j0 : Nat → Bool → Int → List Int → Option (Bool)
 | 0, _, _, _ => none
 | k + 1, x13, x232000, x232001 => if x13 = true then (some false) else (spec_CalOk.l0 k 0 x232000 x232001)
def spec_CalOk.l0 : Nat → Int → Int → List Int → Option (Bool)
 | 0, _, _, _ => none
 | k + 1, x3, x232000, x232001 => if x3 < (x232001.length : Int) then (if 0 ≤ x3 then ((spec_l2Day.f (rd x232001 x3)).bind fun t234 => (if t234 = true then (if x3 > 0 then (if 0 ≤ (wrap64 (x3 - 1)) then (if (wrap64 (x3 - 1)) < (x232001.length : Int) then (if (rd x232001 (wrap64 (x3 - 1))) ≥ (rd x232001 x3) then (some false) else (spec_CalOk.l0 k (wrap64 (x3 + 1)) x232000 x232001)) else (none)) else (none)) else (spec_CalOk.l0 k (wrap64 (x3 + 1)) x232000 x232001)) else (some false))) else (none)) else (some true)
end
def spec_CalOk.f (k : Nat) (a0_0 : Int) (l0_1 : List Int) : Option (Bool) := (spec_l1In.f a0_0 0 126).bind fun t232 => (if t232 = true then (spec_CalOk.j0 k (decide ((l0_1.length : Int) > 400)) a0_0 l0_1) else (spec_CalOk.j0 k true a0_0 l0_1))
theorem spec_CalOk.mono_l : ∀ k, (∀ y0 y1 y2, LeO (spec_CalOk.j0 k y0 y1 y2) (spec_CalOk.j0 (k + 1) y0 y1 y2)) ∧ (∀ y0 y1 y2, LeO (spec_CalOk.l0 k y0 y1 y2) (spec_CalOk.l0 (k + 1) y0 y1 y2))
 | 0 => ⟨fun _ _ _ r h => by simp [spec_CalOk.j0] at h, fun _ _ _ r h => by simp [spec_CalOk.l0] at h⟩
 | k + 1 => by
  obtain ⟨ih0, ih1⟩ := spec_CalOk.mono_l k
  refine ⟨?_, ?_⟩
  ·intro y0 y1 y2
   unfold spec_CalOk.j0
   repeat' first
   | (with_reducible exact ih0 _ _ _)
   | (with_reducible exact ih1 _ _ _)
   | (with_reducible exact LeO.refl _)
   | (with_reducible exact LeO.none _)
   | (with_reducible refine LeO.ite ?_ ?_)
   | (with_reducible refine LeO.bind ?_ (fun _ => ?_))
   | exact ih0 _ _ _
   | exact ih1 _ _ _
   | exact LeO.none _
   | refine LeO.ite ?_ ?_
   | refine LeO.bind ?_ (fun _ => ?_)
  ·intro y0 y1 y2
   unfold spec_CalOk.l0
   repeat' first
   | (with_reducible exact ih0 _ _ _)
   | (with_reducible exact ih1 _ _ _)
   | (with_reducible exact LeO.refl _)
   | (with_reducible exact LeO.none _)
   | (with_reducible refine LeO.ite ?_ ?_)
   | (with_reducible refine LeO.bind ?_ (fun _ => ?_))
   | exact ih0 _ _ _
   | exact ih1 _ _ _
   | exact LeO.none _
   | refine LeO.ite ?_ ?_
   | refine LeO.bind ?_ (fun _ => ?_)
theorem spec_CalOk.mono : ∀ a0 a1 k, LeO (spec_CalOk.f k a0 a1) (spec_CalOk.f (k + 1) a0 a1) := by
 intro a0 a1 k
 obtain ⟨ih0, ih1⟩ := spec_CalOk.mono_l k
 unfold spec_CalOk.f
 repeat' first
   | (with_reducible exact ih0 _ _ _)
   | (with_reducible exact ih1 _ _ _)
   | (with_reducible exact LeO.refl _)
   | (with_reducible exact LeO.none _)
   | (with_reducible refine LeO.ite ?_ ?_)
   | (with_reducible refine LeO.bind ?_ (fun _ => ?_))
   | exact ih0 _ _ _
   | exact ih1 _ _ _
   | exact LeO.none _
   | refine LeO.ite ?_ ?_
   | refine LeO.bind ?_ (fun _ => ?_)
set_option maxHeartbeats 8000000 in
set_option maxRecDepth 100000 in
theorem spec_CalOk.calls (k : Nat) (a0_0 : Int) (A0_1 : Option Addr) (c0_1 : Nat) (l0_1 : List Int) (r : Bool) (w : World) (hr0_1 : Kd.C (Kd.int .i64) w A0_1 l0_1.length l0_1) (hc0_1 : l0_1.length ≤ c0_1) (h : spec_CalOk.f k a0_0 l0_1 = some r) :
  Calls Try.prog 29 #[.agg #[.int .i64 a0_0, .slice A0_1 l0_1.length c0_1]] w fun e w' => e = .returned (.bool r) ∧ Below w.heap.size w w' := by
 have hu26 := Try.underlying26
 have HR0_1 := Aside0.mk hr0_1
 have HC0_1 := Aside0.mk hc0_1
 clear hr0_1 hc0_1
 have HB := Aside0.mk (Below.refl w.heap.size w)
 have H : ((spec_l1In.f a0_0 0 126).bind fun t232 => (if t232 = true then (spec_CalOk.j0 k (decide ((l0_1.length : Int) > 400)) a0_0 l0_1) else (spec_CalOk.j0 k true a0_0 l0_1))) = some r := h
 clear h
 have HC2 := Aside0.mk H
 clear H
 go_enter Try.func29, Try.ntmps29
 go_upto_region 1 with (first | ((with_reducible refine qs0 (N := 1) rfl ?_); (try (refine gate_guard (by rfl) ?_; dsimp only)); refine qr0 ?hg (N := 1) ?hd (cs := #[.int .i64 a0_0, .slice A0_1 l0_1.length c0_1]) (t := 26) ?hr ?_; (case hd => rfl); (case hg => rfl); (case hr => exact z5_9); intro gb231 hg w3 hbox hb; have n0_ := Aside0.mk (qf0 z5_0 hb); have n1_ := Aside0.mk (hbox); have n2_ := Aside0.mk ((z5_1 : w.heap.size ≤ gb231)); have n3_ := Aside0.mk ((z5_1 : w.heap.size ≤ gb231)); clear HB; have HB := n0_; have BK231 := n1_; have GW231 := n2_; have GE231 := n3_; clear n0_ n1_ n2_ n3_; clear hb hbox hg))
 repeat (go_quiet (first | ((with_reducible refine qs0 (N := 1) rfl ?_); (try (refine gate_guard (by rfl) ?_; dsimp only)); refine qr0 ?hg (N := 1) ?hd (cs := #[.int .i64 a0_0, .slice A0_1 l0_1.length c0_1]) (t := 26) ?hr ?_; (case hd => rfl); (case hg => rfl); (case hr => exact z5_9); intro gb231 hg w3 hbox hb; have n0_ := Aside0.mk (qf0 z5_0 hb); have n1_ := Aside0.mk (hbox); have n2_ := Aside0.mk ((z5_1 : w.heap.size ≤ gb231)); have n3_ := Aside0.mk ((z5_1 : w.heap.size ≤ gb231)); clear HB; have HB := n0_; have BK231 := n1_; have GW231 := n2_; have GE231 := n3_; clear n0_ n1_ n2_ n3_; clear hb hbox hg)); go_upto_region 1 with (first | ((with_reducible refine qs0 (N := 1) rfl ?_); (try (refine gate_guard (by rfl) ?_; dsimp only)); refine qr0 ?hg (N := 1) ?hd (cs := #[.int .i64 a0_0, .slice A0_1 l0_1.length c0_1]) (t := 26) ?hr ?_; (case hd => rfl); (case hg => rfl); (case hr => exact z5_9); intro gb231 hg w3 hbox hb; have n0_ := Aside0.mk (qf0 z5_0 hb); have n1_ := Aside0.mk (hbox); have n2_ := Aside0.mk ((z5_1 : w.heap.size ≤ gb231)); have n3_ := Aside0.mk ((z5_1 : w.heap.size ≤ gb231)); clear HB; have HB := n0_; have BK231 := n1_; have GW231 := n2_; have GE231 := n3_; clear n0_ n1_ n2_ n3_; clear hb hbox hg)))
 (try simp only [Act.put, List.setIfInBounds_toArray, List.set_cons_zero, List.set_cons_succ])
 go_cut [13] (fun v13 wc => ∃ (kq : Nat) (x13_1 : Bool), v13 = .bool x13_1 ∧ Aside0 (spec_CalOk.j0 kq x13_1 a0_0 l0_1 = some r) ∧ Aside0 (kq ≤ k) ∧ Aside0 (wc.heap[gb231]? = some (.cells #[.int .i64 a0_0, (.slice A0_1 l0_1.length c0_1)] 26 (0, 0))) ∧ Aside0 (Below w.heap.size w wc))
 case first =>
  have H := HC2.out
  clear HC2
  replace H := Option.bind_eq_some_iff.mp H
  obtain ⟨t232, A40, H⟩ := H
  replace H : (if t232 = true then (spec_CalOk.j0 k (decide ((l0_1.length : Int) > 400)) a0_0 l0_1) else (spec_CalOk.j0 k true a0_0 l0_1)) = some r := H
  have A4 := Aside0.mk A40
  clear A40
  by_cases c5 : t232 = true
  ·subst c5
   have H1 : (spec_CalOk.j0 k (decide ((l0_1.length : Int) > 400)) a0_0 l0_1) = some r := by rw [if_pos rfl] at H; exact H
   clear H
   have H := H1
   clear H1
   have H' := Aside0.mk H
   clear H
   have hcz6_0 : w3.cell? ⟨gb231, 0, none⟩ = some (.int .i64 a0_0) := (qb0 BK231.out 0).trans rfl
   have hcz6_1 : w3.cell? ⟨gb231, 1, none⟩ = some (.slice A0_1 l0_1.length c0_1) := (qb0 BK231.out 1).trans rfl
   have hfz6_0 := qa0 BK231.out 0
   have hfz6_1 := qa0 BK231.out 1
   go_wp2_with (first | (go_at_call 31; (with_reducible refine (spec_l1In.calls a0_0 0 126 true _ A4.out).mono ?_); rintro e w' ⟨rfl, ⟨nd, rfl⟩⟩; (try first | exact ⟨rfl, _, World.drewN_drewN _ _ _⟩ | exact ⟨rfl, _, Eq.trans (World.drewN_drewN _ _ _) (congrArg (World.drewN _) (Nat.add_assoc _ _ _))⟩)))
   repeat (go_quiet (first | (go_at_call 31; (with_reducible refine (spec_l1In.calls a0_0 0 126 true _ A4.out).mono ?_); rintro e w' ⟨rfl, ⟨nd, rfl⟩⟩; (try first | exact ⟨rfl, _, World.drewN_drewN _ _ _⟩ | exact ⟨rfl, _, Eq.trans (World.drewN_drewN _ _ _) (congrArg (World.drewN _) (Nat.add_assoc _ _ _))⟩))); try go_wp2_with (first | (go_at_call 31; (with_reducible refine (spec_l1In.calls a0_0 0 126 true _ A4.out).mono ?_); rintro e w' ⟨rfl, ⟨nd, rfl⟩⟩; (try first | exact ⟨rfl, _, World.drewN_drewN _ _ _⟩ | exact ⟨rfl, _, Eq.trans (World.drewN_drewN _ _ _) (congrArg (World.drewN _) (Nat.add_assoc _ _ _))⟩))))
   go_meet
   case rel => exact ⟨_, (decide ((l0_1.length : Int) > 400)), z5_6, H', ⟨by first | omega | exact Nat.le_refl _⟩, ⟨z5_5⟩, ⟨z5_3⟩⟩
  replace c5 := Bool.eq_false_iff.mpr c5
  subst c5
  have H1 : (spec_CalOk.j0 k true a0_0 l0_1) = some r := by rw [if_neg (show ¬ (false = true) by decide)] at H; exact H
  clear H
  have H := H1
  clear H1
  have H' := Aside0.mk H
  clear H
  have hcz7_0 : w3.cell? ⟨gb231, 0, none⟩ = some (.int .i64 a0_0) := (qb0 BK231.out 0).trans rfl
  have hcz7_1 : w3.cell? ⟨gb231, 1, none⟩ = some (.slice A0_1 l0_1.length c0_1) := (qb0 BK231.out 1).trans rfl
  have hfz7_0 := qa0 BK231.out 0
  have hfz7_1 := qa0 BK231.out 1
  go_wp2_with (first | (go_at_call 31; (with_reducible refine (spec_l1In.calls a0_0 0 126 false _ A4.out).mono ?_); rintro e w' ⟨rfl, ⟨nd, rfl⟩⟩; (try first | exact ⟨rfl, _, World.drewN_drewN _ _ _⟩ | exact ⟨rfl, _, Eq.trans (World.drewN_drewN _ _ _) (congrArg (World.drewN _) (Nat.add_assoc _ _ _))⟩)))
  repeat (go_quiet (first | (go_at_call 31; (with_reducible refine (spec_l1In.calls a0_0 0 126 false _ A4.out).mono ?_); rintro e w' ⟨rfl, ⟨nd, rfl⟩⟩; (try first | exact ⟨rfl, _, World.drewN_drewN _ _ _⟩ | exact ⟨rfl, _, Eq.trans (World.drewN_drewN _ _ _) (congrArg (World.drewN _) (Nat.add_assoc _ _ _))⟩))); try go_wp2_with (first | (go_at_call 31; (with_reducible refine (spec_l1In.calls a0_0 0 126 false _ A4.out).mono ?_); rintro e w' ⟨rfl, ⟨nd, rfl⟩⟩; (try first | exact ⟨rfl, _, World.drewN_drewN _ _ _⟩ | exact ⟨rfl, _, Eq.trans (World.drewN_drewN _ _ _) (congrArg (World.drewN _) (Nat.add_assoc _ _ _))⟩))))
  go_meet
  case rel => exact ⟨_, (true), z5_6, H', ⟨by first | omega | exact Nat.le_refl _⟩, ⟨z5_5⟩, ⟨z5_3⟩⟩
 case rest =>
  clear HC2
  try clear c2
  try clear p2
  try clear c5
  try clear hcz6_0
  try clear hcz6_1
  try clear hcz7_0
  try clear hcz7_1
  try clear hfz6_0
  try clear hfz6_1
  try clear hfz7_0
  try clear hfz7_1
  obtain ⟨kq, x13_1, rfl, HA, HJ1, BK231, HB⟩ := hcut
  cases kq with
  | zero => exact absurd HA.out (by simp [spec_CalOk.j0])
  | succ kj1 =>
   have H := HA.out
   clear HA
   simp only [spec_CalOk.j0] at H
   by_cases c8 : x13_1 = true
   ·subst c8
    have H1 : (some false) = some r := by rw [if_pos rfl] at H; exact H
    clear H
    have H := H1
    clear H1
    obtain rfl := Option.some.inj H
    go_wp2
    repeat (go_quiet (fail); try go_wp2)
    go_ret
    exact ⟨z5_10, z5_3⟩
   replace c8 := Bool.eq_false_iff.mpr c8
   subst c8
   have H1 : (spec_CalOk.l0 kj1 0 a0_0 l0_1) = some r := by rw [if_neg (show ¬ (false = true) by decide)] at H; exact H
   clear H
   have H := H1
   clear H1
   have H' := Aside0.mk H
   clear H
   go_wp2
   repeat (go_quiet (fail); try go_wp2)
   go_loopg [3] kj1 (fun kq v3 w' => ∃ (x3_2 : Int), v3 = .int .i64 x3_2 ∧ Aside0 (spec_CalOk.l0 kq x3_2 a0_0 l0_1 = some r) ∧ Aside0 (kq ≤ kj1) ∧ Aside0 (w'.heap[gb231]? = some (.cells #[.int .i64 a0_0, (.slice A0_1 l0_1.length c0_1)] 26 (0, 0))) ∧ Aside0 (Below w.heap.size w w'))
   case atStart => exact ⟨(0), z5_6, H', ⟨Nat.le_refl _⟩, ⟨z5_5⟩, ⟨z5_3⟩⟩
   case round =>
    clear H'
    try clear c2
    try clear p2
    try clear c5
    try clear c8
    try clear hcz6_0
    try clear hcz6_1
    try clear hcz7_0
    try clear hcz7_1
    try clear hfz6_0
    try clear hfz6_1
    try clear hfz7_0
    try clear hfz7_1
    try clear p2
    obtain ⟨x3_2, rfl, HA, HK2, BK231, HB⟩ := hrel
    cases gk with
    | zero => exact absurd HA.out (by simp [spec_CalOk.l0])
    | succ k2 =>
     have H := HA.out
     clear HA
     simp only [spec_CalOk.l0] at H
     by_cases c9 : x3_2 < (l0_1.length : Int)
     ·rw [if_pos c9] at H
      have c9b0 : decide (x3_2 < (l0_1.length : Int)) = true := decide_eq_true c9
      clear c9
      by_cases c10 : 0 ≤ x3_2
      case neg => rw [if_neg c10] at H; exact absurd H (by simp)
      rw [if_pos c10] at H
      have c10b0 : decide (0 ≤ x3_2) = true := decide_eq_true c10
      clear c10
      replace H := Option.bind_eq_some_iff.mp H
      obtain ⟨t234, A110, H⟩ := H
      replace H : (if t234 = true then (if x3_2 > 0 then (if 0 ≤ (wrap64 (x3_2 - 1)) then (if (wrap64 (x3_2 - 1)) < (l0_1.length : Int) then (if (rd l0_1 (wrap64 (x3_2 - 1))) ≥ (rd l0_1 x3_2) then (some false) else (spec_CalOk.l0 k2 (wrap64 (x3_2 + 1)) a0_0 l0_1)) else (none)) else (none)) else (spec_CalOk.l0 k2 (wrap64 (x3_2 + 1)) a0_0 l0_1)) else (some false)) = some r := H
      have A11 := Aside0.mk A110
      clear A110
      by_cases c12 : t234 = true
      ·subst c12
       have H1 : (if x3_2 > 0 then (if 0 ≤ (wrap64 (x3_2 - 1)) then (if (wrap64 (x3_2 - 1)) < (l0_1.length : Int) then (if (rd l0_1 (wrap64 (x3_2 - 1))) ≥ (rd l0_1 x3_2) then (some false) else (spec_CalOk.l0 k2 (wrap64 (x3_2 + 1)) a0_0 l0_1)) else (none)) else (none)) else (spec_CalOk.l0 k2 (wrap64 (x3_2 + 1)) a0_0 l0_1)) = some r := by rw [if_pos rfl] at H; exact H
       clear H
       have H := H1
       clear H1
       by_cases c13 : x3_2 > 0
       ·rw [if_pos c13] at H
        have c13b0 : decide (0 < x3_2) = true := decide_eq_true c13
        clear c13
        obtain ⟨ji14, hji14⟩ : ∃ j_ : Int, (wrap64 (x3_2 - 1)) = j_ := ⟨_, rfl⟩
        replace H : (if 0 ≤ (ji14) then (if (ji14) < (l0_1.length : Int) then (if (rd l0_1 (ji14)) ≥ (rd l0_1 x3_2) then (some false) else (spec_CalOk.l0 k2 (wrap64 (x3_2 + 1)) a0_0 l0_1)) else (none)) else (none)) = some r := by first | (rw [hji14] at H; exact H) | (simp only [hji14] at H ⊢; exact H)
        (try rw [hji14] at A11)
        have hji14w : (IntKind.i64.wrap (x3_2 - 1)) = ji14 := (i64_w _).trans hji14
        by_cases c15 : 0 ≤ (ji14)
        case neg => rw [if_neg c15] at H; exact absurd H (by simp)
        rw [if_pos c15] at H
        have c15b0 : decide (0 ≤ (ji14)) = true := decide_eq_true c15
        clear c15
        by_cases c16 : (ji14) < (l0_1.length : Int)
        case neg => rw [if_neg c16] at H; exact absurd H (by simp)
        rw [if_pos c16] at H
        have c16b0 : decide ((ji14) < (l0_1.length : Int)) = true := decide_eq_true c16
        clear c16
        by_cases c17 : (rd l0_1 (ji14)) ≥ (rd l0_1 x3_2)
        ·rw [if_pos c17] at H
         have c17b0 : decide ((rd l0_1 x3_2) ≤ (rd l0_1 (ji14))) = true := decide_eq_true c17
         clear c17
         obtain rfl := Option.some.inj H
         have hcz18_0 : wr.cell? ⟨gb231, 0, none⟩ = some (.int .i64 a0_0) := (qb0 BK231.out 0).trans rfl
         have hcz18_1 : wr.cell? ⟨gb231, 1, none⟩ = some (.slice A0_1 l0_1.length c0_1) := (qb0 BK231.out 1).trans rfl
         have hfz18_0 := qa0 BK231.out 0
         have hfz18_1 := qa0 BK231.out 1
         have p233 : 0 ≤ (x3_2 : Int) := of_decide_eq_true z5_2
         have q233 : x3_2 < (l0_1.length : Int) := of_decide_eq_true z5_2
         obtain ⟨ad233, e233, hx233_0⟩ := Kd.qa1 HR0_1.out x3_2 p233 q233
         cases e233
         replace hx233_0 := (HB.out.cell (World.block_lt_of_cell? w _ hx233_0)).trans hx233_0
         replace p233 := eq_true p233
         replace q233 := eq_true q233
         go_wp2_with (first | (go_at_call 30; (with_reducible refine (spec_l2Day.calls (rd l0_1 x3_2) true _ A11.out).mono ?_); rintro e w' ⟨rfl, ⟨nd, rfl⟩⟩; (try first | exact ⟨rfl, _, World.drewN_drewN _ _ _⟩ | exact ⟨rfl, _, Eq.trans (World.drewN_drewN _ _ _) (congrArg (World.drewN _) (Nat.add_assoc _ _ _))⟩); have p235 : 0 ≤ ((ji14) : Int) := of_decide_eq_true z5_2; have q235 : (ji14) < (l0_1.length : Int) := of_decide_eq_true z5_2; obtain ⟨ad235, e235, hx235_0⟩ := Kd.qa1 HR0_1.out (ji14) p235 q235; obtain rfl : ad233 = ad235 := (by injection e235); replace hx235_0 := (HB.out.cell (World.block_lt_of_cell? w _ hx235_0)).trans hx235_0; replace p235 := eq_true p235; replace q235 := eq_true q235; have p236 : 0 ≤ (x3_2 : Int) := of_decide_eq_true z5_2; have q236 : x3_2 < (l0_1.length : Int) := of_decide_eq_true z5_2; obtain ⟨ad236, e236, hx236_0⟩ := Kd.qa1 HR0_1.out x3_2 p236 q236; obtain rfl : ad233 = ad236 := (by injection e236); replace hx236_0 := (HB.out.cell (World.block_lt_of_cell? w _ hx236_0)).trans hx236_0; replace p236 := eq_true p236; replace q236 := eq_true q236))
         repeat (go_quiet (first | (go_at_call 30; (with_reducible refine (spec_l2Day.calls (rd l0_1 x3_2) true _ A11.out).mono ?_); rintro e w' ⟨rfl, ⟨nd, rfl⟩⟩; (try first | exact ⟨rfl, _, World.drewN_drewN _ _ _⟩ | exact ⟨rfl, _, Eq.trans (World.drewN_drewN _ _ _) (congrArg (World.drewN _) (Nat.add_assoc _ _ _))⟩); have p235 : 0 ≤ ((ji14) : Int) := of_decide_eq_true z5_2; have q235 : (ji14) < (l0_1.length : Int) := of_decide_eq_true z5_2; obtain ⟨ad235, e235, hx235_0⟩ := Kd.qa1 HR0_1.out (ji14) p235 q235; obtain rfl : ad233 = ad235 := (by injection e235); replace hx235_0 := (HB.out.cell (World.block_lt_of_cell? w _ hx235_0)).trans hx235_0; replace p235 := eq_true p235; replace q235 := eq_true q235; have p236 : 0 ≤ (x3_2 : Int) := of_decide_eq_true z5_2; have q236 : x3_2 < (l0_1.length : Int) := of_decide_eq_true z5_2; obtain ⟨ad236, e236, hx236_0⟩ := Kd.qa1 HR0_1.out x3_2 p236 q236; obtain rfl : ad233 = ad236 := (by injection e236); replace hx236_0 := (HB.out.cell (World.block_lt_of_cell? w _ hx236_0)).trans hx236_0; replace p236 := eq_true p236; replace q236 := eq_true q236)); try go_wp2_with (first | (go_at_call 30; (with_reducible refine (spec_l2Day.calls (rd l0_1 x3_2) true _ A11.out).mono ?_); rintro e w' ⟨rfl, ⟨nd, rfl⟩⟩; (try first | exact ⟨rfl, _, World.drewN_drewN _ _ _⟩ | exact ⟨rfl, _, Eq.trans (World.drewN_drewN _ _ _) (congrArg (World.drewN _) (Nat.add_assoc _ _ _))⟩); have p235 : 0 ≤ ((ji14) : Int) := of_decide_eq_true z5_2; have q235 : (ji14) < (l0_1.length : Int) := of_decide_eq_true z5_2; obtain ⟨ad235, e235, hx235_0⟩ := Kd.qa1 HR0_1.out (ji14) p235 q235; obtain rfl : ad233 = ad235 := (by injection e235); replace hx235_0 := (HB.out.cell (World.block_lt_of_cell? w _ hx235_0)).trans hx235_0; replace p235 := eq_true p235; replace q235 := eq_true q235; have p236 : 0 ≤ (x3_2 : Int) := of_decide_eq_true z5_2; have q236 : x3_2 < (l0_1.length : Int) := of_decide_eq_true z5_2; obtain ⟨ad236, e236, hx236_0⟩ := Kd.qa1 HR0_1.out x3_2 p236 q236; obtain rfl : ad233 = ad236 := (by injection e236); replace hx236_0 := (HB.out.cell (World.block_lt_of_cell? w _ hx236_0)).trans hx236_0; replace p236 := eq_true p236; replace q236 := eq_true q236)))
         go_ret
         exact ⟨by first | rfl | (simp [errW_none, errW_some] <;> rfl) | (simp only [← hji14]; first | rfl | (simp [errW_none, errW_some] <;> rfl)) | (simp [*, errW_none, errW_some] <;> rfl), z5_3⟩
        rw [if_neg c17] at H
        have c17b0 : decide ((rd l0_1 x3_2) ≤ (rd l0_1 (ji14))) = false := decide_eq_false c17
        clear c17
        have H' := Aside0.mk H
        clear H
        have hcz19_0 : wr.cell? ⟨gb231, 0, none⟩ = some (.int .i64 a0_0) := (qb0 BK231.out 0).trans rfl
        have hcz19_1 : wr.cell? ⟨gb231, 1, none⟩ = some (.slice A0_1 l0_1.length c0_1) := (qb0 BK231.out 1).trans rfl
        have hfz19_0 := qa0 BK231.out 0
        have hfz19_1 := qa0 BK231.out 1
        have p233 : 0 ≤ (x3_2 : Int) := of_decide_eq_true z5_2
        have q233 : x3_2 < (l0_1.length : Int) := of_decide_eq_true z5_2
        obtain ⟨ad233, e233, hx233_0⟩ := Kd.qa1 HR0_1.out x3_2 p233 q233
        cases e233
        replace hx233_0 := (HB.out.cell (World.block_lt_of_cell? w _ hx233_0)).trans hx233_0
        replace p233 := eq_true p233
        replace q233 := eq_true q233
        go_wp2_with (first | (go_at_call 30; (with_reducible refine (spec_l2Day.calls (rd l0_1 x3_2) true _ A11.out).mono ?_); rintro e w' ⟨rfl, ⟨nd, rfl⟩⟩; (try first | exact ⟨rfl, _, World.drewN_drewN _ _ _⟩ | exact ⟨rfl, _, Eq.trans (World.drewN_drewN _ _ _) (congrArg (World.drewN _) (Nat.add_assoc _ _ _))⟩); have p235 : 0 ≤ ((ji14) : Int) := of_decide_eq_true z5_2; have q235 : (ji14) < (l0_1.length : Int) := of_decide_eq_true z5_2; obtain ⟨ad235, e235, hx235_0⟩ := Kd.qa1 HR0_1.out (ji14) p235 q235; obtain rfl : ad233 = ad235 := (by injection e235); replace hx235_0 := (HB.out.cell (World.block_lt_of_cell? w _ hx235_0)).trans hx235_0; replace p235 := eq_true p235; replace q235 := eq_true q235; have p236 : 0 ≤ (x3_2 : Int) := of_decide_eq_true z5_2; have q236 : x3_2 < (l0_1.length : Int) := of_decide_eq_true z5_2; obtain ⟨ad236, e236, hx236_0⟩ := Kd.qa1 HR0_1.out x3_2 p236 q236; obtain rfl : ad233 = ad236 := (by injection e236); replace hx236_0 := (HB.out.cell (World.block_lt_of_cell? w _ hx236_0)).trans hx236_0; replace p236 := eq_true p236; replace q236 := eq_true q236))
        repeat (go_quiet (first | (go_at_call 30; (with_reducible refine (spec_l2Day.calls (rd l0_1 x3_2) true _ A11.out).mono ?_); rintro e w' ⟨rfl, ⟨nd, rfl⟩⟩; (try first | exact ⟨rfl, _, World.drewN_drewN _ _ _⟩ | exact ⟨rfl, _, Eq.trans (World.drewN_drewN _ _ _) (congrArg (World.drewN _) (Nat.add_assoc _ _ _))⟩); have p235 : 0 ≤ ((ji14) : Int) := of_decide_eq_true z5_2; have q235 : (ji14) < (l0_1.length : Int) := of_decide_eq_true z5_2; obtain ⟨ad235, e235, hx235_0⟩ := Kd.qa1 HR0_1.out (ji14) p235 q235; obtain rfl : ad233 = ad235 := (by injection e235); replace hx235_0 := (HB.out.cell (World.block_lt_of_cell? w _ hx235_0)).trans hx235_0; replace p235 := eq_true p235; replace q235 := eq_true q235; have p236 : 0 ≤ (x3_2 : Int) := of_decide_eq_true z5_2; have q236 : x3_2 < (l0_1.length : Int) := of_decide_eq_true z5_2; obtain ⟨ad236, e236, hx236_0⟩ := Kd.qa1 HR0_1.out x3_2 p236 q236; obtain rfl : ad233 = ad236 := (by injection e236); replace hx236_0 := (HB.out.cell (World.block_lt_of_cell? w _ hx236_0)).trans hx236_0; replace p236 := eq_true p236; replace q236 := eq_true q236)); try go_wp2_with (first | (go_at_call 30; (with_reducible refine (spec_l2Day.calls (rd l0_1 x3_2) true _ A11.out).mono ?_); rintro e w' ⟨rfl, ⟨nd, rfl⟩⟩; (try first | exact ⟨rfl, _, World.drewN_drewN _ _ _⟩ | exact ⟨rfl, _, Eq.trans (World.drewN_drewN _ _ _) (congrArg (World.drewN _) (Nat.add_assoc _ _ _))⟩); have p235 : 0 ≤ ((ji14) : Int) := of_decide_eq_true z5_2; have q235 : (ji14) < (l0_1.length : Int) := of_decide_eq_true z5_2; obtain ⟨ad235, e235, hx235_0⟩ := Kd.qa1 HR0_1.out (ji14) p235 q235; obtain rfl : ad233 = ad235 := (by injection e235); replace hx235_0 := (HB.out.cell (World.block_lt_of_cell? w _ hx235_0)).trans hx235_0; replace p235 := eq_true p235; replace q235 := eq_true q235; have p236 : 0 ≤ (x3_2 : Int) := of_decide_eq_true z5_2; have q236 : x3_2 < (l0_1.length : Int) := of_decide_eq_true z5_2; obtain ⟨ad236, e236, hx236_0⟩ := Kd.qa1 HR0_1.out x3_2 p236 q236; obtain rfl : ad233 = ad236 := (by injection e236); replace hx236_0 := (HB.out.cell (World.block_lt_of_cell? w _ hx236_0)).trans hx236_0; replace p236 := eq_true p236; replace q236 := eq_true q236)))
        go_roundg k2
        case measure => have := HJ1.out; have := HK2.out; omega
        case rel => exact ⟨(wrap64 (x3_2 + 1)), z5_6, H', ⟨by have := HJ1.out; have := HK2.out; omega⟩, ⟨z5_5⟩, ⟨z5_3⟩⟩
       rw [if_neg c13] at H
       have c13b0 : decide (0 < x3_2) = false := decide_eq_false c13
       clear c13
       have H' := Aside0.mk H
       clear H
       have hcz20_0 : wr.cell? ⟨gb231, 0, none⟩ = some (.int .i64 a0_0) := (qb0 BK231.out 0).trans rfl
       have hcz20_1 : wr.cell? ⟨gb231, 1, none⟩ = some (.slice A0_1 l0_1.length c0_1) := (qb0 BK231.out 1).trans rfl
       have hfz20_0 := qa0 BK231.out 0
       have hfz20_1 := qa0 BK231.out 1
       have p233 : 0 ≤ (x3_2 : Int) := of_decide_eq_true z5_2
       have q233 : x3_2 < (l0_1.length : Int) := of_decide_eq_true z5_2
       obtain ⟨ad233, e233, hx233_0⟩ := Kd.qa1 HR0_1.out x3_2 p233 q233
       cases e233
       replace hx233_0 := (HB.out.cell (World.block_lt_of_cell? w _ hx233_0)).trans hx233_0
       replace p233 := eq_true p233
       replace q233 := eq_true q233
       go_wp2_with (first | (go_at_call 30; (with_reducible refine (spec_l2Day.calls (rd l0_1 x3_2) true _ A11.out).mono ?_); rintro e w' ⟨rfl, ⟨nd, rfl⟩⟩; (try first | exact ⟨rfl, _, World.drewN_drewN _ _ _⟩ | exact ⟨rfl, _, Eq.trans (World.drewN_drewN _ _ _) (congrArg (World.drewN _) (Nat.add_assoc _ _ _))⟩)))
       repeat (go_quiet (first | (go_at_call 30; (with_reducible refine (spec_l2Day.calls (rd l0_1 x3_2) true _ A11.out).mono ?_); rintro e w' ⟨rfl, ⟨nd, rfl⟩⟩; (try first | exact ⟨rfl, _, World.drewN_drewN _ _ _⟩ | exact ⟨rfl, _, Eq.trans (World.drewN_drewN _ _ _) (congrArg (World.drewN _) (Nat.add_assoc _ _ _))⟩))); try go_wp2_with (first | (go_at_call 30; (with_reducible refine (spec_l2Day.calls (rd l0_1 x3_2) true _ A11.out).mono ?_); rintro e w' ⟨rfl, ⟨nd, rfl⟩⟩; (try first | exact ⟨rfl, _, World.drewN_drewN _ _ _⟩ | exact ⟨rfl, _, Eq.trans (World.drewN_drewN _ _ _) (congrArg (World.drewN _) (Nat.add_assoc _ _ _))⟩))))
       go_roundg k2
       case measure => have := HJ1.out; have := HK2.out; omega
       case rel => exact ⟨(wrap64 (x3_2 + 1)), z5_6, H', ⟨by have := HJ1.out; have := HK2.out; omega⟩, ⟨z5_5⟩, ⟨z5_3⟩⟩
      replace c12 := Bool.eq_false_iff.mpr c12
      subst c12
      have H1 : (some false) = some r := by rw [if_neg (show ¬ (false = true) by decide)] at H; exact H
      clear H
      have H := H1
      clear H1
      obtain rfl := Option.some.inj H
      have hcz21_0 : wr.cell? ⟨gb231, 0, none⟩ = some (.int .i64 a0_0) := (qb0 BK231.out 0).trans rfl
      have hcz21_1 : wr.cell? ⟨gb231, 1, none⟩ = some (.slice A0_1 l0_1.length c0_1) := (qb0 BK231.out 1).trans rfl
      have hfz21_0 := qa0 BK231.out 0
      have hfz21_1 := qa0 BK231.out 1
      have p233 : 0 ≤ (x3_2 : Int) := of_decide_eq_true z5_2
      have q233 : x3_2 < (l0_1.length : Int) := of_decide_eq_true z5_2
      obtain ⟨ad233, e233, hx233_0⟩ := Kd.qa1 HR0_1.out x3_2 p233 q233
      cases e233
      replace hx233_0 := (HB.out.cell (World.block_lt_of_cell? w _ hx233_0)).trans hx233_0
      replace p233 := eq_true p233
      replace q233 := eq_true q233
      go_wp2_with (first | (go_at_call 30; (with_reducible refine (spec_l2Day.calls (rd l0_1 x3_2) false _ A11.out).mono ?_); rintro e w' ⟨rfl, ⟨nd, rfl⟩⟩; (try first | exact ⟨rfl, _, World.drewN_drewN _ _ _⟩ | exact ⟨rfl, _, Eq.trans (World.drewN_drewN _ _ _) (congrArg (World.drewN _) (Nat.add_assoc _ _ _))⟩)))
      repeat (go_quiet (first | (go_at_call 30; (with_reducible refine (spec_l2Day.calls (rd l0_1 x3_2) false _ A11.out).mono ?_); rintro e w' ⟨rfl, ⟨nd, rfl⟩⟩; (try first | exact ⟨rfl, _, World.drewN_drewN _ _ _⟩ | exact ⟨rfl, _, Eq.trans (World.drewN_drewN _ _ _) (congrArg (World.drewN _) (Nat.add_assoc _ _ _))⟩))); try go_wp2_with (first | (go_at_call 30; (with_reducible refine (spec_l2Day.calls (rd l0_1 x3_2) false _ A11.out).mono ?_); rintro e w' ⟨rfl, ⟨nd, rfl⟩⟩; (try first | exact ⟨rfl, _, World.drewN_drewN _ _ _⟩ | exact ⟨rfl, _, Eq.trans (World.drewN_drewN _ _ _) (congrArg (World.drewN _) (Nat.add_assoc _ _ _))⟩))))
      go_ret
      exact ⟨z5_10, z5_3⟩
     rw [if_neg c9] at H
     have c9b0 : decide (x3_2 < (l0_1.length : Int)) = false := decide_eq_false c9
     clear c9
     obtain rfl := Option.some.inj H
     have hcz22_0 : wr.cell? ⟨gb231, 0, none⟩ = some (.int .i64 a0_0) := (qb0 BK231.out 0).trans rfl
     have hcz22_1 : wr.cell? ⟨gb231, 1, none⟩ = some (.slice A0_1 l0_1.length c0_1) := (qb0 BK231.out 1).trans rfl
     have hfz22_0 := qa0 BK231.out 0
     have hfz22_1 := qa0 BK231.out 1
     go_wp2
     repeat (go_quiet (fail); try go_wp2)
     go_ret
     exact ⟨z5_10, z5_3⟩

/-! ### spec_Weekday: function 48 -/
def spec_Weekday.f (a0 : Int) : Option (Int) := (spec_l2Day.f a0).bind fun t237 => (if t237 = true then (some (Int.tmod (wrap64 (a0 + 5)) 7)) else (some (-1)))
set_option maxHeartbeats 8000000 in
set_option maxRecDepth 100000 in
theorem spec_Weekday.calls (a0 : Int) (r : Int) (w : World) (h : spec_Weekday.f a0 = some r) :
  Calls Try.prog 48 #[.int .i64 a0] w fun e w' => e = .returned (.int .i64 r) ∧ Drawn0 w w' := by
 have H : ((spec_l2Day.f a0).bind fun t237 => (if t237 = true then (some (Int.tmod (wrap64 (a0 + 5)) 7)) else (some (-1)))) = some r := h
 clear h
 replace H := Option.bind_eq_some_iff.mp H
 obtain ⟨t237, A20, H⟩ := H
 replace H : (if t237 = true then (some (Int.tmod (wrap64 (a0 + 5)) 7)) else (some (-1))) = some r := H
 have A2 := Aside0.mk A20
 clear A20
 by_cases c3 : t237 = true
 ·subst c3
  have H1 : (some (Int.tmod (wrap64 (a0 + 5)) 7)) = some r := by rw [if_pos rfl] at H; exact H
  clear H
  have H := H1
  clear H1
  obtain rfl := Option.some.inj H
  go_enter Try.func48, Try.ntmps48
  go_wp2_with (first | ((with_reducible refine qc0 (f := 30) rfl ?_); refine qm0 (some 4) rfl rfl Try.func30 (by kernel_rfl) rfl #[.int .i64 a0] rfl z5_8 ?_; (with_reducible refine (spec_l2Day.calls a0 true _ A2.out).mono ?_); rintro e w' ⟨rfl, ⟨nd, rfl⟩⟩; refine ⟨_, rfl, ?_⟩))
  go_ret
  exact ⟨z5_6, z5_11⟩
 replace c3 := Bool.eq_false_iff.mpr c3
 subst c3
 have H1 : (some (-1)) = some r := by rw [if_neg (show ¬ (false = true) by decide)] at H; exact H
 clear H
 have H := H1
 clear H1
 obtain rfl := Option.some.inj H
 go_enter Try.func48, Try.ntmps48
 go_wp2_with (first | ((with_reducible refine qc0 (f := 30) rfl ?_); refine qm0 (some 4) rfl rfl Try.func30 (by kernel_rfl) rfl #[.int .i64 a0] rfl z5_8 ?_; (with_reducible refine (spec_l2Day.calls a0 false _ A2.out).mono ?_); rintro e w' ⟨rfl, ⟨nd, rfl⟩⟩; refine ⟨_, rfl, ?_⟩))
 go_ret
 exact ⟨z5_6, z5_11⟩

/-! ### spec_l2Work: function 32 -/
def spec_l2Work.l0 : Nat → Int → Int → Int → List Int → Option (Bool)
 | 0, _, _, _, _ => none
 | k + 1, x1, x5, x239000, x239001 => if x5 < (x239001.length : Int) then (if 0 ≤ x5 then (if (rd x239001 x5) = x1 then (some false) else (spec_l2Work.l0 k x1 (wrap64 (x5 + 1)) x239000 x239001)) else (none)) else (some true)
def spec_l2Work.f (k : Nat) (a0_0 : Int) (l0_1 : List Int) (a1 : Int) : Option (Bool) := (spec_Weekday.f a1).bind fun t239 => (if 0 ≤ (IntKind.u64.wrap (t239)) then (if (Go.bits .and .i64 (shr .i64 a0_0 (IntKind.u64.wrap (t239))) 1) = 1 then (some false) else (spec_l2Work.l0 k a1 0 a0_0 l0_1)) else (none))
theorem spec_l2Work.mono_l : ∀ k, (∀ y0 y1 y2 y3, LeO (spec_l2Work.l0 k y0 y1 y2 y3) (spec_l2Work.l0 (k + 1) y0 y1 y2 y3))
 | 0 => fun _ _ _ _ r h => by simp [spec_l2Work.l0] at h
 | k + 1 => by
  have ih0 := spec_l2Work.mono_l k
  ·intro y0 y1 y2 y3
   unfold spec_l2Work.l0
   repeat' first
   | (with_reducible exact ih0 _ _ _ _)
   | (with_reducible exact LeO.refl _)
   | (with_reducible exact LeO.none _)
   | (with_reducible refine LeO.ite ?_ ?_)
   | (with_reducible refine LeO.bind ?_ (fun _ => ?_))
   | exact ih0 _ _ _ _
   | exact LeO.none _
   | refine LeO.ite ?_ ?_
   | refine LeO.bind ?_ (fun _ => ?_)
theorem spec_l2Work.mono : ∀ a0 a1 a2 k, LeO (spec_l2Work.f k a0 a1 a2) (spec_l2Work.f (k + 1) a0 a1 a2) := by
 intro a0 a1 a2 k
 have ih0 := spec_l2Work.mono_l k
 unfold spec_l2Work.f
 repeat' first
   | (with_reducible exact ih0 _ _ _ _)
   | (with_reducible exact LeO.refl _)
   | (with_reducible exact LeO.none _)
   | (with_reducible refine LeO.ite ?_ ?_)
   | (with_reducible refine LeO.bind ?_ (fun _ => ?_))
   | exact ih0 _ _ _ _
   | exact LeO.none _
   | refine LeO.ite ?_ ?_
   | refine LeO.bind ?_ (fun _ => ?_)
set_option maxHeartbeats 8000000 in
set_option maxRecDepth 100000 in
theorem spec_l2Work.calls (k : Nat) (a0_0 : Int) (A0_1 : Option Addr) (c0_1 : Nat) (l0_1 : List Int) (a1 : Int) (r : Bool) (w : World) (hr0_1 : Kd.C (Kd.int .i64) w A0_1 l0_1.length l0_1) (hc0_1 : l0_1.length ≤ c0_1) (h : spec_l2Work.f k a0_0 l0_1 a1 = some r) :
  Calls Try.prog 32 #[.agg #[.int .i64 a0_0, .slice A0_1 l0_1.length c0_1], .int .i64 a1] w fun e w' => e = .returned (.bool r) ∧ Below w.heap.size w w' := by
 have hu26 := Try.underlying26
 have HR0_1 := Aside0.mk hr0_1
 have HC0_1 := Aside0.mk hc0_1
 clear hr0_1 hc0_1
 have HB := Aside0.mk (Below.refl w.heap.size w)
 have H : ((spec_Weekday.f a1).bind fun t239 => (if 0 ≤ (IntKind.u64.wrap (t239)) then (if (Go.bits .and .i64 (shr .i64 a0_0 (IntKind.u64.wrap (t239))) 1) = 1 then (some false) else (spec_l2Work.l0 k a1 0 a0_0 l0_1)) else (none))) = some r := h
 clear h
 replace H := Option.bind_eq_some_iff.mp H
 obtain ⟨t239, A30, H⟩ := H
 replace H : (if 0 ≤ (IntKind.u64.wrap (t239)) then (if (Go.bits .and .i64 (shr .i64 a0_0 (IntKind.u64.wrap (t239))) 1) = 1 then (some false) else (spec_l2Work.l0 k a1 0 a0_0 l0_1)) else (none)) = some r := H
 have A3 := Aside0.mk A30
 clear A30
 obtain ⟨ji4, hji4⟩ : ∃ j_ : Int, (IntKind.u64.wrap (t239)) = j_ := ⟨_, rfl⟩
 replace H : (if 0 ≤ (ji4) then (if (Go.bits .and .i64 (shr .i64 a0_0 (ji4)) 1) = 1 then (some false) else (spec_l2Work.l0 k a1 0 a0_0 l0_1)) else (none)) = some r := by first | (rw [hji4] at H; exact H) | (simp only [hji4] at H ⊢; exact H)
 (try rw [hji4] at A3)
 by_cases c5 : 0 ≤ (ji4)
 case neg => rw [if_neg c5] at H; exact absurd H (by simp)
 rw [if_pos c5] at H
 have c5b0 := eq_true c5
 have c5b1 : decide (0 ≤ (ji4)) = true := decide_eq_true c5
 clear c5
 obtain ⟨ji6, hji6⟩ : ∃ j_ : Int, (shr .i64 a0_0 (ji4)) = j_ := ⟨_, rfl⟩
 replace H : (if (Go.bits .and .i64 (ji6) 1) = 1 then (some false) else (spec_l2Work.l0 k a1 0 a0_0 l0_1)) = some r := by first | (rw [hji6] at H; exact H) | (simp only [hji6] at H ⊢; exact H)
 (try rw [hji6] at A3)
 have hji6_ : (a0_0 / 2 ^ min (ji4).toNat 64) = ji6 := hji6
 have hji6z : (ji4) ≤ 64 → (a0_0 / 2 ^ (ji4).toNat) = ji6 := shr_small hji6
 by_cases c7 : (Go.bits .and .i64 (ji6) 1) = 1
 ·rw [if_pos c7] at H
  have c7b0 : ((Go.bits .and .i64 (ji6) 1) == 1) = true := beq_iff_eq.mpr c7
  have c7b1 : ((Go.bits .and .i64 (ji6) 1) != 1) = false := bne_eq_false_iff_eq.mpr c7
  clear c7
  obtain rfl := Option.some.inj H
  go_enter Try.func32, Try.ntmps32
  go_wp2_with (first | ((with_reducible refine qs0 (N := 2) rfl ?_); refine qr0 ?hg (N := 2) ?hd (cs := #[.int .i64 a0_0, .slice A0_1 l0_1.length c0_1]) (t := 26) ?hr ?_; (case hd => rfl); (case hg => rfl); (case hr => exact z5_9); intro gb238 hg w8 hbox hb; have n0_ := Aside0.mk (qf0 z5_0 hb); have n1_ := Aside0.mk (hbox); have n2_ := Aside0.mk ((z5_1 : w.heap.size ≤ gb238)); have n3_ := Aside0.mk ((z5_1 : w.heap.size ≤ gb238)); clear HB; have HB := n0_; have BK238 := n1_; have GW238 := n2_; have GE238 := n3_; clear n0_ n1_ n2_ n3_; clear hb hbox hg; have hcz9_0 : w8.cell? ⟨gb238, 0, none⟩ = some (.int .i64 a0_0) := (qb0 BK238.out 0).trans rfl; have hcz9_1 : w8.cell? ⟨gb238, 1, none⟩ = some (.slice A0_1 l0_1.length c0_1) := (qb0 BK238.out 1).trans rfl; have hfz9_0 := qa0 BK238.out 0; have hfz9_1 := qa0 BK238.out 1) | (go_at_call 48; (with_reducible refine (spec_Weekday.calls a1 t239 _ A3.out).mono ?_); rintro e w' ⟨rfl, ⟨nd, rfl⟩⟩; (try first | exact ⟨rfl, _, World.drewN_drewN _ _ _⟩ | exact ⟨rfl, _, Eq.trans (World.drewN_drewN _ _ _) (congrArg (World.drewN _) (Nat.add_assoc _ _ _))⟩)))
  repeat (go_quiet (first | ((with_reducible refine qs0 (N := 2) rfl ?_); refine qr0 ?hg (N := 2) ?hd (cs := #[.int .i64 a0_0, .slice A0_1 l0_1.length c0_1]) (t := 26) ?hr ?_; (case hd => rfl); (case hg => rfl); (case hr => exact z5_9); intro gb238 hg w8 hbox hb; have n0_ := Aside0.mk (qf0 z5_0 hb); have n1_ := Aside0.mk (hbox); have n2_ := Aside0.mk ((z5_1 : w.heap.size ≤ gb238)); have n3_ := Aside0.mk ((z5_1 : w.heap.size ≤ gb238)); clear HB; have HB := n0_; have BK238 := n1_; have GW238 := n2_; have GE238 := n3_; clear n0_ n1_ n2_ n3_; clear hb hbox hg; have hcz9_0 : w8.cell? ⟨gb238, 0, none⟩ = some (.int .i64 a0_0) := (qb0 BK238.out 0).trans rfl; have hcz9_1 : w8.cell? ⟨gb238, 1, none⟩ = some (.slice A0_1 l0_1.length c0_1) := (qb0 BK238.out 1).trans rfl; have hfz9_0 := qa0 BK238.out 0; have hfz9_1 := qa0 BK238.out 1) | (go_at_call 48; (with_reducible refine (spec_Weekday.calls a1 t239 _ A3.out).mono ?_); rintro e w' ⟨rfl, ⟨nd, rfl⟩⟩; (try first | exact ⟨rfl, _, World.drewN_drewN _ _ _⟩ | exact ⟨rfl, _, Eq.trans (World.drewN_drewN _ _ _) (congrArg (World.drewN _) (Nat.add_assoc _ _ _))⟩))); try go_wp2_with (first | ((with_reducible refine qs0 (N := 2) rfl ?_); refine qr0 ?hg (N := 2) ?hd (cs := #[.int .i64 a0_0, .slice A0_1 l0_1.length c0_1]) (t := 26) ?hr ?_; (case hd => rfl); (case hg => rfl); (case hr => exact z5_9); intro gb238 hg w8 hbox hb; have n0_ := Aside0.mk (qf0 z5_0 hb); have n1_ := Aside0.mk (hbox); have n2_ := Aside0.mk ((z5_1 : w.heap.size ≤ gb238)); have n3_ := Aside0.mk ((z5_1 : w.heap.size ≤ gb238)); clear HB; have HB := n0_; have BK238 := n1_; have GW238 := n2_; have GE238 := n3_; clear n0_ n1_ n2_ n3_; clear hb hbox hg; have hcz9_0 : w8.cell? ⟨gb238, 0, none⟩ = some (.int .i64 a0_0) := (qb0 BK238.out 0).trans rfl; have hcz9_1 : w8.cell? ⟨gb238, 1, none⟩ = some (.slice A0_1 l0_1.length c0_1) := (qb0 BK238.out 1).trans rfl; have hfz9_0 := qa0 BK238.out 0; have hfz9_1 := qa0 BK238.out 1) | (go_at_call 48; (with_reducible refine (spec_Weekday.calls a1 t239 _ A3.out).mono ?_); rintro e w' ⟨rfl, ⟨nd, rfl⟩⟩; (try first | exact ⟨rfl, _, World.drewN_drewN _ _ _⟩ | exact ⟨rfl, _, Eq.trans (World.drewN_drewN _ _ _) (congrArg (World.drewN _) (Nat.add_assoc _ _ _))⟩))))
  go_ret
  exact ⟨z5_7, z5_4⟩
 rw [if_neg c7] at H
 have c7b0 : ((Go.bits .and .i64 (ji6) 1) == 1) = false := beq_eq_false_iff_ne.mpr c7
 have c7b1 : ((Go.bits .and .i64 (ji6) 1) != 1) = true := bne_iff_ne.mpr c7
 have H' := Aside0.mk H
 clear H
 go_enter Try.func32, Try.ntmps32
 go_wp2_with (first | ((with_reducible refine qs0 (N := 2) rfl ?_); refine qr0 ?hg (N := 2) ?hd (cs := #[.int .i64 a0_0, .slice A0_1 l0_1.length c0_1]) (t := 26) ?hr ?_; (case hd => rfl); (case hg => rfl); (case hr => exact z5_9); intro gb238 hg w10 hbox hb; have n0_ := Aside0.mk (qf0 z5_0 hb); have n1_ := Aside0.mk (hbox); have n2_ := Aside0.mk ((z5_1 : w.heap.size ≤ gb238)); have n3_ := Aside0.mk ((z5_1 : w.heap.size ≤ gb238)); clear HB; have HB := n0_; have BK238 := n1_; have GW238 := n2_; have GE238 := n3_; clear n0_ n1_ n2_ n3_; clear hb hbox hg; have hcz11_0 : w10.cell? ⟨gb238, 0, none⟩ = some (.int .i64 a0_0) := (qb0 BK238.out 0).trans rfl; have hcz11_1 : w10.cell? ⟨gb238, 1, none⟩ = some (.slice A0_1 l0_1.length c0_1) := (qb0 BK238.out 1).trans rfl; have hfz11_0 := qa0 BK238.out 0; have hfz11_1 := qa0 BK238.out 1) | (go_at_call 48; (with_reducible refine (spec_Weekday.calls a1 t239 _ A3.out).mono ?_); rintro e w' ⟨rfl, ⟨nd, rfl⟩⟩; (try first | exact ⟨rfl, _, World.drewN_drewN _ _ _⟩ | exact ⟨rfl, _, Eq.trans (World.drewN_drewN _ _ _) (congrArg (World.drewN _) (Nat.add_assoc _ _ _))⟩)))
 repeat (go_quiet (first | ((with_reducible refine qs0 (N := 2) rfl ?_); refine qr0 ?hg (N := 2) ?hd (cs := #[.int .i64 a0_0, .slice A0_1 l0_1.length c0_1]) (t := 26) ?hr ?_; (case hd => rfl); (case hg => rfl); (case hr => exact z5_9); intro gb238 hg w10 hbox hb; have n0_ := Aside0.mk (qf0 z5_0 hb); have n1_ := Aside0.mk (hbox); have n2_ := Aside0.mk ((z5_1 : w.heap.size ≤ gb238)); have n3_ := Aside0.mk ((z5_1 : w.heap.size ≤ gb238)); clear HB; have HB := n0_; have BK238 := n1_; have GW238 := n2_; have GE238 := n3_; clear n0_ n1_ n2_ n3_; clear hb hbox hg; have hcz11_0 : w10.cell? ⟨gb238, 0, none⟩ = some (.int .i64 a0_0) := (qb0 BK238.out 0).trans rfl; have hcz11_1 : w10.cell? ⟨gb238, 1, none⟩ = some (.slice A0_1 l0_1.length c0_1) := (qb0 BK238.out 1).trans rfl; have hfz11_0 := qa0 BK238.out 0; have hfz11_1 := qa0 BK238.out 1) | (go_at_call 48; (with_reducible refine (spec_Weekday.calls a1 t239 _ A3.out).mono ?_); rintro e w' ⟨rfl, ⟨nd, rfl⟩⟩; (try first | exact ⟨rfl, _, World.drewN_drewN _ _ _⟩ | exact ⟨rfl, _, Eq.trans (World.drewN_drewN _ _ _) (congrArg (World.drewN _) (Nat.add_assoc _ _ _))⟩))); try go_wp2_with (first | ((with_reducible refine qs0 (N := 2) rfl ?_); refine qr0 ?hg (N := 2) ?hd (cs := #[.int .i64 a0_0, .slice A0_1 l0_1.length c0_1]) (t := 26) ?hr ?_; (case hd => rfl); (case hg => rfl); (case hr => exact z5_9); intro gb238 hg w10 hbox hb; have n0_ := Aside0.mk (qf0 z5_0 hb); have n1_ := Aside0.mk (hbox); have n2_ := Aside0.mk ((z5_1 : w.heap.size ≤ gb238)); have n3_ := Aside0.mk ((z5_1 : w.heap.size ≤ gb238)); clear HB; have HB := n0_; have BK238 := n1_; have GW238 := n2_; have GE238 := n3_; clear n0_ n1_ n2_ n3_; clear hb hbox hg; have hcz11_0 : w10.cell? ⟨gb238, 0, none⟩ = some (.int .i64 a0_0) := (qb0 BK238.out 0).trans rfl; have hcz11_1 : w10.cell? ⟨gb238, 1, none⟩ = some (.slice A0_1 l0_1.length c0_1) := (qb0 BK238.out 1).trans rfl; have hfz11_0 := qa0 BK238.out 0; have hfz11_1 := qa0 BK238.out 1) | (go_at_call 48; (with_reducible refine (spec_Weekday.calls a1 t239 _ A3.out).mono ?_); rintro e w' ⟨rfl, ⟨nd, rfl⟩⟩; (try first | exact ⟨rfl, _, World.drewN_drewN _ _ _⟩ | exact ⟨rfl, _, Eq.trans (World.drewN_drewN _ _ _) (congrArg (World.drewN _) (Nat.add_assoc _ _ _))⟩))))
 go_loopg [5] k (fun kq v5 w' => ∃ (x5_1 : Int), v5 = .int .i64 x5_1 ∧ Aside0 (spec_l2Work.l0 kq a1 x5_1 a0_0 l0_1 = some r) ∧ Aside0 (kq ≤ k) ∧ Aside0 (w'.heap[gb238]? = some (.cells #[.int .i64 a0_0, (.slice A0_1 l0_1.length c0_1)] 26 (0, 0))) ∧ Aside0 (Below w.heap.size w w'))
 case atStart => exact ⟨(0), z5_6, H', ⟨Nat.le_refl _⟩, ⟨by (with_reducible repeat (first | refine qj0 ?_ _ | refine qk0 ?_ | refine qg0 ?_ _)); exact BK238.out⟩, ⟨z5_4⟩⟩
 case round =>
  clear H'
  try clear p2
  try clear c3
  try clear c5
  try clear c5b0
  try clear c5b1
  try clear c7
  try clear c7b0
  try clear c7b1
  try clear hcz11_0
  try clear hcz11_1
  try clear hcz9_0
  try clear hcz9_1
  try clear hfz11_0
  try clear hfz11_1
  try clear hfz9_0
  try clear hfz9_1
  obtain ⟨x5_1, rfl, HA, HK1, BK238, HB⟩ := hrel
  cases gk with
  | zero => exact absurd HA.out (by simp [spec_l2Work.l0])
  | succ k1 =>
   have H := HA.out
   clear HA
   simp only [spec_l2Work.l0] at H
   by_cases c12 : x5_1 < (l0_1.length : Int)
   ·rw [if_pos c12] at H
    have c12b0 : decide (x5_1 < (l0_1.length : Int)) = true := decide_eq_true c12
    clear c12
    by_cases c13 : 0 ≤ x5_1
    case neg => rw [if_neg c13] at H; exact absurd H (by simp)
    rw [if_pos c13] at H
    have c13b0 : decide (0 ≤ x5_1) = true := decide_eq_true c13
    clear c13
    by_cases c14 : (rd l0_1 x5_1) = a1
    ·rw [if_pos c14] at H
     have c14b0 : ((rd l0_1 x5_1) == a1) = true := beq_iff_eq.mpr c14
     have c14b1 : ((rd l0_1 x5_1) != a1) = false := bne_eq_false_iff_eq.mpr c14
     clear c14
     obtain rfl := Option.some.inj H
     have hcz15_0 : wr.cell? ⟨gb238, 0, none⟩ = some (.int .i64 a0_0) := (qb0 BK238.out 0).trans rfl
     have hcz15_1 : wr.cell? ⟨gb238, 1, none⟩ = some (.slice A0_1 l0_1.length c0_1) := (qb0 BK238.out 1).trans rfl
     have hfz15_0 := qa0 BK238.out 0
     have hfz15_1 := qa0 BK238.out 1
     have p240 : 0 ≤ (x5_1 : Int) := of_decide_eq_true z5_2
     have q240 : x5_1 < (l0_1.length : Int) := of_decide_eq_true z5_2
     obtain ⟨ad240, e240, hx240_0⟩ := Kd.qa1 HR0_1.out x5_1 p240 q240
     cases e240
     replace hx240_0 := (HB.out.cell (World.block_lt_of_cell? w _ hx240_0)).trans hx240_0
     replace p240 := eq_true p240
     replace q240 := eq_true q240
     go_wp2
     repeat (go_quiet (fail); try go_wp2)
     go_ret
     exact ⟨z5_7, z5_4⟩
    rw [if_neg c14] at H
    have c14b0 : ((rd l0_1 x5_1) == a1) = false := beq_eq_false_iff_ne.mpr c14
    have c14b1 : ((rd l0_1 x5_1) != a1) = true := bne_iff_ne.mpr c14
    have H' := Aside0.mk H
    clear H
    have hcz16_0 : wr.cell? ⟨gb238, 0, none⟩ = some (.int .i64 a0_0) := (qb0 BK238.out 0).trans rfl
    have hcz16_1 : wr.cell? ⟨gb238, 1, none⟩ = some (.slice A0_1 l0_1.length c0_1) := (qb0 BK238.out 1).trans rfl
    have hfz16_0 := qa0 BK238.out 0
    have hfz16_1 := qa0 BK238.out 1
    have p240 : 0 ≤ (x5_1 : Int) := of_decide_eq_true z5_2
    have q240 : x5_1 < (l0_1.length : Int) := of_decide_eq_true z5_2
    obtain ⟨ad240, e240, hx240_0⟩ := Kd.qa1 HR0_1.out x5_1 p240 q240
    cases e240
    replace hx240_0 := (HB.out.cell (World.block_lt_of_cell? w _ hx240_0)).trans hx240_0
    replace p240 := eq_true p240
    replace q240 := eq_true q240
    go_wp2
    repeat (go_quiet (fail); try go_wp2)
    go_roundg k1
    case measure => have := HK1.out; omega
    case rel => exact ⟨(wrap64 (x5_1 + 1)), z5_6, H', ⟨by have := HK1.out; omega⟩, ⟨by (with_reducible repeat (first | refine qj0 ?_ _ | refine qk0 ?_ | refine qg0 ?_ _)); exact BK238.out⟩, ⟨z5_4⟩⟩
   rw [if_neg c12] at H
   have c12b0 : decide (x5_1 < (l0_1.length : Int)) = false := decide_eq_false c12
   clear c12
   obtain rfl := Option.some.inj H
   have hcz17_0 : wr.cell? ⟨gb238, 0, none⟩ = some (.int .i64 a0_0) := (qb0 BK238.out 0).trans rfl
   have hcz17_1 : wr.cell? ⟨gb238, 1, none⟩ = some (.slice A0_1 l0_1.length c0_1) := (qb0 BK238.out 1).trans rfl
   have hfz17_0 := qa0 BK238.out 0
   have hfz17_1 := qa0 BK238.out 1
   go_wp2
   repeat (go_quiet (fail); try go_wp2)
   go_ret
   exact ⟨z5_7, z5_4⟩

end Go.Proofs.Ytggfggmmecbdnaa.PFnWorkBack
