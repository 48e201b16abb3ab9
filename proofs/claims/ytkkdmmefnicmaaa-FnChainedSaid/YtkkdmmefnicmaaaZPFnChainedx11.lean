/- Lines by a program (a changed copy of the kit's print: this repo's wip/tools): Go functions as Lean functions, and proofs that the calls answer so. -/
import Derived.Test.YtkkdmmefnicmaaaZPFnChainedx0
import Derived.Test.YtkkdmmefnicmaaaZPFnChainedx10
namespace Go.Proofs.Ytkkdmmefnicmaaa.PFnChained
open Go.RowKit Go.Proofs.YtkkdmmefnicmaaaW.PrintWords Go.Proofs.YtkkdmmefnicmaaaW.PrintLast Go.Proofs.YtkkdmmefnicmaaaW.PrintMore
/-- Closing blocks told once. -/
theorem z11_0 {P : Prop} (h : P := by repeat (first | (with_reducible first | exact HB.out | apply qj0 | apply qh0 | apply qi0 | refine qk0 ?_ (IsS178.ge HI442.out)) | exact HB.out)) : P := h
theorem z11_1 {P : Prop} (h : P := by repeat (first | (with_reducible first | exact HI442.out | apply IsS178.alloc | apply IsS178.drewN | apply IsS178.drew | apply IsS178.set_0 | apply IsS178.set_1) | exact HI442.out)) : P := h
theorem z11_2 {P : Prop} (h : P := by rw [hg]; exact (qv0 (by repeat (first | (with_reducible first | exact HB.out | apply qj0 | apply qh0 | apply qi0 | refine qk0 ?_ (IsS178.ge HI442.out)) | exact HB.out)))) : P := h
theorem z11_3 {P : Prop} (h : P := by repeat (first | (with_reducible first | exact HB.out | apply qj0 | apply qh0 | apply qi0 | refine qk0 ?_ (IsS178.ge HI442.out) | refine qk0 ?_ GE444.out) | exact HB.out)) : P := h
theorem z11_4 {P : Prop} (h : P := by rw [hg]; exact Nat.ne_of_lt (IsS178.lt (show IsS178 w _ gb442 x443000_1 x443001_1 from by repeat (first | (with_reducible first | exact HI442.out | apply IsS178.alloc | apply IsS178.drewN | apply IsS178.drew | apply IsS178.set_0 | apply IsS178.set_1) | exact HI442.out)))) : P := h
theorem z11_5 {P : Prop} (h : P := by rw [hg]; exact Nat.ne_of_gt (IsS178.lt (show IsS178 w _ gb442 x443000_1 x443001_1 from by repeat (first | (with_reducible first | exact HI442.out | apply IsS178.alloc | apply IsS178.drewN | apply IsS178.drew | apply IsS178.set_0 | apply IsS178.set_1) | exact HI442.out)))) : P := h
theorem z11_6 {P : Prop} (h : P := by repeat (first | (with_reducible first | exact HB.out | apply qj0 | apply qh0 | apply qi0) | exact HB.out)) : P := h
theorem z11_7 {P : Prop} (h : P := by rw [hg]; exact (qv0 (by repeat (first | (with_reducible first | exact HB.out | apply qj0 | apply qh0 | apply qi0) | exact HB.out)))) : P := h
theorem z11_8 {P : Prop} (h : P := by first | rfl | (simp [errW_none, errW_some] <;> rfl) | (simp [*, errW_none, errW_some] <;> rfl)) : P := h
theorem z11_9 {P : Prop} (h : P := by repeat (first | (with_reducible first | exact HI442.out | apply IsS178.alloc | apply IsS178.drewN | apply IsS178.drew | apply IsS178.set_0 | apply IsS178.set_1 | refine IsS178.far ?_ NB442_444.out _) | exact HI442.out)) : P := h
theorem z11_10 {P : Prop} (h : P := by first | (with_reducible assumption) | assumption) : P := h
attribute [local go_sem] max2_int min2_int max_two min_two max_three min_three max_four min_four   -- for this text's walks alone
set_option linter.unusedVariables false
set_option linter.unusedSimpArgs false

/-! ### impl_HeadOf: function 51 -/
def impl_HeadOf.l0 : Nat → List (S98) → Int → Int → Int → Bool → Option (Int)
 | 0, _, _, _, _, _ => none
 | k + 1, x14, x15, x16, x443000, x443001 => if x16 < x15 then (if 0 ≤ x16 then (if x16 < (x14.length : Int) then (if (((rd_T98 x14 x16).f3).length : Int) > 60 then (some 0) else (if (((rd_T98 x14 x16).f2).size : Int) > 40 then (some 0) else ((impl_numbersOf.f k ((rd_T98 x14 x16).f0) ((rd_T98 x14 x16).f1) ((rd_T98 x14 x16).f2) ((rd_T98 x14 x16).f3) x443000 x443001).bind fun bt445 => (impl_HeadOf.l0 k x14 x15 (wrap64 (x16 + 1)) bt445.1 bt445.2)))) else (none)) else (none)) else (if x443001 = true then (some 0) else (some x443000))
def impl_HeadOf.f (k : Nat) (l0 : List (S98)) : Option (Int) := if (l0.length : Int) > 1000 then (some 0) else (impl_HeadOf.l0 k l0 (l0.length : Int) 0 1 false)
theorem impl_HeadOf.mono_l : ∀ k, (∀ y0 y1 y2 y3 y4, LeO (impl_HeadOf.l0 k y0 y1 y2 y3 y4) (impl_HeadOf.l0 (k + 1) y0 y1 y2 y3 y4))
 | 0 => fun _ _ _ _ _ r h => by simp [impl_HeadOf.l0] at h
 | k + 1 => by
  have ih0 := impl_HeadOf.mono_l k
  ·intro y0 y1 y2 y3 y4
   unfold impl_HeadOf.l0
   repeat' first
   | (with_reducible exact ih0 _ _ _ _ _)
   | (with_reducible exact impl_numbersOf.mono _ _ _ _ _ _ _)
   | (with_reducible exact LeO.refl _)
   | (with_reducible exact LeO.none _)
   | (with_reducible refine LeO.ite ?_ ?_)
   | (with_reducible refine LeO.bind ?_ (fun _ => ?_))
   | exact ih0 _ _ _ _ _
   | exact impl_numbersOf.mono _ _ _ _ _ _ _
   | exact LeO.none _
   | refine LeO.ite ?_ ?_
   | refine LeO.bind ?_ (fun _ => ?_)
theorem impl_HeadOf.mono : ∀ a0 k, LeO (impl_HeadOf.f k a0) (impl_HeadOf.f (k + 1) a0) := by
 intro a0 k
 have ih0 := impl_HeadOf.mono_l k
 unfold impl_HeadOf.f
 repeat' first
   | (with_reducible exact ih0 _ _ _ _ _)
   | (with_reducible exact impl_numbersOf.mono _ _ _ _ _ _ _)
   | (with_reducible exact LeO.refl _)
   | (with_reducible exact LeO.none _)
   | (with_reducible refine LeO.ite ?_ ?_)
   | (with_reducible refine LeO.bind ?_ (fun _ => ?_))
   | exact ih0 _ _ _ _ _
   | exact impl_numbersOf.mono _ _ _ _ _ _ _
   | exact LeO.none _
   | refine LeO.ite ?_ ?_
   | refine LeO.bind ?_ (fun _ => ?_)
set_option maxHeartbeats 8000000 in
set_option maxRecDepth 100000 in
theorem impl_HeadOf.calls (k : Nat) (A0 : Option Addr) (c0 : Nat) (l0 : List (S98)) (r : Int) (w : World) (hr0 : Kd.C k98 w A0 l0.length l0) (hc0 : l0.length ≤ c0) (h : impl_HeadOf.f k l0 = some r) :
  Calls Try.prog 51 #[.slice A0 l0.length c0] w fun e w' => e = .returned (.int .i64 r) ∧ Below w.heap.size w w' := by
 have hu178 := Try.underlying178
 have hu98 := Try.underlying98
 have hmf : ∀ (fn : Fn) (first cap : Array Value) (w : World), (Instr.makeFunc fn first cap).run Try.prog w = .ok (.func fn first cap) w := fun _ _ _ _ => rfl
 have HR0 := Aside0.mk hr0
 have HC0 := Aside0.mk hc0
 clear hr0 hc0
 have HB := Aside0.mk (Below.refl w.heap.size w)
 have H : (if (l0.length : Int) > 1000 then (some 0) else (impl_HeadOf.l0 k l0 (l0.length : Int) 0 1 false)) = some r := h
 clear h
 by_cases c2 : (l0.length : Int) > 1000
 ·rw [if_pos c2] at H
  have c2b0 : decide (1000 < (l0.length : Int)) = true := decide_eq_true c2
  have c2b1 : decide (1000 < l0.length) = true := decide_eq_true (by omega)
  clear c2
  obtain rfl := Option.some.inj H
  go_enter Try.func51, Try.ntmps51
  go_wp2
  go_ret
  exact ⟨z11_8, z11_6⟩
 rw [if_neg c2] at H
 have c2b0 : decide (1000 < (l0.length : Int)) = false := decide_eq_false c2
 have c2b1 : decide (1000 < l0.length) = false := decide_eq_false (by omega)
 clear c2
 have H' := Aside0.mk H
 clear H
 go_enter Try.func51, Try.ntmps51
 go_wp2_with (first | ((with_reducible refine qa1 (N := 11) rfl ?_); (try (refine gate_guard (by rfl) ?_; dsimp only)); refine qe1 ?hg (N := 11) ?hd (cs := #[.int .i64 1, .bool false]) (t := 178) ?hr ?_; (case hd => rfl); (case hg => rfl); (case hr => first | (go_simp; done) | (go_simp; rfl)); intro gb442 hg w3 hbox hb; have n0_ := Aside0.mk (ql0 z11_6 hb); have n1_ := Aside0.mk ((z11_7 : w.heap.size ≤ gb442)); have n2_ := Aside0.mk ((z11_7 : w.heap.size ≤ gb442)); have n3_ := Aside0.mk ((⟨hbox, (z11_7 : w.heap.size ≤ gb442)⟩ : IsS178 w w3 gb442 1 false)); clear HB; have HB := n0_; have GW442 := n1_; have GE442 := n2_; have HI442 := n3_; clear n0_ n1_ n2_ n3_; clear hb hbox hg))
 go_loopg [16] k (fun kq v16 w' => ∃ (x16_1 : Int) (x443000_1 : Int) (x443001_1 : Bool), v16 = .int .i64 x16_1 ∧ Aside0 (impl_HeadOf.l0 kq l0 (l0.length : Int) x16_1 x443000_1 x443001_1 = some r) ∧ Aside0 (kq ≤ k) ∧ Aside0 (IsS178 w w' gb442 x443000_1 x443001_1) ∧ Aside0 (Below w.heap.size w w'))
 case atStart => exact ⟨(0), (1), (false), (by first | rfl | (simp; done) | (simp [*]; done)), H', ⟨Nat.le_refl _⟩, ⟨z11_1⟩, ⟨z11_0⟩⟩
 case round =>
  clear H'
  try clear c2
  try clear c2b0
  try clear c2b1
  try clear p2
  obtain ⟨x16_1, x443000_1, x443001_1, rfl, HA, HK1, HI442, HB⟩ := hrel
  cases gk with
  | zero => exact absurd HA.out (by simp [impl_HeadOf.l0])
  | succ k1 =>
   have H := HA.out
   clear HA
   simp only [impl_HeadOf.l0] at H
   by_cases c4 : x16_1 < (l0.length : Int)
   ·rw [if_pos c4] at H
    have c4b0 : decide (x16_1 < (l0.length : Int)) = true := decide_eq_true c4
    clear c4
    by_cases c5 : 0 ≤ x16_1
    case neg => rw [if_neg c5] at H; exact absurd H (by simp)
    rw [if_pos c5] at H
    have c5b0 : decide (0 ≤ x16_1) = true := decide_eq_true c5
    clear c5
    by_cases c6 : x16_1 < (l0.length : Int)
    case neg => rw [if_neg c6] at H; exact absurd H (by simp)
    rw [if_pos c6] at H
    have c6b0 : decide (x16_1 < (l0.length : Int)) = true := decide_eq_true c6
    clear c6
    by_cases c7 : (((rd_T98 l0 x16_1).f3).length : Int) > 60
    ·rw [if_pos c7] at H
     have c7b0 : decide (60 < (((rd_T98 l0 x16_1).f3).length : Int)) = true := decide_eq_true c7
     have c7b1 : decide (60 < ((rd_T98 l0 x16_1).f3).length) = true := decide_eq_true (by omega)
     clear c7
     obtain rfl := Option.some.inj H
     have p443 : 0 ≤ (x16_1 : Int) := of_decide_eq_true z11_10
     have q443 : x16_1 < (l0.length : Int) := of_decide_eq_true z11_10
     obtain ⟨ad443, A443_3, c443_3, e443, hx443_0, hx443_1, hx443_2, hx443_3, hl443_3, hi443_3⟩ := at_T98 HR0.out x16_1 p443 q443
     cases e443
     replace hx443_0 := (HB.out.cell (World.block_lt_of_cell? w _ hx443_0)).trans hx443_0
     replace hx443_1 := (HB.out.cell (World.block_lt_of_cell? w _ hx443_1)).trans hx443_1
     replace hx443_2 := (HB.out.cell (World.block_lt_of_cell? w _ hx443_2)).trans hx443_2
     replace hx443_3 := (HB.out.cell (World.block_lt_of_cell? w _ hx443_3)).trans hx443_3
     have HR443_3 := Aside0.mk hi443_3
     have HC443_3 := Aside0.mk hl443_3
     clear hi443_3 hl443_3
     replace p443 := eq_true p443
     replace q443 := eq_true q443
     go_wp2_with (first | ((with_reducible refine qa1 (N := 6) rfl ?_); (try (refine gate_guard (by rfl) ?_; dsimp only)); refine qe1 ?hg (N := 6) ?hd (cs := #[.int .i64 0, .int .i64 0, .string (⟨#[]⟩ : ByteArray), .slice none 0 0]) (t := 98) ?hr ?_; (case hd => rfl); (case hg => rfl); (case hr => first | (go_simp; done) | (go_simp; rfl)); intro gb444 hg w8 hbox hb; have n0_ := Aside0.mk (IsS178.below z11_1 hb); have n1_ := Aside0.mk (ql0 z11_0 hb); have n2_ := Aside0.mk (hbox); have n3_ := Aside0.mk ((z11_2 : w.heap.size ≤ gb444)); have n4_ := Aside0.mk ((z11_2 : w.heap.size ≤ gb444)); have n5_ := Aside0.mk ((z11_4 : gb442 ≠ gb444)); have n6_ := Aside0.mk ((z11_5 : gb444 ≠ gb442)); clear HI442; clear HB; have HI442 := n0_; have HB := n1_; have BK444 := n2_; have GW444 := n3_; have GE444 := n4_; have NB442_444 := n5_; have NB444_442 := n6_; clear n0_ n1_ n2_ n3_ n4_ n5_ n6_; clear hb hbox hg; have hnb9 := NB444_442.out; have hnc9 := NB442_444.out; have hcz10_0 : w8.cell? ⟨gb444, 0, none⟩ = some (.int .i64 0) := (qb0 BK444.out 0).trans rfl; have hcz10_1 : w8.cell? ⟨gb444, 1, none⟩ = some (.int .i64 0) := (qb0 BK444.out 1).trans rfl; have hcz10_2 : w8.cell? ⟨gb444, 2, none⟩ = some (.string (⟨#[]⟩ : ByteArray)) := (qb0 BK444.out 2).trans rfl; have hcz10_3 : w8.cell? ⟨gb444, 3, none⟩ = some (.slice none 0 0) := (qb0 BK444.out 3).trans rfl; have hfz10_0 := qa0 BK444.out 0; have hfz10_1 := qa0 BK444.out 1; have hfz10_2 := qa0 BK444.out 2; have hfz10_3 := qa0 BK444.out 3))
     go_ret
     exact ⟨z11_8, z11_3⟩
    rw [if_neg c7] at H
    have c7b0 : decide (60 < (((rd_T98 l0 x16_1).f3).length : Int)) = false := decide_eq_false c7
    have c7b1 : decide (60 < ((rd_T98 l0 x16_1).f3).length) = false := decide_eq_false (by omega)
    clear c7
    by_cases c11 : (((rd_T98 l0 x16_1).f2).size : Int) > 40
    ·rw [if_pos c11] at H
     have c11b0 : decide (40 < (((rd_T98 l0 x16_1).f2).size : Int)) = true := decide_eq_true c11
     have c11b1 : decide (40 < ((rd_T98 l0 x16_1).f2).size) = true := decide_eq_true (by omega)
     clear c11
     obtain rfl := Option.some.inj H
     have p443 : 0 ≤ (x16_1 : Int) := of_decide_eq_true z11_10
     have q443 : x16_1 < (l0.length : Int) := of_decide_eq_true z11_10
     obtain ⟨ad443, A443_3, c443_3, e443, hx443_0, hx443_1, hx443_2, hx443_3, hl443_3, hi443_3⟩ := at_T98 HR0.out x16_1 p443 q443
     cases e443
     replace hx443_0 := (HB.out.cell (World.block_lt_of_cell? w _ hx443_0)).trans hx443_0
     replace hx443_1 := (HB.out.cell (World.block_lt_of_cell? w _ hx443_1)).trans hx443_1
     replace hx443_2 := (HB.out.cell (World.block_lt_of_cell? w _ hx443_2)).trans hx443_2
     replace hx443_3 := (HB.out.cell (World.block_lt_of_cell? w _ hx443_3)).trans hx443_3
     have HR443_3 := Aside0.mk hi443_3
     have HC443_3 := Aside0.mk hl443_3
     clear hi443_3 hl443_3
     replace p443 := eq_true p443
     replace q443 := eq_true q443
     go_wp2_with (first | ((with_reducible refine qa1 (N := 6) rfl ?_); (try (refine gate_guard (by rfl) ?_; dsimp only)); refine qe1 ?hg (N := 6) ?hd (cs := #[.int .i64 0, .int .i64 0, .string (⟨#[]⟩ : ByteArray), .slice none 0 0]) (t := 98) ?hr ?_; (case hd => rfl); (case hg => rfl); (case hr => first | (go_simp; done) | (go_simp; rfl)); intro gb444 hg w12 hbox hb; have n0_ := Aside0.mk (IsS178.below z11_1 hb); have n1_ := Aside0.mk (ql0 z11_0 hb); have n2_ := Aside0.mk (hbox); have n3_ := Aside0.mk ((z11_2 : w.heap.size ≤ gb444)); have n4_ := Aside0.mk ((z11_2 : w.heap.size ≤ gb444)); have n5_ := Aside0.mk ((z11_4 : gb442 ≠ gb444)); have n6_ := Aside0.mk ((z11_5 : gb444 ≠ gb442)); clear HI442; clear HB; have HI442 := n0_; have HB := n1_; have BK444 := n2_; have GW444 := n3_; have GE444 := n4_; have NB442_444 := n5_; have NB444_442 := n6_; clear n0_ n1_ n2_ n3_ n4_ n5_ n6_; clear hb hbox hg; have hnb13 := NB444_442.out; have hnc13 := NB442_444.out; have hcz14_0 : w12.cell? ⟨gb444, 0, none⟩ = some (.int .i64 0) := (qb0 BK444.out 0).trans rfl; have hcz14_1 : w12.cell? ⟨gb444, 1, none⟩ = some (.int .i64 0) := (qb0 BK444.out 1).trans rfl; have hcz14_2 : w12.cell? ⟨gb444, 2, none⟩ = some (.string (⟨#[]⟩ : ByteArray)) := (qb0 BK444.out 2).trans rfl; have hcz14_3 : w12.cell? ⟨gb444, 3, none⟩ = some (.slice none 0 0) := (qb0 BK444.out 3).trans rfl; have hfz14_0 := qa0 BK444.out 0; have hfz14_1 := qa0 BK444.out 1; have hfz14_2 := qa0 BK444.out 2; have hfz14_3 := qa0 BK444.out 3))
     go_ret
     exact ⟨z11_8, z11_3⟩
    rw [if_neg c11] at H
    have c11b0 : decide (40 < (((rd_T98 l0 x16_1).f2).size : Int)) = false := decide_eq_false c11
    have c11b1 : decide (40 < ((rd_T98 l0 x16_1).f2).size) = false := decide_eq_false (by omega)
    clear c11
    replace H := Option.bind_eq_some_iff.mp H
    obtain ⟨⟨t445, t446⟩, A150, H⟩ := H
    replace H : (impl_HeadOf.l0 k1 l0 (l0.length : Int) (wrap64 (x16_1 + 1)) t445 t446) = some r := H
    have A15 := Aside0.mk A150
    clear A150
    have H' := Aside0.mk H
    clear H
    have p443 : 0 ≤ (x16_1 : Int) := of_decide_eq_true z11_10
    have q443 : x16_1 < (l0.length : Int) := of_decide_eq_true z11_10
    obtain ⟨ad443, A443_3, c443_3, e443, hx443_0, hx443_1, hx443_2, hx443_3, hl443_3, hi443_3⟩ := at_T98 HR0.out x16_1 p443 q443
    cases e443
    replace hx443_0 := (HB.out.cell (World.block_lt_of_cell? w _ hx443_0)).trans hx443_0
    replace hx443_1 := (HB.out.cell (World.block_lt_of_cell? w _ hx443_1)).trans hx443_1
    replace hx443_2 := (HB.out.cell (World.block_lt_of_cell? w _ hx443_2)).trans hx443_2
    replace hx443_3 := (HB.out.cell (World.block_lt_of_cell? w _ hx443_3)).trans hx443_3
    have HR443_3 := Aside0.mk hi443_3
    have HC443_3 := Aside0.mk hl443_3
    clear hi443_3 hl443_3
    replace p443 := eq_true p443
    replace q443 := eq_true q443
    go_wp2_with (first | ((with_reducible refine qa1 (N := 6) rfl ?_); (try (refine gate_guard (by rfl) ?_; dsimp only)); refine qe1 ?hg (N := 6) ?hd (cs := #[.int .i64 0, .int .i64 0, .string (⟨#[]⟩ : ByteArray), .slice none 0 0]) (t := 98) ?hr ?_; (case hd => rfl); (case hg => rfl); (case hr => first | (go_simp; done) | (go_simp; rfl)); intro gb444 hg w16 hbox hb; have n0_ := Aside0.mk (IsS178.below z11_1 hb); have n1_ := Aside0.mk (ql0 z11_0 hb); have n2_ := Aside0.mk (hbox); have n3_ := Aside0.mk ((z11_2 : w.heap.size ≤ gb444)); have n4_ := Aside0.mk ((z11_2 : w.heap.size ≤ gb444)); have n5_ := Aside0.mk ((z11_4 : gb442 ≠ gb444)); have n6_ := Aside0.mk ((z11_5 : gb444 ≠ gb442)); clear HI442; clear HB; have HI442 := n0_; have HB := n1_; have BK444 := n2_; have GW444 := n3_; have GE444 := n4_; have NB442_444 := n5_; have NB444_442 := n6_; clear n0_ n1_ n2_ n3_ n4_ n5_ n6_; clear hb hbox hg; have hnb17 := NB444_442.out; have hnc17 := NB442_444.out; have hcz18_0 : w16.cell? ⟨gb444, 0, none⟩ = some (.int .i64 0) := (qb0 BK444.out 0).trans rfl; have hcz18_1 : w16.cell? ⟨gb444, 1, none⟩ = some (.int .i64 0) := (qb0 BK444.out 1).trans rfl; have hcz18_2 : w16.cell? ⟨gb444, 2, none⟩ = some (.string (⟨#[]⟩ : ByteArray)) := (qb0 BK444.out 2).trans rfl; have hcz18_3 : w16.cell? ⟨gb444, 3, none⟩ = some (.slice none 0 0) := (qb0 BK444.out 3).trans rfl; have hfz18_0 := qa0 BK444.out 0; have hfz18_1 := qa0 BK444.out 1; have hfz18_2 := qa0 BK444.out 2; have hfz18_3 := qa0 BK444.out 3) | ((with_reducible refine qg0 (f := 125) rfl ?_); refine qt0 (some 32) rfl rfl Try.func125 (by kernel_rfl) rfl #[.agg #[.int .i64 ((rd_T98 l0 x16_1).f0), .int .i64 ((rd_T98 l0 x16_1).f1), .string ((rd_T98 l0 x16_1).f2), .slice A443_3 ((rd_T98 l0 x16_1).f3).length c443_3], .func (.func 124) #[.pointer (some ⟨gb442, 0, none⟩)] #[]] rfl (by (try simp only [List.map_toArray, List.map_cons, List.map_nil]); first | done | rfl | (simp only [List.length_drop, List.length_take]; rfl)) ?_; (with_reducible refine (impl_numbersOf.calls k1 ((rd_T98 l0 x16_1).f0) ((rd_T98 l0 x16_1).f1) ((rd_T98 l0 x16_1).f2) _ _ ((rd_T98 l0 x16_1).f3) gb442 x443000_1 x443001_1 t445 t446 w _ ?side1 ?side2 ?side3 ?side4 A15.out).mono ?_); (case side1 => exact z11_9); (case side2 => exact z11_3); (case side3 => exact Kd.C_foot_came k100_heap HR443_3.out z11_3 (IsS178.ge HI442.out)); (case side4 => exact HC443_3.out); rintro e w19 ⟨rfl, hi, hb, hk⟩; refine ⟨_, rfl, ?_⟩; have n0_ := Aside0.mk (qc0.blk hk (g' := gb444) (o := .cells #[.int .i64 ((rd_T98 l0 x16_1).f0), .int .i64 ((rd_T98 l0 x16_1).f1), .string ((rd_T98 l0 x16_1).f2), .slice A443_3 ((rd_T98 l0 x16_1).f3).length c443_3] 98 (0, 0)) (by (with_reducible repeat (first | refine qe0 ?_ _ | refine qf0 ?_ | refine qd0 ?_ _)); refine qo0 (cs := #[.int .i64 ((rd_T98 l0 x16_1).f0), .int .i64 ((rd_T98 l0 x16_1).f1), .string ((rd_T98 l0 x16_1).f2), .slice none 0 0]) ?_ 3 _ rfl; (with_reducible repeat (first | refine qe0 ?_ _ | refine qf0 ?_ | refine qd0 ?_ _)); refine qo0 (cs := #[.int .i64 ((rd_T98 l0 x16_1).f0), .int .i64 ((rd_T98 l0 x16_1).f1), .string (⟨#[]⟩ : ByteArray), .slice none 0 0]) ?_ 2 _ rfl; (with_reducible repeat (first | refine qe0 ?_ _ | refine qf0 ?_ | refine qd0 ?_ _)); refine qo0 (cs := #[.int .i64 ((rd_T98 l0 x16_1).f0), .int .i64 0, .string (⟨#[]⟩ : ByteArray), .slice none 0 0]) ?_ 1 _ rfl; (with_reducible repeat (first | refine qe0 ?_ _ | refine qf0 ?_ | refine qd0 ?_ _)); refine qo0 (cs := #[.int .i64 0, .int .i64 0, .string (⟨#[]⟩ : ByteArray), .slice none 0 0]) ?_ 0 _ rfl; (with_reducible repeat (first | refine qe0 ?_ _ | refine qf0 ?_ | refine qd0 ?_ _)); exact BK444.out) NB444_442.out (by simp)); have n1_ := Aside0.mk (hb); have n2_ := Aside0.mk (hi); clear BK444; clear HB; clear HI442; have BK444 := n0_; have HB := n1_; have HI442 := n2_; clear n0_ n1_ n2_; (try clear hb); (try clear hb2); (try clear hk); (try clear hi)))
    go_roundg k1
    case measure => have := HK1.out; omega
    case rel => exact ⟨(wrap64 (x16_1 + 1)), (t445), (t446), (by first | rfl | (simp; done) | (simp [*]; done)), H', ⟨by have := HK1.out; omega⟩, ⟨z11_9⟩, ⟨z11_3⟩⟩
   rw [if_neg c4] at H
   have c4b0 : decide (x16_1 < (l0.length : Int)) = false := decide_eq_false c4
   clear c4
   by_cases c20 : x443001_1 = true
   ·subst c20
    have H1 : (some 0) = some r := by rw [if_pos rfl] at H; exact H
    clear H
    have H := H1
    clear H1
    obtain rfl := Option.some.inj H
    obtain ⟨HGz21, hgz21⟩ := HI442.out
    have hcz21_0 := cellS178_0 HGz21
    have hcz21_1 := cellS178_1 HGz21
    have hfz21_0 := qa0 HGz21 0
    have hfz21_1 := qa0 HGz21 1
    clear HGz21 hgz21
    go_wp2
    go_ret
    exact ⟨z11_8, z11_0⟩
   replace c20 := Bool.eq_false_iff.mpr c20
   subst c20
   have H1 : (some x443000_1) = some r := by rw [if_neg (show ¬ (false = true) by decide)] at H; exact H
   clear H
   have H := H1
   clear H1
   obtain rfl := Option.some.inj H
   obtain ⟨HGz22, hgz22⟩ := HI442.out
   have hcz22_0 := cellS178_0 HGz22
   have hcz22_1 := cellS178_1 HGz22
   have hfz22_0 := qa0 HGz22 0
   have hfz22_1 := qa0 HGz22 1
   clear HGz22 hgz22
   go_wp2
   go_ret
   exact ⟨z11_8, z11_0⟩

end Go.Proofs.Ytkkdmmefnicmaaa.PFnChained
