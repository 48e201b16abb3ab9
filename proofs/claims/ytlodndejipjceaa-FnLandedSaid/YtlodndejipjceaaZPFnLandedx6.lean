/- Lines by a program (a changed copy of the kit's print: this repo's wip/tools): Go functions as Lean functions, and proofs that the calls answer so. -/
import Derived.Test.YtlodndejipjceaaZPFnLandedx0
namespace Go.Proofs.Ytlodndejipjceaa.PFnLanded
open Go.RowKit Go.Proofs.YtlodndejipjceaaW.PrintWords Go.Proofs.YtlodndejipjceaaW.PrintLast Go.Proofs.YtlodndejipjceaaW.PrintMore
attribute [local go_sem] max2_int min2_int max_two min_two max_three min_three max_four min_four   -- for this text's walks alone
set_option linter.unusedVariables false
set_option linter.unusedSimpArgs false

/-- A state of type 207 at block g of W; what its slices lead to came in by w0. -/
def IsS207 (w0 W : World) (g : Nat) (f0 : List Int) (f1 : Int) (f2 : Int) : Prop := ∃ A0 c0, W.heap[g]? = some (.cells #[.slice A0 f0.length c0, .int .i64 f1, .int .i64 f2] 207 (0, 0)) ∧ w0.heap.size ≤ g ∧ Kd.C (Kd.int .u8) w0 A0 f0.length f0
theorem IsS207.grown {w0 W : World} {g : Nat} {f0 : List Int} {f1 : Int} {f2 : Int} {W1 : World} {row : Option Nat} (h : IsS207 w0 W g f0 f1 f2) (hw : W.grownBy W1 row) (hne : some g ≠ row) : IsS207 w0 W1 g f0 f1 f2 := by
 obtain ⟨A0, c0, hb, hg, hr0⟩ := h
 exact ⟨A0, c0, blk_grown hb hw hne, hg, hr0⟩
theorem IsS207.kept {w0 W : World} {g : Nat} {f0 : List Int} {f1 : Int} {f2 : Int} {W1 : World} {S : Nat → Prop} (h : IsS207 w0 W g f0 f1 f2) (hk : Kept W W1 S) (hne : ¬ S g) : IsS207 w0 W1 g f0 f1 f2 := by
 obtain ⟨A0, c0, hb, hg, hr0⟩ := h
 exact ⟨A0, c0, blk_kept hb hk hne, hg, hr0⟩
theorem IsS207.below {w0 W : World} {g : Nat} {f0 : List Int} {f1 : Int} {f2 : Int} {W1 : World} (h : IsS207 w0 W g f0 f1 f2) (hw : Below W.heap.size W W1) : IsS207 w0 W1 g f0 f1 f2 := h.grown (grown_of_below hw none) (by simp)
theorem IsS207.alloc {w0 W : World} {g : Nat} {f0 : List Int} {f1 : Int} {f2 : Int} (h : IsS207 w0 W g f0 f1 f2) (o : Obj) : IsS207 w0 (W.alloc o) g f0 f1 f2 := h.below (qb0 (Below.refl _ _) o)
theorem IsS207.drewN {w0 W : World} {g : Nat} {f0 : List Int} {f1 : Int} {f2 : Int} (h : IsS207 w0 W g f0 f1 f2) (m : Nat) : IsS207 w0 (W.drewN m) g f0 f1 f2 := h
theorem IsS207.drew {w0 W : World} {g : Nat} {f0 : List Int} {f1 : Int} {f2 : Int} (h : IsS207 w0 W g f0 f1 f2) : IsS207 w0 W.drew g f0 f1 f2 := h
theorem IsS207.at_ {w0 W : World} {g : Nat} {f0 : List Int} {f1 : Int} {f2 : Int} {w' : World} {m : Nat} (hq : W.drewN m = w') (h : IsS207 w0 W g f0 f1 f2) : IsS207 w0 w' g f0 f1 f2 := by subst hq; exact IsS207.drewN h m
theorem IsS207.apart {w0 W : World} {g : Nat} {f0 : List Int} {f1 : Int} {f2 : Int} {α : Type} {d : Kd α} {e : Nat} {base : Nat} {ok : Nat → Prop} {v : Value} {xs : List α} (h : IsS207 w0 W g f0 f1 f2) (ho : d.R e W base ok v xs) (ht : ∀ q, q ∈ e :: d.E → q ≠ 207) : d.R e W base (fun k => ok k ∧ k ≠ g) v xs := by
 obtain ⟨A0, c0, hb, hg, hr0⟩ := h
 exact Kd.R_types ho hb ht
theorem IsS207.own_ne {w0 W : World} {g : Nat} {f0 : List Int} {f1 : Int} {f2 : Int} {α : Type} {d : Kd α} {e : Nat} {base : Nat} {ok : Nat → Prop} {v : Value} {xs : List α} (h : IsS207 w0 W g f0 f1 f2) (ho : d.R e W base ok v xs) (ht : e ≠ 207) : some g ≠ v.ownBlock := by
 obtain ⟨A0, c0, hb, hg, hr0⟩ := h
 exact Kd.R_ne ho hb ht
theorem IsS207.lt {w0 W : World} {g : Nat} {f0 : List Int} {f1 : Int} {f2 : Int} (h : IsS207 w0 W g f0 f1 f2) : g < W.heap.size := by
 obtain ⟨A0, c0, hb, hg, hr0⟩ := h
 exact blk_lt hb
theorem IsS207.ge {w0 W : World} {g : Nat} {f0 : List Int} {f1 : Int} {f2 : Int} (h : IsS207 w0 W g f0 f1 f2) : w0.heap.size ≤ g := by
 obtain ⟨A0, c0, hb, hg, hr0⟩ := h
 exact hg
theorem cellS207_0 {W : World} {g : Nat} {A0 : Option Addr} {c0 : Nat} {f0 : List Int} {f1 : Int} {f2 : Int} (h : W.heap[g]? = some (.cells #[.slice A0 f0.length c0, .int .i64 f1, .int .i64 f2] 207 (0, 0))) : W.cell? ⟨g, 0, none⟩ = some (.slice A0 f0.length c0) := (qq0 h 0).trans rfl
theorem cellS207_1 {W : World} {g : Nat} {A0 : Option Addr} {c0 : Nat} {f0 : List Int} {f1 : Int} {f2 : Int} (h : W.heap[g]? = some (.cells #[.slice A0 f0.length c0, .int .i64 f1, .int .i64 f2] 207 (0, 0))) : W.cell? ⟨g, 1, none⟩ = some (.int .i64 f1) := (qq0 h 1).trans rfl
theorem IsS207.set_1 {w0 W : World} {g : Nat} {f0 : List Int} {f1 : Int} {f2 : Int} (h : IsS207 w0 W g f0 f1 f2) (x : Int) : IsS207 w0 (W.setCell ⟨g, 1, none⟩ (.int .i64 x)) g f0 x f2 := by
 obtain ⟨A0, c0, hb, hg, hr0⟩ := h
 exact ⟨A0, c0, by simpa using blk_set hb 1 (.int .i64 x), hg, hr0⟩
theorem cellS207_2 {W : World} {g : Nat} {A0 : Option Addr} {c0 : Nat} {f0 : List Int} {f1 : Int} {f2 : Int} (h : W.heap[g]? = some (.cells #[.slice A0 f0.length c0, .int .i64 f1, .int .i64 f2] 207 (0, 0))) : W.cell? ⟨g, 2, none⟩ = some (.int .i64 f2) := (qq0 h 2).trans rfl
theorem IsS207.set_2 {w0 W : World} {g : Nat} {f0 : List Int} {f1 : Int} {f2 : Int} (h : IsS207 w0 W g f0 f1 f2) (x : Int) : IsS207 w0 (W.setCell ⟨g, 2, none⟩ (.int .i64 x)) g f0 f1 x := by
 obtain ⟨A0, c0, hb, hg, hr0⟩ := h
 exact ⟨A0, c0, by simpa using blk_set hb 2 (.int .i64 x), hg, hr0⟩
/-! ### spec_l1New: function 82 -/
def spec_l1New.l0 : Nat → List Int → Int → Int → Option (List Int × Int × Int)
 | 0, _, _, _ => none
 | k + 1, x0, x3, x4 => if x4 < (x0.length : Int) then (if x4 < 4000 then (if 0 ≤ x4 then (spec_l1New.l0 k x0 (Go.bits .and .i64 (wrap64 ((wrap64 ((wrap64 (x3 * 131)) + (wrap64 (rd x0 x4)))) + 7)) 1073741823) (wrap64 (x4 + 1))) else (none)) else (some (x0, 0, x3))) else (some (x0, 0, x3))
def spec_l1New.f (k : Nat) (l0 : List Int) : Option (List Int × Int × Int) := spec_l1New.l0 k l0 (wrap64 (71933 + (l0.length : Int))) 0
theorem spec_l1New.mono_l : ∀ k, (∀ y0 y1 y2, LeO (spec_l1New.l0 k y0 y1 y2) (spec_l1New.l0 (k + 1) y0 y1 y2))
 | 0 => fun _ _ _ r h => by simp [spec_l1New.l0] at h
 | k + 1 => by
  have ih0 := spec_l1New.mono_l k
  ·intro y0 y1 y2
   unfold spec_l1New.l0
   repeat' first
   | (with_reducible exact ih0 _ _ _)
   | (with_reducible exact LeO.refl _)
   | (with_reducible exact LeO.none _)
   | (with_reducible refine LeO.ite ?_ ?_)
   | (with_reducible refine LeO.bind ?_ (fun _ => ?_))
   | exact ih0 _ _ _
   | exact LeO.none _
   | refine LeO.ite ?_ ?_
   | refine LeO.bind ?_ (fun _ => ?_)
theorem spec_l1New.mono : ∀ a0 k, LeO (spec_l1New.f k a0) (spec_l1New.f (k + 1) a0) := by
 intro a0 k
 have ih0 := spec_l1New.mono_l k
 unfold spec_l1New.f
 repeat' first
   | (with_reducible exact ih0 _ _ _)
   | (with_reducible exact LeO.refl _)
   | (with_reducible exact LeO.none _)
   | (with_reducible refine LeO.ite ?_ ?_)
   | (with_reducible refine LeO.bind ?_ (fun _ => ?_))
   | exact ih0 _ _ _
   | exact LeO.none _
   | refine LeO.ite ?_ ?_
   | refine LeO.bind ?_ (fun _ => ?_)
set_option maxHeartbeats 8000000 in
set_option maxRecDepth 100000 in
theorem spec_l1New.calls (k : Nat) (A0 : Option Addr) (c0 : Nat) (l0 : List Int) (r1 : List Int) (r2 : Int) (r3 : Int) (w0 w : World) (hB : Below w0.heap.size w0 w) (hr0 : Kd.C (Kd.int .u8) w0 A0 l0.length l0) (hc0 : l0.length ≤ c0) (h : spec_l1New.f k l0 = some (r1, r2, r3)) :
  Calls Try.prog 82 #[.slice A0 l0.length c0] w fun e w' => ∃ g_ : Nat, e = .returned (.pointer (some ⟨g_, 0, none⟩)) ∧ IsS207 w0 w' g_ r1 r2 r3 ∧ Below w0.heap.size w0 w' ∧ Below w.heap.size w w' := by
 have hu207 := Try.underlying207
 have HR0 := Aside0.mk hr0
 have HC0 := Aside0.mk hc0
 clear hr0 hc0
 have HBW := Aside0.mk (Below.refl w.heap.size w)
 have HW0 := Aside0.mk hB.size
 have HB := Aside0.mk hB
 clear hB
 have H : (spec_l1New.l0 k l0 (wrap64 (71933 + (l0.length : Int))) 0) = some (r1, r2, r3) := h
 clear h
 have H' := Aside0.mk H
 clear H
 go_enter Try.func82, Try.ntmps82
 go_wp2
 go_loopg [3, 4] k (fun kq v3 v4 w' => ∃ (x3_1 : Int) (x4_1 : Int), v3 = .int .i64 x3_1 ∧ v4 = .int .i64 x4_1 ∧ Aside0 (spec_l1New.l0 kq l0 x3_1 x4_1 = some (r1, r2, r3)) ∧ Aside0 (kq ≤ k) ∧ Aside0 (Below w.heap.size w w') ∧ Aside0 (Below w0.heap.size w0 w'))
 case atStart => exact ⟨(wrap64 (71933 + (l0.length : Int))), (0), (by first | rfl | (simp; done) | (simp [*]; done)), (by first | rfl | (simp; done) | (simp [*]; done)), H', ⟨Nat.le_refl _⟩, ⟨by repeat (first | (with_reducible first | exact HBW.out | apply qb0 | apply qa0 | apply qc0) | exact HBW.out)⟩, ⟨by repeat (first | (with_reducible first | exact HB.out | apply qb0 | apply qa0 | apply qc0) | exact HB.out)⟩⟩
 case round =>
  clear H'
  obtain ⟨x3_1, x4_1, rfl, rfl, HA, HK1, HBW, HB⟩ := hrel
  cases gk with
  | zero => exact absurd HA.out (by simp [spec_l1New.l0])
  | succ k1 =>
   have H := HA.out
   clear HA
   simp only [spec_l1New.l0] at H
   by_cases c2 : x4_1 < (l0.length : Int)
   ·rw [if_pos c2] at H
    have c2b0 : decide (x4_1 < (l0.length : Int)) = true := decide_eq_true c2
    clear c2
    by_cases c3 : x4_1 < 4000
    ·rw [if_pos c3] at H
     have c3b0 : decide (x4_1 < 4000) = true := decide_eq_true c3
     clear c3
     by_cases c4 : 0 ≤ x4_1
     case neg => rw [if_neg c4] at H; exact absurd H (by simp)
     rw [if_pos c4] at H
     have c4b0 : decide (0 ≤ x4_1) = true := decide_eq_true c4
     clear c4
     have H' := Aside0.mk H
     clear H
     have p196 : 0 ≤ (x4_1 : Int) := of_decide_eq_true (by first | (with_reducible assumption) | assumption)
     have q196 : x4_1 < (l0.length : Int) := of_decide_eq_true (by first | (with_reducible assumption) | assumption)
     obtain ⟨ad196, e196, hx196_0⟩ := Kd.qn1 HR0.out x4_1 p196 q196
     cases e196
     replace hx196_0 := pw_cell_below HB.out hx196_0
     replace p196 := eq_true p196
     replace q196 := eq_true q196
     go_wp2
     go_roundg k1
     case measure => have := HK1.out; omega
     case rel => exact ⟨(Go.bits .and .i64 (wrap64 ((wrap64 ((wrap64 (x3_1 * 131)) + (wrap64 (rd l0 x4_1)))) + 7)) 1073741823), (wrap64 (x4_1 + 1)), (by first | rfl | (simp; done) | (simp [*]; done)), (by first | rfl | (simp; done) | (simp [*]; done)), H', ⟨by have := HK1.out; omega⟩, ⟨by repeat (first | (with_reducible first | exact HBW.out | apply qb0 | apply qa0 | apply qc0) | exact HBW.out)⟩, ⟨by repeat (first | (with_reducible first | exact HB.out | apply qb0 | apply qa0 | apply qc0) | exact HB.out)⟩⟩
    rw [if_neg c3] at H
    have c3b0 : decide (x4_1 < 4000) = false := decide_eq_false c3
    clear c3
    simp only [Option.some.injEq, Prod.mk.injEq] at H
    obtain ⟨rfl, rfl, rfl⟩ := H
    go_wp2_with (first | ((with_reducible refine qv0 (N := 31) rfl ?_); refine box_event ?hg (N := 31) ?hd (cs := #[.slice A0 l0.length c0, .int .i64 0, .int .i64 x3_1]) (t := 207) ?hr ?_; (case hd => rfl); (case hg => rfl); (case hr => first | (go_simp; done) | (go_simp; rfl)); intro gb197 hg w5 hbox hb; have n0_ := Aside0.mk (qk0 HBW.out hb); have n1_ := Aside0.mk (qk0 (by repeat (first | (with_reducible first | exact HB.out | apply qb0 | apply qa0 | apply qc0) | exact HB.out)) hb); have n2_ := Aside0.mk (hbox); have n3_ := Aside0.mk ((by rw [hg]; exact (qh0 (by repeat (first | (with_reducible first | exact HBW.out | apply qb0 | apply qa0 | apply qc0) | exact HBW.out))) : w.heap.size ≤ gb197)); have n4_ := Aside0.mk ((Nat.le_trans HW0.out (by rw [hg]; exact (qh0 (by repeat (first | (with_reducible first | exact HBW.out | apply qb0 | apply qa0 | apply qc0) | exact HBW.out))) : w.heap.size ≤ gb197) : w0.heap.size ≤ gb197)); clear HBW; clear HB; have HBW := n0_; have HB := n1_; have BK197 := n2_; have GW197 := n3_; have GE197 := n4_; clear n0_ n1_ n2_ n3_ n4_; clear hb hbox hg))
    go_ret
    exact ⟨_, rfl, (show IsS207 w0 _ gb197 l0 0 x3_1 from ⟨_, _, by (with_reducible repeat (first | refine qs0 ?_ _ | refine qx0 ?_ | refine qt0 ?_ _)); exact BK197.out, GE197.out, HR0.out⟩), by repeat (first | (with_reducible first | exact HB.out | apply qb0 | apply qa0 | apply qc0 | refine qg0 ?_ GE197.out) | exact HB.out), by repeat (first | (with_reducible first | exact HBW.out | apply qb0 | apply qa0 | apply qc0 | refine qg0 ?_ GW197.out) | exact HBW.out)⟩
   rw [if_neg c2] at H
   have c2b0 : decide (x4_1 < (l0.length : Int)) = false := decide_eq_false c2
   clear c2
   simp only [Option.some.injEq, Prod.mk.injEq] at H
   obtain ⟨rfl, rfl, rfl⟩ := H
   go_wp2_with (first | ((with_reducible refine qv0 (N := 31) rfl ?_); refine box_event ?hg (N := 31) ?hd (cs := #[.slice A0 l0.length c0, .int .i64 0, .int .i64 x3_1]) (t := 207) ?hr ?_; (case hd => rfl); (case hg => rfl); (case hr => first | (go_simp; done) | (go_simp; rfl)); intro gb198 hg w6 hbox hb; have n0_ := Aside0.mk (qk0 HBW.out hb); have n1_ := Aside0.mk (qk0 (by repeat (first | (with_reducible first | exact HB.out | apply qb0 | apply qa0 | apply qc0) | exact HB.out)) hb); have n2_ := Aside0.mk (hbox); have n3_ := Aside0.mk ((by rw [hg]; exact (qh0 (by repeat (first | (with_reducible first | exact HBW.out | apply qb0 | apply qa0 | apply qc0) | exact HBW.out))) : w.heap.size ≤ gb198)); have n4_ := Aside0.mk ((Nat.le_trans HW0.out (by rw [hg]; exact (qh0 (by repeat (first | (with_reducible first | exact HBW.out | apply qb0 | apply qa0 | apply qc0) | exact HBW.out))) : w.heap.size ≤ gb198) : w0.heap.size ≤ gb198)); clear HBW; clear HB; have HBW := n0_; have HB := n1_; have BK198 := n2_; have GW198 := n3_; have GE198 := n4_; clear n0_ n1_ n2_ n3_ n4_; clear hb hbox hg))
   go_ret
   exact ⟨_, rfl, (show IsS207 w0 _ gb198 l0 0 x3_1 from ⟨_, _, by (with_reducible repeat (first | refine qs0 ?_ _ | refine qx0 ?_ | refine qt0 ?_ _)); exact BK198.out, GE198.out, HR0.out⟩), by repeat (first | (with_reducible first | exact HB.out | apply qb0 | apply qa0 | apply qc0 | refine qg0 ?_ GE198.out) | exact HB.out), by repeat (first | (with_reducible first | exact HBW.out | apply qb0 | apply qa0 | apply qc0 | refine qg0 ?_ GW198.out) | exact HBW.out)⟩

/-! ### spec_l1Byte: function 167 -/
def spec_l1Byte.f (s0_0 : List Int) (s0_1 : Int) (s0_2 : Int) : Option (Int × Int × Int) := if s0_1 < (s0_0.length : Int) then (if 0 ≤ s0_1 then (some (Go.bits .and .i64 (wrap64 ((Go.bits .and .i64 (Go.bits .xor .i64 ((wrap64 ((wrap64 (s0_2 * 6364136223846793005)) + 1442695040888963407)) / 8589934592) ((wrap64 ((wrap64 (s0_2 * 6364136223846793005)) + 1442695040888963407)) / 35184372088832)) 255) + (wrap64 (rd s0_0 s0_1)))) 255, wrap64 (s0_1 + 1), wrap64 ((wrap64 (s0_2 * 6364136223846793005)) + 1442695040888963407))) else (none)) else (some (Go.bits .and .i64 (Go.bits .xor .i64 ((wrap64 ((wrap64 (s0_2 * 6364136223846793005)) + 1442695040888963407)) / 8589934592) ((wrap64 ((wrap64 (s0_2 * 6364136223846793005)) + 1442695040888963407)) / 35184372088832)) 255, s0_1, wrap64 ((wrap64 (s0_2 * 6364136223846793005)) + 1442695040888963407)))
set_option maxHeartbeats 8000000 in
set_option maxRecDepth 100000 in
theorem spec_l1Byte.calls (g : Nat) (s0_0 : List Int) (s0_1 : Int) (s0_2 : Int) (r1 : Int) (r2 : Int) (r3 : Int) (w0 w : World) (hI : IsS207 w0 w g s0_0 s0_1 s0_2) (hB : Below w0.heap.size w0 w) (h : spec_l1Byte.f s0_0 s0_1 s0_2 = some (r1, r2, r3)) :
  Calls Try.prog 167 #[.pointer (some ⟨g, 0, none⟩)] w fun e w' => e = .returned (.int .i64 r1) ∧ IsS207 w0 w' g s0_0 r2 r3 ∧ Below w0.heap.size w0 w' ∧ qo0 w w' g none := by
 have HI0 := Aside0.mk hI
 have HK := Aside0.mk (qo0.refl w g none)
 have HL := Aside0.mk hB.size
 clear hI
 have HW0 := Aside0.mk hB.size
 have HB := Aside0.mk hB
 clear hB
 have H : (if s0_1 < (s0_0.length : Int) then (if 0 ≤ s0_1 then (some (Go.bits .and .i64 (wrap64 ((Go.bits .and .i64 (Go.bits .xor .i64 ((wrap64 ((wrap64 (s0_2 * 6364136223846793005)) + 1442695040888963407)) / 8589934592) ((wrap64 ((wrap64 (s0_2 * 6364136223846793005)) + 1442695040888963407)) / 35184372088832)) 255) + (wrap64 (rd s0_0 s0_1)))) 255, wrap64 (s0_1 + 1), wrap64 ((wrap64 (s0_2 * 6364136223846793005)) + 1442695040888963407))) else (none)) else (some (Go.bits .and .i64 (Go.bits .xor .i64 ((wrap64 ((wrap64 (s0_2 * 6364136223846793005)) + 1442695040888963407)) / 8589934592) ((wrap64 ((wrap64 (s0_2 * 6364136223846793005)) + 1442695040888963407)) / 35184372088832)) 255, s0_1, wrap64 ((wrap64 (s0_2 * 6364136223846793005)) + 1442695040888963407)))) = some (r1, r2, r3) := h
 clear h
 by_cases c2 : s0_1 < (s0_0.length : Int)
 ·rw [if_pos c2] at H
  have c2b0 : decide (s0_1 < (s0_0.length : Int)) = true := decide_eq_true c2
  clear c2
  by_cases c3 : 0 ≤ s0_1
  case neg => rw [if_neg c3] at H; exact absurd H (by simp)
  rw [if_pos c3] at H
  have c3b0 : decide (0 ≤ s0_1) = true := decide_eq_true c3
  clear c3
  simp only [Option.some.injEq, Prod.mk.injEq] at H
  obtain ⟨rfl, rfl, rfl⟩ := H
  obtain ⟨ASz4_0, cSz4_0, HGz4, hgz4, HSz4_0⟩ := HI0.out
  have hcz4_0 := cellS207_0 HGz4
  have hcz4_1 := cellS207_1 HGz4
  have hcz4_2 := cellS207_2 HGz4
  have hfz4_1 := qn0 HGz4 1
  have hfz4_2 := qn0 HGz4 2
  clear HGz4 hgz4
  have p199 : 0 ≤ (s0_1 : Int) := of_decide_eq_true (by first | (with_reducible assumption) | assumption)
  have q199 : s0_1 < (s0_0.length : Int) := of_decide_eq_true (by first | (with_reducible assumption) | assumption)
  obtain ⟨ad199, e199, hx199_0⟩ := Kd.qn1 HSz4_0 s0_1 p199 q199
  cases e199
  have hn199_0 : ad199.block ≠ g := Nat.ne_of_lt (Nat.lt_of_lt_of_le (by have := World.block_lt_of_cell? _ _ hx199_0; first | rwa [add_block] at this | exact this) (IsS207.ge HI0.out))
  replace hx199_0 := pw_cell_below HB.out hx199_0
  replace hx199_0 := (cell_far (p := ⟨g, 2, none⟩) (by first | (rw [add_block]; exact hn199_0) | (show (Addr.add _ _).block ≠ _; rw [add_block]; exact hn199_0) | exact hn199_0) (.int .i64 (wrap64 ((wrap64 (s0_2 * 6364136223846793005)) + 1442695040888963407)))).trans hx199_0
  (try have hy199_0 := fun (n_ : Nat) => (show (((w.drewN n_).setCell ⟨g, 2, none⟩ (.int .i64 (wrap64 ((wrap64 (s0_2 * 6364136223846793005)) + 1442695040888963407))))).cell? _ = some _ from hx199_0))
  clear hn199_0
  replace p199 := eq_true p199
  replace q199 := eq_true q199
  go_enter Try.func167, Try.ntmps167
  go_wp2
  repeat (go_quiet (fail); try go_wp2)
  go_ret
  exact ⟨by first | rfl | (simp [errW_none, errW_some] <;> rfl) | (simp [*, errW_none, errW_some] <;> rfl), by repeat (first | (with_reducible first | exact HI0.out | apply IsS207.alloc | apply IsS207.drewN | apply IsS207.drew | apply IsS207.set_1 | apply IsS207.set_2) | exact HI0.out), by repeat (first | (with_reducible first | exact HB.out | apply qb0 | apply qa0 | apply qc0 | refine qg0 ?_ (IsS207.ge HI0.out)) | exact HB.out), by repeat (first | (with_reducible first | exact HK.out | apply qo0.set_ | apply qd1 | apply qg1 | apply qe1) | exact HK.out)⟩
 rw [if_neg c2] at H
 have c2b0 : decide (s0_1 < (s0_0.length : Int)) = false := decide_eq_false c2
 clear c2
 simp only [Option.some.injEq, Prod.mk.injEq] at H
 obtain ⟨rfl, rfl, rfl⟩ := H
 obtain ⟨ASz5_0, cSz5_0, HGz5, hgz5, HSz5_0⟩ := HI0.out
 have hcz5_0 := cellS207_0 HGz5
 have hcz5_1 := cellS207_1 HGz5
 have hcz5_2 := cellS207_2 HGz5
 have hfz5_1 := qn0 HGz5 1
 have hfz5_2 := qn0 HGz5 2
 clear HGz5 hgz5
 go_enter Try.func167, Try.ntmps167
 go_wp2
 repeat (go_quiet (fail); try go_wp2)
 go_ret
 exact ⟨by first | rfl | (simp [errW_none, errW_some] <;> rfl) | (simp [*, errW_none, errW_some] <;> rfl), by repeat (first | (with_reducible first | exact HI0.out | apply IsS207.alloc | apply IsS207.drewN | apply IsS207.drew | apply IsS207.set_1 | apply IsS207.set_2) | exact HI0.out), by repeat (first | (with_reducible first | exact HB.out | apply qb0 | apply qa0 | apply qc0 | refine qg0 ?_ (IsS207.ge HI0.out)) | exact HB.out), by repeat (first | (with_reducible first | exact HK.out | apply qo0.set_ | apply qd1 | apply qg1 | apply qe1) | exact HK.out)⟩

/-! ### spec_l1Below: function 84 -/
def spec_l1Below.f (s0_0 : List Int) (s0_1 : Int) (s0_2 : Int) (a1 : Int) : Option (Int × Int × Int) := if a1 ≤ 0 then (some (0, s0_1, s0_2)) else (if a1 ≤ 256 then ((spec_l1Byte.f s0_0 s0_1 s0_2).bind fun bt200 => (if a1 = 0 then (none) else (some (Int.tmod bt200.1 a1, bt200.2.1, bt200.2.2)))) else ((spec_l1Byte.f s0_0 s0_1 s0_2).bind fun bt203 => ((spec_l1Byte.f s0_0 bt203.2.1 bt203.2.2).bind fun bt206 => ((spec_l1Byte.f s0_0 bt206.2.1 bt206.2.2).bind fun bt209 => ((spec_l1Byte.f s0_0 bt209.2.1 bt209.2.2).bind fun bt212 => (if a1 = 0 then (none) else (some (Int.tmod (wrap64 ((wrap64 ((wrap64 ((wrap64 (bt203.1 * 16777216)) + (wrap64 (bt206.1 * 65536)))) + (wrap64 (bt209.1 * 256)))) + bt212.1)) a1, bt212.2.1, bt212.2.2))))))))
set_option maxHeartbeats 8000000 in
set_option maxRecDepth 100000 in
theorem spec_l1Below.calls (g : Nat) (s0_0 : List Int) (s0_1 : Int) (s0_2 : Int) (a1 : Int) (r1 : Int) (r2 : Int) (r3 : Int) (w0 w : World) (hI : IsS207 w0 w g s0_0 s0_1 s0_2) (hB : Below w0.heap.size w0 w) (h : spec_l1Below.f s0_0 s0_1 s0_2 a1 = some (r1, r2, r3)) :
  Calls Try.prog 84 #[.pointer (some ⟨g, 0, none⟩), .int .i64 a1] w fun e w' => e = .returned (.int .i64 r1) ∧ IsS207 w0 w' g s0_0 r2 r3 ∧ Below w0.heap.size w0 w' ∧ qo0 w w' g none := by
 have HI0 := Aside0.mk hI
 have HK := Aside0.mk (qo0.refl w g none)
 have HL := Aside0.mk hB.size
 clear hI
 have HW0 := Aside0.mk hB.size
 have HB := Aside0.mk hB
 clear hB
 have H : (if a1 ≤ 0 then (some (0, s0_1, s0_2)) else (if a1 ≤ 256 then ((spec_l1Byte.f s0_0 s0_1 s0_2).bind fun bt200 => (if a1 = 0 then (none) else (some (Int.tmod bt200.1 a1, bt200.2.1, bt200.2.2)))) else ((spec_l1Byte.f s0_0 s0_1 s0_2).bind fun bt203 => ((spec_l1Byte.f s0_0 bt203.2.1 bt203.2.2).bind fun bt206 => ((spec_l1Byte.f s0_0 bt206.2.1 bt206.2.2).bind fun bt209 => ((spec_l1Byte.f s0_0 bt209.2.1 bt209.2.2).bind fun bt212 => (if a1 = 0 then (none) else (some (Int.tmod (wrap64 ((wrap64 ((wrap64 ((wrap64 (bt203.1 * 16777216)) + (wrap64 (bt206.1 * 65536)))) + (wrap64 (bt209.1 * 256)))) + bt212.1)) a1, bt212.2.1, bt212.2.2))))))))) = some (r1, r2, r3) := h
 clear h
 by_cases c3 : a1 ≤ 0
 ·rw [if_pos c3] at H
  have c3b0 : decide (a1 ≤ 0) = true := decide_eq_true c3
  clear c3
  simp only [Option.some.injEq, Prod.mk.injEq] at H
  obtain ⟨rfl, rfl, rfl⟩ := H
  go_enter Try.func84, Try.ntmps84
  go_wp2
  go_ret
  exact ⟨by first | rfl | (simp [errW_none, errW_some] <;> rfl) | (simp [*, errW_none, errW_some] <;> rfl), by repeat (first | (with_reducible first | exact HI0.out | apply IsS207.alloc | apply IsS207.drewN | apply IsS207.drew | apply IsS207.set_1 | apply IsS207.set_2) | exact HI0.out), by repeat (first | (with_reducible first | exact HB.out | apply qb0 | apply qa0 | apply qc0 | refine qg0 ?_ (IsS207.ge HI0.out)) | exact HB.out), by repeat (first | (with_reducible first | exact HK.out | apply qo0.set_ | apply qd1 | apply qg1 | apply qe1) | exact HK.out)⟩
 rw [if_neg c3] at H
 have c3b0 : decide (a1 ≤ 0) = false := decide_eq_false c3
 clear c3
 by_cases c4 : a1 ≤ 256
 ·rw [if_pos c4] at H
  have c4b0 : decide (a1 ≤ 256) = true := decide_eq_true c4
  clear c4
  replace H := Option.bind_eq_some_iff.mp H
  obtain ⟨⟨t200, t201, t202⟩, A50, H⟩ := H
  replace H : (if a1 = 0 then (none) else (some (Int.tmod t200 a1, t201, t202))) = some (r1, r2, r3) := H
  have A5 := Aside0.mk A50
  clear A50
  by_cases c6 : a1 = 0
  ·rw [if_pos c6] at H
   exact absurd H (by simp)
  rw [if_neg c6] at H
  have c6b0 : (a1 == 0) = false := beq_eq_false_iff_ne.mpr c6
  have c6b1 : (a1 != 0) = true := bne_iff_ne.mpr c6
  simp only [Option.some.injEq, Prod.mk.injEq] at H
  obtain ⟨rfl, rfl, rfl⟩ := H
  go_enter Try.func84, Try.ntmps84
  go_wp2_with (first | ((with_reducible refine qj0 (f := 167) rfl ?_); refine qu0 (some 14) rfl rfl Try.func167 (by kernel_rfl) rfl #[.pointer (some ⟨g, 0, none⟩)] rfl (by (try simp only [List.map_toArray, List.map_cons, List.map_nil]); first | done | rfl | (simp only [List.length_drop, List.length_take]; rfl)) ?_; (with_reducible refine (spec_l1Byte.calls g s0_0 s0_1 s0_2 t200 t201 t202 w0 _ ?side1 ?side2 A5.out).mono ?_); (case side1 => repeat (first | (with_reducible first | exact HI0.out | apply IsS207.alloc | apply IsS207.drewN | apply IsS207.drew | apply IsS207.set_1 | apply IsS207.set_2) | exact HI0.out)); (case side2 => repeat (first | (with_reducible first | exact HB.out | apply qb0 | apply qa0 | apply qc0 | refine qg0 ?_ (IsS207.ge HI0.out)) | exact HB.out)); rintro e w7 ⟨rfl, hi, hb, hk⟩; refine ⟨_, rfl, ?_⟩; have n0_ := Aside0.mk (qo0.trans (by repeat (first | (with_reducible first | exact HK.out | apply qo0.set_ | apply qd1 | apply qg1 | apply qe1) | exact HK.out)) hk (.inl rfl)); have n1_ := Aside0.mk (hb); have n2_ := Aside0.mk (hi); clear HK; clear HB; clear HI0; have HK := n0_; have HB := n1_; have HI0 := n2_; clear n0_ n1_ n2_; (try clear hb); (try clear hb2); (try clear hk); (try clear hi)))
  go_ret
  exact ⟨by first | rfl | (simp [errW_none, errW_some] <;> rfl) | (simp [*, errW_none, errW_some] <;> rfl), by repeat (first | (with_reducible first | exact HI0.out | apply IsS207.alloc | apply IsS207.drewN | apply IsS207.drew | apply IsS207.set_1 | apply IsS207.set_2) | exact HI0.out), by repeat (first | (with_reducible first | exact HB.out | apply qb0 | apply qa0 | apply qc0 | refine qg0 ?_ (IsS207.ge HI0.out)) | exact HB.out), by repeat (first | (with_reducible first | exact HK.out | apply qo0.set_ | apply qd1 | apply qg1 | apply qe1) | exact HK.out)⟩
 rw [if_neg c4] at H
 have c4b0 : decide (a1 ≤ 256) = false := decide_eq_false c4
 clear c4
 replace H := Option.bind_eq_some_iff.mp H
 obtain ⟨⟨t203, t204, t205⟩, A80, H⟩ := H
 replace H : ((spec_l1Byte.f s0_0 t204 t205).bind fun bt206 => ((spec_l1Byte.f s0_0 bt206.2.1 bt206.2.2).bind fun bt209 => ((spec_l1Byte.f s0_0 bt209.2.1 bt209.2.2).bind fun bt212 => (if a1 = 0 then (none) else (some (Int.tmod (wrap64 ((wrap64 ((wrap64 ((wrap64 (t203 * 16777216)) + (wrap64 (bt206.1 * 65536)))) + (wrap64 (bt209.1 * 256)))) + bt212.1)) a1, bt212.2.1, bt212.2.2)))))) = some (r1, r2, r3) := H
 have A8 := Aside0.mk A80
 clear A80
 replace H := Option.bind_eq_some_iff.mp H
 obtain ⟨⟨t206, t207, t208⟩, A90, H⟩ := H
 replace H : ((spec_l1Byte.f s0_0 t207 t208).bind fun bt209 => ((spec_l1Byte.f s0_0 bt209.2.1 bt209.2.2).bind fun bt212 => (if a1 = 0 then (none) else (some (Int.tmod (wrap64 ((wrap64 ((wrap64 ((wrap64 (t203 * 16777216)) + (wrap64 (t206 * 65536)))) + (wrap64 (bt209.1 * 256)))) + bt212.1)) a1, bt212.2.1, bt212.2.2))))) = some (r1, r2, r3) := H
 have A9 := Aside0.mk A90
 clear A90
 replace H := Option.bind_eq_some_iff.mp H
 obtain ⟨⟨t209, t210, t211⟩, A100, H⟩ := H
 replace H : ((spec_l1Byte.f s0_0 t210 t211).bind fun bt212 => (if a1 = 0 then (none) else (some (Int.tmod (wrap64 ((wrap64 ((wrap64 ((wrap64 (t203 * 16777216)) + (wrap64 (t206 * 65536)))) + (wrap64 (t209 * 256)))) + bt212.1)) a1, bt212.2.1, bt212.2.2)))) = some (r1, r2, r3) := H
 have A10 := Aside0.mk A100
 clear A100
 replace H := Option.bind_eq_some_iff.mp H
 obtain ⟨⟨t212, t213, t214⟩, A110, H⟩ := H
 replace H : (if a1 = 0 then (none) else (some (Int.tmod (wrap64 ((wrap64 ((wrap64 ((wrap64 (t203 * 16777216)) + (wrap64 (t206 * 65536)))) + (wrap64 (t209 * 256)))) + t212)) a1, t213, t214))) = some (r1, r2, r3) := H
 have A11 := Aside0.mk A110
 clear A110
 by_cases c12 : a1 = 0
 ·rw [if_pos c12] at H
  exact absurd H (by simp)
 rw [if_neg c12] at H
 have c12b0 : (a1 == 0) = false := beq_eq_false_iff_ne.mpr c12
 have c12b1 : (a1 != 0) = true := bne_iff_ne.mpr c12
 simp only [Option.some.injEq, Prod.mk.injEq] at H
 obtain ⟨rfl, rfl, rfl⟩ := H
 go_enter Try.func84, Try.ntmps84
 go_wp2_with (first | ((with_reducible refine qj0 (f := 167) rfl ?_); refine qu0 (some 18) rfl rfl Try.func167 (by kernel_rfl) rfl #[.pointer (some ⟨g, 0, none⟩)] rfl (by (try simp only [List.map_toArray, List.map_cons, List.map_nil]); first | done | rfl | (simp only [List.length_drop, List.length_take]; rfl)) ?_; (with_reducible refine (spec_l1Byte.calls g s0_0 s0_1 s0_2 t203 t204 t205 w0 _ ?side1 ?side2 A8.out).mono ?_); (case side1 => repeat (first | (with_reducible first | exact HI0.out | apply IsS207.alloc | apply IsS207.drewN | apply IsS207.drew | apply IsS207.set_1 | apply IsS207.set_2) | exact HI0.out)); (case side2 => repeat (first | (with_reducible first | exact HB.out | apply qb0 | apply qa0 | apply qc0 | refine qg0 ?_ (IsS207.ge HI0.out)) | exact HB.out)); rintro e w13 ⟨rfl, hi, hb, hk⟩; refine ⟨_, rfl, ?_⟩; have n0_ := Aside0.mk (qo0.trans (by repeat (first | (with_reducible first | exact HK.out | apply qo0.set_ | apply qd1 | apply qg1 | apply qe1) | exact HK.out)) hk (.inl rfl)); have n1_ := Aside0.mk (hb); have n2_ := Aside0.mk (hi); clear HK; clear HB; clear HI0; have HK := n0_; have HB := n1_; have HI0 := n2_; clear n0_ n1_ n2_; (try clear hb); (try clear hb2); (try clear hk); (try clear hi)) | ((with_reducible refine qj0 (f := 167) rfl ?_); refine qu0 (some 20) rfl rfl Try.func167 (by kernel_rfl) rfl #[.pointer (some ⟨g, 0, none⟩)] rfl (by (try simp only [List.map_toArray, List.map_cons, List.map_nil]); first | done | rfl | (simp only [List.length_drop, List.length_take]; rfl)) ?_; (with_reducible refine (spec_l1Byte.calls g s0_0 t204 t205 t206 t207 t208 w0 _ ?side1 ?side2 A9.out).mono ?_); (case side1 => repeat (first | (with_reducible first | exact HI0.out | apply IsS207.alloc | apply IsS207.drewN | apply IsS207.drew | apply IsS207.set_1 | apply IsS207.set_2) | exact HI0.out)); (case side2 => repeat (first | (with_reducible first | exact HB.out | apply qb0 | apply qa0 | apply qc0 | refine qg0 ?_ (IsS207.ge HI0.out)) | exact HB.out)); rintro e w14 ⟨rfl, hi, hb, hk⟩; refine ⟨_, rfl, ?_⟩; have n0_ := Aside0.mk (qo0.trans (by repeat (first | (with_reducible first | exact HK.out | apply qo0.set_ | apply qd1 | apply qg1 | apply qe1) | exact HK.out)) hk (.inl rfl)); have n1_ := Aside0.mk (hb); have n2_ := Aside0.mk (hi); clear HK; clear HB; clear HI0; have HK := n0_; have HB := n1_; have HI0 := n2_; clear n0_ n1_ n2_; (try clear hb); (try clear hb2); (try clear hk); (try clear hi)) | ((with_reducible refine qj0 (f := 167) rfl ?_); refine qu0 (some 22) rfl rfl Try.func167 (by kernel_rfl) rfl #[.pointer (some ⟨g, 0, none⟩)] rfl (by (try simp only [List.map_toArray, List.map_cons, List.map_nil]); first | done | rfl | (simp only [List.length_drop, List.length_take]; rfl)) ?_; (with_reducible refine (spec_l1Byte.calls g s0_0 t207 t208 t209 t210 t211 w0 _ ?side1 ?side2 A10.out).mono ?_); (case side1 => repeat (first | (with_reducible first | exact HI0.out | apply IsS207.alloc | apply IsS207.drewN | apply IsS207.drew | apply IsS207.set_1 | apply IsS207.set_2) | exact HI0.out)); (case side2 => repeat (first | (with_reducible first | exact HB.out | apply qb0 | apply qa0 | apply qc0 | refine qg0 ?_ (IsS207.ge HI0.out)) | exact HB.out)); rintro e w15 ⟨rfl, hi, hb, hk⟩; refine ⟨_, rfl, ?_⟩; have n0_ := Aside0.mk (qo0.trans (by repeat (first | (with_reducible first | exact HK.out | apply qo0.set_ | apply qd1 | apply qg1 | apply qe1) | exact HK.out)) hk (.inl rfl)); have n1_ := Aside0.mk (hb); have n2_ := Aside0.mk (hi); clear HK; clear HB; clear HI0; have HK := n0_; have HB := n1_; have HI0 := n2_; clear n0_ n1_ n2_; (try clear hb); (try clear hb2); (try clear hk); (try clear hi)) | ((with_reducible refine qj0 (f := 167) rfl ?_); refine qu0 (some 24) rfl rfl Try.func167 (by kernel_rfl) rfl #[.pointer (some ⟨g, 0, none⟩)] rfl (by (try simp only [List.map_toArray, List.map_cons, List.map_nil]); first | done | rfl | (simp only [List.length_drop, List.length_take]; rfl)) ?_; (with_reducible refine (spec_l1Byte.calls g s0_0 t210 t211 t212 t213 t214 w0 _ ?side1 ?side2 A11.out).mono ?_); (case side1 => repeat (first | (with_reducible first | exact HI0.out | apply IsS207.alloc | apply IsS207.drewN | apply IsS207.drew | apply IsS207.set_1 | apply IsS207.set_2) | exact HI0.out)); (case side2 => repeat (first | (with_reducible first | exact HB.out | apply qb0 | apply qa0 | apply qc0 | refine qg0 ?_ (IsS207.ge HI0.out)) | exact HB.out)); rintro e w16 ⟨rfl, hi, hb, hk⟩; refine ⟨_, rfl, ?_⟩; have n0_ := Aside0.mk (qo0.trans (by repeat (first | (with_reducible first | exact HK.out | apply qo0.set_ | apply qd1 | apply qg1 | apply qe1) | exact HK.out)) hk (.inl rfl)); have n1_ := Aside0.mk (hb); have n2_ := Aside0.mk (hi); clear HK; clear HB; clear HI0; have HK := n0_; have HB := n1_; have HI0 := n2_; clear n0_ n1_ n2_; (try clear hb); (try clear hb2); (try clear hk); (try clear hi)))
 go_ret
 exact ⟨by first | rfl | (simp [errW_none, errW_some] <;> rfl) | (simp [*, errW_none, errW_some] <;> rfl), by repeat (first | (with_reducible first | exact HI0.out | apply IsS207.alloc | apply IsS207.drewN | apply IsS207.drew | apply IsS207.set_1 | apply IsS207.set_2) | exact HI0.out), by repeat (first | (with_reducible first | exact HB.out | apply qb0 | apply qa0 | apply qc0 | refine qg0 ?_ (IsS207.ge HI0.out)) | exact HB.out), by repeat (first | (with_reducible first | exact HK.out | apply qo0.set_ | apply qd1 | apply qg1 | apply qe1) | exact HK.out)⟩

/-! ### spec_l1Size: function 85 -/
def spec_l1Size.f (l0 : List Int) (a1 : Int) : Option (Int) := if (wrap64 (2 + (wrap64 ((l0.length : Int) / 20)))) > a1 then (some a1) else (some (wrap64 (2 + (wrap64 ((l0.length : Int) / 20)))))
set_option maxHeartbeats 8000000 in
set_option maxRecDepth 100000 in
theorem spec_l1Size.calls (A0 : Option Addr) (c0 : Nat) (l0 : List Int) (a1 : Int) (r : Int) (w : World) (hr0 : Kd.C (Kd.int .u8) w A0 l0.length l0) (hc0 : l0.length ≤ c0) (h : spec_l1Size.f l0 a1 = some r) :
  Calls Try.prog 85 #[.slice A0 l0.length c0, .int .i64 a1] w fun e w' => e = .returned (.int .i64 r) ∧ Drawn0 w w' := by
 have HR0 := Aside0.mk hr0
 have HC0 := Aside0.mk hc0
 clear hr0 hc0
 have H : (if (wrap64 (2 + (wrap64 ((l0.length : Int) / 20)))) > a1 then (some a1) else (some (wrap64 (2 + (wrap64 ((l0.length : Int) / 20)))))) = some r := h
 clear h
 by_cases c3 : (wrap64 (2 + (wrap64 ((l0.length : Int) / 20)))) > a1
 ·rw [if_pos c3] at H
  have c3b0 : decide (a1 < (wrap64 (2 + (wrap64 ((l0.length : Int) / 20))))) = true := decide_eq_true c3
  clear c3
  obtain rfl := Option.some.inj H
  go_enter Try.func85, Try.ntmps85
  go_wp2
  go_ret
  exact ⟨by first | rfl | (simp; done) | (simp [*]; done), by repeat (first | exact Drawn0.refl _ | apply Drawn0.step)⟩
 rw [if_neg c3] at H
 have c3b0 : decide (a1 < (wrap64 (2 + (wrap64 ((l0.length : Int) / 20))))) = false := decide_eq_false c3
 clear c3
 obtain rfl := Option.some.inj H
 go_enter Try.func85, Try.ntmps85
 go_wp2
 go_ret
 exact ⟨by first | rfl | (simp; done) | (simp [*]; done), by repeat (first | exact Drawn0.refl _ | apply Drawn0.step)⟩

/-! ### spec_l1Once: function 102 -/
def spec_l1Once.f (s0_0 : List Int) (s0_1 : Int) (s0_2 : Int) (a1 : Int) : Option (Bool × Int × Int) := (spec_l1Below.f s0_0 s0_1 s0_2 a1).bind fun bt215 => (some ((bt215.1 == 0), bt215.2.1, bt215.2.2))
set_option maxHeartbeats 8000000 in
set_option maxRecDepth 100000 in
theorem spec_l1Once.calls (g : Nat) (s0_0 : List Int) (s0_1 : Int) (s0_2 : Int) (a1 : Int) (r1 : Bool) (r2 : Int) (r3 : Int) (w0 w : World) (hI : IsS207 w0 w g s0_0 s0_1 s0_2) (hB : Below w0.heap.size w0 w) (h : spec_l1Once.f s0_0 s0_1 s0_2 a1 = some (r1, r2, r3)) :
  Calls Try.prog 102 #[.pointer (some ⟨g, 0, none⟩), .int .i64 a1] w fun e w' => e = .returned (.bool r1) ∧ IsS207 w0 w' g s0_0 r2 r3 ∧ Below w0.heap.size w0 w' ∧ qo0 w w' g none := by
 have HI0 := Aside0.mk hI
 have HK := Aside0.mk (qo0.refl w g none)
 have HL := Aside0.mk hB.size
 clear hI
 have HW0 := Aside0.mk hB.size
 have HB := Aside0.mk hB
 clear hB
 have H : ((spec_l1Below.f s0_0 s0_1 s0_2 a1).bind fun bt215 => (some ((bt215.1 == 0), bt215.2.1, bt215.2.2))) = some (r1, r2, r3) := h
 clear h
 replace H := Option.bind_eq_some_iff.mp H
 obtain ⟨⟨t215, t216, t217⟩, A30, H⟩ := H
 replace H : (some ((t215 == 0), t216, t217)) = some (r1, r2, r3) := H
 have A3 := Aside0.mk A30
 clear A30
 simp only [Option.some.injEq, Prod.mk.injEq] at H
 obtain ⟨rfl, rfl, rfl⟩ := H
 go_enter Try.func102, Try.ntmps102
 go_wp2_with (first | ((with_reducible refine qj0 (f := 84) rfl ?_); refine qu0 (some 7) rfl rfl Try.func84 (by kernel_rfl) rfl #[.pointer (some ⟨g, 0, none⟩), .int .i64 a1] rfl (by (try simp only [List.map_toArray, List.map_cons, List.map_nil]); first | done | rfl | (simp only [List.length_drop, List.length_take]; rfl)) ?_; (with_reducible refine (spec_l1Below.calls g s0_0 s0_1 s0_2 a1 t215 t216 t217 w0 _ ?side1 ?side2 A3.out).mono ?_); (case side1 => repeat (first | (with_reducible first | exact HI0.out | apply IsS207.alloc | apply IsS207.drewN | apply IsS207.drew | apply IsS207.set_1 | apply IsS207.set_2) | exact HI0.out)); (case side2 => repeat (first | (with_reducible first | exact HB.out | apply qb0 | apply qa0 | apply qc0 | refine qg0 ?_ (IsS207.ge HI0.out)) | exact HB.out)); rintro e w4 ⟨rfl, hi, hb, hk⟩; refine ⟨_, rfl, ?_⟩; have n0_ := Aside0.mk (qo0.trans (by repeat (first | (with_reducible first | exact HK.out | apply qo0.set_ | apply qd1 | apply qg1 | apply qe1) | exact HK.out)) hk (.inl rfl)); have n1_ := Aside0.mk (hb); have n2_ := Aside0.mk (hi); clear HK; clear HB; clear HI0; have HK := n0_; have HB := n1_; have HI0 := n2_; clear n0_ n1_ n2_; (try clear hb); (try clear hb2); (try clear hk); (try clear hi)))
 go_ret
 exact ⟨by first | rfl | (simp [errW_none, errW_some] <;> rfl) | (simp [*, errW_none, errW_some] <;> rfl), by repeat (first | (with_reducible first | exact HI0.out | apply IsS207.alloc | apply IsS207.drewN | apply IsS207.drew | apply IsS207.set_1 | apply IsS207.set_2) | exact HI0.out), by repeat (first | (with_reducible first | exact HB.out | apply qb0 | apply qa0 | apply qc0 | refine qg0 ?_ (IsS207.ge HI0.out)) | exact HB.out), by repeat (first | (with_reducible first | exact HK.out | apply qo0.set_ | apply qd1 | apply qg1 | apply qe1) | exact HK.out)⟩

/-! ### spec_l1PickInt: function 103 -/
def spec_l1PickInt.f (s0_0 : List Int) (s0_1 : Int) (s0_2 : Int) (l1 : List Int) : Option (Int × Int × Int) := (spec_l1Below.f s0_0 s0_1 s0_2 (l1.length : Int)).bind fun bt218 => (if 0 ≤ bt218.1 then (if bt218.1 < (l1.length : Int) then (some (rd l1 bt218.1, bt218.2.1, bt218.2.2)) else (none)) else (none))
set_option maxHeartbeats 8000000 in
set_option maxRecDepth 100000 in
theorem spec_l1PickInt.calls (g : Nat) (s0_0 : List Int) (s0_1 : Int) (s0_2 : Int) (A1 : Option Addr) (c1 : Nat) (l1 : List Int) (r1 : Int) (r2 : Int) (r3 : Int) (w0 w : World) (hI : IsS207 w0 w g s0_0 s0_1 s0_2) (hB : Below w0.heap.size w0 w) (hr1 : Kd.C (Kd.int .i64) w A1 l1.length l1) (hc1 : l1.length ≤ c1) (hf1 : ∀ ad, A1 = some ad → 0 < l1.length → ad.block ≠ g) (h : spec_l1PickInt.f s0_0 s0_1 s0_2 l1 = some (r1, r2, r3)) :
  Calls Try.prog 103 #[.pointer (some ⟨g, 0, none⟩), .slice A1 l1.length c1] w fun e w' => e = .returned (.int .i64 r1) ∧ IsS207 w0 w' g s0_0 r2 r3 ∧ Below w0.heap.size w0 w' ∧ qo0 w w' g none := by
 have HR1 := Aside0.mk hr1
 have HC1 := Aside0.mk hc1
 clear hr1 hc1
 have HI0 := Aside0.mk hI
 have HK := Aside0.mk (qo0.refl w g none)
 have HL := Aside0.mk hB.size
 clear hI
 have HW0 := Aside0.mk hB.size
 have HB := Aside0.mk hB
 clear hB
 have H : ((spec_l1Below.f s0_0 s0_1 s0_2 (l1.length : Int)).bind fun bt218 => (if 0 ≤ bt218.1 then (if bt218.1 < (l1.length : Int) then (some (rd l1 bt218.1, bt218.2.1, bt218.2.2)) else (none)) else (none))) = some (r1, r2, r3) := h
 clear h
 replace H := Option.bind_eq_some_iff.mp H
 obtain ⟨⟨t218, t219, t220⟩, A30, H⟩ := H
 replace H : (if 0 ≤ t218 then (if t218 < (l1.length : Int) then (some (rd l1 t218, t219, t220)) else (none)) else (none)) = some (r1, r2, r3) := H
 have A3 := Aside0.mk A30
 clear A30
 by_cases c4 : 0 ≤ t218
 case neg => rw [if_neg c4] at H; exact absurd H (by simp)
 rw [if_pos c4] at H
 have c4b0 : decide (0 ≤ t218) = true := decide_eq_true c4
 clear c4
 by_cases c5 : t218 < (l1.length : Int)
 case neg => rw [if_neg c5] at H; exact absurd H (by simp)
 rw [if_pos c5] at H
 have c5b0 : decide (t218 < (l1.length : Int)) = true := decide_eq_true c5
 clear c5
 simp only [Option.some.injEq, Prod.mk.injEq] at H
 obtain ⟨rfl, rfl, rfl⟩ := H
 go_enter Try.func103, Try.ntmps103
 go_wp2_with (first | ((with_reducible refine qj0 (f := 84) rfl ?_); refine qu0 (some 9) rfl rfl Try.func84 (by kernel_rfl) rfl #[.pointer (some ⟨g, 0, none⟩), .int .i64 (l1.length : Int)] rfl (by (try simp only [List.map_toArray, List.map_cons, List.map_nil]); first | done | rfl | (simp only [List.length_drop, List.length_take]; rfl)) ?_; (with_reducible refine (spec_l1Below.calls g s0_0 s0_1 s0_2 (l1.length : Int) t218 t219 t220 w0 _ ?side1 ?side2 A3.out).mono ?_); (case side1 => repeat (first | (with_reducible first | exact HI0.out | apply IsS207.alloc | apply IsS207.drewN | apply IsS207.drew | apply IsS207.set_1 | apply IsS207.set_2) | exact HI0.out)); (case side2 => repeat (first | (with_reducible first | exact HB.out | apply qb0 | apply qa0 | apply qc0 | refine qg0 ?_ (IsS207.ge HI0.out)) | exact HB.out)); rintro e w6 ⟨rfl, hi, hb, hk⟩; refine ⟨_, rfl, ?_⟩; have n0_ := Aside0.mk (qo0.trans (by repeat (first | (with_reducible first | exact HK.out | apply qo0.set_ | apply qd1 | apply qg1 | apply qe1) | exact HK.out)) hk (.inl rfl)); have n1_ := Aside0.mk (hb); have n2_ := Aside0.mk (hi); clear HK; clear HB; clear HI0; have HK := n0_; have HB := n1_; have HI0 := n2_; clear n0_ n1_ n2_; (try clear hb); (try clear hb2); (try clear hk); (try clear hi); have p221 : 0 ≤ (t218 : Int) := of_decide_eq_true (by first | (with_reducible assumption) | assumption); have q221 : t218 < (l1.length : Int) := of_decide_eq_true (by first | (with_reducible assumption) | assumption); obtain ⟨ad221, e221, hx221_0⟩ := Kd.qn1 HR1.out t218 p221 q221; cases e221; replace hx221_0 := keep_cell HK.out hx221_0 (by first | (rw [add_block]; exact hf1 _ rfl (by omega)) | exact hf1 _ rfl (by omega) | exact hf1 ad221 rfl (by omega)); replace p221 := eq_true p221; replace q221 := eq_true q221))
 go_ret
 exact ⟨by first | rfl | (simp [errW_none, errW_some] <;> rfl) | (simp [*, errW_none, errW_some] <;> rfl), by repeat (first | (with_reducible first | exact HI0.out | apply IsS207.alloc | apply IsS207.drewN | apply IsS207.drew | apply IsS207.set_1 | apply IsS207.set_2) | exact HI0.out), by repeat (first | (with_reducible first | exact HB.out | apply qb0 | apply qa0 | apply qc0 | refine qg0 ?_ (IsS207.ge HI0.out)) | exact HB.out), by repeat (first | (with_reducible first | exact HK.out | apply qo0.set_ | apply qd1 | apply qg1 | apply qe1) | exact HK.out)⟩

/-! ### spec_l1Spoil: function 119 -/
def spec_l1Spoil.f (s0_0 : List Int) (s0_1 : Int) (s0_2 : Int) (a1 : Int) (l2 : List Int) : Option (Int × Int × Int) := (spec_l1Once.f s0_0 s0_1 s0_2 40).bind fun bt222 => (if bt222.1 = true then ((spec_l1PickInt.f s0_0 bt222.2.1 bt222.2.2 l2).bind fun bt225 => (some (bt225.1, bt225.2.1, bt225.2.2))) else (some (a1, bt222.2.1, bt222.2.2)))
set_option maxHeartbeats 8000000 in
set_option maxRecDepth 100000 in
theorem spec_l1Spoil.calls (g : Nat) (s0_0 : List Int) (s0_1 : Int) (s0_2 : Int) (a1 : Int) (A2 : Option Addr) (c2 : Nat) (l2 : List Int) (r1 : Int) (r2 : Int) (r3 : Int) (w0 w : World) (hI : IsS207 w0 w g s0_0 s0_1 s0_2) (hB : Below w0.heap.size w0 w) (hr2 : Kd.C (Kd.int .i64) w A2 l2.length l2) (hc2 : l2.length ≤ c2) (hf2 : ∀ ad, A2 = some ad → 0 < l2.length → ad.block ≠ g) (h : spec_l1Spoil.f s0_0 s0_1 s0_2 a1 l2 = some (r1, r2, r3)) :
  Calls Try.prog 119 #[.pointer (some ⟨g, 0, none⟩), .int .i64 a1, .slice A2 l2.length c2] w fun e w' => e = .returned (.int .i64 r1) ∧ IsS207 w0 w' g s0_0 r2 r3 ∧ Below w0.heap.size w0 w' ∧ qo0 w w' g none := by
 have HR2 := Aside0.mk hr2
 have HC2 := Aside0.mk hc2
 clear hr2 hc2
 have HI0 := Aside0.mk hI
 have HK := Aside0.mk (qo0.refl w g none)
 have HL := Aside0.mk hB.size
 clear hI
 have HW0 := Aside0.mk hB.size
 have HB := Aside0.mk hB
 clear hB
 have H : ((spec_l1Once.f s0_0 s0_1 s0_2 40).bind fun bt222 => (if bt222.1 = true then ((spec_l1PickInt.f s0_0 bt222.2.1 bt222.2.2 l2).bind fun bt225 => (some (bt225.1, bt225.2.1, bt225.2.2))) else (some (a1, bt222.2.1, bt222.2.2)))) = some (r1, r2, r3) := h
 clear h
 replace H := Option.bind_eq_some_iff.mp H
 obtain ⟨⟨t222, t223, t224⟩, A40, H⟩ := H
 replace H : (if t222 = true then ((spec_l1PickInt.f s0_0 t223 t224 l2).bind fun bt225 => (some (bt225.1, bt225.2.1, bt225.2.2))) else (some (a1, t223, t224))) = some (r1, r2, r3) := H
 have A4 := Aside0.mk A40
 clear A40
 by_cases c5 : t222 = true
 ·subst c5
  have H1 : ((spec_l1PickInt.f s0_0 t223 t224 l2).bind fun bt225 => (some (bt225.1, bt225.2.1, bt225.2.2))) = some (r1, r2, r3) := by rw [if_pos rfl] at H; exact H
  clear H
  have H := H1
  clear H1
  replace H := Option.bind_eq_some_iff.mp H
  obtain ⟨⟨t225, t226, t227⟩, A60, H⟩ := H
  replace H : (some (t225, t226, t227)) = some (r1, r2, r3) := H
  have A6 := Aside0.mk A60
  clear A60
  simp only [Option.some.injEq, Prod.mk.injEq] at H
  obtain ⟨rfl, rfl, rfl⟩ := H
  go_enter Try.func119, Try.ntmps119
  go_wp2_with (first | ((with_reducible refine qj0 (f := 102) rfl ?_); refine qu0 (some 8) rfl rfl Try.func102 (by kernel_rfl) rfl #[.pointer (some ⟨g, 0, none⟩), .int .i64 40] rfl (by (try simp only [List.map_toArray, List.map_cons, List.map_nil]); first | done | rfl | (simp only [List.length_drop, List.length_take]; rfl)) ?_; (with_reducible refine (spec_l1Once.calls g s0_0 s0_1 s0_2 40 true t223 t224 w0 _ ?side1 ?side2 A4.out).mono ?_); (case side1 => repeat (first | (with_reducible first | exact HI0.out | apply IsS207.alloc | apply IsS207.drewN | apply IsS207.drew | apply IsS207.set_1 | apply IsS207.set_2) | exact HI0.out)); (case side2 => repeat (first | (with_reducible first | exact HB.out | apply qb0 | apply qa0 | apply qc0 | refine qg0 ?_ (IsS207.ge HI0.out)) | exact HB.out)); rintro e w7 ⟨rfl, hi, hb, hk⟩; refine ⟨_, rfl, ?_⟩; have n0_ := Aside0.mk (qo0.trans (by repeat (first | (with_reducible first | exact HK.out | apply qo0.set_ | apply qd1 | apply qg1 | apply qe1) | exact HK.out)) hk (.inl rfl)); have n1_ := Aside0.mk (hb); have n2_ := Aside0.mk (hi); clear HK; clear HB; clear HI0; have HK := n0_; have HB := n1_; have HI0 := n2_; clear n0_ n1_ n2_; (try clear hb); (try clear hb2); (try clear hk); (try clear hi)) | ((with_reducible refine qj0 (f := 103) rfl ?_); refine qu0 (some 11) rfl rfl Try.func103 (by kernel_rfl) rfl #[.pointer (some ⟨g, 0, none⟩), .slice A2 l2.length c2] rfl (by (try simp only [List.map_toArray, List.map_cons, List.map_nil]); first | done | rfl | (simp only [List.length_drop, List.length_take]; rfl)) ?_; (with_reducible refine (spec_l1PickInt.calls g s0_0 t223 t224 _ _ l2 t225 t226 t227 w0 _ ?side1 ?side2 ?side3 ?side4 ?side5 A6.out).mono ?_); (case side1 => repeat (first | (with_reducible first | exact HI0.out | apply IsS207.alloc | apply IsS207.drewN | apply IsS207.drew | apply IsS207.set_1 | apply IsS207.set_2) | exact HI0.out)); (case side2 => repeat (first | (with_reducible first | exact HB.out | apply qb0 | apply qa0 | apply qc0 | refine qg0 ?_ (IsS207.ge HI0.out)) | exact HB.out)); (case side3 => exact Kd.C_keep 0 HR2.out (by repeat (first | (with_reducible first | exact HK.out | apply qo0.set_ | apply qd1 | apply qg1 | apply qe1) | exact HK.out)) hf2); (case side4 => exact HC2.out); (case side5 => exact hf2); rintro e w8 ⟨rfl, hi, hb, hk⟩; refine ⟨_, rfl, ?_⟩; have n0_ := Aside0.mk (qo0.trans (by repeat (first | (with_reducible first | exact HK.out | apply qo0.set_ | apply qd1 | apply qg1 | apply qe1) | exact HK.out)) hk (.inl rfl)); have n1_ := Aside0.mk (hb); have n2_ := Aside0.mk (hi); clear HK; clear HB; clear HI0; have HK := n0_; have HB := n1_; have HI0 := n2_; clear n0_ n1_ n2_; (try clear hb); (try clear hb2); (try clear hk); (try clear hi)))
  go_ret
  exact ⟨by first | rfl | (simp [errW_none, errW_some] <;> rfl) | (simp [*, errW_none, errW_some] <;> rfl), by repeat (first | (with_reducible first | exact HI0.out | apply IsS207.alloc | apply IsS207.drewN | apply IsS207.drew | apply IsS207.set_1 | apply IsS207.set_2) | exact HI0.out), by repeat (first | (with_reducible first | exact HB.out | apply qb0 | apply qa0 | apply qc0 | refine qg0 ?_ (IsS207.ge HI0.out)) | exact HB.out), by repeat (first | (with_reducible first | exact HK.out | apply qo0.set_ | apply qd1 | apply qg1 | apply qe1) | exact HK.out)⟩
 replace c5 := Bool.eq_false_iff.mpr c5
 subst c5
 have H1 : (some (a1, t223, t224)) = some (r1, r2, r3) := by rw [if_neg (show ¬ (false = true) by decide)] at H; exact H
 clear H
 have H := H1
 clear H1
 simp only [Option.some.injEq, Prod.mk.injEq] at H
 obtain ⟨rfl, rfl, rfl⟩ := H
 go_enter Try.func119, Try.ntmps119
 go_wp2_with (first | ((with_reducible refine qj0 (f := 102) rfl ?_); refine qu0 (some 8) rfl rfl Try.func102 (by kernel_rfl) rfl #[.pointer (some ⟨g, 0, none⟩), .int .i64 40] rfl (by (try simp only [List.map_toArray, List.map_cons, List.map_nil]); first | done | rfl | (simp only [List.length_drop, List.length_take]; rfl)) ?_; (with_reducible refine (spec_l1Once.calls g s0_0 s0_1 s0_2 40 false t223 t224 w0 _ ?side1 ?side2 A4.out).mono ?_); (case side1 => repeat (first | (with_reducible first | exact HI0.out | apply IsS207.alloc | apply IsS207.drewN | apply IsS207.drew | apply IsS207.set_1 | apply IsS207.set_2) | exact HI0.out)); (case side2 => repeat (first | (with_reducible first | exact HB.out | apply qb0 | apply qa0 | apply qc0 | refine qg0 ?_ (IsS207.ge HI0.out)) | exact HB.out)); rintro e w9 ⟨rfl, hi, hb, hk⟩; refine ⟨_, rfl, ?_⟩; have n0_ := Aside0.mk (qo0.trans (by repeat (first | (with_reducible first | exact HK.out | apply qo0.set_ | apply qd1 | apply qg1 | apply qe1) | exact HK.out)) hk (.inl rfl)); have n1_ := Aside0.mk (hb); have n2_ := Aside0.mk (hi); clear HK; clear HB; clear HI0; have HK := n0_; have HB := n1_; have HI0 := n2_; clear n0_ n1_ n2_; (try clear hb); (try clear hb2); (try clear hk); (try clear hi)))
 go_ret
 exact ⟨by first | rfl | (simp [errW_none, errW_some] <;> rfl) | (simp [*, errW_none, errW_some] <;> rfl), by repeat (first | (with_reducible first | exact HI0.out | apply IsS207.alloc | apply IsS207.drewN | apply IsS207.drew | apply IsS207.set_1 | apply IsS207.set_2) | exact HI0.out), by repeat (first | (with_reducible first | exact HB.out | apply qb0 | apply qa0 | apply qc0 | refine qg0 ?_ (IsS207.ge HI0.out)) | exact HB.out), by repeat (first | (with_reducible first | exact HK.out | apply qo0.set_ | apply qd1 | apply qg1 | apply qe1) | exact HK.out)⟩

/-! ### spec_DrawLanded: function 41 -/
mutual
def spec_DrawLanded.l0 : Nat → List (S61) → Int → List Int → Int → Int → Option ((List (S61)) × Int × Int)
 | 0, _, _, _, _, _ => none
 | k + 1, x6, x7, x232000, x232001, x232002 => if x7 > 0 then ((spec_l1Below.f x232000 x232001 x232002 90).bind fun bt239 => ((spec_l1Below.f x232000 bt239.2.1 bt239.2.2 9000).bind fun bt242 => (if x6.length < 8796093022208 then (spec_DrawLanded.l0 k (x6 ++ [(⟨wrap64 (1 + bt239.1), bt242.1⟩ : S61)]) (wrap64 (x7 - 1)) x232000 bt242.2.1 bt242.2.2) else (none)))) else ((spec_l1Once.f x232000 x232001 x232002 15).bind fun bt248 => (if bt248.1 = true then (spec_DrawLanded.j1 k x6 (decide ((x6.length : Int) > 0)) x232000 bt248.2.1 bt248.2.2) else (spec_DrawLanded.j1 k x6 false x232000 bt248.2.1 bt248.2.2)))
def spec_DrawLanded.j1 : Nat → List (S61) → Bool → List Int → Int → Int → Option ((List (S61)) × Int × Int)
 | 0, _, _, _, _, _ => none
 | k + 1, x6, x34, x232000, x232001, x232002 => if x34 = true then ((spec_l1PickInt.f x232000 x232001 x232002 (([0, 1, 1000000] : List Int))).bind fun bt254 => ((spec_l1PickInt.f x232000 bt254.2.1 bt254.2.2 (([(-1), 10000001, 100000000000, 0] : List Int))).bind fun bt260 => (if 0 < (x6.length : Int) then (spec_DrawLanded.j2 k (x6.set (0 : Int).toNat (⟨bt254.1, bt260.1⟩ : S61)) x232000 bt260.2.1 bt260.2.2) else (none)))) else (spec_DrawLanded.j2 k x6 x232000 x232001 x232002)
def spec_DrawLanded.j2 : Nat → List (S61) → List Int → Int → Int → Option ((List (S61)) × Int × Int)
 | 0, _, _, _, _ => none
 | k + 1, x6, x232000, x232001, x232002 => (spec_l1Below.f x232000 x232001 x232002 3000).bind fun bt264 => ((spec_l1Spoil.f x232000 bt264.2.1 bt264.2.2 bt264.1 (([(-1), 100000000000, 100000000001] : List Int))).bind fun bt270 => ((spec_l1Below.f x232000 bt270.2.1 bt270.2.2 3).bind fun bt273 => ((spec_l1Spoil.f x232000 bt273.2.1 bt273.2.2 (wrap64 (1 + bt273.1)) (([0, 4] : List Int))).bind fun bt279 => (some (x6, bt270.1, bt279.1)))))
end
def spec_DrawLanded.f (k : Nat) (l0 : List Int) : Option ((List (S61)) × Int × Int) := (spec_l1New.f k l0).bind fun bt228 => ((spec_l1Size.f l0 8).bind fun t235 => ((spec_l1Below.f bt228.1 bt228.2.1 bt228.2.2 t235).bind fun bt236 => (spec_DrawLanded.l0 k (([] : List (S61))) bt236.1 bt228.1 bt236.2.1 bt236.2.2)))
theorem spec_DrawLanded.mono_l : ∀ k, (∀ y0 y1 y2 y3 y4, LeO (spec_DrawLanded.l0 k y0 y1 y2 y3 y4) (spec_DrawLanded.l0 (k + 1) y0 y1 y2 y3 y4)) ∧ (∀ y0 y1 y2 y3 y4, LeO (spec_DrawLanded.j1 k y0 y1 y2 y3 y4) (spec_DrawLanded.j1 (k + 1) y0 y1 y2 y3 y4)) ∧ (∀ y0 y1 y2 y3, LeO (spec_DrawLanded.j2 k y0 y1 y2 y3) (spec_DrawLanded.j2 (k + 1) y0 y1 y2 y3))
 | 0 => ⟨fun _ _ _ _ _ r h => by simp [spec_DrawLanded.l0] at h, fun _ _ _ _ _ r h => by simp [spec_DrawLanded.j1] at h, fun _ _ _ _ r h => by simp [spec_DrawLanded.j2] at h⟩
 | k + 1 => by
  obtain ⟨ih0, ih1, ih2⟩ := spec_DrawLanded.mono_l k
  refine ⟨?_, ?_, ?_⟩
  ·intro y0 y1 y2 y3 y4
   unfold spec_DrawLanded.l0
   repeat' first
   | (with_reducible exact ih0 _ _ _ _ _)
   | (with_reducible exact ih1 _ _ _ _ _)
   | (with_reducible exact ih2 _ _ _ _)
   | (with_reducible exact spec_l1New.mono _ _)
   | (with_reducible exact LeO.refl _)
   | (with_reducible exact LeO.none _)
   | (with_reducible refine LeO.ite ?_ ?_)
   | (with_reducible refine LeO.bind ?_ (fun _ => ?_))
   | exact ih0 _ _ _ _ _
   | exact ih1 _ _ _ _ _
   | exact ih2 _ _ _ _
   | exact spec_l1New.mono _ _
   | exact LeO.none _
   | refine LeO.ite ?_ ?_
   | refine LeO.bind ?_ (fun _ => ?_)
  ·intro y0 y1 y2 y3 y4
   unfold spec_DrawLanded.j1
   repeat' first
   | (with_reducible exact ih0 _ _ _ _ _)
   | (with_reducible exact ih1 _ _ _ _ _)
   | (with_reducible exact ih2 _ _ _ _)
   | (with_reducible exact spec_l1New.mono _ _)
   | (with_reducible exact LeO.refl _)
   | (with_reducible exact LeO.none _)
   | (with_reducible refine LeO.ite ?_ ?_)
   | (with_reducible refine LeO.bind ?_ (fun _ => ?_))
   | exact ih0 _ _ _ _ _
   | exact ih1 _ _ _ _ _
   | exact ih2 _ _ _ _
   | exact spec_l1New.mono _ _
   | exact LeO.none _
   | refine LeO.ite ?_ ?_
   | refine LeO.bind ?_ (fun _ => ?_)
  ·intro y0 y1 y2 y3
   unfold spec_DrawLanded.j2
   repeat' first
   | (with_reducible exact ih0 _ _ _ _ _)
   | (with_reducible exact ih1 _ _ _ _ _)
   | (with_reducible exact ih2 _ _ _ _)
   | (with_reducible exact spec_l1New.mono _ _)
   | (with_reducible exact LeO.refl _)
   | (with_reducible exact LeO.none _)
   | (with_reducible refine LeO.ite ?_ ?_)
   | (with_reducible refine LeO.bind ?_ (fun _ => ?_))
   | exact ih0 _ _ _ _ _
   | exact ih1 _ _ _ _ _
   | exact ih2 _ _ _ _
   | exact spec_l1New.mono _ _
   | exact LeO.none _
   | refine LeO.ite ?_ ?_
   | refine LeO.bind ?_ (fun _ => ?_)
theorem spec_DrawLanded.mono : ∀ a0 k, LeO (spec_DrawLanded.f k a0) (spec_DrawLanded.f (k + 1) a0) := by
 intro a0 k
 obtain ⟨ih0, ih1, ih2⟩ := spec_DrawLanded.mono_l k
 unfold spec_DrawLanded.f
 repeat' first
   | (with_reducible exact ih0 _ _ _ _ _)
   | (with_reducible exact ih1 _ _ _ _ _)
   | (with_reducible exact ih2 _ _ _ _)
   | (with_reducible exact spec_l1New.mono _ _)
   | (with_reducible exact LeO.refl _)
   | (with_reducible exact LeO.none _)
   | (with_reducible refine LeO.ite ?_ ?_)
   | (with_reducible refine LeO.bind ?_ (fun _ => ?_))
   | exact ih0 _ _ _ _ _
   | exact ih1 _ _ _ _ _
   | exact ih2 _ _ _ _
   | exact spec_l1New.mono _ _
   | exact LeO.none _
   | refine LeO.ite ?_ ?_
   | refine LeO.bind ?_ (fun _ => ?_)
set_option maxHeartbeats 8000000 in
set_option maxRecDepth 100000 in
theorem spec_DrawLanded.calls (k : Nat) (A0 : Option Addr) (c0 : Nat) (l0 : List Int) (r1 : List (S61)) (r2 : Int) (r3 : Int) (w : World) (hr0 : Kd.C (Kd.int .u8) w A0 l0.length l0) (hc0 : l0.length ≤ c0) (h : spec_DrawLanded.f k l0 = some (r1, r2, r3)) :
  Calls Try.prog 41 #[.slice A0 l0.length c0] w fun e w' => ∃ v0_ : Value, e = .returned (.tuple #[v0_, .int .i64 r2, .int .i64 r3]) ∧ Kd.R k61 61 w' w.heap.size (fun _ => True) v0_ r1 ∧ Below w.heap.size w w' := by
 have hu61 := Try.underlying61
 have HR0 := Aside0.mk hr0
 have HC0 := Aside0.mk hc0
 clear hr0 hc0
 have HB := Aside0.mk (Below.refl w.heap.size w)
 have H : ((spec_l1New.f k l0).bind fun bt228 => ((spec_l1Size.f l0 8).bind fun t235 => ((spec_l1Below.f bt228.1 bt228.2.1 bt228.2.2 t235).bind fun bt236 => (spec_DrawLanded.l0 k (([] : List (S61))) bt236.1 bt228.1 bt236.2.1 bt236.2.2)))) = some (r1, r2, r3) := h
 clear h
 replace H := Option.bind_eq_some_iff.mp H
 obtain ⟨⟨t228, t229, t230⟩, A20, H⟩ := H
 replace H : ((spec_l1Size.f l0 8).bind fun t235 => ((spec_l1Below.f t228 t229 t230 t235).bind fun bt236 => (spec_DrawLanded.l0 k (([] : List (S61))) bt236.1 t228 bt236.2.1 bt236.2.2))) = some (r1, r2, r3) := H
 have A2 := Aside0.mk A20
 clear A20
 obtain ⟨y232, hy232⟩ : ∃ y_ : List (S61), y_ = (([] : List (S61))) := ⟨_, rfl⟩
 replace H : ((spec_l1Size.f l0 8).bind fun t235 => ((spec_l1Below.f t228 t229 t230 t235).bind fun bt236 => (spec_DrawLanded.l0 k y232 bt236.1 t228 bt236.2.1 bt236.2.2))) = some (r1, r2, r3) := by first | (rw [hy232]; with_reducible exact H) | (have H2_ := (Option.bind_some _ _).symm.trans H; rw [hy232]; with_reducible exact H2_) | (have H2_ := (Option.bind_some _ _).symm.trans H; with_reducible exact H2_) | with_reducible exact H | (rw [hy232]; exact H) | exact H
 have Ny232 := Aside0.mk hy232
 clear hy232
 replace H := Option.bind_eq_some_iff.mp H
 obtain ⟨t235, A30, H⟩ := H
 replace H : ((spec_l1Below.f t228 t229 t230 t235).bind fun bt236 => (spec_DrawLanded.l0 k y232 bt236.1 t228 bt236.2.1 bt236.2.2)) = some (r1, r2, r3) := H
 have A3 := Aside0.mk A30
 clear A30
 replace H := Option.bind_eq_some_iff.mp H
 obtain ⟨⟨t236, t237, t238⟩, A40, H⟩ := H
 replace H : (spec_DrawLanded.l0 k y232 t236 t228 t237 t238) = some (r1, r2, r3) := H
 have A4 := Aside0.mk A40
 clear A40
 have H' := Aside0.mk H
 clear H
 go_enter Try.func41, Try.ntmps41
 go_wp2_with (first | ((with_reducible refine qj0 (f := 82) rfl ?_); refine qu0 (some 9) rfl rfl Try.func82 (by kernel_rfl) rfl #[.slice A0 l0.length c0] rfl (by (try simp only [List.map_toArray, List.map_cons, List.map_nil]); first | done | rfl | (simp only [List.length_drop, List.length_take]; rfl)) ?_; (with_reducible refine (spec_l1New.calls k _ _ l0 t228 t229 t230 w _ ?side1 ?side2 ?side3 A2.out).mono ?_); (case side1 => repeat (first | (with_reducible first | exact HB.out | apply qb0 | apply qa0 | apply qc0) | exact HB.out)); (case side2 => exact HR0.out); (case side3 => exact HC0.out); rintro e w5 ⟨g231, rfl, hi, hb, hb2⟩; refine ⟨_, rfl, ?_⟩; have n0_ := Aside0.mk (hb); have n1_ := Aside0.mk (hi); clear HB; have HB := n0_; have HI231 := n1_; clear n0_ n1_; (try clear hb); (try clear hb2); (try clear hk); (try clear hi)) | ((with_reducible refine qv0 (N := 10) rfl ?_); (try (refine qp0 (by rfl) ?_; dsimp only)); refine Kd.R_lit k61 _ 61 ?hg (N := 10) ?hd (xs := ([] : List (S61))) (inner := []) (ok := fun _ => True) (okp := fun _ => True) ?hr ?hp (fun _ hk => hk) trivial (Below.refl _ _) (Nat.le_refl _) (by simp) ?_; (case hd => rfl); (case hg => rfl); (case hr => first | (go_simp; done) | (go_simp; rfl)); (case hp => exact (Reps.none _ _)); intro v233 w6 ho7 hb hg_ hnew_; clear hg_ hnew_; (first | rw [← Ny232.out] at ho7 | (simp only [Int.reduceToNat] at ho7; rw [← Ny232.out] at ho7)); have n0_ := Aside0.mk (Kd.qy0 ho7 (qh0 (by repeat (first | (with_reducible first | exact HB.out | apply qb0 | apply qa0 | apply qc0 | refine qg0 ?_ (IsS207.ge HI231.out)) | exact HB.out)))); have n1_ := Aside0.mk (IsS207.below (by repeat (first | (with_reducible first | exact HI231.out | apply IsS207.alloc | apply IsS207.drewN | apply IsS207.drew | apply IsS207.set_1 | apply IsS207.set_2) | exact HI231.out)) hb); have n2_ := Aside0.mk (qk0 (by repeat (first | (with_reducible first | exact HB.out | apply qb0 | apply qa0 | apply qc0 | refine qg0 ?_ (IsS207.ge HI231.out)) | exact HB.out)) hb); clear HI231; clear HB; have HO234 := n0_; have HI231 := n1_; have HB := n2_; clear n0_ n1_ n2_; clear hb ho7) | ((with_reducible refine qj0 (f := 85) rfl ?_); refine qu0 (some 13) rfl rfl Try.func85 (by kernel_rfl) rfl #[.slice A0 l0.length c0, .int .i64 8] rfl (by (try simp only [List.map_toArray, List.map_cons, List.map_nil]); first | done | rfl | (simp only [List.length_drop, List.length_take]; rfl)) ?_; (with_reducible refine (spec_l1Size.calls _ _ l0 8 t235 _ ?side1 ?side2 A3.out).mono ?_); (case side1 => repeat (first | exact (Kd.C_below HR0.out HB.out) | (with_reducible refine Kd.C_alloc ?_ _) | (with_reducible refine Kd.qb1 ?_ _) | (with_reducible refine Kd.qi1 ?_))); (case side2 => exact HC0.out); rintro e w' ⟨rfl, ⟨nd, rfl⟩⟩; refine ⟨_, rfl, ?_⟩) | ((with_reducible refine qj0 (f := 84) rfl ?_); refine qu0 (some 14) rfl rfl Try.func84 (by kernel_rfl) rfl #[.pointer (some ⟨g231, 0, none⟩), .int .i64 t235] rfl (by (try simp only [List.map_toArray, List.map_cons, List.map_nil]); first | done | rfl | (simp only [List.length_drop, List.length_take]; rfl)) ?_; (with_reducible refine (spec_l1Below.calls g231 t228 t229 t230 t235 t236 t237 t238 w _ ?side1 ?side2 A4.out).mono ?_); (case side1 => repeat (first | (with_reducible first | exact HI231.out | apply IsS207.alloc | apply IsS207.drewN | apply IsS207.drew | apply IsS207.set_1 | apply IsS207.set_2) | exact HI231.out)); (case side2 => repeat (first | (with_reducible first | exact HB.out | apply qb0 | apply qa0 | apply qc0 | refine qg0 ?_ (IsS207.ge HI231.out)) | exact HB.out)); rintro e w8 ⟨rfl, hi, hb, hk⟩; refine ⟨_, rfl, ?_⟩; have n0_ := Aside0.mk (Kd.qm0 (Kd.R_keep (IsS207.apart (show IsS207 w _ g231 t228 t229 t230 from by repeat (first | (with_reducible first | exact HI231.out | apply IsS207.alloc | apply IsS207.drewN | apply IsS207.drew | apply IsS207.set_1 | apply IsS207.set_2) | exact HI231.out)) (by (with_reducible repeat (first | apply Kd.qe0 | apply Kd.qd0 | apply Kd.qf0)); exact HO234.out) (by decide)) hk (fun _ h => h.2)) (fun _ h => h.1)); have n1_ := Aside0.mk (hb); have n2_ := Aside0.mk (hi); clear HO234; clear HB; clear HI231; have HO234 := n0_; have HB := n1_; have HI231 := n2_; clear n0_ n1_ n2_; (try clear hb); (try clear hb2); (try clear hk); (try clear hi)))
 go_loopg [6, 7] k (fun kq v6 v7 w' => ∃ (x6_1 : List (S61)) (x7_1 : Int) (x232001_1 : Int) (x232002_1 : Int), v7 = .int .i64 x7_1 ∧ Aside0 (spec_DrawLanded.l0 kq x6_1 x7_1 t228 x232001_1 x232002_1 = some (r1, r2, r3)) ∧ Aside0 (kq ≤ k) ∧ Aside0 (Kd.R k61 61 w' w.heap.size (fun _ => True) v6 x6_1) ∧ Aside0 (IsS207 w w' g231 t228 x232001_1 x232002_1) ∧ Aside0 (Below w.heap.size w w'))
 case atStart => exact ⟨(y232), (t236), (t237), (t238), (by first | rfl | (simp; done) | (simp [*]; done)), H', ⟨Nat.le_refl _⟩, ⟨by (with_reducible repeat (first | apply Kd.qe0 | apply Kd.qd0 | apply Kd.qf0)); exact HO234.out⟩, ⟨by repeat (first | (with_reducible first | exact HI231.out | apply IsS207.alloc | apply IsS207.drewN | apply IsS207.drew | apply IsS207.set_1 | apply IsS207.set_2) | exact HI231.out)⟩, ⟨by repeat (first | (with_reducible first | exact HB.out | apply qb0 | apply qa0 | apply qc0 | refine qg0 ?_ (IsS207.ge HI231.out)) | exact HB.out)⟩⟩
 case round =>
  clear H'
  try clear p2
  try clear c4
  try clear c8
  obtain ⟨x6_1, x7_1, x232001_1, x232002_1, rfl, HA, HK1, HO_6, HI231, HB⟩ := hrel
  cases gk with
  | zero => exact absurd HA.out (by simp [spec_DrawLanded.l0])
  | succ k1 =>
   have H := HA.out
   clear HA
   simp only [spec_DrawLanded.l0] at H
   by_cases c9 : x7_1 > 0
   ·rw [if_pos c9] at H
    have c9b0 : decide (0 < x7_1) = true := decide_eq_true c9
    clear c9
    replace H := Option.bind_eq_some_iff.mp H
    obtain ⟨⟨t239, t240, t241⟩, A100, H⟩ := H
    replace H : ((spec_l1Below.f t228 t240 t241 9000).bind fun bt242 => (if x6_1.length < 8796093022208 then (spec_DrawLanded.l0 k1 (x6_1 ++ [(⟨wrap64 (1 + t239), bt242.1⟩ : S61)]) (wrap64 (x7_1 - 1)) t228 bt242.2.1 bt242.2.2) else (none))) = some (r1, r2, r3) := H
    have A10 := Aside0.mk A100
    clear A100
    replace H := Option.bind_eq_some_iff.mp H
    obtain ⟨⟨t242, t243, t244⟩, A110, H⟩ := H
    replace H : (if x6_1.length < 8796093022208 then (spec_DrawLanded.l0 k1 (x6_1 ++ [(⟨wrap64 (1 + t239), t242⟩ : S61)]) (wrap64 (x7_1 - 1)) t228 t243 t244) else (none)) = some (r1, r2, r3) := H
    have A11 := Aside0.mk A110
    clear A110
    by_cases c12 : x6_1.length < 8796093022208
    case neg => rw [if_neg c12] at H; exact absurd H (by simp)
    rw [if_pos c12] at H
    have LMc12 := Aside0.mk c12
    clear c12
    obtain ⟨y245, hy245⟩ : ∃ y_ : List (S61), y_ = (x6_1 ++ [(⟨wrap64 (1 + t239), t242⟩ : S61)]) := ⟨_, rfl⟩
    replace H : (spec_DrawLanded.l0 k1 y245 (wrap64 (x7_1 - 1)) t228 t243 t244) = some (r1, r2, r3) := by first | (rw [hy245]; with_reducible exact H) | (have H2_ := (Option.bind_some _ _).symm.trans H; rw [hy245]; with_reducible exact H2_) | (have H2_ := (Option.bind_some _ _).symm.trans H; with_reducible exact H2_) | with_reducible exact H | (rw [hy245]; exact H) | exact H
    have Ny245 := Aside0.mk hy245
    clear hy245
    have H' := Aside0.mk H
    clear H
    go_wp2_with (first | ((with_reducible refine qj0 (f := 84) rfl ?_); refine qu0 (some 21) rfl rfl Try.func84 (by kernel_rfl) rfl #[.pointer (some ⟨g231, 0, none⟩), .int .i64 90] rfl (by (try simp only [List.map_toArray, List.map_cons, List.map_nil]); first | done | rfl | (simp only [List.length_drop, List.length_take]; rfl)) ?_; (with_reducible refine (spec_l1Below.calls g231 t228 x232001_1 x232002_1 90 t239 t240 t241 w _ ?side1 ?side2 A10.out).mono ?_); (case side1 => repeat (first | (with_reducible first | exact HI231.out | apply IsS207.alloc | apply IsS207.drewN | apply IsS207.drew | apply IsS207.set_1 | apply IsS207.set_2) | exact HI231.out)); (case side2 => repeat (first | (with_reducible first | exact HB.out | apply qb0 | apply qa0 | apply qc0 | refine qg0 ?_ (IsS207.ge HI231.out)) | exact HB.out)); rintro e w13 ⟨rfl, hi, hb, hk⟩; refine ⟨_, rfl, ?_⟩; have n0_ := Aside0.mk (Kd.qm0 (Kd.R_keep (IsS207.apart (show IsS207 w _ g231 t228 x232001_1 x232002_1 from by repeat (first | (with_reducible first | exact HI231.out | apply IsS207.alloc | apply IsS207.drewN | apply IsS207.drew | apply IsS207.set_1 | apply IsS207.set_2) | exact HI231.out)) (by (with_reducible repeat (first | apply Kd.qe0 | apply Kd.qd0 | apply Kd.qf0)); exact HO_6.out) (by decide)) hk (fun _ h => h.2)) (fun _ h => h.1)); have n1_ := Aside0.mk (hb); have n2_ := Aside0.mk (hi); clear HO_6; clear HB; clear HI231; have HO_6 := n0_; have HB := n1_; have HI231 := n2_; clear n0_ n1_ n2_; (try clear hb); (try clear hb2); (try clear hk); (try clear hi)) | ((with_reducible refine qj0 (f := 84) rfl ?_); refine qu0 (some 24) rfl rfl Try.func84 (by kernel_rfl) rfl #[.pointer (some ⟨g231, 0, none⟩), .int .i64 9000] rfl (by (try simp only [List.map_toArray, List.map_cons, List.map_nil]); first | done | rfl | (simp only [List.length_drop, List.length_take]; rfl)) ?_; (with_reducible refine (spec_l1Below.calls g231 t228 t240 t241 9000 t242 t243 t244 w _ ?side1 ?side2 A11.out).mono ?_); (case side1 => repeat (first | (with_reducible first | exact HI231.out | apply IsS207.alloc | apply IsS207.drewN | apply IsS207.drew | apply IsS207.set_1 | apply IsS207.set_2) | exact HI231.out)); (case side2 => repeat (first | (with_reducible first | exact HB.out | apply qb0 | apply qa0 | apply qc0 | refine qg0 ?_ (IsS207.ge HI231.out)) | exact HB.out)); rintro e w14 ⟨rfl, hi, hb, hk⟩; refine ⟨_, rfl, ?_⟩; have n0_ := Aside0.mk (Kd.qm0 (Kd.R_keep (IsS207.apart (show IsS207 w _ g231 t228 t240 t241 from by repeat (first | (with_reducible first | exact HI231.out | apply IsS207.alloc | apply IsS207.drewN | apply IsS207.drew | apply IsS207.set_1 | apply IsS207.set_2) | exact HI231.out)) (by (with_reducible repeat (first | apply Kd.qe0 | apply Kd.qd0 | apply Kd.qf0)); exact HO_6.out) (by decide)) hk (fun _ h => h.2)) (fun _ h => h.1)); have n1_ := Aside0.mk (hb); have n2_ := Aside0.mk (hi); clear HO_6; clear HB; clear HI231; have HO_6 := n0_; have HB := n1_; have HI231 := n2_; clear n0_ n1_ n2_; (try clear hb); (try clear hb2); (try clear hk); (try clear hi)) | ((with_reducible refine gate_builtin (b := .append) (xs := #[.tmp 19, .tmp 26]) rfl ?_); (try (refine qp0 (by rfl) ?_; dsimp only)); at_builtin; refine Kd.R_append k61 (w0 := w) w.heap.size rfl (.tmp 19) (.tmp 26) 57 61 (.agg #[(.int .i64 0), (.int .i64 0)]) 16 rfl Try.underlying57 info61 rfl (by decide) (by omega) u6 x6_1 (⟨wrap64 (1 + t239), t242⟩ : S61) [.int .i64 (wrap64 (1 + t239)), .int .i64 t242] (fun _ => True) (fun _ => False) rfl rfl ?aP (fun _ hk => hk.elim) ?aF ?aO ?aB ?aS ?aL ?_; (case aP => exact k61_mkM _ _ _ (⟨wrap64 (1 + t239), t242⟩ : S61)); (case aB => exact (by repeat (first | (with_reducible first | exact HB.out | apply qb0 | apply qa0 | apply qc0 | refine qg0 ?_ (IsS207.ge HI231.out)) | exact HB.out))); (case aF => exact (fun _ _ => trivial)); (case aO => exact (by (with_reducible repeat (first | apply Kd.qe0 | apply Kd.qd0 | apply Kd.qf0)); exact HO_6.out)); (case aS => exact (qh0 (by repeat (first | (with_reducible first | exact HB.out | apply qb0 | apply qa0 | apply qc0 | refine qg0 ?_ (IsS207.ge HI231.out)) | exact HB.out)))); (case aL => have := LMc12.out; omega); intro v246 w15 ho hb hg hat; rw [← Ny245.out] at ho; have n0_ := Aside0.mk (IsS207.grown (by repeat (first | (with_reducible first | exact HI231.out | apply IsS207.alloc | apply IsS207.drewN | apply IsS207.drew | apply IsS207.set_1 | apply IsS207.set_2) | exact HI231.out)) hg (IsS207.own_ne HI231.out HO_6.out (by decide))); have n1_ := Aside0.mk (hb); have n2_ := Aside0.mk (ho); clear HI231; clear HB; clear HO_6; have HI231 := n0_; have HB := n1_; have HO247 := n2_; clear n0_ n1_ n2_; clear ho hb hg hat))
    go_roundg k1
    case measure => have := HK1.out; omega
    case rel => exact ⟨(y245), (wrap64 (x7_1 - 1)), (t243), (t244), (by first | rfl | (simp; done) | (simp [*]; done)), H', ⟨by have := HK1.out; omega⟩, ⟨by (with_reducible repeat (first | apply Kd.qe0 | apply Kd.qd0 | apply Kd.qf0)); exact HO247.out⟩, ⟨by repeat (first | (with_reducible first | exact HI231.out | apply IsS207.alloc | apply IsS207.drewN | apply IsS207.drew | apply IsS207.set_1 | apply IsS207.set_2) | exact HI231.out)⟩, ⟨by repeat (first | (with_reducible first | exact HB.out | apply qb0 | apply qa0 | apply qc0 | refine qg0 ?_ (IsS207.ge HI231.out)) | exact HB.out)⟩⟩
   rw [if_neg c9] at H
   have c9b0 : decide (0 < x7_1) = false := decide_eq_false c9
   clear c9
   have HC16 := Aside0.mk H
   clear H
   go_upto_region 7 with (fail)
   go_cut [34] (fun v34 wc => ∃ (kq : Nat) (x34_15 : Bool) (x232001_15 : Int) (x232002_15 : Int), v34 = .bool x34_15 ∧ Aside0 (spec_DrawLanded.j1 kq x6_1 x34_15 t228 x232001_15 x232002_15 = some (r1, r2, r3)) ∧ Aside0 (kq ≤ k1) ∧ Aside0 (Kd.R k61 61 wc w.heap.size (fun _ => True) u6 x6_1) ∧ Aside0 (IsS207 w wc g231 t228 x232001_15 x232002_15) ∧ Aside0 (Below w.heap.size w wc))
   case first =>
    have H := HC16.out
    clear HC16
    replace H := Option.bind_eq_some_iff.mp H
    obtain ⟨⟨t248, t249, t250⟩, A170, H⟩ := H
    replace H : (if t248 = true then (spec_DrawLanded.j1 k1 x6_1 (decide ((x6_1.length : Int) > 0)) t228 t249 t250) else (spec_DrawLanded.j1 k1 x6_1 false t228 t249 t250)) = some (r1, r2, r3) := H
    have A17 := Aside0.mk A170
    clear A170
    by_cases c18 : t248 = true
    ·subst c18
     have H1 : (spec_DrawLanded.j1 k1 x6_1 (decide ((x6_1.length : Int) > 0)) t228 t249 t250) = some (r1, r2, r3) := by rw [if_pos rfl] at H; exact H
     clear H
     have H := H1
     clear H1
     have H' := Aside0.mk H
     clear H
     go_wp2_with (first | ((with_reducible refine qj0 (f := 102) rfl ?_); refine qu0 (some 29) rfl rfl Try.func102 (by kernel_rfl) rfl #[.pointer (some ⟨g231, 0, none⟩), .int .i64 15] rfl (by (try simp only [List.map_toArray, List.map_cons, List.map_nil]); first | done | rfl | (simp only [List.length_drop, List.length_take]; rfl)) ?_; (with_reducible refine (spec_l1Once.calls g231 t228 x232001_1 x232002_1 15 true t249 t250 w _ ?side1 ?side2 A17.out).mono ?_); (case side1 => repeat (first | (with_reducible first | exact HI231.out | apply IsS207.alloc | apply IsS207.drewN | apply IsS207.drew | apply IsS207.set_1 | apply IsS207.set_2) | exact HI231.out)); (case side2 => repeat (first | (with_reducible first | exact HB.out | apply qb0 | apply qa0 | apply qc0 | refine qg0 ?_ (IsS207.ge HI231.out)) | exact HB.out)); rintro e w19 ⟨rfl, hi, hb, hk⟩; refine ⟨_, rfl, ?_⟩; have n0_ := Aside0.mk (Kd.qm0 (Kd.R_keep (IsS207.apart (show IsS207 w _ g231 t228 x232001_1 x232002_1 from by repeat (first | (with_reducible first | exact HI231.out | apply IsS207.alloc | apply IsS207.drewN | apply IsS207.drew | apply IsS207.set_1 | apply IsS207.set_2) | exact HI231.out)) (by (with_reducible repeat (first | apply Kd.qe0 | apply Kd.qd0 | apply Kd.qf0)); exact HO_6.out) (by decide)) hk (fun _ h => h.2)) (fun _ h => h.1)); have n1_ := Aside0.mk (hb); have n2_ := Aside0.mk (hi); clear HO_6; clear HB; clear HI231; have HO_6 := n0_; have HB := n1_; have HI231 := n2_; clear n0_ n1_ n2_; (try clear hb); (try clear hb2); (try clear hk); (try clear hi); obtain ⟨Ao20, co20, eo20⟩ := Kd.qz0 HO_6.out; subst eo20))
     go_meet
     case rel => exact ⟨_, (decide ((x6_1.length : Int) > 0)), (t249), (t250), (by first | rfl | (simp; done) | (simp [*]; done)), H', ⟨by have := HK1.out; first | omega | exact Nat.le_refl _⟩, ⟨by (with_reducible repeat (first | apply Kd.qe0 | apply Kd.qd0 | apply Kd.qf0)); exact HO_6.out⟩, ⟨by repeat (first | (with_reducible first | exact HI231.out | apply IsS207.alloc | apply IsS207.drewN | apply IsS207.drew | apply IsS207.set_1 | apply IsS207.set_2) | exact HI231.out)⟩, ⟨by repeat (first | (with_reducible first | exact HB.out | apply qb0 | apply qa0 | apply qc0 | refine qg0 ?_ (IsS207.ge HI231.out)) | exact HB.out)⟩⟩
    replace c18 := Bool.eq_false_iff.mpr c18
    subst c18
    have H1 : (spec_DrawLanded.j1 k1 x6_1 false t228 t249 t250) = some (r1, r2, r3) := by rw [if_neg (show ¬ (false = true) by decide)] at H; exact H
    clear H
    have H := H1
    clear H1
    have H' := Aside0.mk H
    clear H
    go_wp2_with (first | ((with_reducible refine qj0 (f := 102) rfl ?_); refine qu0 (some 29) rfl rfl Try.func102 (by kernel_rfl) rfl #[.pointer (some ⟨g231, 0, none⟩), .int .i64 15] rfl (by (try simp only [List.map_toArray, List.map_cons, List.map_nil]); first | done | rfl | (simp only [List.length_drop, List.length_take]; rfl)) ?_; (with_reducible refine (spec_l1Once.calls g231 t228 x232001_1 x232002_1 15 false t249 t250 w _ ?side1 ?side2 A17.out).mono ?_); (case side1 => repeat (first | (with_reducible first | exact HI231.out | apply IsS207.alloc | apply IsS207.drewN | apply IsS207.drew | apply IsS207.set_1 | apply IsS207.set_2) | exact HI231.out)); (case side2 => repeat (first | (with_reducible first | exact HB.out | apply qb0 | apply qa0 | apply qc0 | refine qg0 ?_ (IsS207.ge HI231.out)) | exact HB.out)); rintro e w21 ⟨rfl, hi, hb, hk⟩; refine ⟨_, rfl, ?_⟩; have n0_ := Aside0.mk (Kd.qm0 (Kd.R_keep (IsS207.apart (show IsS207 w _ g231 t228 x232001_1 x232002_1 from by repeat (first | (with_reducible first | exact HI231.out | apply IsS207.alloc | apply IsS207.drewN | apply IsS207.drew | apply IsS207.set_1 | apply IsS207.set_2) | exact HI231.out)) (by (with_reducible repeat (first | apply Kd.qe0 | apply Kd.qd0 | apply Kd.qf0)); exact HO_6.out) (by decide)) hk (fun _ h => h.2)) (fun _ h => h.1)); have n1_ := Aside0.mk (hb); have n2_ := Aside0.mk (hi); clear HO_6; clear HB; clear HI231; have HO_6 := n0_; have HB := n1_; have HI231 := n2_; clear n0_ n1_ n2_; (try clear hb); (try clear hb2); (try clear hk); (try clear hi)))
    go_meet
    case rel => exact ⟨_, (false), (t249), (t250), (by first | rfl | (simp; done) | (simp [*]; done)), H', ⟨by have := HK1.out; first | omega | exact Nat.le_refl _⟩, ⟨by (with_reducible repeat (first | apply Kd.qe0 | apply Kd.qd0 | apply Kd.qf0)); exact HO_6.out⟩, ⟨by repeat (first | (with_reducible first | exact HI231.out | apply IsS207.alloc | apply IsS207.drewN | apply IsS207.drew | apply IsS207.set_1 | apply IsS207.set_2) | exact HI231.out)⟩, ⟨by repeat (first | (with_reducible first | exact HB.out | apply qb0 | apply qa0 | apply qc0 | refine qg0 ?_ (IsS207.ge HI231.out)) | exact HB.out)⟩⟩
   case rest =>
    clear HC16
    try clear c1
    try clear p2
    try clear c4
    try clear p6
    try clear c8
    try clear c9
    try clear c9b0
    try clear c10
    try clear c12
    try clear c18
    try clear p2
    obtain ⟨kq, x34_15, x232001_15, x232002_15, rfl, HA, HJ15, HO_6, HI231, HB⟩ := hcut
    cases kq with
    | zero => exact absurd HA.out (by simp [spec_DrawLanded.j1])
    | succ kj15 =>
     have H := HA.out
     clear HA
     simp only [spec_DrawLanded.j1] at H
     have HC22 := Aside0.mk H
     clear H
     go_upto_if 34 with (fail)
     go_cut [] (fun wc => ∃ (kq : Nat) (x6_21 : List (S61)) (x232001_21 : Int) (x232002_21 : Int), Aside0 (spec_DrawLanded.j2 kq x6_21 t228 x232001_21 x232002_21 = some (r1, r2, r3)) ∧ Aside0 (kq ≤ kj15) ∧ Aside0 (Kd.R k61 61 wc w.heap.size (fun _ => True) u6 x6_21) ∧ Aside0 (IsS207 w wc g231 t228 x232001_21 x232002_21) ∧ Aside0 (Below w.heap.size w wc))
     case first =>
      have H := HC22.out
      clear HC22
      by_cases c23 : x34_15 = true
      ·subst c23
       have H1 : ((spec_l1PickInt.f t228 x232001_15 x232002_15 (([0, 1, 1000000] : List Int))).bind fun bt254 => ((spec_l1PickInt.f t228 bt254.2.1 bt254.2.2 (([(-1), 10000001, 100000000000, 0] : List Int))).bind fun bt260 => (if 0 < (x6_1.length : Int) then (spec_DrawLanded.j2 kj15 (x6_1.set (0 : Int).toNat (⟨bt254.1, bt260.1⟩ : S61)) t228 bt260.2.1 bt260.2.2) else (none)))) = some (r1, r2, r3) := by rw [if_pos rfl] at H; exact H
       clear H
       have H := H1
       clear H1
       obtain ⟨y251, hy251⟩ : ∃ y_ : List Int, y_ = (([0, 1, 1000000] : List Int)) := ⟨_, rfl⟩
       replace H : ((spec_l1PickInt.f t228 x232001_15 x232002_15 y251).bind fun bt254 => ((spec_l1PickInt.f t228 bt254.2.1 bt254.2.2 (([(-1), 10000001, 100000000000, 0] : List Int))).bind fun bt260 => (if 0 < (x6_1.length : Int) then (spec_DrawLanded.j2 kj15 (x6_1.set (0 : Int).toNat (⟨bt254.1, bt260.1⟩ : S61)) t228 bt260.2.1 bt260.2.2) else (none)))) = some (r1, r2, r3) := by first | (rw [hy251]; with_reducible exact H) | (have H2_ := (Option.bind_some _ _).symm.trans H; rw [hy251]; with_reducible exact H2_) | (have H2_ := (Option.bind_some _ _).symm.trans H; with_reducible exact H2_) | with_reducible exact H | (rw [hy251]; exact H) | exact H
       have Ny251 := Aside0.mk hy251
       clear hy251
       replace H := Option.bind_eq_some_iff.mp H
       obtain ⟨⟨t254, t255, t256⟩, A240, H⟩ := H
       replace H : ((spec_l1PickInt.f t228 t255 t256 (([(-1), 10000001, 100000000000, 0] : List Int))).bind fun bt260 => (if 0 < (x6_1.length : Int) then (spec_DrawLanded.j2 kj15 (x6_1.set (0 : Int).toNat (⟨t254, bt260.1⟩ : S61)) t228 bt260.2.1 bt260.2.2) else (none))) = some (r1, r2, r3) := H
       have A24 := Aside0.mk A240
       clear A240
       obtain ⟨y257, hy257⟩ : ∃ y_ : List Int, y_ = (([(-1), 10000001, 100000000000, 0] : List Int)) := ⟨_, rfl⟩
       replace H : ((spec_l1PickInt.f t228 t255 t256 y257).bind fun bt260 => (if 0 < (x6_1.length : Int) then (spec_DrawLanded.j2 kj15 (x6_1.set (0 : Int).toNat (⟨t254, bt260.1⟩ : S61)) t228 bt260.2.1 bt260.2.2) else (none))) = some (r1, r2, r3) := by first | (rw [hy257]; with_reducible exact H) | (have H2_ := (Option.bind_some _ _).symm.trans H; rw [hy257]; with_reducible exact H2_) | (have H2_ := (Option.bind_some _ _).symm.trans H; with_reducible exact H2_) | with_reducible exact H | (rw [hy257]; exact H) | exact H
       have Ny257 := Aside0.mk hy257
       clear hy257
       replace H := Option.bind_eq_some_iff.mp H
       obtain ⟨⟨t260, t261, t262⟩, A250, H⟩ := H
       replace H : (if 0 < (x6_1.length : Int) then (spec_DrawLanded.j2 kj15 (x6_1.set (0 : Int).toNat (⟨t254, t260⟩ : S61)) t228 t261 t262) else (none)) = some (r1, r2, r3) := H
       have A25 := Aside0.mk A250
       clear A250
       by_cases c26 : 0 < (x6_1.length : Int)
       case neg => rw [if_neg c26] at H; exact absurd H (by simp)
       rw [if_pos c26] at H
       have c26b0 : decide (0 < (x6_1.length : Int)) = true := decide_eq_true c26
       have c26b1 : decide (0 < x6_1.length) = true := decide_eq_true (by omega)
       clear c26
       (first | rw [c26b0] | (simp only [i64_w, i32_w]; rw [c26b0]) | skip)
       obtain ⟨y263, hy263⟩ : ∃ y_ : List (S61), y_ = (x6_1.set (0 : Int).toNat (⟨t254, t260⟩ : S61)) := ⟨_, rfl⟩
       replace H : (spec_DrawLanded.j2 kj15 y263 t228 t261 t262) = some (r1, r2, r3) := by first | (rw [hy263]; with_reducible exact H) | (have H2_ := (Option.bind_some _ _).symm.trans H; rw [hy263]; with_reducible exact H2_) | (have H2_ := (Option.bind_some _ _).symm.trans H; with_reducible exact H2_) | with_reducible exact H | (rw [hy263]; exact H) | exact H
       have Ny263 := Aside0.mk hy263
       clear hy263
       have H' := Aside0.mk H
       clear H
       go_wp2_with (first | ((with_reducible refine qv0 (N := 37) rfl ?_); (try (refine qp0 (by rfl) ?_; dsimp only)); refine Kd.R_lit (Kd.int .i64) _ 3 ?hg (N := 37) ?hd (xs := ([0, 1, 1000000] : List Int)) (inner := [.int .i64 0, .int .i64 1, .int .i64 1000000]) (ok := fun _ => True) (okp := fun _ => True) ?hr ?hp (fun _ hk => hk) trivial (Below.refl _ _) (Nat.le_refl _) (by simp) ?_; (case hd => rfl); (case hg => rfl); (case hr => first | (go_simp; done) | (go_simp; rfl)); (case hp => exact (Reps.one (show Kd.M (Kd.int .i64) _ _ _ 0 [.int .i64 0] from rfl) (Reps.one (show Kd.M (Kd.int .i64) _ _ _ 1 [.int .i64 1] from rfl) (Reps.one (show Kd.M (Kd.int .i64) _ _ _ 1000000 [.int .i64 1000000] from rfl) (Reps.none _ _))))); intro v252 w28 ho29 hb hg_ hnew_; clear hg_ hnew_; (first | rw [← Ny251.out] at ho29 | (simp only [Int.reduceToNat] at ho29; rw [← Ny251.out] at ho29)); have n0_ := Aside0.mk (Kd.qr0 (by (with_reducible repeat (first | apply Kd.qe0 | apply Kd.qd0 | apply Kd.qf0)); exact HO_6.out) hb); have n1_ := Aside0.mk (Kd.qy0 ho29 (qh0 (by repeat (first | (with_reducible first | exact HB.out | apply qb0 | apply qa0 | apply qc0 | refine qg0 ?_ (IsS207.ge HI231.out)) | exact HB.out)))); have n2_ := Aside0.mk (IsS207.below (by repeat (first | (with_reducible first | exact HI231.out | apply IsS207.alloc | apply IsS207.drewN | apply IsS207.drew | apply IsS207.set_1 | apply IsS207.set_2) | exact HI231.out)) hb); have n3_ := Aside0.mk (qk0 (by repeat (first | (with_reducible first | exact HB.out | apply qb0 | apply qa0 | apply qc0 | refine qg0 ?_ (IsS207.ge HI231.out)) | exact HB.out)) hb); clear HO_6; clear HI231; clear HB; have HO_6 := n0_; have HO253 := n1_; have HI231 := n2_; have HB := n3_; clear n0_ n1_ n2_ n3_; clear hb ho29; obtain ⟨Ao30, co30, eo30⟩ := Kd.qz0 HO253.out; subst eo30) | ((with_reducible refine qj0 (f := 103) rfl ?_); refine qu0 (some 38) rfl rfl Try.func103 (by kernel_rfl) rfl #[.pointer (some ⟨g231, 0, none⟩), .slice Ao30 y251.length co30] rfl (by (try simp only [List.map_toArray, List.map_cons, List.map_nil]); first | done | rfl | (simp only [List.length_drop, List.length_take]; rfl)) ?_; (with_reducible refine (spec_l1PickInt.calls g231 t228 x232001_15 x232002_15 _ _ y251 t254 t255 t256 w _ ?side1 ?side2 ?side3 ?side4 ?side5 A24.out).mono ?_); (case side1 => repeat (first | (with_reducible first | exact HI231.out | apply IsS207.alloc | apply IsS207.drewN | apply IsS207.drew | apply IsS207.set_1 | apply IsS207.set_2) | exact HI231.out)); (case side2 => repeat (first | (with_reducible first | exact HB.out | apply qb0 | apply qa0 | apply qc0 | refine qg0 ?_ (IsS207.ge HI231.out)) | exact HB.out)); (case side3 => repeat (first | exact (Kd.qi0 HO253.out).2.2 | (with_reducible refine Kd.C_alloc ?_ _) | (with_reducible refine Kd.qb1 ?_ _) | (with_reducible refine Kd.qi1 ?_))); (case side4 => exact (Kd.qi0 HO253.out).2.1); (case side5 => exact far_slice (IsS207.own_ne HI231.out HO253.out (by decide))); rintro e w31 ⟨rfl, hi, hb, hk⟩; refine ⟨_, rfl, ?_⟩; have n0_ := Aside0.mk (Kd.qm0 (Kd.R_keep (IsS207.apart (show IsS207 w _ g231 t228 x232001_15 x232002_15 from by repeat (first | (with_reducible first | exact HI231.out | apply IsS207.alloc | apply IsS207.drewN | apply IsS207.drew | apply IsS207.set_1 | apply IsS207.set_2) | exact HI231.out)) (by (with_reducible repeat (first | apply Kd.qe0 | apply Kd.qd0 | apply Kd.qf0)); exact HO_6.out) (by decide)) hk (fun _ h => h.2)) (fun _ h => h.1)); have n1_ := Aside0.mk (Kd.qm0 (Kd.R_keep (IsS207.apart (show IsS207 w _ g231 t228 x232001_15 x232002_15 from by repeat (first | (with_reducible first | exact HI231.out | apply IsS207.alloc | apply IsS207.drewN | apply IsS207.drew | apply IsS207.set_1 | apply IsS207.set_2) | exact HI231.out)) (by (with_reducible repeat (first | apply Kd.qe0 | apply Kd.qd0 | apply Kd.qf0)); exact HO253.out) (by decide)) hk (fun _ h => h.2)) (fun _ h => h.1)); have n2_ := Aside0.mk (hb); have n3_ := Aside0.mk (hi); clear HO_6; clear HO253; clear HB; clear HI231; have HO_6 := n0_; have HO253 := n1_; have HB := n2_; have HI231 := n3_; clear n0_ n1_ n2_ n3_; (try clear hb); (try clear hb2); (try clear hk); (try clear hi)) | ((with_reducible refine qv0 (N := 40) rfl ?_); (try (refine qp0 (by rfl) ?_; dsimp only)); refine Kd.R_lit (Kd.int .i64) _ 3 ?hg (N := 40) ?hd (xs := ([(-1), 10000001, 100000000000, 0] : List Int)) (inner := [.int .i64 (-1), .int .i64 10000001, .int .i64 100000000000, .int .i64 0]) (ok := fun _ => True) (okp := fun _ => True) ?hr ?hp (fun _ hk => hk) trivial (Below.refl _ _) (Nat.le_refl _) (by simp) ?_; (case hd => rfl); (case hg => rfl); (case hr => first | (go_simp; done) | (go_simp; rfl)); (case hp => exact (Reps.one (show Kd.M (Kd.int .i64) _ _ _ (-1) [.int .i64 (-1)] from rfl) (Reps.one (show Kd.M (Kd.int .i64) _ _ _ 10000001 [.int .i64 10000001] from rfl) (Reps.one (show Kd.M (Kd.int .i64) _ _ _ 100000000000 [.int .i64 100000000000] from rfl) (Reps.one (show Kd.M (Kd.int .i64) _ _ _ 0 [.int .i64 0] from rfl) (Reps.none _ _)))))); intro v258 w32 ho33 hb hg_ hnew_; clear hg_ hnew_; (first | rw [← Ny257.out] at ho33 | (simp only [Int.reduceToNat] at ho33; rw [← Ny257.out] at ho33)); have n0_ := Aside0.mk (Kd.qr0 (by (with_reducible repeat (first | apply Kd.qe0 | apply Kd.qd0 | apply Kd.qf0)); exact HO_6.out) hb); have n1_ := Aside0.mk (Kd.qf1 (by (with_reducible repeat (first | apply Kd.qe0 | apply Kd.qd0 | apply Kd.qf0)); exact HO253.out) (Kd.qm1 ho33) hb); have n2_ := Aside0.mk (Kd.qy0 (Kd.ql1 ho33 (Kd.R_lt (by (with_reducible repeat (first | apply Kd.qe0 | apply Kd.qd0 | apply Kd.qf0)); exact HO253.out))) (qh0 (by repeat (first | (with_reducible first | exact HB.out | apply qb0 | apply qa0 | apply qc0 | refine qg0 ?_ (IsS207.ge HI231.out)) | exact HB.out)))); have n3_ := Aside0.mk (IsS207.below (by repeat (first | (with_reducible first | exact HI231.out | apply IsS207.alloc | apply IsS207.drewN | apply IsS207.drew | apply IsS207.set_1 | apply IsS207.set_2) | exact HI231.out)) hb); have n4_ := Aside0.mk (qk0 (by repeat (first | (with_reducible first | exact HB.out | apply qb0 | apply qa0 | apply qc0 | refine qg0 ?_ (IsS207.ge HI231.out)) | exact HB.out)) hb); clear HO_6; clear HO253; clear HI231; clear HB; have HO_6 := n0_; have HO253 := n1_; have HO259 := n2_; have HI231 := n3_; have HB := n4_; clear n0_ n1_ n2_ n3_ n4_; clear hb ho33; obtain ⟨Ao34, co34, eo34⟩ := Kd.qz0 HO259.out; subst eo34) | ((with_reducible refine qj0 (f := 103) rfl ?_); refine qu0 (some 41) rfl rfl Try.func103 (by kernel_rfl) rfl #[.pointer (some ⟨g231, 0, none⟩), .slice Ao34 y257.length co34] rfl (by (try simp only [List.map_toArray, List.map_cons, List.map_nil]); first | done | rfl | (simp only [List.length_drop, List.length_take]; rfl)) ?_; (with_reducible refine (spec_l1PickInt.calls g231 t228 t255 t256 _ _ y257 t260 t261 t262 w _ ?side1 ?side2 ?side3 ?side4 ?side5 A25.out).mono ?_); (case side1 => repeat (first | (with_reducible first | exact HI231.out | apply IsS207.alloc | apply IsS207.drewN | apply IsS207.drew | apply IsS207.set_1 | apply IsS207.set_2) | exact HI231.out)); (case side2 => repeat (first | (with_reducible first | exact HB.out | apply qb0 | apply qa0 | apply qc0 | refine qg0 ?_ (IsS207.ge HI231.out)) | exact HB.out)); (case side3 => repeat (first | exact (Kd.qi0 HO259.out).2.2 | (with_reducible refine Kd.C_alloc ?_ _) | (with_reducible refine Kd.qb1 ?_ _) | (with_reducible refine Kd.qi1 ?_))); (case side4 => exact (Kd.qi0 HO259.out).2.1); (case side5 => exact far_slice (IsS207.own_ne HI231.out HO259.out (by decide))); rintro e w35 ⟨rfl, hi, hb, hk⟩; refine ⟨_, rfl, ?_⟩; have n0_ := Aside0.mk (Kd.qm0 (Kd.R_keep (IsS207.apart (show IsS207 w _ g231 t228 t255 t256 from by repeat (first | (with_reducible first | exact HI231.out | apply IsS207.alloc | apply IsS207.drewN | apply IsS207.drew | apply IsS207.set_1 | apply IsS207.set_2) | exact HI231.out)) (by (with_reducible repeat (first | apply Kd.qe0 | apply Kd.qd0 | apply Kd.qf0)); exact HO_6.out) (by decide)) hk (fun _ h => h.2)) (fun _ h => h.1)); have n1_ := Aside0.mk (Kd.qm0 (Kd.R_keep (IsS207.apart (show IsS207 w _ g231 t228 t255 t256 from by repeat (first | (with_reducible first | exact HI231.out | apply IsS207.alloc | apply IsS207.drewN | apply IsS207.drew | apply IsS207.set_1 | apply IsS207.set_2) | exact HI231.out)) (by (with_reducible repeat (first | apply Kd.qe0 | apply Kd.qd0 | apply Kd.qf0)); exact HO253.out) (by decide)) hk (fun _ h => h.2)) (fun _ h => h.1)); have n2_ := Aside0.mk (Kd.qm0 (Kd.R_keep (IsS207.apart (show IsS207 w _ g231 t228 t255 t256 from by repeat (first | (with_reducible first | exact HI231.out | apply IsS207.alloc | apply IsS207.drewN | apply IsS207.drew | apply IsS207.set_1 | apply IsS207.set_2) | exact HI231.out)) (by (with_reducible repeat (first | apply Kd.qe0 | apply Kd.qd0 | apply Kd.qf0)); exact HO259.out) (by decide)) hk (fun _ h => h.2)) (fun _ h => h.1)); have n3_ := Aside0.mk (hb); have n4_ := Aside0.mk (hi); clear HO_6; clear HO253; clear HO259; clear HB; clear HI231; have HO_6 := n0_; have HO253 := n1_; have HO259 := n2_; have HB := n3_; have HI231 := n4_; clear n0_ n1_ n2_ n3_ n4_; (try clear hb); (try clear hb2); (try clear hk); (try clear hi); have p27 : 0 ≤ (0 : Int) := (by omega); have q27 : (0 : Int) < ((x6_1.length : Int) : Int) := of_decide_eq_true (by first | (with_reducible assumption) | assumption); have qi27 : (0 < x6_1.length) = True := eq_true (by omega); obtain ⟨go27, co27, eo27, gb27, gl27, cl27, HG27⟩ := Kd.R_form HO_6.out (by omega); (first | cases eo27 | (injection eo27 with ea_ en_ ec_; (first | subst ea_ | (injection ea_ with ea_; subst ea_)); subst ec_; clear en_)); have GB27 := Aside0.mk gb27; have GG27 := Aside0.mk HG27; clear gb27 gl27 HG27; obtain ⟨ce27, hcl27, hM27, hcc27, hfr27⟩ := Kd.R_elem HO_6.out z61 (0 : Int) p27 q27; obtain rfl := k61_openM hM27; have hx27_0 : w35.cell? ⟨go27, (0 : Int).toNat * 2, none⟩ = some (.int .i64 ((rd_T61 x6_1 0).f0)) := hcc27 0 _ rfl; have hx27_1 : w35.cell? ⟨go27, (0 : Int).toNat * 2 + 1, none⟩ = some (.int .i64 ((rd_T61 x6_1 0).f1)) := hcc27 1 _ rfl; have hf27_0 : w35.frozen? ⟨go27, (0 : Int).toNat * 2, none⟩ = false := hfr27 0; have hf27_1 : w35.frozen? ⟨go27, (0 : Int).toNat * 2 + 1, none⟩ = false := hfr27 1; clear hcl27 hcc27 hfr27 hM27; (try rw [show ((0 : Int)).toNat = 0 from rfl] at hx27_0); (try simp only [Nat.reduceMul, Nat.zero_mul, Nat.zero_add, Nat.reduceAdd] at hx27_0); (try rw [show ((0 : Int)).toNat = 0 from rfl] at hf27_0); (try simp only [Nat.reduceMul, Nat.zero_mul, Nat.zero_add, Nat.reduceAdd] at hf27_0); (try rw [show ((0 : Int)).toNat = 0 from rfl] at hx27_1); (try simp only [Nat.reduceMul, Nat.zero_mul, Nat.zero_add, Nat.reduceAdd] at hx27_1); (try rw [show ((0 : Int)).toNat = 0 from rfl] at hf27_1); (try simp only [Nat.reduceMul, Nat.zero_mul, Nat.zero_add, Nat.reduceAdd] at hf27_1); replace p27 := eq_true p27; replace q27 := eq_true q27; have HX36 := Aside0.mk (show Kd.R k61 61 w35 w.heap.size (fun _ => True) (.slice (some ⟨go27, 0, none⟩) x6_1.length co27) x6_1 from (by (with_reducible repeat (first | apply Kd.qe0 | apply Kd.qd0 | apply Kd.qf0)); exact HO_6.out)); obtain ⟨ce36, hcl36, hM36, hcc36, hfr36⟩ := Kd.R_elem HX36.out z61 (0 : Int) (by omega) (by have h_ : (0 : Int) < ((x6_1.length : Int) : Int) := of_decide_eq_true (by first | (with_reducible assumption) | assumption); first | exact h_ | (have e_ := (Kd.qi0 HO_6.out).1; omega) | simpa using h_); obtain rfl := k61_openM hM36; have HP36 := Kd.R_seg HX36.out (0 : Int) (by omega) (by have h_ : (0 : Int) < ((x6_1.length : Int) : Int) := of_decide_eq_true (by first | (with_reducible assumption) | assumption); first | exact h_ | (have e_ := (Kd.qi0 HO_6.out).1; omega) | simpa using h_) (seg := [.int .i64 t254, .int .i64 t260]) (j := 0) hcl36 hcc36 (show 2 ≤ 2 from by decide) (x' := (⟨t254, t260⟩ : S61)) (k61_mkM _ _ _ (⟨t254, t260⟩ : S61) ) (fun _ hk => hk); have hx36_0 := hcc36 0 _ rfl; (try simp only [show (k61).sz = 2 from rfl, Nat.mul_one, Nat.add_zero] at hx36_0); (try rw [show ((0 : Int)).toNat = 0 from rfl] at hx36_0); (try simp only [Nat.reduceMul, Nat.zero_mul, Nat.zero_add, Nat.reduceAdd] at hx36_0); have hf36_0 := hfr36 0; (try simp only [show (k61).sz = 2 from rfl, Nat.mul_one, Nat.add_zero] at hf36_0); (try rw [show ((0 : Int)).toNat = 0 from rfl] at hf36_0); (try simp only [Nat.reduceMul, Nat.zero_mul, Nat.zero_add, Nat.reduceAdd] at hf36_0); have hx36_1 := hcc36 1 _ rfl; (try simp only [show (k61).sz = 2 from rfl, Nat.mul_one, Nat.add_zero] at hx36_1); (try rw [show ((0 : Int)).toNat = 0 from rfl] at hx36_1); (try simp only [Nat.reduceMul, Nat.zero_mul, Nat.zero_add, Nat.reduceAdd] at hx36_1); have hf36_1 := hfr36 1; (try simp only [show (k61).sz = 2 from rfl, Nat.mul_one, Nat.add_zero] at hf36_1); (try rw [show ((0 : Int)).toNat = 0 from rfl] at hf36_1); (try simp only [Nat.reduceMul, Nat.zero_mul, Nat.zero_add, Nat.reduceAdd] at hf36_1); clear hcl36 hcc36 hfr36 hM36) | ((with_reducible refine gate_store (t := 61) (p := 43) rfl ?_); refine store_event (t := 61) (p := 43) (v := ?vo_w37) (w1 := ((w35.setCell ⟨go27, 0, none⟩ (.int .i64 t254)).setCell ⟨go27, 1, none⟩ (.int .i64 t260))) ?hg ?ho ?hn ?hr ?_; (case ho => rfl); (case hg => rfl); (case hn => rfl); (case hr => first | (go_simp; done) | (go_simp; rfl)); intro w37 hw; have hg : w35.grownBy w37 (some go27) := (by rw [hw]; exact HP36.2); have hp_ : Kd.R k61 61 w37 w.heap.size (fun _ => True) (.slice (some ⟨go27, 0, none⟩) x6_1.length co27) y263 := (by rw [hw, Ny263.out]; exact HP36.1); clear HP36; have n0_ := Aside0.mk (hp_); have n1_ := Aside0.mk (IsS207.grown (by repeat (first | (with_reducible first | exact HI231.out | apply IsS207.alloc | apply IsS207.drewN | apply IsS207.drew | apply IsS207.set_1 | apply IsS207.set_2) | exact HI231.out)) hg (IsS207.own_ne HI231.out HO_6.out (by decide))); have n2_ := Aside0.mk (Kd.R_over' (v := (.slice (some ⟨go27, 0, none⟩) x6_1.length co27)) (by (with_reducible repeat (first | apply Kd.qe0 | apply Kd.qd0 | apply Kd.qf0)); exact HO253.out) (Kd.R_typed HO_6.out) (by decide) hg); have n3_ := Aside0.mk (Kd.R_over' (v := (.slice (some ⟨go27, 0, none⟩) x6_1.length co27)) (by (with_reducible repeat (first | apply Kd.qe0 | apply Kd.qd0 | apply Kd.qf0)); exact HO259.out) (Kd.R_typed HO_6.out) (by decide) hg); have n4_ := Aside0.mk ((by rw [hw]; exact qg0 (qg0 (HB.out) GB27.out) GB27.out : Below w.heap.size w w37)); clear HO_6; clear HI231; clear HO253; clear HO259; clear HB; have HO_6 := n0_; have HI231 := n1_; have HO253 := n2_; have HO259 := n3_; have HB := n4_; clear n0_ n1_ n2_ n3_ n4_; clear hg hw hp_))
       go_meet
       case rel => exact ⟨_, (y263), (t261), (t262), H', ⟨by have := HK1.out; have := HJ15.out; first | omega | exact Nat.le_refl _⟩, ⟨by (with_reducible repeat (first | apply Kd.qe0 | apply Kd.qd0 | apply Kd.qf0)); exact HO_6.out⟩, ⟨by repeat (first | (with_reducible first | exact HI231.out | apply IsS207.alloc | apply IsS207.drewN | apply IsS207.drew | apply IsS207.set_1 | apply IsS207.set_2) | exact HI231.out)⟩, ⟨by repeat (first | (with_reducible first | exact HB.out | apply qb0 | apply qa0 | apply qc0 | refine qg0 ?_ (IsS207.ge HI231.out)) | exact HB.out)⟩⟩
      replace c23 := Bool.eq_false_iff.mpr c23
      subst c23
      have H1 : (spec_DrawLanded.j2 kj15 x6_1 t228 x232001_15 x232002_15) = some (r1, r2, r3) := by rw [if_neg (show ¬ (false = true) by decide)] at H; exact H
      clear H
      have H := H1
      clear H1
      have H' := Aside0.mk H
      clear H
      go_wp2
      go_meet
      case rel => exact ⟨_, (x6_1), (x232001_15), (x232002_15), H', ⟨by have := HK1.out; have := HJ15.out; first | omega | exact Nat.le_refl _⟩, ⟨by (with_reducible repeat (first | apply Kd.qe0 | apply Kd.qd0 | apply Kd.qf0)); exact HO_6.out⟩, ⟨by repeat (first | (with_reducible first | exact HI231.out | apply IsS207.alloc | apply IsS207.drewN | apply IsS207.drew | apply IsS207.set_1 | apply IsS207.set_2) | exact HI231.out)⟩, ⟨by repeat (first | (with_reducible first | exact HB.out | apply qb0 | apply qa0 | apply qc0 | refine qg0 ?_ (IsS207.ge HI231.out)) | exact HB.out)⟩⟩
     case rest =>
      clear HC22
      try clear c1
      try clear c2
      try clear p2
      try clear q2
      try clear hx2
      try clear qi2
      try clear hf2
      try clear c3
      try clear hx3
      try clear hf3
      try clear c4
      try clear p6
      try clear c8
      try clear c9
      try clear c9b0
      try clear c10
      try clear c12
      try clear c18
      try clear c23
      try clear c26
      try clear c26b0
      try clear c26b1
      try clear c27
      try clear p27
      try clear q27
      try clear hx27
      try clear qi27
      try clear hf27
      try clear c36
      try clear hx36
      try clear hf36
      try clear hx27_0
      try clear hx27_1
      try clear hx36_0
      try clear hx36_1
      try clear p2
      try clear p27
      try clear p6
      try clear q27
      obtain ⟨kq, x6_21, x232001_21, x232002_21, HA, HJ21, HO_6, HI231, HB⟩ := hcut
      cases kq with
      | zero => exact absurd HA.out (by simp [spec_DrawLanded.j2])
      | succ kj21 =>
       have H := HA.out
       clear HA
       simp only [spec_DrawLanded.j2] at H
       replace H := Option.bind_eq_some_iff.mp H
       obtain ⟨⟨t264, t265, t266⟩, A380, H⟩ := H
       replace H : ((spec_l1Spoil.f t228 t265 t266 t264 (([(-1), 100000000000, 100000000001] : List Int))).bind fun bt270 => ((spec_l1Below.f t228 bt270.2.1 bt270.2.2 3).bind fun bt273 => ((spec_l1Spoil.f t228 bt273.2.1 bt273.2.2 (wrap64 (1 + bt273.1)) (([0, 4] : List Int))).bind fun bt279 => (some (x6_21, bt270.1, bt279.1))))) = some (r1, r2, r3) := H
       have A38 := Aside0.mk A380
       clear A380
       obtain ⟨y267, hy267⟩ : ∃ y_ : List Int, y_ = (([(-1), 100000000000, 100000000001] : List Int)) := ⟨_, rfl⟩
       replace H : ((spec_l1Spoil.f t228 t265 t266 t264 y267).bind fun bt270 => ((spec_l1Below.f t228 bt270.2.1 bt270.2.2 3).bind fun bt273 => ((spec_l1Spoil.f t228 bt273.2.1 bt273.2.2 (wrap64 (1 + bt273.1)) (([0, 4] : List Int))).bind fun bt279 => (some (x6_21, bt270.1, bt279.1))))) = some (r1, r2, r3) := by first | (rw [hy267]; with_reducible exact H) | (have H2_ := (Option.bind_some _ _).symm.trans H; rw [hy267]; with_reducible exact H2_) | (have H2_ := (Option.bind_some _ _).symm.trans H; with_reducible exact H2_) | with_reducible exact H | (rw [hy267]; exact H) | exact H
       have Ny267 := Aside0.mk hy267
       clear hy267
       replace H := Option.bind_eq_some_iff.mp H
       obtain ⟨⟨t270, t271, t272⟩, A390, H⟩ := H
       replace H : ((spec_l1Below.f t228 t271 t272 3).bind fun bt273 => ((spec_l1Spoil.f t228 bt273.2.1 bt273.2.2 (wrap64 (1 + bt273.1)) (([0, 4] : List Int))).bind fun bt279 => (some (x6_21, t270, bt279.1)))) = some (r1, r2, r3) := H
       have A39 := Aside0.mk A390
       clear A390
       replace H := Option.bind_eq_some_iff.mp H
       obtain ⟨⟨t273, t274, t275⟩, A400, H⟩ := H
       replace H : ((spec_l1Spoil.f t228 t274 t275 (wrap64 (1 + t273)) (([0, 4] : List Int))).bind fun bt279 => (some (x6_21, t270, bt279.1))) = some (r1, r2, r3) := H
       have A40 := Aside0.mk A400
       clear A400
       obtain ⟨y276, hy276⟩ : ∃ y_ : List Int, y_ = (([0, 4] : List Int)) := ⟨_, rfl⟩
       replace H : ((spec_l1Spoil.f t228 t274 t275 (wrap64 (1 + t273)) y276).bind fun bt279 => (some (x6_21, t270, bt279.1))) = some (r1, r2, r3) := by first | (rw [hy276]; with_reducible exact H) | (have H2_ := (Option.bind_some _ _).symm.trans H; rw [hy276]; with_reducible exact H2_) | (have H2_ := (Option.bind_some _ _).symm.trans H; with_reducible exact H2_) | with_reducible exact H | (rw [hy276]; exact H) | exact H
       have Ny276 := Aside0.mk hy276
       clear hy276
       replace H := Option.bind_eq_some_iff.mp H
       obtain ⟨⟨t279, t280, t281⟩, A410, H⟩ := H
       replace H : (some (x6_21, t270, t279)) = some (r1, r2, r3) := H
       have A41 := Aside0.mk A410
       clear A410
       simp only [Option.some.injEq, Prod.mk.injEq] at H
       obtain ⟨rfl, rfl, rfl⟩ := H
       go_wp2_with (first | ((with_reducible refine qj0 (f := 84) rfl ?_); refine qu0 (some 47) rfl rfl Try.func84 (by kernel_rfl) rfl #[.pointer (some ⟨g231, 0, none⟩), .int .i64 3000] rfl (by (try simp only [List.map_toArray, List.map_cons, List.map_nil]); first | done | rfl | (simp only [List.length_drop, List.length_take]; rfl)) ?_; (with_reducible refine (spec_l1Below.calls g231 t228 x232001_21 x232002_21 3000 t264 t265 t266 w _ ?side1 ?side2 A38.out).mono ?_); (case side1 => repeat (first | (with_reducible first | exact HI231.out | apply IsS207.alloc | apply IsS207.drewN | apply IsS207.drew | apply IsS207.set_1 | apply IsS207.set_2) | exact HI231.out)); (case side2 => repeat (first | (with_reducible first | exact HB.out | apply qb0 | apply qa0 | apply qc0 | refine qg0 ?_ (IsS207.ge HI231.out)) | exact HB.out)); rintro e w42 ⟨rfl, hi, hb, hk⟩; refine ⟨_, rfl, ?_⟩; have n0_ := Aside0.mk (Kd.qm0 (Kd.R_keep (IsS207.apart (show IsS207 w _ g231 t228 x232001_21 x232002_21 from by repeat (first | (with_reducible first | exact HI231.out | apply IsS207.alloc | apply IsS207.drewN | apply IsS207.drew | apply IsS207.set_1 | apply IsS207.set_2) | exact HI231.out)) (by (with_reducible repeat (first | apply Kd.qe0 | apply Kd.qd0 | apply Kd.qf0)); exact HO_6.out) (by decide)) hk (fun _ h => h.2)) (fun _ h => h.1)); have n1_ := Aside0.mk (hb); have n2_ := Aside0.mk (hi); clear HO_6; clear HB; clear HI231; have HO_6 := n0_; have HB := n1_; have HI231 := n2_; clear n0_ n1_ n2_; (try clear hb); (try clear hb2); (try clear hk); (try clear hi)) | ((with_reducible refine qv0 (N := 48) rfl ?_); (try (refine qp0 (by rfl) ?_; dsimp only)); refine Kd.R_lit (Kd.int .i64) _ 3 ?hg (N := 48) ?hd (xs := ([(-1), 100000000000, 100000000001] : List Int)) (inner := [.int .i64 (-1), .int .i64 100000000000, .int .i64 100000000001]) (ok := fun _ => True) (okp := fun _ => True) ?hr ?hp (fun _ hk => hk) trivial (Below.refl _ _) (Nat.le_refl _) (by simp) ?_; (case hd => rfl); (case hg => rfl); (case hr => first | (go_simp; done) | (go_simp; rfl)); (case hp => exact (Reps.one (show Kd.M (Kd.int .i64) _ _ _ (-1) [.int .i64 (-1)] from rfl) (Reps.one (show Kd.M (Kd.int .i64) _ _ _ 100000000000 [.int .i64 100000000000] from rfl) (Reps.one (show Kd.M (Kd.int .i64) _ _ _ 100000000001 [.int .i64 100000000001] from rfl) (Reps.none _ _))))); intro v268 w43 ho44 hb hg_ hnew_; clear hg_ hnew_; (first | rw [← Ny267.out] at ho44 | (simp only [Int.reduceToNat] at ho44; rw [← Ny267.out] at ho44)); have n0_ := Aside0.mk (Kd.qr0 (by (with_reducible repeat (first | apply Kd.qe0 | apply Kd.qd0 | apply Kd.qf0)); exact HO_6.out) hb); have n1_ := Aside0.mk (Kd.qy0 ho44 (qh0 (by repeat (first | (with_reducible first | exact HB.out | apply qb0 | apply qa0 | apply qc0 | refine qg0 ?_ (IsS207.ge HI231.out)) | exact HB.out)))); have n2_ := Aside0.mk (IsS207.below (by repeat (first | (with_reducible first | exact HI231.out | apply IsS207.alloc | apply IsS207.drewN | apply IsS207.drew | apply IsS207.set_1 | apply IsS207.set_2) | exact HI231.out)) hb); have n3_ := Aside0.mk (qk0 (by repeat (first | (with_reducible first | exact HB.out | apply qb0 | apply qa0 | apply qc0 | refine qg0 ?_ (IsS207.ge HI231.out)) | exact HB.out)) hb); clear HO_6; clear HI231; clear HB; have HO_6 := n0_; have HO269 := n1_; have HI231 := n2_; have HB := n3_; clear n0_ n1_ n2_ n3_; clear hb ho44; obtain ⟨Ao45, co45, eo45⟩ := Kd.qz0 HO269.out; subst eo45) | ((with_reducible refine qj0 (f := 119) rfl ?_); refine qu0 (some 49) rfl rfl Try.func119 (by kernel_rfl) rfl #[.pointer (some ⟨g231, 0, none⟩), .int .i64 t264, .slice Ao45 y267.length co45] rfl (by (try simp only [List.map_toArray, List.map_cons, List.map_nil]); first | done | rfl | (simp only [List.length_drop, List.length_take]; rfl)) ?_; (with_reducible refine (spec_l1Spoil.calls g231 t228 t265 t266 t264 _ _ y267 t270 t271 t272 w _ ?side1 ?side2 ?side3 ?side4 ?side5 A39.out).mono ?_); (case side1 => repeat (first | (with_reducible first | exact HI231.out | apply IsS207.alloc | apply IsS207.drewN | apply IsS207.drew | apply IsS207.set_1 | apply IsS207.set_2) | exact HI231.out)); (case side2 => repeat (first | (with_reducible first | exact HB.out | apply qb0 | apply qa0 | apply qc0 | refine qg0 ?_ (IsS207.ge HI231.out)) | exact HB.out)); (case side3 => repeat (first | exact (Kd.qi0 HO269.out).2.2 | (with_reducible refine Kd.C_alloc ?_ _) | (with_reducible refine Kd.qb1 ?_ _) | (with_reducible refine Kd.qi1 ?_))); (case side4 => exact (Kd.qi0 HO269.out).2.1); (case side5 => exact far_slice (IsS207.own_ne HI231.out HO269.out (by decide))); rintro e w46 ⟨rfl, hi, hb, hk⟩; refine ⟨_, rfl, ?_⟩; have n0_ := Aside0.mk (Kd.qm0 (Kd.R_keep (IsS207.apart (show IsS207 w _ g231 t228 t265 t266 from by repeat (first | (with_reducible first | exact HI231.out | apply IsS207.alloc | apply IsS207.drewN | apply IsS207.drew | apply IsS207.set_1 | apply IsS207.set_2) | exact HI231.out)) (by (with_reducible repeat (first | apply Kd.qe0 | apply Kd.qd0 | apply Kd.qf0)); exact HO_6.out) (by decide)) hk (fun _ h => h.2)) (fun _ h => h.1)); have n1_ := Aside0.mk (Kd.qm0 (Kd.R_keep (IsS207.apart (show IsS207 w _ g231 t228 t265 t266 from by repeat (first | (with_reducible first | exact HI231.out | apply IsS207.alloc | apply IsS207.drewN | apply IsS207.drew | apply IsS207.set_1 | apply IsS207.set_2) | exact HI231.out)) (by (with_reducible repeat (first | apply Kd.qe0 | apply Kd.qd0 | apply Kd.qf0)); exact HO269.out) (by decide)) hk (fun _ h => h.2)) (fun _ h => h.1)); have n2_ := Aside0.mk (hb); have n3_ := Aside0.mk (hi); clear HO_6; clear HO269; clear HB; clear HI231; have HO_6 := n0_; have HO269 := n1_; have HB := n2_; have HI231 := n3_; clear n0_ n1_ n2_ n3_; (try clear hb); (try clear hb2); (try clear hk); (try clear hi)) | ((with_reducible refine qj0 (f := 84) rfl ?_); refine qu0 (some 52) rfl rfl Try.func84 (by kernel_rfl) rfl #[.pointer (some ⟨g231, 0, none⟩), .int .i64 3] rfl (by (try simp only [List.map_toArray, List.map_cons, List.map_nil]); first | done | rfl | (simp only [List.length_drop, List.length_take]; rfl)) ?_; (with_reducible refine (spec_l1Below.calls g231 t228 t271 t272 3 t273 t274 t275 w _ ?side1 ?side2 A40.out).mono ?_); (case side1 => repeat (first | (with_reducible first | exact HI231.out | apply IsS207.alloc | apply IsS207.drewN | apply IsS207.drew | apply IsS207.set_1 | apply IsS207.set_2) | exact HI231.out)); (case side2 => repeat (first | (with_reducible first | exact HB.out | apply qb0 | apply qa0 | apply qc0 | refine qg0 ?_ (IsS207.ge HI231.out)) | exact HB.out)); rintro e w47 ⟨rfl, hi, hb, hk⟩; refine ⟨_, rfl, ?_⟩; have n0_ := Aside0.mk (Kd.qm0 (Kd.R_keep (IsS207.apart (show IsS207 w _ g231 t228 t271 t272 from by repeat (first | (with_reducible first | exact HI231.out | apply IsS207.alloc | apply IsS207.drewN | apply IsS207.drew | apply IsS207.set_1 | apply IsS207.set_2) | exact HI231.out)) (by (with_reducible repeat (first | apply Kd.qe0 | apply Kd.qd0 | apply Kd.qf0)); exact HO_6.out) (by decide)) hk (fun _ h => h.2)) (fun _ h => h.1)); have n1_ := Aside0.mk (Kd.qm0 (Kd.R_keep (IsS207.apart (show IsS207 w _ g231 t228 t271 t272 from by repeat (first | (with_reducible first | exact HI231.out | apply IsS207.alloc | apply IsS207.drewN | apply IsS207.drew | apply IsS207.set_1 | apply IsS207.set_2) | exact HI231.out)) (by (with_reducible repeat (first | apply Kd.qe0 | apply Kd.qd0 | apply Kd.qf0)); exact HO269.out) (by decide)) hk (fun _ h => h.2)) (fun _ h => h.1)); have n2_ := Aside0.mk (hb); have n3_ := Aside0.mk (hi); clear HO_6; clear HO269; clear HB; clear HI231; have HO_6 := n0_; have HO269 := n1_; have HB := n2_; have HI231 := n3_; clear n0_ n1_ n2_ n3_; (try clear hb); (try clear hb2); (try clear hk); (try clear hi)) | ((with_reducible refine qv0 (N := 54) rfl ?_); (try (refine qp0 (by rfl) ?_; dsimp only)); refine Kd.R_lit (Kd.int .i64) _ 3 ?hg (N := 54) ?hd (xs := ([0, 4] : List Int)) (inner := [.int .i64 0, .int .i64 4]) (ok := fun _ => True) (okp := fun _ => True) ?hr ?hp (fun _ hk => hk) trivial (Below.refl _ _) (Nat.le_refl _) (by simp) ?_; (case hd => rfl); (case hg => rfl); (case hr => first | (go_simp; done) | (go_simp; rfl)); (case hp => exact (Reps.one (show Kd.M (Kd.int .i64) _ _ _ 0 [.int .i64 0] from rfl) (Reps.one (show Kd.M (Kd.int .i64) _ _ _ 4 [.int .i64 4] from rfl) (Reps.none _ _)))); intro v277 w48 ho49 hb hg_ hnew_; clear hg_ hnew_; (first | rw [← Ny276.out] at ho49 | (simp only [Int.reduceToNat] at ho49; rw [← Ny276.out] at ho49)); have n0_ := Aside0.mk (Kd.qr0 (by (with_reducible repeat (first | apply Kd.qe0 | apply Kd.qd0 | apply Kd.qf0)); exact HO_6.out) hb); have n1_ := Aside0.mk (Kd.qf1 (by (with_reducible repeat (first | apply Kd.qe0 | apply Kd.qd0 | apply Kd.qf0)); exact HO269.out) (Kd.qm1 ho49) hb); have n2_ := Aside0.mk (Kd.qy0 (Kd.ql1 ho49 (Kd.R_lt (by (with_reducible repeat (first | apply Kd.qe0 | apply Kd.qd0 | apply Kd.qf0)); exact HO269.out))) (qh0 (by repeat (first | (with_reducible first | exact HB.out | apply qb0 | apply qa0 | apply qc0 | refine qg0 ?_ (IsS207.ge HI231.out)) | exact HB.out)))); have n3_ := Aside0.mk (IsS207.below (by repeat (first | (with_reducible first | exact HI231.out | apply IsS207.alloc | apply IsS207.drewN | apply IsS207.drew | apply IsS207.set_1 | apply IsS207.set_2) | exact HI231.out)) hb); have n4_ := Aside0.mk (qk0 (by repeat (first | (with_reducible first | exact HB.out | apply qb0 | apply qa0 | apply qc0 | refine qg0 ?_ (IsS207.ge HI231.out)) | exact HB.out)) hb); clear HO_6; clear HO269; clear HI231; clear HB; have HO_6 := n0_; have HO269 := n1_; have HO278 := n2_; have HI231 := n3_; have HB := n4_; clear n0_ n1_ n2_ n3_ n4_; clear hb ho49; obtain ⟨Ao50, co50, eo50⟩ := Kd.qz0 HO278.out; subst eo50) | ((with_reducible refine qj0 (f := 119) rfl ?_); refine qu0 (some 55) rfl rfl Try.func119 (by kernel_rfl) rfl #[.pointer (some ⟨g231, 0, none⟩), .int .i64 (wrap64 (1 + t273)), .slice Ao50 y276.length co50] rfl (by (try simp only [List.map_toArray, List.map_cons, List.map_nil]); first | done | rfl | (simp only [List.length_drop, List.length_take]; rfl)) ?_; (with_reducible refine (spec_l1Spoil.calls g231 t228 t274 t275 (wrap64 (1 + t273)) _ _ y276 t279 t280 t281 w _ ?side1 ?side2 ?side3 ?side4 ?side5 A41.out).mono ?_); (case side1 => repeat (first | (with_reducible first | exact HI231.out | apply IsS207.alloc | apply IsS207.drewN | apply IsS207.drew | apply IsS207.set_1 | apply IsS207.set_2) | exact HI231.out)); (case side2 => repeat (first | (with_reducible first | exact HB.out | apply qb0 | apply qa0 | apply qc0 | refine qg0 ?_ (IsS207.ge HI231.out)) | exact HB.out)); (case side3 => repeat (first | exact (Kd.qi0 HO278.out).2.2 | (with_reducible refine Kd.C_alloc ?_ _) | (with_reducible refine Kd.qb1 ?_ _) | (with_reducible refine Kd.qi1 ?_))); (case side4 => exact (Kd.qi0 HO278.out).2.1); (case side5 => exact far_slice (IsS207.own_ne HI231.out HO278.out (by decide))); rintro e w51 ⟨rfl, hi, hb, hk⟩; refine ⟨_, rfl, ?_⟩; have n0_ := Aside0.mk (Kd.qm0 (Kd.R_keep (IsS207.apart (show IsS207 w _ g231 t228 t274 t275 from by repeat (first | (with_reducible first | exact HI231.out | apply IsS207.alloc | apply IsS207.drewN | apply IsS207.drew | apply IsS207.set_1 | apply IsS207.set_2) | exact HI231.out)) (by (with_reducible repeat (first | apply Kd.qe0 | apply Kd.qd0 | apply Kd.qf0)); exact HO_6.out) (by decide)) hk (fun _ h => h.2)) (fun _ h => h.1)); have n1_ := Aside0.mk (Kd.qm0 (Kd.R_keep (IsS207.apart (show IsS207 w _ g231 t228 t274 t275 from by repeat (first | (with_reducible first | exact HI231.out | apply IsS207.alloc | apply IsS207.drewN | apply IsS207.drew | apply IsS207.set_1 | apply IsS207.set_2) | exact HI231.out)) (by (with_reducible repeat (first | apply Kd.qe0 | apply Kd.qd0 | apply Kd.qf0)); exact HO269.out) (by decide)) hk (fun _ h => h.2)) (fun _ h => h.1)); have n2_ := Aside0.mk (Kd.qm0 (Kd.R_keep (IsS207.apart (show IsS207 w _ g231 t228 t274 t275 from by repeat (first | (with_reducible first | exact HI231.out | apply IsS207.alloc | apply IsS207.drewN | apply IsS207.drew | apply IsS207.set_1 | apply IsS207.set_2) | exact HI231.out)) (by (with_reducible repeat (first | apply Kd.qe0 | apply Kd.qd0 | apply Kd.qf0)); exact HO278.out) (by decide)) hk (fun _ h => h.2)) (fun _ h => h.1)); have n3_ := Aside0.mk (hb); have n4_ := Aside0.mk (hi); clear HO_6; clear HO269; clear HO278; clear HB; clear HI231; have HO_6 := n0_; have HO269 := n1_; have HO278 := n2_; have HB := n3_; have HI231 := n4_; clear n0_ n1_ n2_ n3_ n4_; (try clear hb); (try clear hb2); (try clear hk); (try clear hi)))
       go_ret3
       exact ⟨_, by first | rfl | (simp [errW_none, errW_some] <;> rfl) | (simp [*, errW_none, errW_some] <;> rfl), by (with_reducible repeat (first | apply Kd.qe0 | apply Kd.qd0 | apply Kd.qf0)); exact HO_6.out, by repeat (first | (with_reducible first | exact HB.out | apply qb0 | apply qa0 | apply qc0 | refine qg0 ?_ (IsS207.ge HI231.out)) | exact HB.out)⟩

/-! ### spec_l1In: function 90 -/
def spec_l1In.f (a0 : Int) (a1 : Int) (a2 : Int) : Option (Bool) := if a0 ≥ a1 then (some (decide (a0 ≤ a2))) else (some false)
set_option maxHeartbeats 8000000 in
set_option maxRecDepth 100000 in
theorem spec_l1In.calls (a0 : Int) (a1 : Int) (a2 : Int) (r : Bool) (w : World) (h : spec_l1In.f a0 a1 a2 = some r) :
  Calls Try.prog 90 #[.int .i64 a0, .int .i64 a1, .int .i64 a2] w fun e w' => e = .returned (.bool r) ∧ Drawn0 w w' := by
 have H : (if a0 ≥ a1 then (some (decide (a0 ≤ a2))) else (some false)) = some r := h
 clear h
 by_cases c4 : a0 ≥ a1
 ·rw [if_pos c4] at H
  have c4b0 : decide (a1 ≤ a0) = true := decide_eq_true c4
  clear c4
  obtain rfl := Option.some.inj H
  go_enter Try.func90, Try.ntmps90
  go_wp2
  go_ret
  exact ⟨by first | rfl | (simp; done) | (simp [*]; done), by repeat (first | exact Drawn0.refl _ | apply Drawn0.step)⟩
 rw [if_neg c4] at H
 have c4b0 : decide (a1 ≤ a0) = false := decide_eq_false c4
 clear c4
 obtain rfl := Option.some.inj H
 go_enter Try.func90, Try.ntmps90
 go_wp2
 go_ret
 exact ⟨by first | rfl | (simp; done) | (simp [*]; done), by repeat (first | exact Drawn0.refl _ | apply Drawn0.step)⟩

/-! ### spec_l1Amount: function 107 -/
def spec_l1Amount.f (a0 : Int) : Option (Bool) := (spec_l1In.f a0 (-100000000000) 100000000000).bind fun t282 => (some t282)
set_option maxHeartbeats 8000000 in
set_option maxRecDepth 100000 in
theorem spec_l1Amount.calls (a0 : Int) (r : Bool) (w : World) (h : spec_l1Amount.f a0 = some r) :
  Calls Try.prog 107 #[.int .i64 a0] w fun e w' => e = .returned (.bool r) ∧ Drawn0 w w' := by
 have H : ((spec_l1In.f a0 (-100000000000) 100000000000).bind fun t282 => (some t282)) = some r := h
 clear h
 replace H := Option.bind_eq_some_iff.mp H
 obtain ⟨t282, A20, H⟩ := H
 replace H : (some t282) = some r := H
 have A2 := Aside0.mk A20
 clear A20
 obtain rfl := Option.some.inj H
 go_enter Try.func107, Try.ntmps107
 go_wp2_with (first | ((with_reducible refine qj0 (f := 90) rfl ?_); refine qu0 (some 4) rfl rfl Try.func90 (by kernel_rfl) rfl #[.int .i64 a0, .int .i64 (-100000000000), .int .i64 100000000000] rfl (by (try simp only [List.map_toArray, List.map_cons, List.map_nil]); first | done | rfl | (simp only [List.length_drop, List.length_take]; rfl)) ?_; (with_reducible refine (spec_l1In.calls a0 (-100000000000) 100000000000 t282 _ A2.out).mono ?_); rintro e w' ⟨rfl, ⟨nd, rfl⟩⟩; refine ⟨_, rfl, ?_⟩))
 go_ret
 exact ⟨by first | rfl | (simp; done) | (simp [*]; done), by repeat (first | exact Drawn0.refl _ | apply Drawn0.step)⟩

/-! ### spec_l1Factor: function 108 -/
def spec_l1Factor.f (a0 : Int) : Option (Bool) := (spec_l1In.f a0 0 10000000).bind fun t283 => (some t283)
set_option maxHeartbeats 8000000 in
set_option maxRecDepth 100000 in
theorem spec_l1Factor.calls (a0 : Int) (r : Bool) (w : World) (h : spec_l1Factor.f a0 = some r) :
  Calls Try.prog 108 #[.int .i64 a0] w fun e w' => e = .returned (.bool r) ∧ Drawn0 w w' := by
 have H : ((spec_l1In.f a0 0 10000000).bind fun t283 => (some t283)) = some r := h
 clear h
 replace H := Option.bind_eq_some_iff.mp H
 obtain ⟨t283, A20, H⟩ := H
 replace H : (some t283) = some r := H
 have A2 := Aside0.mk A20
 clear A20
 obtain rfl := Option.some.inj H
 go_enter Try.func108, Try.ntmps108
 go_wp2_with (first | ((with_reducible refine qj0 (f := 90) rfl ?_); refine qu0 (some 4) rfl rfl Try.func90 (by kernel_rfl) rfl #[.int .i64 a0, .int .i64 0, .int .i64 10000000] rfl (by (try simp only [List.map_toArray, List.map_cons, List.map_nil]); first | done | rfl | (simp only [List.length_drop, List.length_take]; rfl)) ?_; (with_reducible refine (spec_l1In.calls a0 0 10000000 t283 _ A2.out).mono ?_); rintro e w' ⟨rfl, ⟨nd, rfl⟩⟩; refine ⟨_, rfl, ?_⟩))
 go_ret
 exact ⟨by first | rfl | (simp; done) | (simp [*]; done), by repeat (first | exact Drawn0.refl _ | apply Drawn0.step)⟩

end Go.Proofs.Ytlodndejipjceaa.PFnLanded
