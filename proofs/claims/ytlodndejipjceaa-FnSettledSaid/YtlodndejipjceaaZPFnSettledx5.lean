/- Lines by a program (a changed copy of the kit's print: this repo's wip/tools): Go functions as Lean functions, and proofs that the calls answer so. -/
import Derived.Test.YtlodndejipjceaaZPFnSettledx0
namespace Go.Proofs.Ytlodndejipjceaa.PFnSettled
open Go.RowKit Go.Proofs.YtlodndejipjceaaW.PrintWords Go.Proofs.YtlodndejipjceaaW.PrintLast Go.Proofs.YtlodndejipjceaaW.PrintMore
attribute [local go_sem] max2_int min2_int max_two min_two max_three min_three max_four min_four   -- for this text's walks alone
set_option linter.unusedVariables false
set_option linter.unusedSimpArgs false

/-- A state of type 207 at block g of W; what its slices lead to came in by w0. -/
def IsS207 (w0 W : World) (g : Nat) (f0 : List Int) (f1 : Int) (f2 : Int) : Prop := ∃ A0 c0, W.heap[g]? = some (.cells #[.slice A0 f0.length c0, .int .i64 f1, .int .i64 f2] 207 (0, 0)) ∧ w0.heap.size ≤ g ∧ Kd.C (Kd.int .u8) w0 A0 f0.length f0
theorem IsS207.grown {w0 W : World} {g : Nat} {f0 : List Int} {f1 : Int} {f2 : Int} {W1 : World} {row : Option Nat} (h : IsS207 w0 W g f0 f1 f2) (hw : W.grownBy W1 row) (hne : some g ≠ row) : IsS207 w0 W1 g f0 f1 f2 := by
 obtain ⟨A0, c0, hb, hg, hr0⟩ := h
 exact ⟨A0, c0, blk_grown hb hw hne, hg, hr0⟩
theorem IsS207.kept {w0 W : World} {g : Nat} {f0 : List Int} {f1 : Int} {f2 : Int} {W1 : World} {S : Nat → Prop} (h : IsS207 w0 W g f0 f1 f2) (hk : Kept W W1 S) (hne : ¬ S g) : IsS207 w0 W1 g f0 f1 f2 := by
 obtain ⟨A0, c0, hb, hg, hr0⟩ := h
 exact ⟨A0, c0, blk_kept hb hk hne, hg, hr0⟩
theorem IsS207.below {w0 W : World} {g : Nat} {f0 : List Int} {f1 : Int} {f2 : Int} {W1 : World} (h : IsS207 w0 W g f0 f1 f2) (hw : Below W.heap.size W W1) : IsS207 w0 W1 g f0 f1 f2 := h.grown (grown_of_below hw none) (by simp)
theorem IsS207.alloc {w0 W : World} {g : Nat} {f0 : List Int} {f1 : Int} {f2 : Int} (h : IsS207 w0 W g f0 f1 f2) (o : Obj) : IsS207 w0 (W.alloc o) g f0 f1 f2 := h.below (qc0 (Below.refl _ _) o)
theorem IsS207.drewN {w0 W : World} {g : Nat} {f0 : List Int} {f1 : Int} {f2 : Int} (h : IsS207 w0 W g f0 f1 f2) (m : Nat) : IsS207 w0 (W.drewN m) g f0 f1 f2 := h
theorem IsS207.drew {w0 W : World} {g : Nat} {f0 : List Int} {f1 : Int} {f2 : Int} (h : IsS207 w0 W g f0 f1 f2) : IsS207 w0 W.drew g f0 f1 f2 := h
theorem IsS207.at_ {w0 W : World} {g : Nat} {f0 : List Int} {f1 : Int} {f2 : Int} {w' : World} {m : Nat} (hq : W.drewN m = w') (h : IsS207 w0 W g f0 f1 f2) : IsS207 w0 w' g f0 f1 f2 := by subst hq; exact IsS207.drewN h m
theorem IsS207.apart {w0 W : World} {g : Nat} {f0 : List Int} {f1 : Int} {f2 : Int} {α : Type} {d : Kd α} {e : Nat} {base : Nat} {ok : Nat → Prop} {v : Value} {xs : List α} (h : IsS207 w0 W g f0 f1 f2) (ho : d.R e W base ok v xs) (ht : ∀ q, q ∈ e :: d.E → q ≠ 207) : d.R e W base (fun k => ok k ∧ k ≠ g) v xs := by
 obtain ⟨A0, c0, hb, hg, hr0⟩ := h
 exact Kd.qf1 ho hb ht
theorem IsS207.own_ne {w0 W : World} {g : Nat} {f0 : List Int} {f1 : Int} {f2 : Int} {α : Type} {d : Kd α} {e : Nat} {base : Nat} {ok : Nat → Prop} {v : Value} {xs : List α} (h : IsS207 w0 W g f0 f1 f2) (ho : d.R e W base ok v xs) (ht : e ≠ 207) : some g ≠ v.ownBlock := by
 obtain ⟨A0, c0, hb, hg, hr0⟩ := h
 exact Kd.R_ne ho hb ht
theorem IsS207.lt {w0 W : World} {g : Nat} {f0 : List Int} {f1 : Int} {f2 : Int} (h : IsS207 w0 W g f0 f1 f2) : g < W.heap.size := by
 obtain ⟨A0, c0, hb, hg, hr0⟩ := h
 exact blk_lt hb
theorem IsS207.ge {w0 W : World} {g : Nat} {f0 : List Int} {f1 : Int} {f2 : Int} (h : IsS207 w0 W g f0 f1 f2) : w0.heap.size ≤ g := by
 obtain ⟨A0, c0, hb, hg, hr0⟩ := h
 exact hg
theorem cellS207_0 {W : World} {g : Nat} {A0 : Option Addr} {c0 : Nat} {f0 : List Int} {f1 : Int} {f2 : Int} (h : W.heap[g]? = some (.cells #[.slice A0 f0.length c0, .int .i64 f1, .int .i64 f2] 207 (0, 0))) : W.cell? ⟨g, 0, none⟩ = some (.slice A0 f0.length c0) := (qu0 h 0).trans rfl
theorem cellS207_1 {W : World} {g : Nat} {A0 : Option Addr} {c0 : Nat} {f0 : List Int} {f1 : Int} {f2 : Int} (h : W.heap[g]? = some (.cells #[.slice A0 f0.length c0, .int .i64 f1, .int .i64 f2] 207 (0, 0))) : W.cell? ⟨g, 1, none⟩ = some (.int .i64 f1) := (qu0 h 1).trans rfl
theorem IsS207.set_1 {w0 W : World} {g : Nat} {f0 : List Int} {f1 : Int} {f2 : Int} (h : IsS207 w0 W g f0 f1 f2) (x : Int) : IsS207 w0 (W.setCell ⟨g, 1, none⟩ (.int .i64 x)) g f0 x f2 := by
 obtain ⟨A0, c0, hb, hg, hr0⟩ := h
 exact ⟨A0, c0, by simpa using blk_set hb 1 (.int .i64 x), hg, hr0⟩
theorem cellS207_2 {W : World} {g : Nat} {A0 : Option Addr} {c0 : Nat} {f0 : List Int} {f1 : Int} {f2 : Int} (h : W.heap[g]? = some (.cells #[.slice A0 f0.length c0, .int .i64 f1, .int .i64 f2] 207 (0, 0))) : W.cell? ⟨g, 2, none⟩ = some (.int .i64 f2) := (qu0 h 2).trans rfl
theorem IsS207.set_2 {w0 W : World} {g : Nat} {f0 : List Int} {f1 : Int} {f2 : Int} (h : IsS207 w0 W g f0 f1 f2) (x : Int) : IsS207 w0 (W.setCell ⟨g, 2, none⟩ (.int .i64 x)) g f0 f1 x := by
 obtain ⟨A0, c0, hb, hg, hr0⟩ := h
 exact ⟨A0, c0, by simpa using blk_set hb 2 (.int .i64 x), hg, hr0⟩
/-! ### spec_l1New: function 82 -/
def spec_l1New.l0 : Nat → List Int → Int → Int → Option (List Int × Int × Int)
 | 0, _, _, _ => none
 | k + 1, x0, x3, x4 => if x4 < (x0.length : Int) then (if x4 < 4000 then (if 0 ≤ x4 then (spec_l1New.l0 k x0 (Go.bits .and .i64 (wrap64 ((wrap64 ((wrap64 (x3 * 131)) + (wrap64 (rd x0 x4)))) + 7)) 1073741823) (wrap64 (x4 + 1))) else (none)) else (some (x0, 0, x3))) else (some (x0, 0, x3))
def spec_l1New.f (k : Nat) (l0 : List Int) : Option (List Int × Int × Int) := spec_l1New.l0 k l0 (wrap64 (71933 + (l0.length : Int))) 0
theorem spec_l1New.mono_l : ∀ k, (∀ y0 y1 y2, LeO (spec_l1New.l0 k y0 y1 y2) (spec_l1New.l0 (k + 1) y0 y1 y2))
 | 0 => fun _ _ _ r h => by simp [spec_l1New.l0] at h
 | k + 1 => by
  have ih0 := spec_l1New.mono_l k
  ·intro y0 y1 y2
   unfold spec_l1New.l0
   repeat' first
   | (with_reducible exact ih0 _ _ _)
   | (with_reducible exact LeO.refl _)
   | (with_reducible exact LeO.none _)
   | (with_reducible refine LeO.ite ?_ ?_)
   | (with_reducible refine LeO.bind ?_ (fun _ => ?_))
   | exact ih0 _ _ _
   | exact LeO.none _
   | refine LeO.ite ?_ ?_
   | refine LeO.bind ?_ (fun _ => ?_)
theorem spec_l1New.mono : ∀ a0 k, LeO (spec_l1New.f k a0) (spec_l1New.f (k + 1) a0) := by
 intro a0 k
 have ih0 := spec_l1New.mono_l k
 unfold spec_l1New.f
 repeat' first
   | (with_reducible exact ih0 _ _ _)
   | (with_reducible exact LeO.refl _)
   | (with_reducible exact LeO.none _)
   | (with_reducible refine LeO.ite ?_ ?_)
   | (with_reducible refine LeO.bind ?_ (fun _ => ?_))
   | exact ih0 _ _ _
   | exact LeO.none _
   | refine LeO.ite ?_ ?_
   | refine LeO.bind ?_ (fun _ => ?_)
set_option maxHeartbeats 8000000 in
set_option maxRecDepth 100000 in
theorem spec_l1New.calls (k : Nat) (A0 : Option Addr) (c0 : Nat) (l0 : List Int) (r1 : List Int) (r2 : Int) (r3 : Int) (w0 w : World) (hB : Below w0.heap.size w0 w) (hr0 : Kd.C (Kd.int .u8) w0 A0 l0.length l0) (hc0 : l0.length ≤ c0) (h : spec_l1New.f k l0 = some (r1, r2, r3)) :
  Calls Try.prog 82 #[.slice A0 l0.length c0] w fun e w' => ∃ g_ : Nat, e = .returned (.pointer (some ⟨g_, 0, none⟩)) ∧ IsS207 w0 w' g_ r1 r2 r3 ∧ Below w0.heap.size w0 w' ∧ Below w.heap.size w w' := by
 have hu207 := Try.underlying207
 have HR0 := Aside0.mk hr0
 have HC0 := Aside0.mk hc0
 clear hr0 hc0
 have HBW := Aside0.mk (Below.refl w.heap.size w)
 have HW0 := Aside0.mk hB.size
 have HB := Aside0.mk hB
 clear hB
 have H : (spec_l1New.l0 k l0 (wrap64 (71933 + (l0.length : Int))) 0) = some (r1, r2, r3) := h
 clear h
 have H' := Aside0.mk H
 clear H
 go_enter Try.func82, Try.ntmps82
 go_wp2
 go_loopg [3, 4] k (fun kq v3 v4 w' => ∃ (x3_1 : Int) (x4_1 : Int), v3 = .int .i64 x3_1 ∧ v4 = .int .i64 x4_1 ∧ Aside0 (spec_l1New.l0 kq l0 x3_1 x4_1 = some (r1, r2, r3)) ∧ Aside0 (kq ≤ k) ∧ Aside0 (Below w.heap.size w w') ∧ Aside0 (Below w0.heap.size w0 w'))
 case atStart => exact ⟨(wrap64 (71933 + (l0.length : Int))), (0), (by first | rfl | (simp; done) | (simp [*]; done)), (by first | rfl | (simp; done) | (simp [*]; done)), H', ⟨Nat.le_refl _⟩, ⟨by repeat (first | (with_reducible first | exact HBW.out | apply qc0 | apply qa0 | apply qb0) | exact HBW.out)⟩, ⟨by repeat (first | (with_reducible first | exact HB.out | apply qc0 | apply qa0 | apply qb0) | exact HB.out)⟩⟩
 case round =>
  clear H'
  obtain ⟨x3_1, x4_1, rfl, rfl, HA, HK1, HBW, HB⟩ := hrel
  cases gk with
  | zero => exact absurd HA.out (by simp [spec_l1New.l0])
  | succ k1 =>
   have H := HA.out
   clear HA
   simp only [spec_l1New.l0] at H
   by_cases c2 : x4_1 < (l0.length : Int)
   ·rw [if_pos c2] at H
    have c2b0 : decide (x4_1 < (l0.length : Int)) = true := decide_eq_true c2
    clear c2
    by_cases c3 : x4_1 < 4000
    ·rw [if_pos c3] at H
     have c3b0 : decide (x4_1 < 4000) = true := decide_eq_true c3
     clear c3
     by_cases c4 : 0 ≤ x4_1
     case neg => rw [if_neg c4] at H; exact absurd H (by simp)
     rw [if_pos c4] at H
     have c4b0 : decide (0 ≤ x4_1) = true := decide_eq_true c4
     clear c4
     have H' := Aside0.mk H
     clear H
     have p172 : 0 ≤ (x4_1 : Int) := of_decide_eq_true (by first | (with_reducible assumption) | assumption)
     have q172 : x4_1 < (l0.length : Int) := of_decide_eq_true (by first | (with_reducible assumption) | assumption)
     obtain ⟨ad172, e172, hx172_0⟩ := Kd.qh1 HR0.out x4_1 p172 q172
     cases e172
     replace hx172_0 := pw_cell_below HB.out hx172_0
     replace p172 := eq_true p172
     replace q172 := eq_true q172
     go_wp2
     go_roundg k1
     case measure => have := HK1.out; omega
     case rel => exact ⟨(Go.bits .and .i64 (wrap64 ((wrap64 ((wrap64 (x3_1 * 131)) + (wrap64 (rd l0 x4_1)))) + 7)) 1073741823), (wrap64 (x4_1 + 1)), (by first | rfl | (simp; done) | (simp [*]; done)), (by first | rfl | (simp; done) | (simp [*]; done)), H', ⟨by have := HK1.out; omega⟩, ⟨by repeat (first | (with_reducible first | exact HBW.out | apply qc0 | apply qa0 | apply qb0) | exact HBW.out)⟩, ⟨by repeat (first | (with_reducible first | exact HB.out | apply qc0 | apply qa0 | apply qb0) | exact HB.out)⟩⟩
    rw [if_neg c3] at H
    have c3b0 : decide (x4_1 < 4000) = false := decide_eq_false c3
    clear c3
    simp only [Option.some.injEq, Prod.mk.injEq] at H
    obtain ⟨rfl, rfl, rfl⟩ := H
    go_wp2_with (first | ((with_reducible refine qi1 (N := 31) rfl ?_); refine box_event ?hg (N := 31) ?hd (cs := #[.slice A0 l0.length c0, .int .i64 0, .int .i64 x3_1]) (t := 207) ?hr ?_; (case hd => rfl); (case hg => rfl); (case hr => first | (go_simp; done) | (go_simp; rfl)); intro gb173 hg w5 hbox hb; have n0_ := Aside0.mk (qq0 HBW.out hb); have n1_ := Aside0.mk (qq0 (by repeat (first | (with_reducible first | exact HB.out | apply qc0 | apply qa0 | apply qb0) | exact HB.out)) hb); have n2_ := Aside0.mk (hbox); have n3_ := Aside0.mk ((by rw [hg]; exact (ql0 (by repeat (first | (with_reducible first | exact HBW.out | apply qc0 | apply qa0 | apply qb0) | exact HBW.out))) : w.heap.size ≤ gb173)); have n4_ := Aside0.mk ((Nat.le_trans HW0.out (by rw [hg]; exact (ql0 (by repeat (first | (with_reducible first | exact HBW.out | apply qc0 | apply qa0 | apply qb0) | exact HBW.out))) : w.heap.size ≤ gb173) : w0.heap.size ≤ gb173)); clear HBW; clear HB; have HBW := n0_; have HB := n1_; have BK173 := n2_; have GW173 := n3_; have GE173 := n4_; clear n0_ n1_ n2_ n3_ n4_; clear hb hbox hg))
    go_ret
    exact ⟨_, rfl, (show IsS207 w0 _ gb173 l0 0 x3_1 from ⟨_, _, by (with_reducible repeat (first | refine qn0 ?_ _ | refine qp0 ?_ | refine qo0 ?_ _)); exact BK173.out, GE173.out, HR0.out⟩), by repeat (first | (with_reducible first | exact HB.out | apply qc0 | apply qa0 | apply qb0 | refine qh0 ?_ GE173.out) | exact HB.out), by repeat (first | (with_reducible first | exact HBW.out | apply qc0 | apply qa0 | apply qb0 | refine qh0 ?_ GW173.out) | exact HBW.out)⟩
   rw [if_neg c2] at H
   have c2b0 : decide (x4_1 < (l0.length : Int)) = false := decide_eq_false c2
   clear c2
   simp only [Option.some.injEq, Prod.mk.injEq] at H
   obtain ⟨rfl, rfl, rfl⟩ := H
   go_wp2_with (first | ((with_reducible refine qi1 (N := 31) rfl ?_); refine box_event ?hg (N := 31) ?hd (cs := #[.slice A0 l0.length c0, .int .i64 0, .int .i64 x3_1]) (t := 207) ?hr ?_; (case hd => rfl); (case hg => rfl); (case hr => first | (go_simp; done) | (go_simp; rfl)); intro gb174 hg w6 hbox hb; have n0_ := Aside0.mk (qq0 HBW.out hb); have n1_ := Aside0.mk (qq0 (by repeat (first | (with_reducible first | exact HB.out | apply qc0 | apply qa0 | apply qb0) | exact HB.out)) hb); have n2_ := Aside0.mk (hbox); have n3_ := Aside0.mk ((by rw [hg]; exact (ql0 (by repeat (first | (with_reducible first | exact HBW.out | apply qc0 | apply qa0 | apply qb0) | exact HBW.out))) : w.heap.size ≤ gb174)); have n4_ := Aside0.mk ((Nat.le_trans HW0.out (by rw [hg]; exact (ql0 (by repeat (first | (with_reducible first | exact HBW.out | apply qc0 | apply qa0 | apply qb0) | exact HBW.out))) : w.heap.size ≤ gb174) : w0.heap.size ≤ gb174)); clear HBW; clear HB; have HBW := n0_; have HB := n1_; have BK174 := n2_; have GW174 := n3_; have GE174 := n4_; clear n0_ n1_ n2_ n3_ n4_; clear hb hbox hg))
   go_ret
   exact ⟨_, rfl, (show IsS207 w0 _ gb174 l0 0 x3_1 from ⟨_, _, by (with_reducible repeat (first | refine qn0 ?_ _ | refine qp0 ?_ | refine qo0 ?_ _)); exact BK174.out, GE174.out, HR0.out⟩), by repeat (first | (with_reducible first | exact HB.out | apply qc0 | apply qa0 | apply qb0 | refine qh0 ?_ GE174.out) | exact HB.out), by repeat (first | (with_reducible first | exact HBW.out | apply qc0 | apply qa0 | apply qb0 | refine qh0 ?_ GW174.out) | exact HBW.out)⟩

/-! ### spec_l1Byte: function 167 -/
def spec_l1Byte.f (s0_0 : List Int) (s0_1 : Int) (s0_2 : Int) : Option (Int × Int × Int) := if s0_1 < (s0_0.length : Int) then (if 0 ≤ s0_1 then (some (Go.bits .and .i64 (wrap64 ((Go.bits .and .i64 (Go.bits .xor .i64 ((wrap64 ((wrap64 (s0_2 * 6364136223846793005)) + 1442695040888963407)) / 8589934592) ((wrap64 ((wrap64 (s0_2 * 6364136223846793005)) + 1442695040888963407)) / 35184372088832)) 255) + (wrap64 (rd s0_0 s0_1)))) 255, wrap64 (s0_1 + 1), wrap64 ((wrap64 (s0_2 * 6364136223846793005)) + 1442695040888963407))) else (none)) else (some (Go.bits .and .i64 (Go.bits .xor .i64 ((wrap64 ((wrap64 (s0_2 * 6364136223846793005)) + 1442695040888963407)) / 8589934592) ((wrap64 ((wrap64 (s0_2 * 6364136223846793005)) + 1442695040888963407)) / 35184372088832)) 255, s0_1, wrap64 ((wrap64 (s0_2 * 6364136223846793005)) + 1442695040888963407)))
set_option maxHeartbeats 8000000 in
set_option maxRecDepth 100000 in
theorem spec_l1Byte.calls (g : Nat) (s0_0 : List Int) (s0_1 : Int) (s0_2 : Int) (r1 : Int) (r2 : Int) (r3 : Int) (w0 w : World) (hI : IsS207 w0 w g s0_0 s0_1 s0_2) (hB : Below w0.heap.size w0 w) (h : spec_l1Byte.f s0_0 s0_1 s0_2 = some (r1, r2, r3)) :
  Calls Try.prog 167 #[.pointer (some ⟨g, 0, none⟩)] w fun e w' => e = .returned (.int .i64 r1) ∧ IsS207 w0 w' g s0_0 r2 r3 ∧ Below w0.heap.size w0 w' ∧ qk0 w w' g none := by
 have HI0 := Aside0.mk hI
 have HK := Aside0.mk (qk0.refl w g none)
 have HL := Aside0.mk hB.size
 clear hI
 have HW0 := Aside0.mk hB.size
 have HB := Aside0.mk hB
 clear hB
 have H : (if s0_1 < (s0_0.length : Int) then (if 0 ≤ s0_1 then (some (Go.bits .and .i64 (wrap64 ((Go.bits .and .i64 (Go.bits .xor .i64 ((wrap64 ((wrap64 (s0_2 * 6364136223846793005)) + 1442695040888963407)) / 8589934592) ((wrap64 ((wrap64 (s0_2 * 6364136223846793005)) + 1442695040888963407)) / 35184372088832)) 255) + (wrap64 (rd s0_0 s0_1)))) 255, wrap64 (s0_1 + 1), wrap64 ((wrap64 (s0_2 * 6364136223846793005)) + 1442695040888963407))) else (none)) else (some (Go.bits .and .i64 (Go.bits .xor .i64 ((wrap64 ((wrap64 (s0_2 * 6364136223846793005)) + 1442695040888963407)) / 8589934592) ((wrap64 ((wrap64 (s0_2 * 6364136223846793005)) + 1442695040888963407)) / 35184372088832)) 255, s0_1, wrap64 ((wrap64 (s0_2 * 6364136223846793005)) + 1442695040888963407)))) = some (r1, r2, r3) := h
 clear h
 by_cases c2 : s0_1 < (s0_0.length : Int)
 ·rw [if_pos c2] at H
  have c2b0 : decide (s0_1 < (s0_0.length : Int)) = true := decide_eq_true c2
  clear c2
  by_cases c3 : 0 ≤ s0_1
  case neg => rw [if_neg c3] at H; exact absurd H (by simp)
  rw [if_pos c3] at H
  have c3b0 : decide (0 ≤ s0_1) = true := decide_eq_true c3
  clear c3
  simp only [Option.some.injEq, Prod.mk.injEq] at H
  obtain ⟨rfl, rfl, rfl⟩ := H
  obtain ⟨ASz4_0, cSz4_0, HGz4, hgz4, HSz4_0⟩ := HI0.out
  have hcz4_0 := cellS207_0 HGz4
  have hcz4_1 := cellS207_1 HGz4
  have hcz4_2 := cellS207_2 HGz4
  have hfz4_1 := qt0 HGz4 1
  have hfz4_2 := qt0 HGz4 2
  clear HGz4 hgz4
  have p175 : 0 ≤ (s0_1 : Int) := of_decide_eq_true (by first | (with_reducible assumption) | assumption)
  have q175 : s0_1 < (s0_0.length : Int) := of_decide_eq_true (by first | (with_reducible assumption) | assumption)
  obtain ⟨ad175, e175, hx175_0⟩ := Kd.qh1 HSz4_0 s0_1 p175 q175
  cases e175
  have hn175_0 : ad175.block ≠ g := Nat.ne_of_lt (Nat.lt_of_lt_of_le (by have := World.block_lt_of_cell? _ _ hx175_0; first | rwa [add_block] at this | exact this) (IsS207.ge HI0.out))
  replace hx175_0 := pw_cell_below HB.out hx175_0
  replace hx175_0 := (cell_far (p := ⟨g, 2, none⟩) (by first | (rw [add_block]; exact hn175_0) | (show (Addr.add _ _).block ≠ _; rw [add_block]; exact hn175_0) | exact hn175_0) (.int .i64 (wrap64 ((wrap64 (s0_2 * 6364136223846793005)) + 1442695040888963407)))).trans hx175_0
  (try have hy175_0 := fun (n_ : Nat) => (show (((w.drewN n_).setCell ⟨g, 2, none⟩ (.int .i64 (wrap64 ((wrap64 (s0_2 * 6364136223846793005)) + 1442695040888963407))))).cell? _ = some _ from hx175_0))
  clear hn175_0
  replace p175 := eq_true p175
  replace q175 := eq_true q175
  go_enter Try.func167, Try.ntmps167
  go_wp2
  repeat (go_quiet (fail); try go_wp2)
  go_ret
  exact ⟨by first | rfl | (simp [errW_none, errW_some] <;> rfl) | (simp [*, errW_none, errW_some] <;> rfl), by repeat (first | (with_reducible first | exact HI0.out | apply IsS207.alloc | apply IsS207.drewN | apply IsS207.drew | apply IsS207.set_1 | apply IsS207.set_2) | exact HI0.out), by repeat (first | (with_reducible first | exact HB.out | apply qc0 | apply qa0 | apply qb0 | refine qh0 ?_ (IsS207.ge HI0.out)) | exact HB.out), by repeat (first | (with_reducible first | exact HK.out | apply qk0.set_ | apply qr0 | apply qv0 | apply qs0) | exact HK.out)⟩
 rw [if_neg c2] at H
 have c2b0 : decide (s0_1 < (s0_0.length : Int)) = false := decide_eq_false c2
 clear c2
 simp only [Option.some.injEq, Prod.mk.injEq] at H
 obtain ⟨rfl, rfl, rfl⟩ := H
 obtain ⟨ASz5_0, cSz5_0, HGz5, hgz5, HSz5_0⟩ := HI0.out
 have hcz5_0 := cellS207_0 HGz5
 have hcz5_1 := cellS207_1 HGz5
 have hcz5_2 := cellS207_2 HGz5
 have hfz5_1 := qt0 HGz5 1
 have hfz5_2 := qt0 HGz5 2
 clear HGz5 hgz5
 go_enter Try.func167, Try.ntmps167
 go_wp2
 repeat (go_quiet (fail); try go_wp2)
 go_ret
 exact ⟨by first | rfl | (simp [errW_none, errW_some] <;> rfl) | (simp [*, errW_none, errW_some] <;> rfl), by repeat (first | (with_reducible first | exact HI0.out | apply IsS207.alloc | apply IsS207.drewN | apply IsS207.drew | apply IsS207.set_1 | apply IsS207.set_2) | exact HI0.out), by repeat (first | (with_reducible first | exact HB.out | apply qc0 | apply qa0 | apply qb0 | refine qh0 ?_ (IsS207.ge HI0.out)) | exact HB.out), by repeat (first | (with_reducible first | exact HK.out | apply qk0.set_ | apply qr0 | apply qv0 | apply qs0) | exact HK.out)⟩

/-! ### spec_l1Below: function 84 -/
def spec_l1Below.f (s0_0 : List Int) (s0_1 : Int) (s0_2 : Int) (a1 : Int) : Option (Int × Int × Int) := if a1 ≤ 0 then (some (0, s0_1, s0_2)) else (if a1 ≤ 256 then ((spec_l1Byte.f s0_0 s0_1 s0_2).bind fun bt176 => (if a1 = 0 then (none) else (some (Int.tmod bt176.1 a1, bt176.2.1, bt176.2.2)))) else ((spec_l1Byte.f s0_0 s0_1 s0_2).bind fun bt179 => ((spec_l1Byte.f s0_0 bt179.2.1 bt179.2.2).bind fun bt182 => ((spec_l1Byte.f s0_0 bt182.2.1 bt182.2.2).bind fun bt185 => ((spec_l1Byte.f s0_0 bt185.2.1 bt185.2.2).bind fun bt188 => (if a1 = 0 then (none) else (some (Int.tmod (wrap64 ((wrap64 ((wrap64 ((wrap64 (bt179.1 * 16777216)) + (wrap64 (bt182.1 * 65536)))) + (wrap64 (bt185.1 * 256)))) + bt188.1)) a1, bt188.2.1, bt188.2.2))))))))
set_option maxHeartbeats 8000000 in
set_option maxRecDepth 100000 in
theorem spec_l1Below.calls (g : Nat) (s0_0 : List Int) (s0_1 : Int) (s0_2 : Int) (a1 : Int) (r1 : Int) (r2 : Int) (r3 : Int) (w0 w : World) (hI : IsS207 w0 w g s0_0 s0_1 s0_2) (hB : Below w0.heap.size w0 w) (h : spec_l1Below.f s0_0 s0_1 s0_2 a1 = some (r1, r2, r3)) :
  Calls Try.prog 84 #[.pointer (some ⟨g, 0, none⟩), .int .i64 a1] w fun e w' => e = .returned (.int .i64 r1) ∧ IsS207 w0 w' g s0_0 r2 r3 ∧ Below w0.heap.size w0 w' ∧ qk0 w w' g none := by
 have HI0 := Aside0.mk hI
 have HK := Aside0.mk (qk0.refl w g none)
 have HL := Aside0.mk hB.size
 clear hI
 have HW0 := Aside0.mk hB.size
 have HB := Aside0.mk hB
 clear hB
 have H : (if a1 ≤ 0 then (some (0, s0_1, s0_2)) else (if a1 ≤ 256 then ((spec_l1Byte.f s0_0 s0_1 s0_2).bind fun bt176 => (if a1 = 0 then (none) else (some (Int.tmod bt176.1 a1, bt176.2.1, bt176.2.2)))) else ((spec_l1Byte.f s0_0 s0_1 s0_2).bind fun bt179 => ((spec_l1Byte.f s0_0 bt179.2.1 bt179.2.2).bind fun bt182 => ((spec_l1Byte.f s0_0 bt182.2.1 bt182.2.2).bind fun bt185 => ((spec_l1Byte.f s0_0 bt185.2.1 bt185.2.2).bind fun bt188 => (if a1 = 0 then (none) else (some (Int.tmod (wrap64 ((wrap64 ((wrap64 ((wrap64 (bt179.1 * 16777216)) + (wrap64 (bt182.1 * 65536)))) + (wrap64 (bt185.1 * 256)))) + bt188.1)) a1, bt188.2.1, bt188.2.2))))))))) = some (r1, r2, r3) := h
 clear h
 by_cases c3 : a1 ≤ 0
 ·rw [if_pos c3] at H
  have c3b0 : decide (a1 ≤ 0) = true := decide_eq_true c3
  clear c3
  simp only [Option.some.injEq, Prod.mk.injEq] at H
  obtain ⟨rfl, rfl, rfl⟩ := H
  go_enter Try.func84, Try.ntmps84
  go_wp2
  go_ret
  exact ⟨by first | rfl | (simp [errW_none, errW_some] <;> rfl) | (simp [*, errW_none, errW_some] <;> rfl), by repeat (first | (with_reducible first | exact HI0.out | apply IsS207.alloc | apply IsS207.drewN | apply IsS207.drew | apply IsS207.set_1 | apply IsS207.set_2) | exact HI0.out), by repeat (first | (with_reducible first | exact HB.out | apply qc0 | apply qa0 | apply qb0 | refine qh0 ?_ (IsS207.ge HI0.out)) | exact HB.out), by repeat (first | (with_reducible first | exact HK.out | apply qk0.set_ | apply qr0 | apply qv0 | apply qs0) | exact HK.out)⟩
 rw [if_neg c3] at H
 have c3b0 : decide (a1 ≤ 0) = false := decide_eq_false c3
 clear c3
 by_cases c4 : a1 ≤ 256
 ·rw [if_pos c4] at H
  have c4b0 : decide (a1 ≤ 256) = true := decide_eq_true c4
  clear c4
  replace H := Option.bind_eq_some_iff.mp H
  obtain ⟨⟨t176, t177, t178⟩, A50, H⟩ := H
  replace H : (if a1 = 0 then (none) else (some (Int.tmod t176 a1, t177, t178))) = some (r1, r2, r3) := H
  have A5 := Aside0.mk A50
  clear A50
  by_cases c6 : a1 = 0
  ·rw [if_pos c6] at H
   exact absurd H (by simp)
  rw [if_neg c6] at H
  have c6b0 : (a1 == 0) = false := beq_eq_false_iff_ne.mpr c6
  have c6b1 : (a1 != 0) = true := bne_iff_ne.mpr c6
  simp only [Option.some.injEq, Prod.mk.injEq] at H
  obtain ⟨rfl, rfl, rfl⟩ := H
  go_enter Try.func84, Try.ntmps84
  go_wp2_with (first | ((with_reducible refine qj0 (f := 167) rfl ?_); refine qz0 (some 14) rfl rfl Try.func167 (by kernel_rfl) rfl #[.pointer (some ⟨g, 0, none⟩)] rfl (by (try simp only [List.map_toArray, List.map_cons, List.map_nil]); first | done | rfl | (simp only [List.length_drop, List.length_take]; rfl)) ?_; (with_reducible refine (spec_l1Byte.calls g s0_0 s0_1 s0_2 t176 t177 t178 w0 _ ?side1 ?side2 A5.out).mono ?_); (case side1 => repeat (first | (with_reducible first | exact HI0.out | apply IsS207.alloc | apply IsS207.drewN | apply IsS207.drew | apply IsS207.set_1 | apply IsS207.set_2) | exact HI0.out)); (case side2 => repeat (first | (with_reducible first | exact HB.out | apply qc0 | apply qa0 | apply qb0 | refine qh0 ?_ (IsS207.ge HI0.out)) | exact HB.out)); rintro e w7 ⟨rfl, hi, hb, hk⟩; refine ⟨_, rfl, ?_⟩; have n0_ := Aside0.mk (qk0.trans (by repeat (first | (with_reducible first | exact HK.out | apply qk0.set_ | apply qr0 | apply qv0 | apply qs0) | exact HK.out)) hk (.inl rfl)); have n1_ := Aside0.mk (hb); have n2_ := Aside0.mk (hi); clear HK; clear HB; clear HI0; have HK := n0_; have HB := n1_; have HI0 := n2_; clear n0_ n1_ n2_; (try clear hb); (try clear hb2); (try clear hk); (try clear hi)))
  go_ret
  exact ⟨by first | rfl | (simp [errW_none, errW_some] <;> rfl) | (simp [*, errW_none, errW_some] <;> rfl), by repeat (first | (with_reducible first | exact HI0.out | apply IsS207.alloc | apply IsS207.drewN | apply IsS207.drew | apply IsS207.set_1 | apply IsS207.set_2) | exact HI0.out), by repeat (first | (with_reducible first | exact HB.out | apply qc0 | apply qa0 | apply qb0 | refine qh0 ?_ (IsS207.ge HI0.out)) | exact HB.out), by repeat (first | (with_reducible first | exact HK.out | apply qk0.set_ | apply qr0 | apply qv0 | apply qs0) | exact HK.out)⟩
 rw [if_neg c4] at H
 have c4b0 : decide (a1 ≤ 256) = false := decide_eq_false c4
 clear c4
 replace H := Option.bind_eq_some_iff.mp H
 obtain ⟨⟨t179, t180, t181⟩, A80, H⟩ := H
 replace H : ((spec_l1Byte.f s0_0 t180 t181).bind fun bt182 => ((spec_l1Byte.f s0_0 bt182.2.1 bt182.2.2).bind fun bt185 => ((spec_l1Byte.f s0_0 bt185.2.1 bt185.2.2).bind fun bt188 => (if a1 = 0 then (none) else (some (Int.tmod (wrap64 ((wrap64 ((wrap64 ((wrap64 (t179 * 16777216)) + (wrap64 (bt182.1 * 65536)))) + (wrap64 (bt185.1 * 256)))) + bt188.1)) a1, bt188.2.1, bt188.2.2)))))) = some (r1, r2, r3) := H
 have A8 := Aside0.mk A80
 clear A80
 replace H := Option.bind_eq_some_iff.mp H
 obtain ⟨⟨t182, t183, t184⟩, A90, H⟩ := H
 replace H : ((spec_l1Byte.f s0_0 t183 t184).bind fun bt185 => ((spec_l1Byte.f s0_0 bt185.2.1 bt185.2.2).bind fun bt188 => (if a1 = 0 then (none) else (some (Int.tmod (wrap64 ((wrap64 ((wrap64 ((wrap64 (t179 * 16777216)) + (wrap64 (t182 * 65536)))) + (wrap64 (bt185.1 * 256)))) + bt188.1)) a1, bt188.2.1, bt188.2.2))))) = some (r1, r2, r3) := H
 have A9 := Aside0.mk A90
 clear A90
 replace H := Option.bind_eq_some_iff.mp H
 obtain ⟨⟨t185, t186, t187⟩, A100, H⟩ := H
 replace H : ((spec_l1Byte.f s0_0 t186 t187).bind fun bt188 => (if a1 = 0 then (none) else (some (Int.tmod (wrap64 ((wrap64 ((wrap64 ((wrap64 (t179 * 16777216)) + (wrap64 (t182 * 65536)))) + (wrap64 (t185 * 256)))) + bt188.1)) a1, bt188.2.1, bt188.2.2)))) = some (r1, r2, r3) := H
 have A10 := Aside0.mk A100
 clear A100
 replace H := Option.bind_eq_some_iff.mp H
 obtain ⟨⟨t188, t189, t190⟩, A110, H⟩ := H
 replace H : (if a1 = 0 then (none) else (some (Int.tmod (wrap64 ((wrap64 ((wrap64 ((wrap64 (t179 * 16777216)) + (wrap64 (t182 * 65536)))) + (wrap64 (t185 * 256)))) + t188)) a1, t189, t190))) = some (r1, r2, r3) := H
 have A11 := Aside0.mk A110
 clear A110
 by_cases c12 : a1 = 0
 ·rw [if_pos c12] at H
  exact absurd H (by simp)
 rw [if_neg c12] at H
 have c12b0 : (a1 == 0) = false := beq_eq_false_iff_ne.mpr c12
 have c12b1 : (a1 != 0) = true := bne_iff_ne.mpr c12
 simp only [Option.some.injEq, Prod.mk.injEq] at H
 obtain ⟨rfl, rfl, rfl⟩ := H
 go_enter Try.func84, Try.ntmps84
 go_wp2_with (first | ((with_reducible refine qj0 (f := 167) rfl ?_); refine qz0 (some 18) rfl rfl Try.func167 (by kernel_rfl) rfl #[.pointer (some ⟨g, 0, none⟩)] rfl (by (try simp only [List.map_toArray, List.map_cons, List.map_nil]); first | done | rfl | (simp only [List.length_drop, List.length_take]; rfl)) ?_; (with_reducible refine (spec_l1Byte.calls g s0_0 s0_1 s0_2 t179 t180 t181 w0 _ ?side1 ?side2 A8.out).mono ?_); (case side1 => repeat (first | (with_reducible first | exact HI0.out | apply IsS207.alloc | apply IsS207.drewN | apply IsS207.drew | apply IsS207.set_1 | apply IsS207.set_2) | exact HI0.out)); (case side2 => repeat (first | (with_reducible first | exact HB.out | apply qc0 | apply qa0 | apply qb0 | refine qh0 ?_ (IsS207.ge HI0.out)) | exact HB.out)); rintro e w13 ⟨rfl, hi, hb, hk⟩; refine ⟨_, rfl, ?_⟩; have n0_ := Aside0.mk (qk0.trans (by repeat (first | (with_reducible first | exact HK.out | apply qk0.set_ | apply qr0 | apply qv0 | apply qs0) | exact HK.out)) hk (.inl rfl)); have n1_ := Aside0.mk (hb); have n2_ := Aside0.mk (hi); clear HK; clear HB; clear HI0; have HK := n0_; have HB := n1_; have HI0 := n2_; clear n0_ n1_ n2_; (try clear hb); (try clear hb2); (try clear hk); (try clear hi)) | ((with_reducible refine qj0 (f := 167) rfl ?_); refine qz0 (some 20) rfl rfl Try.func167 (by kernel_rfl) rfl #[.pointer (some ⟨g, 0, none⟩)] rfl (by (try simp only [List.map_toArray, List.map_cons, List.map_nil]); first | done | rfl | (simp only [List.length_drop, List.length_take]; rfl)) ?_; (with_reducible refine (spec_l1Byte.calls g s0_0 t180 t181 t182 t183 t184 w0 _ ?side1 ?side2 A9.out).mono ?_); (case side1 => repeat (first | (with_reducible first | exact HI0.out | apply IsS207.alloc | apply IsS207.drewN | apply IsS207.drew | apply IsS207.set_1 | apply IsS207.set_2) | exact HI0.out)); (case side2 => repeat (first | (with_reducible first | exact HB.out | apply qc0 | apply qa0 | apply qb0 | refine qh0 ?_ (IsS207.ge HI0.out)) | exact HB.out)); rintro e w14 ⟨rfl, hi, hb, hk⟩; refine ⟨_, rfl, ?_⟩; have n0_ := Aside0.mk (qk0.trans (by repeat (first | (with_reducible first | exact HK.out | apply qk0.set_ | apply qr0 | apply qv0 | apply qs0) | exact HK.out)) hk (.inl rfl)); have n1_ := Aside0.mk (hb); have n2_ := Aside0.mk (hi); clear HK; clear HB; clear HI0; have HK := n0_; have HB := n1_; have HI0 := n2_; clear n0_ n1_ n2_; (try clear hb); (try clear hb2); (try clear hk); (try clear hi)) | ((with_reducible refine qj0 (f := 167) rfl ?_); refine qz0 (some 22) rfl rfl Try.func167 (by kernel_rfl) rfl #[.pointer (some ⟨g, 0, none⟩)] rfl (by (try simp only [List.map_toArray, List.map_cons, List.map_nil]); first | done | rfl | (simp only [List.length_drop, List.length_take]; rfl)) ?_; (with_reducible refine (spec_l1Byte.calls g s0_0 t183 t184 t185 t186 t187 w0 _ ?side1 ?side2 A10.out).mono ?_); (case side1 => repeat (first | (with_reducible first | exact HI0.out | apply IsS207.alloc | apply IsS207.drewN | apply IsS207.drew | apply IsS207.set_1 | apply IsS207.set_2) | exact HI0.out)); (case side2 => repeat (first | (with_reducible first | exact HB.out | apply qc0 | apply qa0 | apply qb0 | refine qh0 ?_ (IsS207.ge HI0.out)) | exact HB.out)); rintro e w15 ⟨rfl, hi, hb, hk⟩; refine ⟨_, rfl, ?_⟩; have n0_ := Aside0.mk (qk0.trans (by repeat (first | (with_reducible first | exact HK.out | apply qk0.set_ | apply qr0 | apply qv0 | apply qs0) | exact HK.out)) hk (.inl rfl)); have n1_ := Aside0.mk (hb); have n2_ := Aside0.mk (hi); clear HK; clear HB; clear HI0; have HK := n0_; have HB := n1_; have HI0 := n2_; clear n0_ n1_ n2_; (try clear hb); (try clear hb2); (try clear hk); (try clear hi)) | ((with_reducible refine qj0 (f := 167) rfl ?_); refine qz0 (some 24) rfl rfl Try.func167 (by kernel_rfl) rfl #[.pointer (some ⟨g, 0, none⟩)] rfl (by (try simp only [List.map_toArray, List.map_cons, List.map_nil]); first | done | rfl | (simp only [List.length_drop, List.length_take]; rfl)) ?_; (with_reducible refine (spec_l1Byte.calls g s0_0 t186 t187 t188 t189 t190 w0 _ ?side1 ?side2 A11.out).mono ?_); (case side1 => repeat (first | (with_reducible first | exact HI0.out | apply IsS207.alloc | apply IsS207.drewN | apply IsS207.drew | apply IsS207.set_1 | apply IsS207.set_2) | exact HI0.out)); (case side2 => repeat (first | (with_reducible first | exact HB.out | apply qc0 | apply qa0 | apply qb0 | refine qh0 ?_ (IsS207.ge HI0.out)) | exact HB.out)); rintro e w16 ⟨rfl, hi, hb, hk⟩; refine ⟨_, rfl, ?_⟩; have n0_ := Aside0.mk (qk0.trans (by repeat (first | (with_reducible first | exact HK.out | apply qk0.set_ | apply qr0 | apply qv0 | apply qs0) | exact HK.out)) hk (.inl rfl)); have n1_ := Aside0.mk (hb); have n2_ := Aside0.mk (hi); clear HK; clear HB; clear HI0; have HK := n0_; have HB := n1_; have HI0 := n2_; clear n0_ n1_ n2_; (try clear hb); (try clear hb2); (try clear hk); (try clear hi)))
 go_ret
 exact ⟨by first | rfl | (simp [errW_none, errW_some] <;> rfl) | (simp [*, errW_none, errW_some] <;> rfl), by repeat (first | (with_reducible first | exact HI0.out | apply IsS207.alloc | apply IsS207.drewN | apply IsS207.drew | apply IsS207.set_1 | apply IsS207.set_2) | exact HI0.out), by repeat (first | (with_reducible first | exact HB.out | apply qc0 | apply qa0 | apply qb0 | refine qh0 ?_ (IsS207.ge HI0.out)) | exact HB.out), by repeat (first | (with_reducible first | exact HK.out | apply qk0.set_ | apply qr0 | apply qv0 | apply qs0) | exact HK.out)⟩

/-! ### spec_l1Once: function 102 -/
def spec_l1Once.f (s0_0 : List Int) (s0_1 : Int) (s0_2 : Int) (a1 : Int) : Option (Bool × Int × Int) := (spec_l1Below.f s0_0 s0_1 s0_2 a1).bind fun bt191 => (some ((bt191.1 == 0), bt191.2.1, bt191.2.2))
set_option maxHeartbeats 8000000 in
set_option maxRecDepth 100000 in
theorem spec_l1Once.calls (g : Nat) (s0_0 : List Int) (s0_1 : Int) (s0_2 : Int) (a1 : Int) (r1 : Bool) (r2 : Int) (r3 : Int) (w0 w : World) (hI : IsS207 w0 w g s0_0 s0_1 s0_2) (hB : Below w0.heap.size w0 w) (h : spec_l1Once.f s0_0 s0_1 s0_2 a1 = some (r1, r2, r3)) :
  Calls Try.prog 102 #[.pointer (some ⟨g, 0, none⟩), .int .i64 a1] w fun e w' => e = .returned (.bool r1) ∧ IsS207 w0 w' g s0_0 r2 r3 ∧ Below w0.heap.size w0 w' ∧ qk0 w w' g none := by
 have HI0 := Aside0.mk hI
 have HK := Aside0.mk (qk0.refl w g none)
 have HL := Aside0.mk hB.size
 clear hI
 have HW0 := Aside0.mk hB.size
 have HB := Aside0.mk hB
 clear hB
 have H : ((spec_l1Below.f s0_0 s0_1 s0_2 a1).bind fun bt191 => (some ((bt191.1 == 0), bt191.2.1, bt191.2.2))) = some (r1, r2, r3) := h
 clear h
 replace H := Option.bind_eq_some_iff.mp H
 obtain ⟨⟨t191, t192, t193⟩, A30, H⟩ := H
 replace H : (some ((t191 == 0), t192, t193)) = some (r1, r2, r3) := H
 have A3 := Aside0.mk A30
 clear A30
 simp only [Option.some.injEq, Prod.mk.injEq] at H
 obtain ⟨rfl, rfl, rfl⟩ := H
 go_enter Try.func102, Try.ntmps102
 go_wp2_with (first | ((with_reducible refine qj0 (f := 84) rfl ?_); refine qz0 (some 7) rfl rfl Try.func84 (by kernel_rfl) rfl #[.pointer (some ⟨g, 0, none⟩), .int .i64 a1] rfl (by (try simp only [List.map_toArray, List.map_cons, List.map_nil]); first | done | rfl | (simp only [List.length_drop, List.length_take]; rfl)) ?_; (with_reducible refine (spec_l1Below.calls g s0_0 s0_1 s0_2 a1 t191 t192 t193 w0 _ ?side1 ?side2 A3.out).mono ?_); (case side1 => repeat (first | (with_reducible first | exact HI0.out | apply IsS207.alloc | apply IsS207.drewN | apply IsS207.drew | apply IsS207.set_1 | apply IsS207.set_2) | exact HI0.out)); (case side2 => repeat (first | (with_reducible first | exact HB.out | apply qc0 | apply qa0 | apply qb0 | refine qh0 ?_ (IsS207.ge HI0.out)) | exact HB.out)); rintro e w4 ⟨rfl, hi, hb, hk⟩; refine ⟨_, rfl, ?_⟩; have n0_ := Aside0.mk (qk0.trans (by repeat (first | (with_reducible first | exact HK.out | apply qk0.set_ | apply qr0 | apply qv0 | apply qs0) | exact HK.out)) hk (.inl rfl)); have n1_ := Aside0.mk (hb); have n2_ := Aside0.mk (hi); clear HK; clear HB; clear HI0; have HK := n0_; have HB := n1_; have HI0 := n2_; clear n0_ n1_ n2_; (try clear hb); (try clear hb2); (try clear hk); (try clear hi)))
 go_ret
 exact ⟨by first | rfl | (simp [errW_none, errW_some] <;> rfl) | (simp [*, errW_none, errW_some] <;> rfl), by repeat (first | (with_reducible first | exact HI0.out | apply IsS207.alloc | apply IsS207.drewN | apply IsS207.drew | apply IsS207.set_1 | apply IsS207.set_2) | exact HI0.out), by repeat (first | (with_reducible first | exact HB.out | apply qc0 | apply qa0 | apply qb0 | refine qh0 ?_ (IsS207.ge HI0.out)) | exact HB.out), by repeat (first | (with_reducible first | exact HK.out | apply qk0.set_ | apply qr0 | apply qv0 | apply qs0) | exact HK.out)⟩

/-! ### spec_l1PickInt: function 103 -/
def spec_l1PickInt.f (s0_0 : List Int) (s0_1 : Int) (s0_2 : Int) (l1 : List Int) : Option (Int × Int × Int) := (spec_l1Below.f s0_0 s0_1 s0_2 (l1.length : Int)).bind fun bt194 => (if 0 ≤ bt194.1 then (if bt194.1 < (l1.length : Int) then (some (rd l1 bt194.1, bt194.2.1, bt194.2.2)) else (none)) else (none))
set_option maxHeartbeats 8000000 in
set_option maxRecDepth 100000 in
theorem spec_l1PickInt.calls (g : Nat) (s0_0 : List Int) (s0_1 : Int) (s0_2 : Int) (A1 : Option Addr) (c1 : Nat) (l1 : List Int) (r1 : Int) (r2 : Int) (r3 : Int) (w0 w : World) (hI : IsS207 w0 w g s0_0 s0_1 s0_2) (hB : Below w0.heap.size w0 w) (hr1 : Kd.C (Kd.int .i64) w A1 l1.length l1) (hc1 : l1.length ≤ c1) (hf1 : ∀ ad, A1 = some ad → 0 < l1.length → ad.block ≠ g) (h : spec_l1PickInt.f s0_0 s0_1 s0_2 l1 = some (r1, r2, r3)) :
  Calls Try.prog 103 #[.pointer (some ⟨g, 0, none⟩), .slice A1 l1.length c1] w fun e w' => e = .returned (.int .i64 r1) ∧ IsS207 w0 w' g s0_0 r2 r3 ∧ Below w0.heap.size w0 w' ∧ qk0 w w' g none := by
 have HR1 := Aside0.mk hr1
 have HC1 := Aside0.mk hc1
 clear hr1 hc1
 have HI0 := Aside0.mk hI
 have HK := Aside0.mk (qk0.refl w g none)
 have HL := Aside0.mk hB.size
 clear hI
 have HW0 := Aside0.mk hB.size
 have HB := Aside0.mk hB
 clear hB
 have H : ((spec_l1Below.f s0_0 s0_1 s0_2 (l1.length : Int)).bind fun bt194 => (if 0 ≤ bt194.1 then (if bt194.1 < (l1.length : Int) then (some (rd l1 bt194.1, bt194.2.1, bt194.2.2)) else (none)) else (none))) = some (r1, r2, r3) := h
 clear h
 replace H := Option.bind_eq_some_iff.mp H
 obtain ⟨⟨t194, t195, t196⟩, A30, H⟩ := H
 replace H : (if 0 ≤ t194 then (if t194 < (l1.length : Int) then (some (rd l1 t194, t195, t196)) else (none)) else (none)) = some (r1, r2, r3) := H
 have A3 := Aside0.mk A30
 clear A30
 by_cases c4 : 0 ≤ t194
 case neg => rw [if_neg c4] at H; exact absurd H (by simp)
 rw [if_pos c4] at H
 have c4b0 : decide (0 ≤ t194) = true := decide_eq_true c4
 clear c4
 by_cases c5 : t194 < (l1.length : Int)
 case neg => rw [if_neg c5] at H; exact absurd H (by simp)
 rw [if_pos c5] at H
 have c5b0 : decide (t194 < (l1.length : Int)) = true := decide_eq_true c5
 clear c5
 simp only [Option.some.injEq, Prod.mk.injEq] at H
 obtain ⟨rfl, rfl, rfl⟩ := H
 go_enter Try.func103, Try.ntmps103
 go_wp2_with (first | ((with_reducible refine qj0 (f := 84) rfl ?_); refine qz0 (some 9) rfl rfl Try.func84 (by kernel_rfl) rfl #[.pointer (some ⟨g, 0, none⟩), .int .i64 (l1.length : Int)] rfl (by (try simp only [List.map_toArray, List.map_cons, List.map_nil]); first | done | rfl | (simp only [List.length_drop, List.length_take]; rfl)) ?_; (with_reducible refine (spec_l1Below.calls g s0_0 s0_1 s0_2 (l1.length : Int) t194 t195 t196 w0 _ ?side1 ?side2 A3.out).mono ?_); (case side1 => repeat (first | (with_reducible first | exact HI0.out | apply IsS207.alloc | apply IsS207.drewN | apply IsS207.drew | apply IsS207.set_1 | apply IsS207.set_2) | exact HI0.out)); (case side2 => repeat (first | (with_reducible first | exact HB.out | apply qc0 | apply qa0 | apply qb0 | refine qh0 ?_ (IsS207.ge HI0.out)) | exact HB.out)); rintro e w6 ⟨rfl, hi, hb, hk⟩; refine ⟨_, rfl, ?_⟩; have n0_ := Aside0.mk (qk0.trans (by repeat (first | (with_reducible first | exact HK.out | apply qk0.set_ | apply qr0 | apply qv0 | apply qs0) | exact HK.out)) hk (.inl rfl)); have n1_ := Aside0.mk (hb); have n2_ := Aside0.mk (hi); clear HK; clear HB; clear HI0; have HK := n0_; have HB := n1_; have HI0 := n2_; clear n0_ n1_ n2_; (try clear hb); (try clear hb2); (try clear hk); (try clear hi); have p197 : 0 ≤ (t194 : Int) := of_decide_eq_true (by first | (with_reducible assumption) | assumption); have q197 : t194 < (l1.length : Int) := of_decide_eq_true (by first | (with_reducible assumption) | assumption); obtain ⟨ad197, e197, hx197_0⟩ := Kd.qh1 HR1.out t194 p197 q197; cases e197; replace hx197_0 := keep_cell HK.out hx197_0 (by first | (rw [add_block]; exact hf1 _ rfl (by omega)) | exact hf1 _ rfl (by omega) | exact hf1 ad197 rfl (by omega)); replace p197 := eq_true p197; replace q197 := eq_true q197))
 go_ret
 exact ⟨by first | rfl | (simp [errW_none, errW_some] <;> rfl) | (simp [*, errW_none, errW_some] <;> rfl), by repeat (first | (with_reducible first | exact HI0.out | apply IsS207.alloc | apply IsS207.drewN | apply IsS207.drew | apply IsS207.set_1 | apply IsS207.set_2) | exact HI0.out), by repeat (first | (with_reducible first | exact HB.out | apply qc0 | apply qa0 | apply qb0 | refine qh0 ?_ (IsS207.ge HI0.out)) | exact HB.out), by repeat (first | (with_reducible first | exact HK.out | apply qk0.set_ | apply qr0 | apply qv0 | apply qs0) | exact HK.out)⟩

/-! ### spec_l13DrawOpen: function 83 -/
mutual
def spec_l13DrawOpen.l0 : Nat → Int → List (S27) → List Int → Int → Int → Option ((List (S27)) × Int × Int)
 | 0, _, _, _, _, _ => none
 | k + 1, x1, x5, x1000, x1001, x1002 => if x1 > 0 then ((spec_l1Below.f x1000 x1001 x1002 60).bind fun bt201 => ((spec_l1Below.f x1000 bt201.2.1 bt201.2.2 5000).bind fun bt204 => (if x5.length < 8796093022208 then (spec_l13DrawOpen.l0 k (wrap64 (x1 - 1)) (x5 ++ [(⟨bt201.1, wrap64 (1 + bt204.1)⟩ : S27)]) x1000 bt204.2.1 bt204.2.2) else (none)))) else ((spec_l1Once.f x1000 x1001 x1002 20).bind fun bt210 => (if bt210.1 = true then (spec_l13DrawOpen.j1 k x5 (decide ((x5.length : Int) > 0)) x1000 bt210.2.1 bt210.2.2) else (spec_l13DrawOpen.j1 k x5 false x1000 bt210.2.1 bt210.2.2)))
def spec_l13DrawOpen.j1 : Nat → List (S27) → Bool → List Int → Int → Int → Option ((List (S27)) × Int × Int)
 | 0, _, _, _, _, _ => none
 | k + 1, x5, x27, x1000, x1001, x1002 => if x27 = true then ((spec_l1Below.f x1000 x1001 x1002 (x5.length : Int)).bind fun bt213 => ((spec_l1Once.f x1000 bt213.2.1 bt213.2.2 2).bind fun bt216 => (if bt216.1 = true then ((spec_l1PickInt.f x1000 bt216.2.1 bt216.2.2 (([(-1), 40001] : List Int))).bind fun bt222 => (if 0 ≤ bt213.1 then (if bt213.1 < (x5.length : Int) then (some ((x5.set (bt213.1 : Int).toNat (⟨bt222.1, (rd_T27 x5 bt213.1).f1⟩ : S27)), bt222.2.1, bt222.2.2)) else (none)) else (none))) else ((spec_l1PickInt.f x1000 bt216.2.1 bt216.2.2 (([0, (-5), 100000000000, 100000000001] : List Int))).bind fun bt229 => (if 0 ≤ bt213.1 then (if bt213.1 < (x5.length : Int) then (some ((x5.set (bt213.1 : Int).toNat (⟨(rd_T27 x5 bt213.1).f0, bt229.1⟩ : S27)), bt229.2.1, bt229.2.2)) else (none)) else (none)))))) else (some (x5, x1001, x1002))
end
def spec_l13DrawOpen.f (k : Nat) (s0_0 : List Int) (s0_1 : Int) (s0_2 : Int) (a1 : Int) : Option ((List (S27)) × Int × Int) := spec_l13DrawOpen.l0 k a1 (([] : List (S27))) s0_0 s0_1 s0_2
theorem spec_l13DrawOpen.mono_l : ∀ k, (∀ y0 y1 y2 y3 y4, LeO (spec_l13DrawOpen.l0 k y0 y1 y2 y3 y4) (spec_l13DrawOpen.l0 (k + 1) y0 y1 y2 y3 y4)) ∧ (∀ y0 y1 y2 y3 y4, LeO (spec_l13DrawOpen.j1 k y0 y1 y2 y3 y4) (spec_l13DrawOpen.j1 (k + 1) y0 y1 y2 y3 y4))
 | 0 => ⟨fun _ _ _ _ _ r h => by simp [spec_l13DrawOpen.l0] at h, fun _ _ _ _ _ r h => by simp [spec_l13DrawOpen.j1] at h⟩
 | k + 1 => by
  obtain ⟨ih0, ih1⟩ := spec_l13DrawOpen.mono_l k
  refine ⟨?_, ?_⟩
  ·intro y0 y1 y2 y3 y4
   unfold spec_l13DrawOpen.l0
   repeat' first
   | (with_reducible exact ih0 _ _ _ _ _)
   | (with_reducible exact ih1 _ _ _ _ _)
   | (with_reducible exact LeO.refl _)
   | (with_reducible exact LeO.none _)
   | (with_reducible refine LeO.ite ?_ ?_)
   | (with_reducible refine LeO.bind ?_ (fun _ => ?_))
   | exact ih0 _ _ _ _ _
   | exact ih1 _ _ _ _ _
   | exact LeO.none _
   | refine LeO.ite ?_ ?_
   | refine LeO.bind ?_ (fun _ => ?_)
  ·intro y0 y1 y2 y3 y4
   unfold spec_l13DrawOpen.j1
   repeat' first
   | (with_reducible exact ih0 _ _ _ _ _)
   | (with_reducible exact ih1 _ _ _ _ _)
   | (with_reducible exact LeO.refl _)
   | (with_reducible exact LeO.none _)
   | (with_reducible refine LeO.ite ?_ ?_)
   | (with_reducible refine LeO.bind ?_ (fun _ => ?_))
   | exact ih0 _ _ _ _ _
   | exact ih1 _ _ _ _ _
   | exact LeO.none _
   | refine LeO.ite ?_ ?_
   | refine LeO.bind ?_ (fun _ => ?_)
theorem spec_l13DrawOpen.mono : ∀ a0 a1 a2 a3 k, LeO (spec_l13DrawOpen.f k a0 a1 a2 a3) (spec_l13DrawOpen.f (k + 1) a0 a1 a2 a3) := by
 intro a0 a1 a2 a3 k
 obtain ⟨ih0, ih1⟩ := spec_l13DrawOpen.mono_l k
 unfold spec_l13DrawOpen.f
 repeat' first
   | (with_reducible exact ih0 _ _ _ _ _)
   | (with_reducible exact ih1 _ _ _ _ _)
   | (with_reducible exact LeO.refl _)
   | (with_reducible exact LeO.none _)
   | (with_reducible refine LeO.ite ?_ ?_)
   | (with_reducible refine LeO.bind ?_ (fun _ => ?_))
   | exact ih0 _ _ _ _ _
   | exact ih1 _ _ _ _ _
   | exact LeO.none _
   | refine LeO.ite ?_ ?_
   | refine LeO.bind ?_ (fun _ => ?_)
set_option maxHeartbeats 8000000 in
set_option maxRecDepth 100000 in
theorem spec_l13DrawOpen.calls (k : Nat) (g : Nat) (s0_0 : List Int) (s0_1 : Int) (s0_2 : Int) (a1 : Int) (r1 : List (S27)) (r2 : Int) (r3 : Int) (w0 w : World) (hI : IsS207 w0 w g s0_0 s0_1 s0_2) (hB : Below w0.heap.size w0 w) (h : spec_l13DrawOpen.f k s0_0 s0_1 s0_2 a1 = some (r1, r2, r3)) :
  Calls Try.prog 83 #[.pointer (some ⟨g, 0, none⟩), .int .i64 a1] w fun e w' => ∃ v0_ : Value, e = .returned (v0_) ∧ Kd.R k27 27 w' w.heap.size (fun _ => True) v0_ r1 ∧ IsS207 w0 w' g s0_0 r2 r3 ∧ Below w0.heap.size w0 w' ∧ qk0 w w' g none := by
 have hu27 := Try.underlying27
 have HI0 := Aside0.mk hI
 have HK := Aside0.mk (qk0.refl w g none)
 have HL := Aside0.mk hB.size
 clear hI
 have HW0 := Aside0.mk hB.size
 have HB := Aside0.mk hB
 clear hB
 have H : (spec_l13DrawOpen.l0 k a1 (([] : List (S27))) s0_0 s0_1 s0_2) = some (r1, r2, r3) := h
 clear h
 obtain ⟨y198, hy198⟩ : ∃ y_ : List (S27), y_ = (([] : List (S27))) := ⟨_, rfl⟩
 replace H : (spec_l13DrawOpen.l0 k a1 y198 s0_0 s0_1 s0_2) = some (r1, r2, r3) := by first | (rw [hy198]; with_reducible exact H) | (have H2_ := (Option.bind_some _ _).symm.trans H; rw [hy198]; with_reducible exact H2_) | (have H2_ := (Option.bind_some _ _).symm.trans H; with_reducible exact H2_) | with_reducible exact H | (rw [hy198]; exact H) | exact H
 have Ny198 := Aside0.mk hy198
 clear hy198
 have H' := Aside0.mk H
 clear H
 go_enter Try.func83, Try.ntmps83
 go_wp2_with (first | ((with_reducible refine qi1 (N := 7) rfl ?_); (try (refine gate_guard (by rfl) ?_; dsimp only)); refine Kd.R_lit k27 _ 27 ?hg (N := 7) ?hd (xs := ([] : List (S27))) (inner := []) (ok := fun _ => True) (okp := fun _ => True) ?hr ?hp (fun _ hk => hk) trivial (Below.refl _ _) (Nat.le_refl _) (by simp) ?_; (case hd => rfl); (case hg => rfl); (case hr => first | (go_simp; done) | (go_simp; rfl)); (case hp => exact (Reps.none _ _)); intro v199 w3 ho4 hb hg_ hnew_; clear hg_ hnew_; (first | rw [← Ny198.out] at ho4 | (simp only [Int.reduceToNat] at ho4; rw [← Ny198.out] at ho4)); have n0_ := Aside0.mk (Kd.qe1 ho4 (keep_size (w := w) (g := g) (row := none) (by repeat (first | (with_reducible first | exact HK.out | apply qk0.set_ | apply qr0 | apply qv0 | apply qs0) | exact HK.out)))); have n1_ := Aside0.mk (IsS207.below (by repeat (first | (with_reducible first | exact HI0.out | apply IsS207.alloc | apply IsS207.drewN | apply IsS207.drew | apply IsS207.set_1 | apply IsS207.set_2) | exact HI0.out)) hb); have n2_ := Aside0.mk (qk0.trans (by repeat (first | (with_reducible first | exact HK.out | apply qk0.set_ | apply qr0 | apply qv0 | apply qs0) | exact HK.out)) (qk0.of_below hb g none) (.inl rfl)); have n3_ := Aside0.mk (qq0 (by repeat (first | (with_reducible first | exact HB.out | apply qc0 | apply qa0 | apply qb0 | refine qh0 ?_ (IsS207.ge HI0.out)) | exact HB.out)) hb); clear HI0; clear HK; clear HB; have HO200 := n0_; have HI0 := n1_; have HK := n2_; have HB := n3_; clear n0_ n1_ n2_ n3_; clear hb ho4))
 go_loopg [1, 5] k (fun kq v1 v5 w' => ∃ (x1_1 : Int) (x5_1 : List (S27)) (x1001_1 : Int) (x1002_1 : Int), v1 = .int .i64 x1_1 ∧ Aside0 (spec_l13DrawOpen.l0 kq x1_1 x5_1 s0_0 x1001_1 x1002_1 = some (r1, r2, r3)) ∧ Aside0 (kq ≤ k) ∧ Aside0 (Kd.R k27 27 w' w.heap.size (fun _ => True) v5 x5_1) ∧ Aside0 (IsS207 w0 w' g s0_0 x1001_1 x1002_1) ∧ Aside0 (qk0 w w' g none) ∧ Aside0 (Below w0.heap.size w0 w'))
 case atStart => exact ⟨(a1), (y198), (s0_1), (s0_2), (by first | rfl | (simp; done) | (simp [*]; done)), H', ⟨Nat.le_refl _⟩, ⟨by (with_reducible repeat (first | apply Kd.qe0 | apply Kd.qd0 | apply Kd.qf0)); exact HO200.out⟩, ⟨by repeat (first | (with_reducible first | exact HI0.out | apply IsS207.alloc | apply IsS207.drewN | apply IsS207.drew | apply IsS207.set_1 | apply IsS207.set_2) | exact HI0.out)⟩, ⟨by repeat (first | (with_reducible first | exact HK.out | apply qk0.set_ | apply qr0 | apply qv0 | apply qs0) | exact HK.out)⟩, ⟨by repeat (first | (with_reducible first | exact HB.out | apply qc0 | apply qa0 | apply qb0 | refine qh0 ?_ (IsS207.ge HI0.out)) | exact HB.out)⟩⟩
 case round =>
  clear H'
  try clear p2
  obtain ⟨x1_1, x5_1, x1001_1, x1002_1, rfl, HA, HK1, HO_5, HI0, HK, HB⟩ := hrel
  cases gk with
  | zero => exact absurd HA.out (by simp [spec_l13DrawOpen.l0])
  | succ k1 =>
   have H := HA.out
   clear HA
   simp only [spec_l13DrawOpen.l0] at H
   by_cases c5 : x1_1 > 0
   ·rw [if_pos c5] at H
    have c5b0 : decide (0 < x1_1) = true := decide_eq_true c5
    clear c5
    replace H := Option.bind_eq_some_iff.mp H
    obtain ⟨⟨t201, t202, t203⟩, A60, H⟩ := H
    replace H : ((spec_l1Below.f s0_0 t202 t203 5000).bind fun bt204 => (if x5_1.length < 8796093022208 then (spec_l13DrawOpen.l0 k1 (wrap64 (x1_1 - 1)) (x5_1 ++ [(⟨t201, wrap64 (1 + bt204.1)⟩ : S27)]) s0_0 bt204.2.1 bt204.2.2) else (none))) = some (r1, r2, r3) := H
    have A6 := Aside0.mk A60
    clear A60
    replace H := Option.bind_eq_some_iff.mp H
    obtain ⟨⟨t204, t205, t206⟩, A70, H⟩ := H
    replace H : (if x5_1.length < 8796093022208 then (spec_l13DrawOpen.l0 k1 (wrap64 (x1_1 - 1)) (x5_1 ++ [(⟨t201, wrap64 (1 + t204)⟩ : S27)]) s0_0 t205 t206) else (none)) = some (r1, r2, r3) := H
    have A7 := Aside0.mk A70
    clear A70
    by_cases c8 : x5_1.length < 8796093022208
    case neg => rw [if_neg c8] at H; exact absurd H (by simp)
    rw [if_pos c8] at H
    have LMc8 := Aside0.mk c8
    clear c8
    obtain ⟨y207, hy207⟩ : ∃ y_ : List (S27), y_ = (x5_1 ++ [(⟨t201, wrap64 (1 + t204)⟩ : S27)]) := ⟨_, rfl⟩
    replace H : (spec_l13DrawOpen.l0 k1 (wrap64 (x1_1 - 1)) y207 s0_0 t205 t206) = some (r1, r2, r3) := by first | (rw [hy207]; with_reducible exact H) | (have H2_ := (Option.bind_some _ _).symm.trans H; rw [hy207]; with_reducible exact H2_) | (have H2_ := (Option.bind_some _ _).symm.trans H; with_reducible exact H2_) | with_reducible exact H | (rw [hy207]; exact H) | exact H
    have Ny207 := Aside0.mk hy207
    clear hy207
    have H' := Aside0.mk H
    clear H
    go_wp2_with (first | ((with_reducible refine qj0 (f := 84) rfl ?_); refine qz0 (some 14) rfl rfl Try.func84 (by kernel_rfl) rfl #[.pointer (some ⟨g, 0, none⟩), .int .i64 60] rfl (by (try simp only [List.map_toArray, List.map_cons, List.map_nil]); first | done | rfl | (simp only [List.length_drop, List.length_take]; rfl)) ?_; (with_reducible refine (spec_l1Below.calls g s0_0 x1001_1 x1002_1 60 t201 t202 t203 w0 _ ?side1 ?side2 A6.out).mono ?_); (case side1 => repeat (first | (with_reducible first | exact HI0.out | apply IsS207.alloc | apply IsS207.drewN | apply IsS207.drew | apply IsS207.set_1 | apply IsS207.set_2) | exact HI0.out)); (case side2 => repeat (first | (with_reducible first | exact HB.out | apply qc0 | apply qa0 | apply qb0 | refine qh0 ?_ (IsS207.ge HI0.out)) | exact HB.out)); rintro e w9 ⟨rfl, hi, hb, hk⟩; refine ⟨_, rfl, ?_⟩; have n0_ := Aside0.mk (Kd.qm0 (Kd.R_keep (IsS207.apart (show IsS207 w0 _ g s0_0 x1001_1 x1002_1 from by repeat (first | (with_reducible first | exact HI0.out | apply IsS207.alloc | apply IsS207.drewN | apply IsS207.drew | apply IsS207.set_1 | apply IsS207.set_2) | exact HI0.out)) (by (with_reducible repeat (first | apply Kd.qe0 | apply Kd.qd0 | apply Kd.qf0)); exact HO_5.out) (by decide)) hk (fun _ h => h.2)) (fun _ h => h.1)); have n1_ := Aside0.mk (qk0.trans (by repeat (first | (with_reducible first | exact HK.out | apply qk0.set_ | apply qr0 | apply qv0 | apply qs0) | exact HK.out)) hk (.inl rfl)); have n2_ := Aside0.mk (hb); have n3_ := Aside0.mk (hi); clear HO_5; clear HK; clear HB; clear HI0; have HO_5 := n0_; have HK := n1_; have HB := n2_; have HI0 := n3_; clear n0_ n1_ n2_ n3_; (try clear hb); (try clear hb2); (try clear hk); (try clear hi)) | ((with_reducible refine qj0 (f := 84) rfl ?_); refine qz0 (some 16) rfl rfl Try.func84 (by kernel_rfl) rfl #[.pointer (some ⟨g, 0, none⟩), .int .i64 5000] rfl (by (try simp only [List.map_toArray, List.map_cons, List.map_nil]); first | done | rfl | (simp only [List.length_drop, List.length_take]; rfl)) ?_; (with_reducible refine (spec_l1Below.calls g s0_0 t202 t203 5000 t204 t205 t206 w0 _ ?side1 ?side2 A7.out).mono ?_); (case side1 => repeat (first | (with_reducible first | exact HI0.out | apply IsS207.alloc | apply IsS207.drewN | apply IsS207.drew | apply IsS207.set_1 | apply IsS207.set_2) | exact HI0.out)); (case side2 => repeat (first | (with_reducible first | exact HB.out | apply qc0 | apply qa0 | apply qb0 | refine qh0 ?_ (IsS207.ge HI0.out)) | exact HB.out)); rintro e w10 ⟨rfl, hi, hb, hk⟩; refine ⟨_, rfl, ?_⟩; have n0_ := Aside0.mk (Kd.qm0 (Kd.R_keep (IsS207.apart (show IsS207 w0 _ g s0_0 t202 t203 from by repeat (first | (with_reducible first | exact HI0.out | apply IsS207.alloc | apply IsS207.drewN | apply IsS207.drew | apply IsS207.set_1 | apply IsS207.set_2) | exact HI0.out)) (by (with_reducible repeat (first | apply Kd.qe0 | apply Kd.qd0 | apply Kd.qf0)); exact HO_5.out) (by decide)) hk (fun _ h => h.2)) (fun _ h => h.1)); have n1_ := Aside0.mk (qk0.trans (by repeat (first | (with_reducible first | exact HK.out | apply qk0.set_ | apply qr0 | apply qv0 | apply qs0) | exact HK.out)) hk (.inl rfl)); have n2_ := Aside0.mk (hb); have n3_ := Aside0.mk (hi); clear HO_5; clear HK; clear HB; clear HI0; have HO_5 := n0_; have HK := n1_; have HB := n2_; have HI0 := n3_; clear n0_ n1_ n2_ n3_; (try clear hb); (try clear hb2); (try clear hk); (try clear hi)) | ((with_reducible refine gate_builtin (b := .append) (xs := #[.tmp 12, .tmp 19]) rfl ?_); (try (refine gate_guard (by rfl) ?_; dsimp only)); at_builtin; refine Kd.R_append k27 w.heap.size rfl (.tmp 12) (.tmp 19) 28 27 (.agg #[(.int .i64 0), (.int .i64 0)]) 16 rfl Try.underlying28 info27 rfl (by decide) (by omega) u5 x5_1 (⟨t201, wrap64 (1 + t204)⟩ : S27) [.int .i64 t201, .int .i64 (wrap64 (1 + t204))] (fun _ => True) (fun _ => False) rfl rfl ?aP (fun _ hk => hk.elim) ?aF ?aO (Below.refl _ _) ?aS ?aL ?_; (case aP => exact k27_mkM _ _ _ (⟨t201, wrap64 (1 + t204)⟩ : S27)); (case aF => exact (fun _ _ => trivial)); (case aO => exact (by (with_reducible repeat (first | apply Kd.qe0 | apply Kd.qd0 | apply Kd.qf0)); exact HO_5.out)); (case aS => exact (keep_size (w := w) (g := g) (row := none) (by repeat (first | (with_reducible first | exact HK.out | apply qk0.set_ | apply qr0 | apply qv0 | apply qs0) | exact HK.out)))); (case aL => have := LMc8.out; omega); intro v208 w11 ho hb hg hat; rw [← Ny207.out] at ho; have n0_ := Aside0.mk (IsS207.grown (by repeat (first | (with_reducible first | exact HI0.out | apply IsS207.alloc | apply IsS207.drewN | apply IsS207.drew | apply IsS207.set_1 | apply IsS207.set_2) | exact HI0.out)) hg (IsS207.own_ne HI0.out HO_5.out (by decide))); have n1_ := Aside0.mk (below_weaken (by repeat (first | (with_reducible first | exact HB.out | apply qc0 | apply qa0 | apply qb0 | refine qh0 ?_ (IsS207.ge HI0.out)) | exact HB.out)) HL.out hb); have n2_ := Aside0.mk (qk0.trans (by repeat (first | (with_reducible first | exact HK.out | apply qk0.set_ | apply qr0 | apply qv0 | apply qs0) | exact HK.out)) (qk0.of_grown hg g) (Kd.R_base2 HO_5.out)); have n3_ := Aside0.mk (ho); clear HI0; clear HB; clear HK; clear HO_5; have HI0 := n0_; have HB := n1_; have HK := n2_; have HO209 := n3_; clear n0_ n1_ n2_ n3_; clear ho hb hg hat))
    go_roundg k1
    case measure => have := HK1.out; omega
    case rel => exact ⟨(wrap64 (x1_1 - 1)), (y207), (t205), (t206), (by first | rfl | (simp; done) | (simp [*]; done)), H', ⟨by have := HK1.out; omega⟩, ⟨by (with_reducible repeat (first | apply Kd.qe0 | apply Kd.qd0 | apply Kd.qf0)); exact HO209.out⟩, ⟨by repeat (first | (with_reducible first | exact HI0.out | apply IsS207.alloc | apply IsS207.drewN | apply IsS207.drew | apply IsS207.set_1 | apply IsS207.set_2) | exact HI0.out)⟩, ⟨by repeat (first | (with_reducible first | exact HK.out | apply qk0.set_ | apply qr0 | apply qv0 | apply qs0) | exact HK.out)⟩, ⟨by repeat (first | (with_reducible first | exact HB.out | apply qc0 | apply qa0 | apply qb0 | refine qh0 ?_ (IsS207.ge HI0.out)) | exact HB.out)⟩⟩
   rw [if_neg c5] at H
   have c5b0 : decide (0 < x1_1) = false := decide_eq_false c5
   clear c5
   have HC12 := Aside0.mk H
   clear H
   go_upto_region 5 with (fail)
   go_cut [27] (fun v27 wc => ∃ (kq : Nat) (x27_11 : Bool) (x1001_11 : Int) (x1002_11 : Int), v27 = .bool x27_11 ∧ Aside0 (spec_l13DrawOpen.j1 kq x5_1 x27_11 s0_0 x1001_11 x1002_11 = some (r1, r2, r3)) ∧ Aside0 (kq ≤ k1) ∧ Aside0 (Kd.R k27 27 wc w.heap.size (fun _ => True) u5 x5_1) ∧ Aside0 (IsS207 w0 wc g s0_0 x1001_11 x1002_11) ∧ Aside0 (qk0 w wc g none) ∧ Aside0 (Below w0.heap.size w0 wc))
   case first =>
    have H := HC12.out
    clear HC12
    replace H := Option.bind_eq_some_iff.mp H
    obtain ⟨⟨t210, t211, t212⟩, A130, H⟩ := H
    replace H : (if t210 = true then (spec_l13DrawOpen.j1 k1 x5_1 (decide ((x5_1.length : Int) > 0)) s0_0 t211 t212) else (spec_l13DrawOpen.j1 k1 x5_1 false s0_0 t211 t212)) = some (r1, r2, r3) := H
    have A13 := Aside0.mk A130
    clear A130
    by_cases c14 : t210 = true
    ·subst c14
     have H1 : (spec_l13DrawOpen.j1 k1 x5_1 (decide ((x5_1.length : Int) > 0)) s0_0 t211 t212) = some (r1, r2, r3) := by rw [if_pos rfl] at H; exact H
     clear H
     have H := H1
     clear H1
     have H' := Aside0.mk H
     clear H
     go_wp2_with (first | ((with_reducible refine qj0 (f := 102) rfl ?_); refine qz0 (some 22) rfl rfl Try.func102 (by kernel_rfl) rfl #[.pointer (some ⟨g, 0, none⟩), .int .i64 20] rfl (by (try simp only [List.map_toArray, List.map_cons, List.map_nil]); first | done | rfl | (simp only [List.length_drop, List.length_take]; rfl)) ?_; (with_reducible refine (spec_l1Once.calls g s0_0 x1001_1 x1002_1 20 true t211 t212 w0 _ ?side1 ?side2 A13.out).mono ?_); (case side1 => repeat (first | (with_reducible first | exact HI0.out | apply IsS207.alloc | apply IsS207.drewN | apply IsS207.drew | apply IsS207.set_1 | apply IsS207.set_2) | exact HI0.out)); (case side2 => repeat (first | (with_reducible first | exact HB.out | apply qc0 | apply qa0 | apply qb0 | refine qh0 ?_ (IsS207.ge HI0.out)) | exact HB.out)); rintro e w15 ⟨rfl, hi, hb, hk⟩; refine ⟨_, rfl, ?_⟩; have n0_ := Aside0.mk (Kd.qm0 (Kd.R_keep (IsS207.apart (show IsS207 w0 _ g s0_0 x1001_1 x1002_1 from by repeat (first | (with_reducible first | exact HI0.out | apply IsS207.alloc | apply IsS207.drewN | apply IsS207.drew | apply IsS207.set_1 | apply IsS207.set_2) | exact HI0.out)) (by (with_reducible repeat (first | apply Kd.qe0 | apply Kd.qd0 | apply Kd.qf0)); exact HO_5.out) (by decide)) hk (fun _ h => h.2)) (fun _ h => h.1)); have n1_ := Aside0.mk (qk0.trans (by repeat (first | (with_reducible first | exact HK.out | apply qk0.set_ | apply qr0 | apply qv0 | apply qs0) | exact HK.out)) hk (.inl rfl)); have n2_ := Aside0.mk (hb); have n3_ := Aside0.mk (hi); clear HO_5; clear HK; clear HB; clear HI0; have HO_5 := n0_; have HK := n1_; have HB := n2_; have HI0 := n3_; clear n0_ n1_ n2_ n3_; (try clear hb); (try clear hb2); (try clear hk); (try clear hi); obtain ⟨Ao16, co16, eo16⟩ := Kd.qw0 HO_5.out; subst eo16))
     go_meet
     case rel => exact ⟨_, (decide ((x5_1.length : Int) > 0)), (t211), (t212), (by first | rfl | (simp; done) | (simp [*]; done)), H', ⟨by have := HK1.out; first | omega | exact Nat.le_refl _⟩, ⟨by (with_reducible repeat (first | apply Kd.qe0 | apply Kd.qd0 | apply Kd.qf0)); exact HO_5.out⟩, ⟨by repeat (first | (with_reducible first | exact HI0.out | apply IsS207.alloc | apply IsS207.drewN | apply IsS207.drew | apply IsS207.set_1 | apply IsS207.set_2) | exact HI0.out)⟩, ⟨by repeat (first | (with_reducible first | exact HK.out | apply qk0.set_ | apply qr0 | apply qv0 | apply qs0) | exact HK.out)⟩, ⟨by repeat (first | (with_reducible first | exact HB.out | apply qc0 | apply qa0 | apply qb0 | refine qh0 ?_ (IsS207.ge HI0.out)) | exact HB.out)⟩⟩
    replace c14 := Bool.eq_false_iff.mpr c14
    subst c14
    have H1 : (spec_l13DrawOpen.j1 k1 x5_1 false s0_0 t211 t212) = some (r1, r2, r3) := by rw [if_neg (show ¬ (false = true) by decide)] at H; exact H
    clear H
    have H := H1
    clear H1
    have H' := Aside0.mk H
    clear H
    go_wp2_with (first | ((with_reducible refine qj0 (f := 102) rfl ?_); refine qz0 (some 22) rfl rfl Try.func102 (by kernel_rfl) rfl #[.pointer (some ⟨g, 0, none⟩), .int .i64 20] rfl (by (try simp only [List.map_toArray, List.map_cons, List.map_nil]); first | done | rfl | (simp only [List.length_drop, List.length_take]; rfl)) ?_; (with_reducible refine (spec_l1Once.calls g s0_0 x1001_1 x1002_1 20 false t211 t212 w0 _ ?side1 ?side2 A13.out).mono ?_); (case side1 => repeat (first | (with_reducible first | exact HI0.out | apply IsS207.alloc | apply IsS207.drewN | apply IsS207.drew | apply IsS207.set_1 | apply IsS207.set_2) | exact HI0.out)); (case side2 => repeat (first | (with_reducible first | exact HB.out | apply qc0 | apply qa0 | apply qb0 | refine qh0 ?_ (IsS207.ge HI0.out)) | exact HB.out)); rintro e w17 ⟨rfl, hi, hb, hk⟩; refine ⟨_, rfl, ?_⟩; have n0_ := Aside0.mk (Kd.qm0 (Kd.R_keep (IsS207.apart (show IsS207 w0 _ g s0_0 x1001_1 x1002_1 from by repeat (first | (with_reducible first | exact HI0.out | apply IsS207.alloc | apply IsS207.drewN | apply IsS207.drew | apply IsS207.set_1 | apply IsS207.set_2) | exact HI0.out)) (by (with_reducible repeat (first | apply Kd.qe0 | apply Kd.qd0 | apply Kd.qf0)); exact HO_5.out) (by decide)) hk (fun _ h => h.2)) (fun _ h => h.1)); have n1_ := Aside0.mk (qk0.trans (by repeat (first | (with_reducible first | exact HK.out | apply qk0.set_ | apply qr0 | apply qv0 | apply qs0) | exact HK.out)) hk (.inl rfl)); have n2_ := Aside0.mk (hb); have n3_ := Aside0.mk (hi); clear HO_5; clear HK; clear HB; clear HI0; have HO_5 := n0_; have HK := n1_; have HB := n2_; have HI0 := n3_; clear n0_ n1_ n2_ n3_; (try clear hb); (try clear hb2); (try clear hk); (try clear hi)))
    go_meet
    case rel => exact ⟨_, (false), (t211), (t212), (by first | rfl | (simp; done) | (simp [*]; done)), H', ⟨by have := HK1.out; first | omega | exact Nat.le_refl _⟩, ⟨by (with_reducible repeat (first | apply Kd.qe0 | apply Kd.qd0 | apply Kd.qf0)); exact HO_5.out⟩, ⟨by repeat (first | (with_reducible first | exact HI0.out | apply IsS207.alloc | apply IsS207.drewN | apply IsS207.drew | apply IsS207.set_1 | apply IsS207.set_2) | exact HI0.out)⟩, ⟨by repeat (first | (with_reducible first | exact HK.out | apply qk0.set_ | apply qr0 | apply qv0 | apply qs0) | exact HK.out)⟩, ⟨by repeat (first | (with_reducible first | exact HB.out | apply qc0 | apply qa0 | apply qb0 | refine qh0 ?_ (IsS207.ge HI0.out)) | exact HB.out)⟩⟩
   case rest =>
    clear HC12
    try clear c1
    try clear p2
    try clear c5
    try clear c5b0
    try clear p6
    try clear c8
    try clear c10
    try clear c14
    try clear p2
    obtain ⟨kq, x27_11, x1001_11, x1002_11, rfl, HA, HJ11, HO_5, HI0, HK, HB⟩ := hcut
    cases kq with
    | zero => exact absurd HA.out (by simp [spec_l13DrawOpen.j1])
    | succ kj11 =>
     have H := HA.out
     clear HA
     simp only [spec_l13DrawOpen.j1] at H
     by_cases c18 : x27_11 = true
     ·subst c18
      have H1 : ((spec_l1Below.f s0_0 x1001_11 x1002_11 (x5_1.length : Int)).bind fun bt213 => ((spec_l1Once.f s0_0 bt213.2.1 bt213.2.2 2).bind fun bt216 => (if bt216.1 = true then ((spec_l1PickInt.f s0_0 bt216.2.1 bt216.2.2 (([(-1), 40001] : List Int))).bind fun bt222 => (if 0 ≤ bt213.1 then (if bt213.1 < (x5_1.length : Int) then (some ((x5_1.set (bt213.1 : Int).toNat (⟨bt222.1, (rd_T27 x5_1 bt213.1).f1⟩ : S27)), bt222.2.1, bt222.2.2)) else (none)) else (none))) else ((spec_l1PickInt.f s0_0 bt216.2.1 bt216.2.2 (([0, (-5), 100000000000, 100000000001] : List Int))).bind fun bt229 => (if 0 ≤ bt213.1 then (if bt213.1 < (x5_1.length : Int) then (some ((x5_1.set (bt213.1 : Int).toNat (⟨(rd_T27 x5_1 bt213.1).f0, bt229.1⟩ : S27)), bt229.2.1, bt229.2.2)) else (none)) else (none)))))) = some (r1, r2, r3) := by rw [if_pos rfl] at H; exact H
      clear H
      have H := H1
      clear H1
      replace H := Option.bind_eq_some_iff.mp H
      obtain ⟨⟨t213, t214, t215⟩, A190, H⟩ := H
      replace H : ((spec_l1Once.f s0_0 t214 t215 2).bind fun bt216 => (if bt216.1 = true then ((spec_l1PickInt.f s0_0 bt216.2.1 bt216.2.2 (([(-1), 40001] : List Int))).bind fun bt222 => (if 0 ≤ t213 then (if t213 < (x5_1.length : Int) then (some ((x5_1.set (t213 : Int).toNat (⟨bt222.1, (rd_T27 x5_1 t213).f1⟩ : S27)), bt222.2.1, bt222.2.2)) else (none)) else (none))) else ((spec_l1PickInt.f s0_0 bt216.2.1 bt216.2.2 (([0, (-5), 100000000000, 100000000001] : List Int))).bind fun bt229 => (if 0 ≤ t213 then (if t213 < (x5_1.length : Int) then (some ((x5_1.set (t213 : Int).toNat (⟨(rd_T27 x5_1 t213).f0, bt229.1⟩ : S27)), bt229.2.1, bt229.2.2)) else (none)) else (none))))) = some (r1, r2, r3) := H
      have A19 := Aside0.mk A190
      clear A190
      replace H := Option.bind_eq_some_iff.mp H
      obtain ⟨⟨t216, t217, t218⟩, A200, H⟩ := H
      replace H : (if t216 = true then ((spec_l1PickInt.f s0_0 t217 t218 (([(-1), 40001] : List Int))).bind fun bt222 => (if 0 ≤ t213 then (if t213 < (x5_1.length : Int) then (some ((x5_1.set (t213 : Int).toNat (⟨bt222.1, (rd_T27 x5_1 t213).f1⟩ : S27)), bt222.2.1, bt222.2.2)) else (none)) else (none))) else ((spec_l1PickInt.f s0_0 t217 t218 (([0, (-5), 100000000000, 100000000001] : List Int))).bind fun bt229 => (if 0 ≤ t213 then (if t213 < (x5_1.length : Int) then (some ((x5_1.set (t213 : Int).toNat (⟨(rd_T27 x5_1 t213).f0, bt229.1⟩ : S27)), bt229.2.1, bt229.2.2)) else (none)) else (none)))) = some (r1, r2, r3) := H
      have A20 := Aside0.mk A200
      clear A200
      by_cases c21 : t216 = true
      ·subst c21
       have H1 : ((spec_l1PickInt.f s0_0 t217 t218 (([(-1), 40001] : List Int))).bind fun bt222 => (if 0 ≤ t213 then (if t213 < (x5_1.length : Int) then (some ((x5_1.set (t213 : Int).toNat (⟨bt222.1, (rd_T27 x5_1 t213).f1⟩ : S27)), bt222.2.1, bt222.2.2)) else (none)) else (none))) = some (r1, r2, r3) := by rw [if_pos rfl] at H; exact H
       clear H
       have H := H1
       clear H1
       obtain ⟨y219, hy219⟩ : ∃ y_ : List Int, y_ = (([(-1), 40001] : List Int)) := ⟨_, rfl⟩
       replace H : ((spec_l1PickInt.f s0_0 t217 t218 y219).bind fun bt222 => (if 0 ≤ t213 then (if t213 < (x5_1.length : Int) then (some ((x5_1.set (t213 : Int).toNat (⟨bt222.1, (rd_T27 x5_1 t213).f1⟩ : S27)), bt222.2.1, bt222.2.2)) else (none)) else (none))) = some (r1, r2, r3) := by first | (rw [hy219]; with_reducible exact H) | (have H2_ := (Option.bind_some _ _).symm.trans H; rw [hy219]; with_reducible exact H2_) | (have H2_ := (Option.bind_some _ _).symm.trans H; with_reducible exact H2_) | with_reducible exact H | (rw [hy219]; exact H) | exact H
       have Ny219 := Aside0.mk hy219
       clear hy219
       replace H := Option.bind_eq_some_iff.mp H
       obtain ⟨⟨t222, t223, t224⟩, A220, H⟩ := H
       replace H : (if 0 ≤ t213 then (if t213 < (x5_1.length : Int) then (some ((x5_1.set (t213 : Int).toNat (⟨t222, (rd_T27 x5_1 t213).f1⟩ : S27)), t223, t224)) else (none)) else (none)) = some (r1, r2, r3) := H
       have A22 := Aside0.mk A220
       clear A220
       by_cases c23 : 0 ≤ t213
       case neg => rw [if_neg c23] at H; exact absurd H (by simp)
       rw [if_pos c23] at H
       have c23b0 : decide (0 ≤ t213) = true := decide_eq_true c23
       clear c23
       by_cases c24 : t213 < (x5_1.length : Int)
       case neg => rw [if_neg c24] at H; exact absurd H (by simp)
       rw [if_pos c24] at H
       have c24b0 : decide (t213 < (x5_1.length : Int)) = true := decide_eq_true c24
       clear c24
       obtain ⟨y225, hy225⟩ : ∃ y_ : List (S27), y_ = (x5_1.set (t213 : Int).toNat (⟨t222, (rd_T27 x5_1 t213).f1⟩ : S27)) := ⟨_, rfl⟩
       replace H : (some (y225, t223, t224)) = some (r1, r2, r3) := by first | (rw [hy225]; with_reducible exact H) | (have H2_ := (Option.bind_some _ _).symm.trans H; rw [hy225]; with_reducible exact H2_) | (have H2_ := (Option.bind_some _ _).symm.trans H; with_reducible exact H2_) | with_reducible exact H | (rw [hy225]; exact H) | exact H
       have Ny225 := Aside0.mk hy225
       clear hy225
       simp only [Option.some.injEq, Prod.mk.injEq] at H
       obtain ⟨rfl, rfl, rfl⟩ := H
       obtain ⟨Ao26, co26, eo26⟩ := Kd.qw0 HO_5.out
       subst eo26
       go_wp2_with (first | ((with_reducible refine qj0 (f := 84) rfl ?_); refine qz0 (some 31) rfl rfl Try.func84 (by kernel_rfl) rfl #[.pointer (some ⟨g, 0, none⟩), .int .i64 (x5_1.length : Int)] rfl (by (try simp only [List.map_toArray, List.map_cons, List.map_nil]); first | done | rfl | (simp only [List.length_drop, List.length_take]; rfl)) ?_; (with_reducible refine (spec_l1Below.calls g s0_0 x1001_11 x1002_11 (x5_1.length : Int) t213 t214 t215 w0 _ ?side1 ?side2 A19.out).mono ?_); (case side1 => repeat (first | (with_reducible first | exact HI0.out | apply IsS207.alloc | apply IsS207.drewN | apply IsS207.drew | apply IsS207.set_1 | apply IsS207.set_2) | exact HI0.out)); (case side2 => repeat (first | (with_reducible first | exact HB.out | apply qc0 | apply qa0 | apply qb0 | refine qh0 ?_ (IsS207.ge HI0.out)) | exact HB.out)); rintro e w27 ⟨rfl, hi, hb, hk⟩; refine ⟨_, rfl, ?_⟩; have n0_ := Aside0.mk (Kd.qm0 (Kd.R_keep (IsS207.apart (show IsS207 w0 _ g s0_0 x1001_11 x1002_11 from by repeat (first | (with_reducible first | exact HI0.out | apply IsS207.alloc | apply IsS207.drewN | apply IsS207.drew | apply IsS207.set_1 | apply IsS207.set_2) | exact HI0.out)) (by (with_reducible repeat (first | apply Kd.qe0 | apply Kd.qd0 | apply Kd.qf0)); exact HO_5.out) (by decide)) hk (fun _ h => h.2)) (fun _ h => h.1)); have n1_ := Aside0.mk (qk0.trans (by repeat (first | (with_reducible first | exact HK.out | apply qk0.set_ | apply qr0 | apply qv0 | apply qs0) | exact HK.out)) hk (.inl rfl)); have n2_ := Aside0.mk (hb); have n3_ := Aside0.mk (hi); clear HO_5; clear HK; clear HB; clear HI0; have HO_5 := n0_; have HK := n1_; have HB := n2_; have HI0 := n3_; clear n0_ n1_ n2_ n3_; (try clear hb); (try clear hb2); (try clear hk); (try clear hi)) | ((with_reducible refine qj0 (f := 102) rfl ?_); refine qz0 (some 33) rfl rfl Try.func102 (by kernel_rfl) rfl #[.pointer (some ⟨g, 0, none⟩), .int .i64 2] rfl (by (try simp only [List.map_toArray, List.map_cons, List.map_nil]); first | done | rfl | (simp only [List.length_drop, List.length_take]; rfl)) ?_; (with_reducible refine (spec_l1Once.calls g s0_0 t214 t215 2 true t217 t218 w0 _ ?side1 ?side2 A20.out).mono ?_); (case side1 => repeat (first | (with_reducible first | exact HI0.out | apply IsS207.alloc | apply IsS207.drewN | apply IsS207.drew | apply IsS207.set_1 | apply IsS207.set_2) | exact HI0.out)); (case side2 => repeat (first | (with_reducible first | exact HB.out | apply qc0 | apply qa0 | apply qb0 | refine qh0 ?_ (IsS207.ge HI0.out)) | exact HB.out)); rintro e w28 ⟨rfl, hi, hb, hk⟩; refine ⟨_, rfl, ?_⟩; have n0_ := Aside0.mk (Kd.qm0 (Kd.R_keep (IsS207.apart (show IsS207 w0 _ g s0_0 t214 t215 from by repeat (first | (with_reducible first | exact HI0.out | apply IsS207.alloc | apply IsS207.drewN | apply IsS207.drew | apply IsS207.set_1 | apply IsS207.set_2) | exact HI0.out)) (by (with_reducible repeat (first | apply Kd.qe0 | apply Kd.qd0 | apply Kd.qf0)); exact HO_5.out) (by decide)) hk (fun _ h => h.2)) (fun _ h => h.1)); have n1_ := Aside0.mk (qk0.trans (by repeat (first | (with_reducible first | exact HK.out | apply qk0.set_ | apply qr0 | apply qv0 | apply qs0) | exact HK.out)) hk (.inl rfl)); have n2_ := Aside0.mk (hb); have n3_ := Aside0.mk (hi); clear HO_5; clear HK; clear HB; clear HI0; have HO_5 := n0_; have HK := n1_; have HB := n2_; have HI0 := n3_; clear n0_ n1_ n2_ n3_; (try clear hb); (try clear hb2); (try clear hk); (try clear hi)) | ((with_reducible refine qi1 (N := 37) rfl ?_); (try (refine gate_guard (by rfl) ?_; dsimp only)); refine Kd.R_lit (Kd.int .i64) _ 3 ?hg (N := 37) ?hd (xs := ([(-1), 40001] : List Int)) (inner := [.int .i64 (-1), .int .i64 40001]) (ok := fun _ => True) (okp := fun _ => True) ?hr ?hp (fun _ hk => hk) trivial (Below.refl _ _) (Nat.le_refl _) (by simp) ?_; (case hd => rfl); (case hg => rfl); (case hr => first | (go_simp; done) | (go_simp; rfl)); (case hp => exact (Reps.one (show Kd.M (Kd.int .i64) _ _ _ (-1) [.int .i64 (-1)] from rfl) (Reps.one (show Kd.M (Kd.int .i64) _ _ _ 40001 [.int .i64 40001] from rfl) (Reps.none _ _)))); intro v220 w29 ho30 hb hg_ hnew_; clear hg_ hnew_; (first | rw [← Ny219.out] at ho30 | (simp only [Int.reduceToNat] at ho30; rw [← Ny219.out] at ho30)); have n0_ := Aside0.mk (Kd.qx0 (by (with_reducible repeat (first | apply Kd.qe0 | apply Kd.qd0 | apply Kd.qf0)); exact HO_5.out) hb); have n1_ := Aside0.mk (Kd.qe1 ho30 (keep_size (w := w) (g := g) (row := none) (by repeat (first | (with_reducible first | exact HK.out | apply qk0.set_ | apply qr0 | apply qv0 | apply qs0) | exact HK.out)))); have n2_ := Aside0.mk (IsS207.below (by repeat (first | (with_reducible first | exact HI0.out | apply IsS207.alloc | apply IsS207.drewN | apply IsS207.drew | apply IsS207.set_1 | apply IsS207.set_2) | exact HI0.out)) hb); have n3_ := Aside0.mk (qk0.trans (by repeat (first | (with_reducible first | exact HK.out | apply qk0.set_ | apply qr0 | apply qv0 | apply qs0) | exact HK.out)) (qk0.of_below hb g none) (.inl rfl)); have n4_ := Aside0.mk (qq0 (by repeat (first | (with_reducible first | exact HB.out | apply qc0 | apply qa0 | apply qb0 | refine qh0 ?_ (IsS207.ge HI0.out)) | exact HB.out)) hb); clear HO_5; clear HI0; clear HK; clear HB; have HO_5 := n0_; have HO221 := n1_; have HI0 := n2_; have HK := n3_; have HB := n4_; clear n0_ n1_ n2_ n3_ n4_; clear hb ho30; obtain ⟨Ao31, co31, eo31⟩ := Kd.qw0 HO221.out; subst eo31) | ((with_reducible refine qj0 (f := 103) rfl ?_); refine qz0 (some 38) rfl rfl Try.func103 (by kernel_rfl) rfl #[.pointer (some ⟨g, 0, none⟩), .slice Ao31 y219.length co31] rfl (by (try simp only [List.map_toArray, List.map_cons, List.map_nil]); first | done | rfl | (simp only [List.length_drop, List.length_take]; rfl)) ?_; (with_reducible refine (spec_l1PickInt.calls g s0_0 t217 t218 _ _ y219 t222 t223 t224 w0 _ ?side1 ?side2 ?side3 ?side4 ?side5 A22.out).mono ?_); (case side1 => repeat (first | (with_reducible first | exact HI0.out | apply IsS207.alloc | apply IsS207.drewN | apply IsS207.drew | apply IsS207.set_1 | apply IsS207.set_2) | exact HI0.out)); (case side2 => repeat (first | (with_reducible first | exact HB.out | apply qc0 | apply qa0 | apply qb0 | refine qh0 ?_ (IsS207.ge HI0.out)) | exact HB.out)); (case side3 => repeat (first | exact (Kd.qi0 HO221.out).2.2 | (with_reducible refine Kd.qb1 ?_ _) | (with_reducible refine Kd.qa1 ?_ _) | (with_reducible refine Kd.qg1 ?_))); (case side4 => exact (Kd.qi0 HO221.out).2.1); (case side5 => exact far_slice (IsS207.own_ne HI0.out HO221.out (by decide))); rintro e w32 ⟨rfl, hi, hb, hk⟩; refine ⟨_, rfl, ?_⟩; have n0_ := Aside0.mk (Kd.qm0 (Kd.R_keep (IsS207.apart (show IsS207 w0 _ g s0_0 t217 t218 from by repeat (first | (with_reducible first | exact HI0.out | apply IsS207.alloc | apply IsS207.drewN | apply IsS207.drew | apply IsS207.set_1 | apply IsS207.set_2) | exact HI0.out)) (by (with_reducible repeat (first | apply Kd.qe0 | apply Kd.qd0 | apply Kd.qf0)); exact HO_5.out) (by decide)) hk (fun _ h => h.2)) (fun _ h => h.1)); have n1_ := Aside0.mk (Kd.qm0 (Kd.R_keep (IsS207.apart (show IsS207 w0 _ g s0_0 t217 t218 from by repeat (first | (with_reducible first | exact HI0.out | apply IsS207.alloc | apply IsS207.drewN | apply IsS207.drew | apply IsS207.set_1 | apply IsS207.set_2) | exact HI0.out)) (by (with_reducible repeat (first | apply Kd.qe0 | apply Kd.qd0 | apply Kd.qf0)); exact HO221.out) (by decide)) hk (fun _ h => h.2)) (fun _ h => h.1)); have n2_ := Aside0.mk (qk0.trans (by repeat (first | (with_reducible first | exact HK.out | apply qk0.set_ | apply qr0 | apply qv0 | apply qs0) | exact HK.out)) hk (.inl rfl)); have n3_ := Aside0.mk (hb); have n4_ := Aside0.mk (hi); clear HO_5; clear HO221; clear HK; clear HB; clear HI0; have HO_5 := n0_; have HO221 := n1_; have HK := n2_; have HB := n3_; have HI0 := n4_; clear n0_ n1_ n2_ n3_ n4_; (try clear hb); (try clear hb2); (try clear hk); (try clear hi); have p25 : 0 ≤ (t213 : Int) := of_decide_eq_true (by first | (with_reducible assumption) | assumption); have q25 : (t213 : Int) < ((x5_1.length : Int) : Int) := of_decide_eq_true (by first | (with_reducible assumption) | assumption); obtain ⟨go25, co25, eo25, gb25, gl25, cl25, HG25⟩ := Kd.R_form HO_5.out (by omega); (first | cases eo25 | (injection eo25 with ea_ en_ ec_; (first | subst ea_ | (injection ea_ with ea_; subst ea_)); subst ec_; clear en_)); have GB25 := Aside0.mk gb25; have GG25 := Aside0.mk HG25; clear gb25 gl25 HG25; obtain ⟨ce25, hcl25, hM25, hcc25, hfr25⟩ := Kd.R_elem HO_5.out z27 (t213 : Int) p25 q25; obtain rfl := k27_openM hM25; have hx25_0 : w32.cell? ⟨go25, (t213 : Int).toNat * 2, none⟩ = some (.int .i64 ((rd_T27 x5_1 t213).f0)) := hcc25 0 _ rfl; have hx25_1 : w32.cell? ⟨go25, (t213 : Int).toNat * 2 + 1, none⟩ = some (.int .i64 ((rd_T27 x5_1 t213).f1)) := hcc25 1 _ rfl; have hf25_0 : w32.frozen? ⟨go25, (t213 : Int).toNat * 2, none⟩ = false := hfr25 0; have hf25_1 : w32.frozen? ⟨go25, (t213 : Int).toNat * 2 + 1, none⟩ = false := hfr25 1; clear hcl25 hcc25 hfr25 hM25; replace p25 := eq_true p25; replace q25 := eq_true q25; have HX33 := Aside0.mk (show Kd.R k27 27 w32 w.heap.size (fun _ => True) (.slice (some ⟨go25, 0, none⟩) x5_1.length co26) x5_1 from (by (with_reducible repeat (first | apply Kd.qe0 | apply Kd.qd0 | apply Kd.qf0)); exact HO_5.out)); obtain ⟨ce33, hcl33, hM33, hcc33, hfr33⟩ := Kd.R_elem HX33.out z27 (t213 : Int) (of_decide_eq_true (by first | (with_reducible assumption) | assumption)) (by have h_ : (t213 : Int) < ((x5_1.length : Int) : Int) := of_decide_eq_true (by first | (with_reducible assumption) | assumption); first | exact h_ | (have e_ := (Kd.qi0 HO_5.out).1; omega) | simpa using h_); obtain rfl := k27_openM hM33; have HP33 := Kd.R_seg HX33.out (t213 : Int) (of_decide_eq_true (by first | (with_reducible assumption) | assumption)) (by have h_ : (t213 : Int) < ((x5_1.length : Int) : Int) := of_decide_eq_true (by first | (with_reducible assumption) | assumption); first | exact h_ | (have e_ := (Kd.qi0 HO_5.out).1; omega) | simpa using h_) (seg := [.int .i64 t222]) (j := 0) hcl33 hcc33 (show 1 ≤ 2 from by decide) (x' := (⟨t222, (rd_T27 x5_1 t213).f1⟩ : S27)) (k27_mkM _ _ _ (⟨t222, (rd_T27 x5_1 t213).f1⟩ : S27) ) (fun _ hk => hk); have hx33_0 := hcc33 0 _ rfl; (try simp only [show (k27).sz = 2 from rfl, Nat.mul_one, Nat.add_zero] at hx33_0); have hf33_0 := hfr33 0; (try simp only [show (k27).sz = 2 from rfl, Nat.mul_one, Nat.add_zero] at hf33_0); clear hcl33 hcc33 hfr33 hM33) | ((with_reducible refine gate_store (t := 3) (p := 40) rfl ?_); refine store_event (t := 3) (p := 40) (v := ?vo_w34) (w1 := (w32.setCell ⟨go25, (t213 : Int).toNat * 2, none⟩ (.int .i64 t222))) ?hg ?ho ?hn ?hr ?_; (case ho => rfl); (case hg => rfl); (case hn => rfl); (case hr => first | (go_simp; done) | (go_simp; rfl)); intro w34 hw; have hg : w32.grownBy w34 (some go25) := (by rw [hw]; exact HP33.2); have hp_ : Kd.R k27 27 w34 w.heap.size (fun _ => True) (.slice (some ⟨go25, 0, none⟩) x5_1.length co26) y225 := (by rw [hw, Ny225.out]; exact HP33.1); clear HP33; have n0_ := Aside0.mk (hp_); have n1_ := Aside0.mk (IsS207.grown (by repeat (first | (with_reducible first | exact HI0.out | apply IsS207.alloc | apply IsS207.drewN | apply IsS207.drew | apply IsS207.set_1 | apply IsS207.set_2) | exact HI0.out)) hg (IsS207.own_ne HI0.out HO_5.out (by decide))); have n2_ := Aside0.mk (Kd.ql1 (v := (.slice (some ⟨go25, 0, none⟩) x5_1.length co26)) (by (with_reducible repeat (first | apply Kd.qe0 | apply Kd.qd0 | apply Kd.qf0)); exact HO221.out) (Kd.qk1 HO_5.out) (by decide) hg); have n3_ := Aside0.mk ((by rw [hw]; exact qh0 (HB.out) (Nat.le_trans HL.out GB25.out) : Below w0.heap.size w0 w34)); have n4_ := Aside0.mk (qk0.trans (by repeat (first | (with_reducible first | exact HK.out | apply qk0.set_ | apply qr0 | apply qv0 | apply qs0) | exact HK.out)) (qk0.of_grown hg g) (Kd.R_base2 HO_5.out)); clear HO_5; clear HI0; clear HO221; clear HB; clear HK; have HO_5 := n0_; have HI0 := n1_; have HO221 := n2_; have HB := n3_; have HK := n4_; clear n0_ n1_ n2_ n3_ n4_; clear hg hw hp_))
       go_ret
       exact ⟨_, by first | rfl | (simp [errW_none, errW_some] <;> rfl) | (simp [*, errW_none, errW_some] <;> rfl), by (with_reducible repeat (first | apply Kd.qe0 | apply Kd.qd0 | apply Kd.qf0)); exact HO_5.out, by repeat (first | (with_reducible first | exact HI0.out | apply IsS207.alloc | apply IsS207.drewN | apply IsS207.drew | apply IsS207.set_1 | apply IsS207.set_2) | exact HI0.out), by repeat (first | (with_reducible first | exact HB.out | apply qc0 | apply qa0 | apply qb0 | refine qh0 ?_ (IsS207.ge HI0.out)) | exact HB.out), by repeat (first | (with_reducible first | exact HK.out | apply qk0.set_ | apply qr0 | apply qv0 | apply qs0) | exact HK.out)⟩
      replace c21 := Bool.eq_false_iff.mpr c21
      subst c21
      have H1 : ((spec_l1PickInt.f s0_0 t217 t218 (([0, (-5), 100000000000, 100000000001] : List Int))).bind fun bt229 => (if 0 ≤ t213 then (if t213 < (x5_1.length : Int) then (some ((x5_1.set (t213 : Int).toNat (⟨(rd_T27 x5_1 t213).f0, bt229.1⟩ : S27)), bt229.2.1, bt229.2.2)) else (none)) else (none))) = some (r1, r2, r3) := by rw [if_neg (show ¬ (false = true) by decide)] at H; exact H
      clear H
      have H := H1
      clear H1
      obtain ⟨y226, hy226⟩ : ∃ y_ : List Int, y_ = (([0, (-5), 100000000000, 100000000001] : List Int)) := ⟨_, rfl⟩
      replace H : ((spec_l1PickInt.f s0_0 t217 t218 y226).bind fun bt229 => (if 0 ≤ t213 then (if t213 < (x5_1.length : Int) then (some ((x5_1.set (t213 : Int).toNat (⟨(rd_T27 x5_1 t213).f0, bt229.1⟩ : S27)), bt229.2.1, bt229.2.2)) else (none)) else (none))) = some (r1, r2, r3) := by first | (rw [hy226]; with_reducible exact H) | (have H2_ := (Option.bind_some _ _).symm.trans H; rw [hy226]; with_reducible exact H2_) | (have H2_ := (Option.bind_some _ _).symm.trans H; with_reducible exact H2_) | with_reducible exact H | (rw [hy226]; exact H) | exact H
      have Ny226 := Aside0.mk hy226
      clear hy226
      replace H := Option.bind_eq_some_iff.mp H
      obtain ⟨⟨t229, t230, t231⟩, A350, H⟩ := H
      replace H : (if 0 ≤ t213 then (if t213 < (x5_1.length : Int) then (some ((x5_1.set (t213 : Int).toNat (⟨(rd_T27 x5_1 t213).f0, t229⟩ : S27)), t230, t231)) else (none)) else (none)) = some (r1, r2, r3) := H
      have A35 := Aside0.mk A350
      clear A350
      by_cases c36 : 0 ≤ t213
      case neg => rw [if_neg c36] at H; exact absurd H (by simp)
      rw [if_pos c36] at H
      have c36b0 : decide (0 ≤ t213) = true := decide_eq_true c36
      clear c36
      by_cases c37 : t213 < (x5_1.length : Int)
      case neg => rw [if_neg c37] at H; exact absurd H (by simp)
      rw [if_pos c37] at H
      have c37b0 : decide (t213 < (x5_1.length : Int)) = true := decide_eq_true c37
      clear c37
      obtain ⟨y232, hy232⟩ : ∃ y_ : List (S27), y_ = (x5_1.set (t213 : Int).toNat (⟨(rd_T27 x5_1 t213).f0, t229⟩ : S27)) := ⟨_, rfl⟩
      replace H : (some (y232, t230, t231)) = some (r1, r2, r3) := by first | (rw [hy232]; with_reducible exact H) | (have H2_ := (Option.bind_some _ _).symm.trans H; rw [hy232]; with_reducible exact H2_) | (have H2_ := (Option.bind_some _ _).symm.trans H; with_reducible exact H2_) | with_reducible exact H | (rw [hy232]; exact H) | exact H
      have Ny232 := Aside0.mk hy232
      clear hy232
      simp only [Option.some.injEq, Prod.mk.injEq] at H
      obtain ⟨rfl, rfl, rfl⟩ := H
      obtain ⟨Ao39, co39, eo39⟩ := Kd.qw0 HO_5.out
      subst eo39
      go_wp2_with (first | ((with_reducible refine qj0 (f := 84) rfl ?_); refine qz0 (some 31) rfl rfl Try.func84 (by kernel_rfl) rfl #[.pointer (some ⟨g, 0, none⟩), .int .i64 (x5_1.length : Int)] rfl (by (try simp only [List.map_toArray, List.map_cons, List.map_nil]); first | done | rfl | (simp only [List.length_drop, List.length_take]; rfl)) ?_; (with_reducible refine (spec_l1Below.calls g s0_0 x1001_11 x1002_11 (x5_1.length : Int) t213 t214 t215 w0 _ ?side1 ?side2 A19.out).mono ?_); (case side1 => repeat (first | (with_reducible first | exact HI0.out | apply IsS207.alloc | apply IsS207.drewN | apply IsS207.drew | apply IsS207.set_1 | apply IsS207.set_2) | exact HI0.out)); (case side2 => repeat (first | (with_reducible first | exact HB.out | apply qc0 | apply qa0 | apply qb0 | refine qh0 ?_ (IsS207.ge HI0.out)) | exact HB.out)); rintro e w40 ⟨rfl, hi, hb, hk⟩; refine ⟨_, rfl, ?_⟩; have n0_ := Aside0.mk (Kd.qm0 (Kd.R_keep (IsS207.apart (show IsS207 w0 _ g s0_0 x1001_11 x1002_11 from by repeat (first | (with_reducible first | exact HI0.out | apply IsS207.alloc | apply IsS207.drewN | apply IsS207.drew | apply IsS207.set_1 | apply IsS207.set_2) | exact HI0.out)) (by (with_reducible repeat (first | apply Kd.qe0 | apply Kd.qd0 | apply Kd.qf0)); exact HO_5.out) (by decide)) hk (fun _ h => h.2)) (fun _ h => h.1)); have n1_ := Aside0.mk (qk0.trans (by repeat (first | (with_reducible first | exact HK.out | apply qk0.set_ | apply qr0 | apply qv0 | apply qs0) | exact HK.out)) hk (.inl rfl)); have n2_ := Aside0.mk (hb); have n3_ := Aside0.mk (hi); clear HO_5; clear HK; clear HB; clear HI0; have HO_5 := n0_; have HK := n1_; have HB := n2_; have HI0 := n3_; clear n0_ n1_ n2_ n3_; (try clear hb); (try clear hb2); (try clear hk); (try clear hi)) | ((with_reducible refine qj0 (f := 102) rfl ?_); refine qz0 (some 33) rfl rfl Try.func102 (by kernel_rfl) rfl #[.pointer (some ⟨g, 0, none⟩), .int .i64 2] rfl (by (try simp only [List.map_toArray, List.map_cons, List.map_nil]); first | done | rfl | (simp only [List.length_drop, List.length_take]; rfl)) ?_; (with_reducible refine (spec_l1Once.calls g s0_0 t214 t215 2 false t217 t218 w0 _ ?side1 ?side2 A20.out).mono ?_); (case side1 => repeat (first | (with_reducible first | exact HI0.out | apply IsS207.alloc | apply IsS207.drewN | apply IsS207.drew | apply IsS207.set_1 | apply IsS207.set_2) | exact HI0.out)); (case side2 => repeat (first | (with_reducible first | exact HB.out | apply qc0 | apply qa0 | apply qb0 | refine qh0 ?_ (IsS207.ge HI0.out)) | exact HB.out)); rintro e w41 ⟨rfl, hi, hb, hk⟩; refine ⟨_, rfl, ?_⟩; have n0_ := Aside0.mk (Kd.qm0 (Kd.R_keep (IsS207.apart (show IsS207 w0 _ g s0_0 t214 t215 from by repeat (first | (with_reducible first | exact HI0.out | apply IsS207.alloc | apply IsS207.drewN | apply IsS207.drew | apply IsS207.set_1 | apply IsS207.set_2) | exact HI0.out)) (by (with_reducible repeat (first | apply Kd.qe0 | apply Kd.qd0 | apply Kd.qf0)); exact HO_5.out) (by decide)) hk (fun _ h => h.2)) (fun _ h => h.1)); have n1_ := Aside0.mk (qk0.trans (by repeat (first | (with_reducible first | exact HK.out | apply qk0.set_ | apply qr0 | apply qv0 | apply qs0) | exact HK.out)) hk (.inl rfl)); have n2_ := Aside0.mk (hb); have n3_ := Aside0.mk (hi); clear HO_5; clear HK; clear HB; clear HI0; have HO_5 := n0_; have HK := n1_; have HB := n2_; have HI0 := n3_; clear n0_ n1_ n2_ n3_; (try clear hb); (try clear hb2); (try clear hk); (try clear hi)) | ((with_reducible refine qi1 (N := 44) rfl ?_); (try (refine gate_guard (by rfl) ?_; dsimp only)); refine Kd.R_lit (Kd.int .i64) _ 3 ?hg (N := 44) ?hd (xs := ([0, (-5), 100000000000, 100000000001] : List Int)) (inner := [.int .i64 0, .int .i64 (-5), .int .i64 100000000000, .int .i64 100000000001]) (ok := fun _ => True) (okp := fun _ => True) ?hr ?hp (fun _ hk => hk) trivial (Below.refl _ _) (Nat.le_refl _) (by simp) ?_; (case hd => rfl); (case hg => rfl); (case hr => first | (go_simp; done) | (go_simp; rfl)); (case hp => exact (Reps.one (show Kd.M (Kd.int .i64) _ _ _ 0 [.int .i64 0] from rfl) (Reps.one (show Kd.M (Kd.int .i64) _ _ _ (-5) [.int .i64 (-5)] from rfl) (Reps.one (show Kd.M (Kd.int .i64) _ _ _ 100000000000 [.int .i64 100000000000] from rfl) (Reps.one (show Kd.M (Kd.int .i64) _ _ _ 100000000001 [.int .i64 100000000001] from rfl) (Reps.none _ _)))))); intro v227 w42 ho43 hb hg_ hnew_; clear hg_ hnew_; (first | rw [← Ny226.out] at ho43 | (simp only [Int.reduceToNat] at ho43; rw [← Ny226.out] at ho43)); have n0_ := Aside0.mk (Kd.qx0 (by (with_reducible repeat (first | apply Kd.qe0 | apply Kd.qd0 | apply Kd.qf0)); exact HO_5.out) hb); have n1_ := Aside0.mk (Kd.qe1 ho43 (keep_size (w := w) (g := g) (row := none) (by repeat (first | (with_reducible first | exact HK.out | apply qk0.set_ | apply qr0 | apply qv0 | apply qs0) | exact HK.out)))); have n2_ := Aside0.mk (IsS207.below (by repeat (first | (with_reducible first | exact HI0.out | apply IsS207.alloc | apply IsS207.drewN | apply IsS207.drew | apply IsS207.set_1 | apply IsS207.set_2) | exact HI0.out)) hb); have n3_ := Aside0.mk (qk0.trans (by repeat (first | (with_reducible first | exact HK.out | apply qk0.set_ | apply qr0 | apply qv0 | apply qs0) | exact HK.out)) (qk0.of_below hb g none) (.inl rfl)); have n4_ := Aside0.mk (qq0 (by repeat (first | (with_reducible first | exact HB.out | apply qc0 | apply qa0 | apply qb0 | refine qh0 ?_ (IsS207.ge HI0.out)) | exact HB.out)) hb); clear HO_5; clear HI0; clear HK; clear HB; have HO_5 := n0_; have HO228 := n1_; have HI0 := n2_; have HK := n3_; have HB := n4_; clear n0_ n1_ n2_ n3_ n4_; clear hb ho43; obtain ⟨Ao44, co44, eo44⟩ := Kd.qw0 HO228.out; subst eo44) | ((with_reducible refine qj0 (f := 103) rfl ?_); refine qz0 (some 45) rfl rfl Try.func103 (by kernel_rfl) rfl #[.pointer (some ⟨g, 0, none⟩), .slice Ao44 y226.length co44] rfl (by (try simp only [List.map_toArray, List.map_cons, List.map_nil]); first | done | rfl | (simp only [List.length_drop, List.length_take]; rfl)) ?_; (with_reducible refine (spec_l1PickInt.calls g s0_0 t217 t218 _ _ y226 t229 t230 t231 w0 _ ?side1 ?side2 ?side3 ?side4 ?side5 A35.out).mono ?_); (case side1 => repeat (first | (with_reducible first | exact HI0.out | apply IsS207.alloc | apply IsS207.drewN | apply IsS207.drew | apply IsS207.set_1 | apply IsS207.set_2) | exact HI0.out)); (case side2 => repeat (first | (with_reducible first | exact HB.out | apply qc0 | apply qa0 | apply qb0 | refine qh0 ?_ (IsS207.ge HI0.out)) | exact HB.out)); (case side3 => repeat (first | exact (Kd.qi0 HO228.out).2.2 | (with_reducible refine Kd.qb1 ?_ _) | (with_reducible refine Kd.qa1 ?_ _) | (with_reducible refine Kd.qg1 ?_))); (case side4 => exact (Kd.qi0 HO228.out).2.1); (case side5 => exact far_slice (IsS207.own_ne HI0.out HO228.out (by decide))); rintro e w45 ⟨rfl, hi, hb, hk⟩; refine ⟨_, rfl, ?_⟩; have n0_ := Aside0.mk (Kd.qm0 (Kd.R_keep (IsS207.apart (show IsS207 w0 _ g s0_0 t217 t218 from by repeat (first | (with_reducible first | exact HI0.out | apply IsS207.alloc | apply IsS207.drewN | apply IsS207.drew | apply IsS207.set_1 | apply IsS207.set_2) | exact HI0.out)) (by (with_reducible repeat (first | apply Kd.qe0 | apply Kd.qd0 | apply Kd.qf0)); exact HO_5.out) (by decide)) hk (fun _ h => h.2)) (fun _ h => h.1)); have n1_ := Aside0.mk (Kd.qm0 (Kd.R_keep (IsS207.apart (show IsS207 w0 _ g s0_0 t217 t218 from by repeat (first | (with_reducible first | exact HI0.out | apply IsS207.alloc | apply IsS207.drewN | apply IsS207.drew | apply IsS207.set_1 | apply IsS207.set_2) | exact HI0.out)) (by (with_reducible repeat (first | apply Kd.qe0 | apply Kd.qd0 | apply Kd.qf0)); exact HO228.out) (by decide)) hk (fun _ h => h.2)) (fun _ h => h.1)); have n2_ := Aside0.mk (qk0.trans (by repeat (first | (with_reducible first | exact HK.out | apply qk0.set_ | apply qr0 | apply qv0 | apply qs0) | exact HK.out)) hk (.inl rfl)); have n3_ := Aside0.mk (hb); have n4_ := Aside0.mk (hi); clear HO_5; clear HO228; clear HK; clear HB; clear HI0; have HO_5 := n0_; have HO228 := n1_; have HK := n2_; have HB := n3_; have HI0 := n4_; clear n0_ n1_ n2_ n3_ n4_; (try clear hb); (try clear hb2); (try clear hk); (try clear hi); have p38 : 0 ≤ (t213 : Int) := of_decide_eq_true (by first | (with_reducible assumption) | assumption); have q38 : (t213 : Int) < ((x5_1.length : Int) : Int) := of_decide_eq_true (by first | (with_reducible assumption) | assumption); obtain ⟨go38, co38, eo38, gb38, gl38, cl38, HG38⟩ := Kd.R_form HO_5.out (by omega); (first | cases eo38 | (injection eo38 with ea_ en_ ec_; (first | subst ea_ | (injection ea_ with ea_; subst ea_)); subst ec_; clear en_)); have GB38 := Aside0.mk gb38; have GG38 := Aside0.mk HG38; clear gb38 gl38 HG38; obtain ⟨ce38, hcl38, hM38, hcc38, hfr38⟩ := Kd.R_elem HO_5.out z27 (t213 : Int) p38 q38; obtain rfl := k27_openM hM38; have hx38_0 : w45.cell? ⟨go38, (t213 : Int).toNat * 2, none⟩ = some (.int .i64 ((rd_T27 x5_1 t213).f0)) := hcc38 0 _ rfl; have hx38_1 : w45.cell? ⟨go38, (t213 : Int).toNat * 2 + 1, none⟩ = some (.int .i64 ((rd_T27 x5_1 t213).f1)) := hcc38 1 _ rfl; have hf38_0 : w45.frozen? ⟨go38, (t213 : Int).toNat * 2, none⟩ = false := hfr38 0; have hf38_1 : w45.frozen? ⟨go38, (t213 : Int).toNat * 2 + 1, none⟩ = false := hfr38 1; clear hcl38 hcc38 hfr38 hM38; replace p38 := eq_true p38; replace q38 := eq_true q38; have HX46 := Aside0.mk (show Kd.R k27 27 w45 w.heap.size (fun _ => True) (.slice (some ⟨go38, 0, none⟩) x5_1.length co39) x5_1 from (by (with_reducible repeat (first | apply Kd.qe0 | apply Kd.qd0 | apply Kd.qf0)); exact HO_5.out)); obtain ⟨ce46, hcl46, hM46, hcc46, hfr46⟩ := Kd.R_elem HX46.out z27 (t213 : Int) (of_decide_eq_true (by first | (with_reducible assumption) | assumption)) (by have h_ : (t213 : Int) < ((x5_1.length : Int) : Int) := of_decide_eq_true (by first | (with_reducible assumption) | assumption); first | exact h_ | (have e_ := (Kd.qi0 HO_5.out).1; omega) | simpa using h_); obtain rfl := k27_openM hM46; have HP46 := Kd.R_seg HX46.out (t213 : Int) (of_decide_eq_true (by first | (with_reducible assumption) | assumption)) (by have h_ : (t213 : Int) < ((x5_1.length : Int) : Int) := of_decide_eq_true (by first | (with_reducible assumption) | assumption); first | exact h_ | (have e_ := (Kd.qi0 HO_5.out).1; omega) | simpa using h_) (seg := [.int .i64 t229]) (j := 1) hcl46 hcc46 (show 2 ≤ 2 from by decide) (x' := (⟨(rd_T27 x5_1 t213).f0, t229⟩ : S27)) (k27_mkM _ _ _ (⟨(rd_T27 x5_1 t213).f0, t229⟩ : S27) ) (fun _ hk => hk); have hx46_1 := hcc46 1 _ rfl; (try simp only [show (k27).sz = 2 from rfl, Nat.mul_one, Nat.add_zero] at hx46_1); have hf46_1 := hfr46 1; (try simp only [show (k27).sz = 2 from rfl, Nat.mul_one, Nat.add_zero] at hf46_1); clear hcl46 hcc46 hfr46 hM46) | ((with_reducible refine gate_store (t := 3) (p := 47) rfl ?_); refine store_event (t := 3) (p := 47) (v := ?vo_w47) (w1 := (w45.setCell ⟨go38, (t213 : Int).toNat * 2 + 1, none⟩ (.int .i64 t229))) ?hg ?ho ?hn ?hr ?_; (case ho => rfl); (case hg => rfl); (case hn => rfl); (case hr => first | (go_simp; done) | (go_simp; rfl)); intro w47 hw; have hg : w45.grownBy w47 (some go38) := (by rw [hw]; exact HP46.2); have hp_ : Kd.R k27 27 w47 w.heap.size (fun _ => True) (.slice (some ⟨go38, 0, none⟩) x5_1.length co39) y232 := (by rw [hw, Ny232.out]; exact HP46.1); clear HP46; have n0_ := Aside0.mk (hp_); have n1_ := Aside0.mk (IsS207.grown (by repeat (first | (with_reducible first | exact HI0.out | apply IsS207.alloc | apply IsS207.drewN | apply IsS207.drew | apply IsS207.set_1 | apply IsS207.set_2) | exact HI0.out)) hg (IsS207.own_ne HI0.out HO_5.out (by decide))); have n2_ := Aside0.mk (Kd.ql1 (v := (.slice (some ⟨go38, 0, none⟩) x5_1.length co39)) (by (with_reducible repeat (first | apply Kd.qe0 | apply Kd.qd0 | apply Kd.qf0)); exact HO228.out) (Kd.qk1 HO_5.out) (by decide) hg); have n3_ := Aside0.mk ((by rw [hw]; exact qh0 (HB.out) (Nat.le_trans HL.out GB38.out) : Below w0.heap.size w0 w47)); have n4_ := Aside0.mk (qk0.trans (by repeat (first | (with_reducible first | exact HK.out | apply qk0.set_ | apply qr0 | apply qv0 | apply qs0) | exact HK.out)) (qk0.of_grown hg g) (Kd.R_base2 HO_5.out)); clear HO_5; clear HI0; clear HO228; clear HB; clear HK; have HO_5 := n0_; have HI0 := n1_; have HO228 := n2_; have HB := n3_; have HK := n4_; clear n0_ n1_ n2_ n3_ n4_; clear hg hw hp_))
      go_ret
      exact ⟨_, by first | rfl | (simp [errW_none, errW_some] <;> rfl) | (simp [*, errW_none, errW_some] <;> rfl), by (with_reducible repeat (first | apply Kd.qe0 | apply Kd.qd0 | apply Kd.qf0)); exact HO_5.out, by repeat (first | (with_reducible first | exact HI0.out | apply IsS207.alloc | apply IsS207.drewN | apply IsS207.drew | apply IsS207.set_1 | apply IsS207.set_2) | exact HI0.out), by repeat (first | (with_reducible first | exact HB.out | apply qc0 | apply qa0 | apply qb0 | refine qh0 ?_ (IsS207.ge HI0.out)) | exact HB.out), by repeat (first | (with_reducible first | exact HK.out | apply qk0.set_ | apply qr0 | apply qv0 | apply qs0) | exact HK.out)⟩
     replace c18 := Bool.eq_false_iff.mpr c18
     subst c18
     have H1 : (some (x5_1, x1001_11, x1002_11)) = some (r1, r2, r3) := by rw [if_neg (show ¬ (false = true) by decide)] at H; exact H
     clear H
     have H := H1
     clear H1
     simp only [Option.some.injEq, Prod.mk.injEq] at H
     obtain ⟨rfl, rfl, rfl⟩ := H
     go_wp2
     go_ret
     exact ⟨_, by first | rfl | (simp [errW_none, errW_some] <;> rfl) | (simp [*, errW_none, errW_some] <;> rfl), by (with_reducible repeat (first | apply Kd.qe0 | apply Kd.qd0 | apply Kd.qf0)); exact HO_5.out, by repeat (first | (with_reducible first | exact HI0.out | apply IsS207.alloc | apply IsS207.drewN | apply IsS207.drew | apply IsS207.set_1 | apply IsS207.set_2) | exact HI0.out), by repeat (first | (with_reducible first | exact HB.out | apply qc0 | apply qa0 | apply qb0 | refine qh0 ?_ (IsS207.ge HI0.out)) | exact HB.out), by repeat (first | (with_reducible first | exact HK.out | apply qk0.set_ | apply qr0 | apply qv0 | apply qs0) | exact HK.out)⟩

/-! ### spec_l1Size: function 85 -/
def spec_l1Size.f (l0 : List Int) (a1 : Int) : Option (Int) := if (wrap64 (2 + (wrap64 ((l0.length : Int) / 20)))) > a1 then (some a1) else (some (wrap64 (2 + (wrap64 ((l0.length : Int) / 20)))))
set_option maxHeartbeats 8000000 in
set_option maxRecDepth 100000 in
theorem spec_l1Size.calls (A0 : Option Addr) (c0 : Nat) (l0 : List Int) (a1 : Int) (r : Int) (w : World) (hr0 : Kd.C (Kd.int .u8) w A0 l0.length l0) (hc0 : l0.length ≤ c0) (h : spec_l1Size.f l0 a1 = some r) :
  Calls Try.prog 85 #[.slice A0 l0.length c0, .int .i64 a1] w fun e w' => e = .returned (.int .i64 r) ∧ Drawn0 w w' := by
 have HR0 := Aside0.mk hr0
 have HC0 := Aside0.mk hc0
 clear hr0 hc0
 have H : (if (wrap64 (2 + (wrap64 ((l0.length : Int) / 20)))) > a1 then (some a1) else (some (wrap64 (2 + (wrap64 ((l0.length : Int) / 20)))))) = some r := h
 clear h
 by_cases c3 : (wrap64 (2 + (wrap64 ((l0.length : Int) / 20)))) > a1
 ·rw [if_pos c3] at H
  have c3b0 : decide (a1 < (wrap64 (2 + (wrap64 ((l0.length : Int) / 20))))) = true := decide_eq_true c3
  clear c3
  obtain rfl := Option.some.inj H
  go_enter Try.func85, Try.ntmps85
  go_wp2
  go_ret
  exact ⟨by first | rfl | (simp; done) | (simp [*]; done), by repeat (first | exact Drawn0.refl _ | apply Drawn0.step)⟩
 rw [if_neg c3] at H
 have c3b0 : decide (a1 < (wrap64 (2 + (wrap64 ((l0.length : Int) / 20))))) = false := decide_eq_false c3
 clear c3
 obtain rfl := Option.some.inj H
 go_enter Try.func85, Try.ntmps85
 go_wp2
 go_ret
 exact ⟨by first | rfl | (simp; done) | (simp [*]; done), by repeat (first | exact Drawn0.refl _ | apply Drawn0.step)⟩

/-! ### spec_DrawSettle: function 17 -/
def spec_DrawSettle.f (k : Nat) (l0 : List Int) : Option ((List (S27)) × (List (S27))) := (spec_l1New.f k l0).bind fun bt233 => ((spec_l1Size.f l0 12).bind fun t237 => ((spec_l1Below.f bt233.1 bt233.2.1 bt233.2.2 t237).bind fun bt238 => ((spec_l13DrawOpen.f k bt233.1 bt238.2.1 bt238.2.2 bt238.1).bind fun bt241 => ((spec_l1Size.f l0 12).bind fun t246 => ((spec_l1Below.f bt233.1 bt241.2.1 bt241.2.2 t246).bind fun bt247 => ((spec_l13DrawOpen.f k bt233.1 bt247.2.1 bt247.2.2 bt247.1).bind fun bt250 => (some (bt241.1, bt250.1))))))))
theorem spec_DrawSettle.mono : ∀ a0 k, LeO (spec_DrawSettle.f k a0) (spec_DrawSettle.f (k + 1) a0) := by
 intro a0 k
 unfold spec_DrawSettle.f
 repeat' first
   | (with_reducible exact spec_l13DrawOpen.mono _ _ _ _ _)
   | (with_reducible exact spec_l1New.mono _ _)
   | (with_reducible exact LeO.refl _)
   | (with_reducible exact LeO.none _)
   | (with_reducible refine LeO.ite ?_ ?_)
   | (with_reducible refine LeO.bind ?_ (fun _ => ?_))
   | exact spec_l13DrawOpen.mono _ _ _ _ _
   | exact spec_l1New.mono _ _
   | exact LeO.none _
   | refine LeO.ite ?_ ?_
   | refine LeO.bind ?_ (fun _ => ?_)
set_option maxHeartbeats 8000000 in
set_option maxRecDepth 100000 in
theorem spec_DrawSettle.calls (k : Nat) (A0 : Option Addr) (c0 : Nat) (l0 : List Int) (r1 : List (S27)) (r2 : List (S27)) (w : World) (hr0 : Kd.C (Kd.int .u8) w A0 l0.length l0) (hc0 : l0.length ≤ c0) (h : spec_DrawSettle.f k l0 = some (r1, r2)) :
  Calls Try.prog 17 #[.slice A0 l0.length c0] w fun e w' => ∃ v0_ v1_ : Value, e = .returned (.tuple #[v0_, v1_]) ∧ Kd.R k27 27 w' w.heap.size (fun k_ => some k_ ≠ (v1_ : Value).ownBlock) v0_ r1 ∧ Kd.R k27 27 w' w.heap.size (fun k_ => some k_ ≠ (v0_ : Value).ownBlock) v1_ r2 ∧ Below w.heap.size w w' := by
 have HR0 := Aside0.mk hr0
 have HC0 := Aside0.mk hc0
 clear hr0 hc0
 have HB := Aside0.mk (Below.refl w.heap.size w)
 have H : ((spec_l1New.f k l0).bind fun bt233 => ((spec_l1Size.f l0 12).bind fun t237 => ((spec_l1Below.f bt233.1 bt233.2.1 bt233.2.2 t237).bind fun bt238 => ((spec_l13DrawOpen.f k bt233.1 bt238.2.1 bt238.2.2 bt238.1).bind fun bt241 => ((spec_l1Size.f l0 12).bind fun t246 => ((spec_l1Below.f bt233.1 bt241.2.1 bt241.2.2 t246).bind fun bt247 => ((spec_l13DrawOpen.f k bt233.1 bt247.2.1 bt247.2.2 bt247.1).bind fun bt250 => (some (bt241.1, bt250.1))))))))) = some (r1, r2) := h
 clear h
 replace H := Option.bind_eq_some_iff.mp H
 obtain ⟨⟨t233, t234, t235⟩, A20, H⟩ := H
 replace H : ((spec_l1Size.f l0 12).bind fun t237 => ((spec_l1Below.f t233 t234 t235 t237).bind fun bt238 => ((spec_l13DrawOpen.f k t233 bt238.2.1 bt238.2.2 bt238.1).bind fun bt241 => ((spec_l1Size.f l0 12).bind fun t246 => ((spec_l1Below.f t233 bt241.2.1 bt241.2.2 t246).bind fun bt247 => ((spec_l13DrawOpen.f k t233 bt247.2.1 bt247.2.2 bt247.1).bind fun bt250 => (some (bt241.1, bt250.1)))))))) = some (r1, r2) := H
 have A2 := Aside0.mk A20
 clear A20
 replace H := Option.bind_eq_some_iff.mp H
 obtain ⟨t237, A30, H⟩ := H
 replace H : ((spec_l1Below.f t233 t234 t235 t237).bind fun bt238 => ((spec_l13DrawOpen.f k t233 bt238.2.1 bt238.2.2 bt238.1).bind fun bt241 => ((spec_l1Size.f l0 12).bind fun t246 => ((spec_l1Below.f t233 bt241.2.1 bt241.2.2 t246).bind fun bt247 => ((spec_l13DrawOpen.f k t233 bt247.2.1 bt247.2.2 bt247.1).bind fun bt250 => (some (bt241.1, bt250.1))))))) = some (r1, r2) := H
 have A3 := Aside0.mk A30
 clear A30
 replace H := Option.bind_eq_some_iff.mp H
 obtain ⟨⟨t238, t239, t240⟩, A40, H⟩ := H
 replace H : ((spec_l13DrawOpen.f k t233 t239 t240 t238).bind fun bt241 => ((spec_l1Size.f l0 12).bind fun t246 => ((spec_l1Below.f t233 bt241.2.1 bt241.2.2 t246).bind fun bt247 => ((spec_l13DrawOpen.f k t233 bt247.2.1 bt247.2.2 bt247.1).bind fun bt250 => (some (bt241.1, bt250.1)))))) = some (r1, r2) := H
 have A4 := Aside0.mk A40
 clear A40
 replace H := Option.bind_eq_some_iff.mp H
 obtain ⟨⟨t241, t244, t245⟩, A50, H⟩ := H
 replace H : ((spec_l1Size.f l0 12).bind fun t246 => ((spec_l1Below.f t233 t244 t245 t246).bind fun bt247 => ((spec_l13DrawOpen.f k t233 bt247.2.1 bt247.2.2 bt247.1).bind fun bt250 => (some (t241, bt250.1))))) = some (r1, r2) := H
 have A5 := Aside0.mk A50
 clear A50
 replace H := Option.bind_eq_some_iff.mp H
 obtain ⟨t246, A60, H⟩ := H
 replace H : ((spec_l1Below.f t233 t244 t245 t246).bind fun bt247 => ((spec_l13DrawOpen.f k t233 bt247.2.1 bt247.2.2 bt247.1).bind fun bt250 => (some (t241, bt250.1)))) = some (r1, r2) := H
 have A6 := Aside0.mk A60
 clear A60
 replace H := Option.bind_eq_some_iff.mp H
 obtain ⟨⟨t247, t248, t249⟩, A70, H⟩ := H
 replace H : ((spec_l13DrawOpen.f k t233 t248 t249 t247).bind fun bt250 => (some (t241, bt250.1))) = some (r1, r2) := H
 have A7 := Aside0.mk A70
 clear A70
 replace H := Option.bind_eq_some_iff.mp H
 obtain ⟨⟨t250, t253, t254⟩, A80, H⟩ := H
 replace H : (some (t241, t250)) = some (r1, r2) := H
 have A8 := Aside0.mk A80
 clear A80
 simp only [Option.some.injEq, Prod.mk.injEq] at H
 obtain ⟨rfl, rfl⟩ := H
 go_enter Try.func17, Try.ntmps17
 go_wp2_with (first | ((with_reducible refine qj0 (f := 82) rfl ?_); refine qz0 (some 7) rfl rfl Try.func82 (by kernel_rfl) rfl #[.slice A0 l0.length c0] rfl (by (try simp only [List.map_toArray, List.map_cons, List.map_nil]); first | done | rfl | (simp only [List.length_drop, List.length_take]; rfl)) ?_; (with_reducible refine (spec_l1New.calls k _ _ l0 t233 t234 t235 w _ ?side1 ?side2 ?side3 A2.out).mono ?_); (case side1 => repeat (first | (with_reducible first | exact HB.out | apply qc0 | apply qa0 | apply qb0) | exact HB.out)); (case side2 => exact HR0.out); (case side3 => exact HC0.out); rintro e w9 ⟨g236, rfl, hi, hb, hb2⟩; refine ⟨_, rfl, ?_⟩; have n0_ := Aside0.mk (hb); have n1_ := Aside0.mk (hi); clear HB; have HB := n0_; have HI236 := n1_; clear n0_ n1_; (try clear hb); (try clear hb2); (try clear hk); (try clear hi)) | ((with_reducible refine qj0 (f := 85) rfl ?_); refine qz0 (some 11) rfl rfl Try.func85 (by kernel_rfl) rfl #[.slice A0 l0.length c0, .int .i64 12] rfl (by (try simp only [List.map_toArray, List.map_cons, List.map_nil]); first | done | rfl | (simp only [List.length_drop, List.length_take]; rfl)) ?_; (with_reducible refine (spec_l1Size.calls _ _ l0 12 t237 _ ?side1 ?side2 A3.out).mono ?_); (case side1 => repeat (first | exact (Kd.C_below HR0.out HB.out) | (with_reducible refine Kd.qb1 ?_ _) | (with_reducible refine Kd.qa1 ?_ _) | (with_reducible refine Kd.qg1 ?_))); (case side2 => exact HC0.out); rintro e w' ⟨rfl, ⟨nd, rfl⟩⟩; refine ⟨_, rfl, ?_⟩) | ((with_reducible refine qj0 (f := 84) rfl ?_); refine qz0 (some 12) rfl rfl Try.func84 (by kernel_rfl) rfl #[.pointer (some ⟨g236, 0, none⟩), .int .i64 t237] rfl (by (try simp only [List.map_toArray, List.map_cons, List.map_nil]); first | done | rfl | (simp only [List.length_drop, List.length_take]; rfl)) ?_; (with_reducible refine (spec_l1Below.calls g236 t233 t234 t235 t237 t238 t239 t240 w _ ?side1 ?side2 A4.out).mono ?_); (case side1 => repeat (first | (with_reducible first | exact HI236.out | apply IsS207.alloc | apply IsS207.drewN | apply IsS207.drew | apply IsS207.set_1 | apply IsS207.set_2) | exact HI236.out)); (case side2 => repeat (first | (with_reducible first | exact HB.out | apply qc0 | apply qa0 | apply qb0 | refine qh0 ?_ (IsS207.ge HI236.out)) | exact HB.out)); rintro e w10 ⟨rfl, hi, hb, hk⟩; refine ⟨_, rfl, ?_⟩; have n0_ := Aside0.mk (hb); have n1_ := Aside0.mk (hi); clear HB; clear HI236; have HB := n0_; have HI236 := n1_; clear n0_ n1_; (try clear hb); (try clear hb2); (try clear hk); (try clear hi)) | ((with_reducible refine qj0 (f := 83) rfl ?_); refine qz0 (some 13) rfl rfl Try.func83 (by kernel_rfl) rfl #[.pointer (some ⟨g236, 0, none⟩), .int .i64 t238] rfl (by (try simp only [List.map_toArray, List.map_cons, List.map_nil]); first | done | rfl | (simp only [List.length_drop, List.length_take]; rfl)) ?_; (with_reducible refine (spec_l13DrawOpen.calls k g236 t233 t239 t240 t238 t241 t244 t245 w _ ?side1 ?side2 A5.out).mono ?_); (case side1 => repeat (first | (with_reducible first | exact HI236.out | apply IsS207.alloc | apply IsS207.drewN | apply IsS207.drew | apply IsS207.set_1 | apply IsS207.set_2) | exact HI236.out)); (case side2 => repeat (first | (with_reducible first | exact HB.out | apply qc0 | apply qa0 | apply qb0 | refine qh0 ?_ (IsS207.ge HI236.out)) | exact HB.out)); rintro e w11 ⟨v242, rfl, ho0, hi, hb, hk⟩; refine ⟨_, rfl, ?_⟩; have n0_ := Aside0.mk (Kd.qe1 ho0 (ql0 (by repeat (first | (with_reducible first | exact HB.out | apply qc0 | apply qa0 | apply qb0 | refine qh0 ?_ (IsS207.ge HI236.out)) | exact HB.out)))); have n1_ := Aside0.mk (hb); have n2_ := Aside0.mk (hi); clear HB; clear HI236; have HO243 := n0_; have HB := n1_; have HI236 := n2_; clear n0_ n1_ n2_; (try clear hb); (try clear hb2); (try clear hk); (try clear hi); (try clear ho0)) | ((with_reducible refine qj0 (f := 85) rfl ?_); refine qz0 (some 18) rfl rfl Try.func85 (by kernel_rfl) rfl #[.slice A0 l0.length c0, .int .i64 12] rfl (by (try simp only [List.map_toArray, List.map_cons, List.map_nil]); first | done | rfl | (simp only [List.length_drop, List.length_take]; rfl)) ?_; (with_reducible refine (spec_l1Size.calls _ _ l0 12 t246 _ ?side1 ?side2 A6.out).mono ?_); (case side1 => repeat (first | exact (Kd.C_below HR0.out HB.out) | (with_reducible refine Kd.qb1 ?_ _) | (with_reducible refine Kd.qa1 ?_ _) | (with_reducible refine Kd.qg1 ?_))); (case side2 => exact HC0.out); rintro e w' ⟨rfl, ⟨nd, rfl⟩⟩; refine ⟨_, rfl, ?_⟩) | ((with_reducible refine qj0 (f := 84) rfl ?_); refine qz0 (some 19) rfl rfl Try.func84 (by kernel_rfl) rfl #[.pointer (some ⟨g236, 0, none⟩), .int .i64 t246] rfl (by (try simp only [List.map_toArray, List.map_cons, List.map_nil]); first | done | rfl | (simp only [List.length_drop, List.length_take]; rfl)) ?_; (with_reducible refine (spec_l1Below.calls g236 t233 t244 t245 t246 t247 t248 t249 w _ ?side1 ?side2 A7.out).mono ?_); (case side1 => repeat (first | (with_reducible first | exact HI236.out | apply IsS207.alloc | apply IsS207.drewN | apply IsS207.drew | apply IsS207.set_1 | apply IsS207.set_2) | exact HI236.out)); (case side2 => repeat (first | (with_reducible first | exact HB.out | apply qc0 | apply qa0 | apply qb0 | refine qh0 ?_ (IsS207.ge HI236.out)) | exact HB.out)); rintro e w12 ⟨rfl, hi, hb, hk⟩; refine ⟨_, rfl, ?_⟩; have n0_ := Aside0.mk (Kd.qm0 (Kd.R_keep (IsS207.apart (show IsS207 w _ g236 t233 t244 t245 from by repeat (first | (with_reducible first | exact HI236.out | apply IsS207.alloc | apply IsS207.drewN | apply IsS207.drew | apply IsS207.set_1 | apply IsS207.set_2) | exact HI236.out)) (by (with_reducible repeat (first | apply Kd.qe0 | apply Kd.qd0 | apply Kd.qf0)); exact HO243.out) (by decide)) hk (fun _ h => h.2)) (fun _ h => h.1)); have n1_ := Aside0.mk (hb); have n2_ := Aside0.mk (hi); clear HO243; clear HB; clear HI236; have HO243 := n0_; have HB := n1_; have HI236 := n2_; clear n0_ n1_ n2_; (try clear hb); (try clear hb2); (try clear hk); (try clear hi)) | ((with_reducible refine qj0 (f := 83) rfl ?_); refine qz0 (some 20) rfl rfl Try.func83 (by kernel_rfl) rfl #[.pointer (some ⟨g236, 0, none⟩), .int .i64 t247] rfl (by (try simp only [List.map_toArray, List.map_cons, List.map_nil]); first | done | rfl | (simp only [List.length_drop, List.length_take]; rfl)) ?_; (with_reducible refine (spec_l13DrawOpen.calls k g236 t233 t248 t249 t247 t250 t253 t254 w _ ?side1 ?side2 A8.out).mono ?_); (case side1 => repeat (first | (with_reducible first | exact HI236.out | apply IsS207.alloc | apply IsS207.drewN | apply IsS207.drew | apply IsS207.set_1 | apply IsS207.set_2) | exact HI236.out)); (case side2 => repeat (first | (with_reducible first | exact HB.out | apply qc0 | apply qa0 | apply qb0 | refine qh0 ?_ (IsS207.ge HI236.out)) | exact HB.out)); rintro e w13 ⟨v251, rfl, ho0, hi, hb, hk⟩; refine ⟨_, rfl, ?_⟩; have n0_ := Aside0.mk (Kd.qm0 (Kd.R_told (Kd.R_oldK (IsS207.apart (show IsS207 w _ g236 t233 t248 t249 from by repeat (first | (with_reducible first | exact HI236.out | apply IsS207.alloc | apply IsS207.drewN | apply IsS207.drew | apply IsS207.set_1 | apply IsS207.set_2) | exact HI236.out)) (by (with_reducible repeat (first | apply Kd.qe0 | apply Kd.qd0 | apply Kd.qf0)); exact HO243.out) (by decide)) hk) (Kd.R_base ho0)) (fun _ h_ => h_.1)); have n1_ := Aside0.mk (Kd.qe1 (Kd.R_new' ho0 (Kd.R_lt (by (with_reducible repeat (first | apply Kd.qe0 | apply Kd.qd0 | apply Kd.qf0)); exact HO243.out))) (ql0 (by repeat (first | (with_reducible first | exact HB.out | apply qc0 | apply qa0 | apply qb0 | refine qh0 ?_ (IsS207.ge HI236.out)) | exact HB.out)))); have n2_ := Aside0.mk (hb); have n3_ := Aside0.mk (hi); clear HO243; clear HB; clear HI236; have HO243 := n0_; have HO252 := n1_; have HB := n2_; have HI236 := n3_; clear n0_ n1_ n2_ n3_; (try clear hb); (try clear hb2); (try clear hk); (try clear hi); (try clear ho0)))
 go_ret2
 exact ⟨_, _, by first | rfl | (simp [errW_none, errW_some] <;> rfl) | (simp [*, errW_none, errW_some] <;> rfl), by (with_reducible repeat (first | apply Kd.qe0 | apply Kd.qd0 | apply Kd.qf0)); exact Kd.qm0 HO243.out (fun _ hk => hk.2), by (with_reducible repeat (first | apply Kd.qe0 | apply Kd.qd0 | apply Kd.qf0)); exact Kd.qm0 HO252.out (fun _ hk => hk.2), by repeat (first | (with_reducible first | exact HB.out | apply qc0 | apply qa0 | apply qb0 | refine qh0 ?_ (IsS207.ge HI236.out)) | exact HB.out)⟩

/-! ### spec_l1In: function 90 -/
def spec_l1In.f (a0 : Int) (a1 : Int) (a2 : Int) : Option (Bool) := if a0 ≥ a1 then (some (decide (a0 ≤ a2))) else (some false)
set_option maxHeartbeats 8000000 in
set_option maxRecDepth 100000 in
theorem spec_l1In.calls (a0 : Int) (a1 : Int) (a2 : Int) (r : Bool) (w : World) (h : spec_l1In.f a0 a1 a2 = some r) :
  Calls Try.prog 90 #[.int .i64 a0, .int .i64 a1, .int .i64 a2] w fun e w' => e = .returned (.bool r) ∧ Drawn0 w w' := by
 have H : (if a0 ≥ a1 then (some (decide (a0 ≤ a2))) else (some false)) = some r := h
 clear h
 by_cases c4 : a0 ≥ a1
 ·rw [if_pos c4] at H
  have c4b0 : decide (a1 ≤ a0) = true := decide_eq_true c4
  clear c4
  obtain rfl := Option.some.inj H
  go_enter Try.func90, Try.ntmps90
  go_wp2
  go_ret
  exact ⟨by first | rfl | (simp; done) | (simp [*]; done), by repeat (first | exact Drawn0.refl _ | apply Drawn0.step)⟩
 rw [if_neg c4] at H
 have c4b0 : decide (a1 ≤ a0) = false := decide_eq_false c4
 clear c4
 obtain rfl := Option.some.inj H
 go_enter Try.func90, Try.ntmps90
 go_wp2
 go_ret
 exact ⟨by first | rfl | (simp; done) | (simp [*]; done), by repeat (first | exact Drawn0.refl _ | apply Drawn0.step)⟩

/-! ### spec_l2Day: function 89 -/
def spec_l2Day.f (a0 : Int) : Option (Bool) := (spec_l1In.f a0 0 40000).bind fun t255 => (some t255)
set_option maxHeartbeats 8000000 in
set_option maxRecDepth 100000 in
theorem spec_l2Day.calls (a0 : Int) (r : Bool) (w : World) (h : spec_l2Day.f a0 = some r) :
  Calls Try.prog 89 #[.int .i64 a0] w fun e w' => e = .returned (.bool r) ∧ Drawn0 w w' := by
 have H : ((spec_l1In.f a0 0 40000).bind fun t255 => (some t255)) = some r := h
 clear h
 replace H := Option.bind_eq_some_iff.mp H
 obtain ⟨t255, A20, H⟩ := H
 replace H : (some t255) = some r := H
 have A2 := Aside0.mk A20
 clear A20
 obtain rfl := Option.some.inj H
 go_enter Try.func89, Try.ntmps89
 go_wp2_with (first | ((with_reducible refine qj0 (f := 90) rfl ?_); refine qz0 (some 4) rfl rfl Try.func90 (by kernel_rfl) rfl #[.int .i64 a0, .int .i64 0, .int .i64 40000] rfl (by (try simp only [List.map_toArray, List.map_cons, List.map_nil]); first | done | rfl | (simp only [List.length_drop, List.length_take]; rfl)) ?_; (with_reducible refine (spec_l1In.calls a0 0 40000 t255 _ A2.out).mono ?_); rintro e w' ⟨rfl, ⟨nd, rfl⟩⟩; refine ⟨_, rfl, ?_⟩))
 go_ret
 exact ⟨by first | rfl | (simp; done) | (simp [*]; done), by repeat (first | exact Drawn0.refl _ | apply Drawn0.step)⟩

end Go.Proofs.Ytlodndejipjceaa.PFnSettled
