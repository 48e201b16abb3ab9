/- Lines by a program (a changed copy of the kit's print: this repo's wip/tools): Go functions as Lean functions, and proofs that the calls answer so. -/
import Derived.Test.YtggfggmmecbdnaaZPFnExactTakeInx0
import Derived.Test.YtggfggmmecbdnaaZPFnExactTakeInx1
import Derived.Test.YtggfggmmecbdnaaZPFnExactTakeInx3
import Derived.Test.YtggfggmmecbdnaaZPFnExactTakeInx7
import Derived.Test.YtggfggmmecbdnaaZPFnExactTakeInx8
namespace Go.Proofs.Ytggfggmmecbdnaa.PFnExactTakeIn
open Go.RowKit Go.Proofs.YtggfggmmecbdnaaW.PrintWords Go.Proofs.YtggfggmmecbdnaaW.PrintLast Go.Proofs.YtggfggmmecbdnaaW.PrintMore
/-- Closing blocks told once. -/
theorem z9_0 {P : Prop} (h : P := by repeat (first | (with_reducible first | exact HB.out | apply qk0 | apply qh0 | apply qi0 | refine ql0 ?_ GE225.out | refine ql0 ?_ GE240.out | refine ql0 ?_ GE247.out | refine ql0 ?_ GE255.out) | exact HB.out)) : P := h
theorem z9_1 {P : Prop} (h : P := by (with_reducible repeat (first | refine qc0 ?_ _ | refine qe0 ?_ | refine qd0 ?_ _)); exact BK225.out) : P := h
theorem z9_2 {P : Prop} (h : P := by (with_reducible repeat (first | refine qc0 ?_ _ | refine qe0 ?_ | refine qd0 ?_ _)); exact BK240.out) : P := h
theorem z9_3 {P : Prop} (h : P := by (with_reducible repeat (first | refine qc0 ?_ _ | refine qe0 ?_ | refine qd0 ?_ _)); exact BK247.out) : P := h
theorem z9_4 {P : Prop} (h : P := by repeat (first | (with_reducible first | exact HB.out | apply qk0 | apply qh0 | apply qi0 | refine ql0 ?_ GE225.out | refine ql0 ?_ GE240.out | refine ql0 ?_ GE247.out | refine ql0 ?_ GE255.out | refine ql0 ?_ GE283.out) | exact HB.out)) : P := h
theorem z9_5 {P : Prop} (h : P := by (try simp only [List.map_toArray, List.map_cons, List.map_nil]); first | done | rfl | (simp only [List.length_drop, List.length_take]; rfl)) : P := h
theorem z9_6 {P : Prop} (h : P := by (with_reducible repeat (first | refine qc0 ?_ _ | refine qe0 ?_ | refine qd0 ?_ _)); exact BK255.out) : P := h
theorem z9_7 {P : Prop} (h : P := by (with_reducible repeat (first | apply Kd.qu0 | apply Kd.qt0 | apply Kd.qx0)); exact HO_241002.out) : P := h
theorem z9_8 {P : Prop} (h : P := by (with_reducible repeat (first | apply Kd.qu0 | apply Kd.qt0 | apply Kd.qx0)); exact HO_248002.out) : P := h
theorem z9_9 {P : Prop} (h : P := by (with_reducible repeat (first | apply Kd.qu0 | apply Kd.qt0 | apply Kd.qx0)); exact HO_256002.out) : P := h
theorem z9_10 {P : Prop} (h : P := by (with_reducible repeat (first | apply Kd.qu0 | apply Kd.qt0 | apply Kd.qx0)); exact (Kd.qw0 (Kd.R_far (p := ⟨gb283, 3, none⟩) (Kd.R_far (p := ⟨gb283, 2, none⟩) (Kd.R_far (p := ⟨gb283, 1, none⟩) (Kd.R_far (p := ⟨gb283, 0, none⟩) (Kd.qz0 HO_241002.out BK283.out (by decide)) (fun _ hk => hk.2) (.int .i64 t276)) (fun _ hk => hk.2) (.int .i64 t277)) (fun _ hk => hk.2) (.slice Ao125 t278.length co125)) (fun _ hk => hk.2) (.int .i64 t281)) (fun _ h_ => h_.1))) : P := h
theorem z9_11 {P : Prop} (h : P := by (with_reducible repeat (first | apply Kd.qu0 | apply Kd.qt0 | apply Kd.qx0)); exact (Kd.qw0 (Kd.R_far (p := ⟨gb283, 3, none⟩) (Kd.R_far (p := ⟨gb283, 2, none⟩) (Kd.R_far (p := ⟨gb283, 1, none⟩) (Kd.R_far (p := ⟨gb283, 0, none⟩) (Kd.qz0 HO280.out BK283.out (by decide)) (fun _ hk => hk.2) (.int .i64 t276)) (fun _ hk => hk.2) (.int .i64 t277)) (fun _ hk => hk.2) (.slice Ao125 t278.length co125)) (fun _ hk => hk.2) (.int .i64 t281)) (fun _ h_ => h_.1))) : P := h
theorem z9_12 {P : Prop} (h : P := by (with_reducible repeat (first | apply Kd.qu0 | apply Kd.qt0 | apply Kd.qx0)); exact (Kd.qw0 (Kd.R_far (p := ⟨gb255, 3, none⟩) (Kd.R_far (p := ⟨gb255, 2, none⟩) (Kd.R_far (p := ⟨gb255, 1, none⟩) (Kd.R_far (p := ⟨gb255, 0, none⟩) (Kd.qz0 HO252.out BK255.out (by decide)) (fun _ hk => hk.2) (.int .i64 t248)) (fun _ hk => hk.2) (.int .i64 t249)) (fun _ hk => hk.2) (.slice Ao38 t250.length co38)) (fun _ hk => hk.2) (.int .i64 t253)) (fun _ h_ => h_.1))) : P := h
theorem z9_13 {P : Prop} (h : P := by (with_reducible repeat (first | apply Kd.qu0 | apply Kd.qt0 | apply Kd.qx0)); exact (Kd.qw0 (Kd.R_far (p := ⟨gb255, 3, none⟩) (Kd.R_far (p := ⟨gb255, 2, none⟩) (Kd.R_far (p := ⟨gb255, 1, none⟩) (Kd.R_far (p := ⟨gb255, 0, none⟩) (Kd.qz0 HO237.out BK255.out (by decide)) (fun _ hk => hk.2) (.int .i64 t248)) (fun _ hk => hk.2) (.int .i64 t249)) (fun _ hk => hk.2) (.slice Ao38 t250.length co38)) (fun _ hk => hk.2) (.int .i64 t253)) (fun _ h_ => h_.1))) : P := h
theorem z9_14 {P : Prop} (h : P := by (with_reducible repeat (first | refine qc0 ?_ _ | refine qe0 ?_ | refine qd0 ?_ _)); refine qm0 (cs := #[.int .i64 t276, .int .i64 t277, .slice Ao125 t278.length co125, .int .i64 0]) ?_ 3 _ rfl; (with_reducible repeat (first | refine qc0 ?_ _ | refine qe0 ?_ | refine qd0 ?_ _)); refine qm0 (cs := #[.int .i64 t276, .int .i64 t277, .slice none 0 0, .int .i64 0]) ?_ 2 _ rfl; (with_reducible repeat (first | refine qc0 ?_ _ | refine qe0 ?_ | refine qd0 ?_ _)); refine qm0 (cs := #[.int .i64 t276, .int .i64 0, .slice none 0 0, .int .i64 0]) ?_ 1 _ rfl; (with_reducible repeat (first | refine qc0 ?_ _ | refine qe0 ?_ | refine qd0 ?_ _)); refine qm0 (cs := #[.int .i64 0, .int .i64 0, .slice none 0 0, .int .i64 0]) ?_ 0 _ rfl; (with_reducible repeat (first | refine qc0 ?_ _ | refine qe0 ?_ | refine qd0 ?_ _)); exact BK283.out) : P := h
theorem z9_15 {P : Prop} (h : P := by (with_reducible repeat (first | refine qc0 ?_ _ | refine qe0 ?_ | refine qd0 ?_ _)); refine qm0 (cs := #[.int .i64 t248, .int .i64 t249, .slice Ao38 t250.length co38, .int .i64 0]) ?_ 3 _ rfl; (with_reducible repeat (first | refine qc0 ?_ _ | refine qe0 ?_ | refine qd0 ?_ _)); refine qm0 (cs := #[.int .i64 t248, .int .i64 t249, .slice none 0 0, .int .i64 0]) ?_ 2 _ rfl; (with_reducible repeat (first | refine qc0 ?_ _ | refine qe0 ?_ | refine qd0 ?_ _)); refine qm0 (cs := #[.int .i64 t248, .int .i64 0, .slice none 0 0, .int .i64 0]) ?_ 1 _ rfl; (with_reducible repeat (first | refine qc0 ?_ _ | refine qe0 ?_ | refine qd0 ?_ _)); refine qm0 (cs := #[.int .i64 0, .int .i64 0, .slice none 0 0, .int .i64 0]) ?_ 0 _ rfl; (with_reducible repeat (first | refine qc0 ?_ _ | refine qe0 ?_ | refine qd0 ?_ _)); exact BK255.out) : P := h
theorem z9_16 {P : Prop} (h : P := by refine (Kd.qq0 (e := 59) (base := w.heap.size) (ok := fun k_ => ((((True ∧ some k_ ≠ (.slice Ao24 t235.length co24 : Value).ownBlock) ∧ some k_ ≠ (.slice Ao31 t265.length co31 : Value).ownBlock) ∧ some k_ ≠ (.slice Ao38 t250.length co38 : Value).ownBlock) ∧ some k_ ≠ (.slice Ao117 t272.length co117 : Value).ownBlock)) (n := t278.length) (c := co125) ?_).2.2; exact (by (with_reducible repeat (first | apply Kd.qu0 | apply Kd.qt0 | apply Kd.qx0)); exact (Kd.qw0 (Kd.R_far (p := ⟨gb283, 3, none⟩) (Kd.R_far (p := ⟨gb283, 2, none⟩) (Kd.R_far (p := ⟨gb283, 1, none⟩) (Kd.R_far (p := ⟨gb283, 0, none⟩) (Kd.qz0 HO280.out BK283.out (by decide)) (fun _ hk => hk.2) (.int .i64 t276)) (fun _ hk => hk.2) (.int .i64 t277)) (fun _ hk => hk.2) (.slice Ao125 t278.length co125)) (fun _ hk => hk.2) (.int .i64 t281)) (fun _ h_ => h_.1)))) : P := h
theorem z9_17 {P : Prop} (h : P := by refine (Kd.qq0 (e := 59) (base := w.heap.size) (ok := fun k_ => (((some k_ ≠ (.slice Ao31 t265.length co31 : Value).ownBlock ∧ some k_ ≠ (.slice Ao38 t250.length co38 : Value).ownBlock) ∧ some k_ ≠ (.slice Ao117 t272.length co117 : Value).ownBlock) ∧ some k_ ≠ (.slice Ao125 t278.length co125 : Value).ownBlock)) (n := t235.length) (c := co24) ?_).2.2; exact (by (with_reducible repeat (first | apply Kd.qu0 | apply Kd.qt0 | apply Kd.qx0)); exact (Kd.qw0 (Kd.R_far (p := ⟨gb283, 3, none⟩) (Kd.R_far (p := ⟨gb283, 2, none⟩) (Kd.R_far (p := ⟨gb283, 1, none⟩) (Kd.R_far (p := ⟨gb283, 0, none⟩) (Kd.qz0 HO_241002.out BK283.out (by decide)) (fun _ hk => hk.2) (.int .i64 t276)) (fun _ hk => hk.2) (.int .i64 t277)) (fun _ hk => hk.2) (.slice Ao125 t278.length co125)) (fun _ hk => hk.2) (.int .i64 t281)) (fun _ h_ => h_.1)))) : P := h
theorem z9_18 {P : Prop} (h : P := by repeat (first | (with_reducible first | exact HB.out | apply qk0 | apply qh0 | apply qi0 | refine ql0 ?_ GE225.out) | exact HB.out)) : P := h
theorem z9_19 {P : Prop} (h : P := by refine (Kd.qq0 (e := 59) (base := w.heap.size) (ok := fun k_ => (((True ∧ some k_ ≠ (.slice Ao19 t229.length co19 : Value).ownBlock) ∧ some k_ ≠ (.slice Ao24 t235.length co24 : Value).ownBlock) ∧ some k_ ≠ (.slice Ao31 t243.length co31 : Value).ownBlock)) (n := t250.length) (c := co38) ?_).2.2; exact (by (with_reducible repeat (first | apply Kd.qu0 | apply Kd.qt0 | apply Kd.qx0)); exact (Kd.qw0 (Kd.R_far (p := ⟨gb255, 3, none⟩) (Kd.R_far (p := ⟨gb255, 2, none⟩) (Kd.R_far (p := ⟨gb255, 1, none⟩) (Kd.R_far (p := ⟨gb255, 0, none⟩) (Kd.qz0 HO252.out BK255.out (by decide)) (fun _ hk => hk.2) (.int .i64 t248)) (fun _ hk => hk.2) (.int .i64 t249)) (fun _ hk => hk.2) (.slice Ao38 t250.length co38)) (fun _ hk => hk.2) (.int .i64 t253)) (fun _ h_ => h_.1)))) : P := h
theorem z9_20 {P : Prop} (h : P := by refine (Kd.qq0 (e := 59) (base := w.heap.size) (ok := fun k_ => (((True ∧ some k_ ≠ (.slice Ao19 t229.length co19 : Value).ownBlock) ∧ some k_ ≠ (.slice Ao31 t243.length co31 : Value).ownBlock) ∧ some k_ ≠ (.slice Ao38 t250.length co38 : Value).ownBlock)) (n := t235.length) (c := co24) ?_).2.2; exact (by (with_reducible repeat (first | apply Kd.qu0 | apply Kd.qt0 | apply Kd.qx0)); exact (Kd.qw0 (Kd.R_far (p := ⟨gb255, 3, none⟩) (Kd.R_far (p := ⟨gb255, 2, none⟩) (Kd.R_far (p := ⟨gb255, 1, none⟩) (Kd.R_far (p := ⟨gb255, 0, none⟩) (Kd.qz0 HO237.out BK255.out (by decide)) (fun _ hk => hk.2) (.int .i64 t248)) (fun _ hk => hk.2) (.int .i64 t249)) (fun _ hk => hk.2) (.slice Ao38 t250.length co38)) (fun _ hk => hk.2) (.int .i64 t253)) (fun _ h_ => h_.1)))) : P := h
theorem z9_21 {P : Prop} (h : P := by repeat (first | exact (Kd.qq0 HO_256002.out).2.2 | (with_reducible refine Kd.C_alloc ?_ _) | (with_reducible refine Kd.C_drewN ?_ _) | (with_reducible refine Kd.C_drew ?_))) : P := h
theorem z9_22 {P : Prop} (h : P := by (with_reducible repeat (first | apply Kd.qu0 | apply Kd.qt0 | apply Kd.qx0)); exact (Kd.qw0 (Kd.R_far (p := ⟨gb247, 3, none⟩) (Kd.R_far (p := ⟨gb247, 2, none⟩) (Kd.R_far (p := ⟨gb247, 1, none⟩) (Kd.R_far (p := ⟨gb247, 0, none⟩) (Kd.qz0 HO245.out BK247.out (by decide)) (fun _ hk => hk.2) (.int .i64 t241)) (fun _ hk => hk.2) (.int .i64 t242)) (fun _ hk => hk.2) (.slice Ao31 t243.length co31)) (fun _ hk => hk.2) (.int .i64 t246)) (fun _ h_ => h_.1))) : P := h
theorem z9_23 {P : Prop} (h : P := by (with_reducible repeat (first | refine qc0 ?_ _ | refine qe0 ?_ | refine qd0 ?_ _)); refine qv0 ?_ NB225_255.out _; (with_reducible repeat (first | refine qc0 ?_ _ | refine qe0 ?_ | refine qd0 ?_ _)); refine qv0 ?_ NB225_255.out _; (with_reducible repeat (first | refine qc0 ?_ _ | refine qe0 ?_ | refine qd0 ?_ _)); refine qv0 ?_ NB225_255.out _; (with_reducible repeat (first | refine qc0 ?_ _ | refine qe0 ?_ | refine qd0 ?_ _)); refine qv0 ?_ NB225_255.out _; (with_reducible repeat (first | refine qc0 ?_ _ | refine qe0 ?_ | refine qd0 ?_ _)); exact BK225.out) : P := h
theorem z9_24 {P : Prop} (h : P := by (with_reducible repeat (first | refine qc0 ?_ _ | refine qe0 ?_ | refine qd0 ?_ _)); refine qv0 ?_ NB240_255.out _; (with_reducible repeat (first | refine qc0 ?_ _ | refine qe0 ?_ | refine qd0 ?_ _)); refine qv0 ?_ NB240_255.out _; (with_reducible repeat (first | refine qc0 ?_ _ | refine qe0 ?_ | refine qd0 ?_ _)); refine qv0 ?_ NB240_255.out _; (with_reducible repeat (first | refine qc0 ?_ _ | refine qe0 ?_ | refine qd0 ?_ _)); refine qv0 ?_ NB240_255.out _; (with_reducible repeat (first | refine qc0 ?_ _ | refine qe0 ?_ | refine qd0 ?_ _)); exact BK240.out) : P := h
theorem z9_25 {P : Prop} (h : P := by (with_reducible repeat (first | refine qc0 ?_ _ | refine qe0 ?_ | refine qd0 ?_ _)); refine qv0 ?_ NB247_255.out _; (with_reducible repeat (first | refine qc0 ?_ _ | refine qe0 ?_ | refine qd0 ?_ _)); refine qv0 ?_ NB247_255.out _; (with_reducible repeat (first | refine qc0 ?_ _ | refine qe0 ?_ | refine qd0 ?_ _)); refine qv0 ?_ NB247_255.out _; (with_reducible repeat (first | refine qc0 ?_ _ | refine qe0 ?_ | refine qd0 ?_ _)); refine qv0 ?_ NB247_255.out _; (with_reducible repeat (first | refine qc0 ?_ _ | refine qe0 ?_ | refine qd0 ?_ _)); exact BK247.out) : P := h
theorem z9_26 {P : Prop} (h : P := by (with_reducible repeat (first | refine qc0 ?_ _ | refine qe0 ?_ | refine qd0 ?_ _)); refine qv0 ?_ NB225_283.out _; (with_reducible repeat (first | refine qc0 ?_ _ | refine qe0 ?_ | refine qd0 ?_ _)); refine qv0 ?_ NB225_283.out _; (with_reducible repeat (first | refine qc0 ?_ _ | refine qe0 ?_ | refine qd0 ?_ _)); refine qv0 ?_ NB225_283.out _; (with_reducible repeat (first | refine qc0 ?_ _ | refine qe0 ?_ | refine qd0 ?_ _)); refine qv0 ?_ NB225_283.out _; (with_reducible repeat (first | refine qc0 ?_ _ | refine qe0 ?_ | refine qd0 ?_ _)); exact BK225.out) : P := h
theorem z9_27 {P : Prop} (h : P := by (with_reducible repeat (first | refine qc0 ?_ _ | refine qe0 ?_ | refine qd0 ?_ _)); refine qv0 ?_ NB240_283.out _; (with_reducible repeat (first | refine qc0 ?_ _ | refine qe0 ?_ | refine qd0 ?_ _)); refine qv0 ?_ NB240_283.out _; (with_reducible repeat (first | refine qc0 ?_ _ | refine qe0 ?_ | refine qd0 ?_ _)); refine qv0 ?_ NB240_283.out _; (with_reducible repeat (first | refine qc0 ?_ _ | refine qe0 ?_ | refine qd0 ?_ _)); refine qv0 ?_ NB240_283.out _; (with_reducible repeat (first | refine qc0 ?_ _ | refine qe0 ?_ | refine qd0 ?_ _)); exact BK240.out) : P := h
theorem z9_28 {P : Prop} (h : P := by (with_reducible repeat (first | refine qc0 ?_ _ | refine qe0 ?_ | refine qd0 ?_ _)); refine qv0 ?_ NB247_283.out _; (with_reducible repeat (first | refine qc0 ?_ _ | refine qe0 ?_ | refine qd0 ?_ _)); refine qv0 ?_ NB247_283.out _; (with_reducible repeat (first | refine qc0 ?_ _ | refine qe0 ?_ | refine qd0 ?_ _)); refine qv0 ?_ NB247_283.out _; (with_reducible repeat (first | refine qc0 ?_ _ | refine qe0 ?_ | refine qd0 ?_ _)); refine qv0 ?_ NB247_283.out _; (with_reducible repeat (first | refine qc0 ?_ _ | refine qe0 ?_ | refine qd0 ?_ _)); exact BK247.out) : P := h
theorem z9_29 {P : Prop} (h : P := by (with_reducible repeat (first | refine qc0 ?_ _ | refine qe0 ?_ | refine qd0 ?_ _)); refine qv0 ?_ NB255_283.out _; (with_reducible repeat (first | refine qc0 ?_ _ | refine qe0 ?_ | refine qd0 ?_ _)); refine qv0 ?_ NB255_283.out _; (with_reducible repeat (first | refine qc0 ?_ _ | refine qe0 ?_ | refine qd0 ?_ _)); refine qv0 ?_ NB255_283.out _; (with_reducible repeat (first | refine qc0 ?_ _ | refine qe0 ?_ | refine qd0 ?_ _)); refine qv0 ?_ NB255_283.out _; (with_reducible repeat (first | refine qc0 ?_ _ | refine qe0 ?_ | refine qd0 ?_ _)); exact BK255.out) : P := h
theorem z9_30 {P : Prop} (h : P := by repeat (first | (with_reducible first | exact HB.out | apply qk0 | apply qh0 | apply qi0 | refine ql0 ?_ GE225.out | refine ql0 ?_ GE240.out) | exact HB.out)) : P := h
theorem z9_31 {P : Prop} (h : P := by repeat (first | (with_reducible first | exact HB.out | apply qk0 | apply qh0 | apply qi0 | refine ql0 ?_ GE225.out | refine ql0 ?_ GE240.out | refine ql0 ?_ GE247.out) | exact HB.out)) : P := h
theorem z9_32 {P : Prop} (h : P := by rw [hg]; exact Nat.ne_of_lt (qe1 (g := gb225) (o := .cells #[.int .i64 a0_0, .int .i64 a0_1, .slice A0_2 l0_2.length c0_2, .int .i64 a0_3] 33 (0, 0)) (by (with_reducible repeat (first | refine qc0 ?_ _ | refine qe0 ?_ | refine qd0 ?_ _)); exact BK225.out))) : P := h
theorem z9_33 {P : Prop} (h : P := by rw [hg]; exact Nat.ne_of_gt (qe1 (g := gb225) (o := .cells #[.int .i64 a0_0, .int .i64 a0_1, .slice A0_2 l0_2.length c0_2, .int .i64 a0_3] 33 (0, 0)) (by (with_reducible repeat (first | refine qc0 ?_ _ | refine qe0 ?_ | refine qd0 ?_ _)); exact BK225.out))) : P := h
theorem z9_34 {P : Prop} (h : P := by repeat (first | exact (Kd.C_below HR0_2.out HB.out) | (with_reducible refine Kd.C_alloc ?_ _) | (with_reducible refine Kd.C_drewN ?_ _) | (with_reducible refine Kd.C_drew ?_))) : P := h
theorem z9_35 {P : Prop} (h : P := by (with_reducible repeat (first | apply Kd.qu0 | apply Kd.qt0 | apply Kd.qx0)); exact (Kd.qw0 (Kd.R_far (p := ⟨gb283, 3, none⟩) (Kd.R_far (p := ⟨gb283, 2, none⟩) (Kd.R_far (p := ⟨gb283, 1, none⟩) (Kd.R_far (p := ⟨gb283, 0, none⟩) (Kd.qz0 HO_248002.out BK283.out (by decide)) (fun _ hk => hk.2) (.int .i64 t276)) (fun _ hk => hk.2) (.int .i64 t277)) (fun _ hk => hk.2) (.slice Ao125 t278.length co125)) (fun _ hk => hk.2) (.int .i64 t281)) (fun _ h_ => h_.1))) : P := h
theorem z9_36 {P : Prop} (h : P := by (with_reducible repeat (first | apply Kd.qu0 | apply Kd.qt0 | apply Kd.qx0)); exact (Kd.qw0 (Kd.R_far (p := ⟨gb283, 3, none⟩) (Kd.R_far (p := ⟨gb283, 2, none⟩) (Kd.R_far (p := ⟨gb283, 1, none⟩) (Kd.R_far (p := ⟨gb283, 0, none⟩) (Kd.qz0 HO_256002.out BK283.out (by decide)) (fun _ hk => hk.2) (.int .i64 t276)) (fun _ hk => hk.2) (.int .i64 t277)) (fun _ hk => hk.2) (.slice Ao125 t278.length co125)) (fun _ hk => hk.2) (.int .i64 t281)) (fun _ h_ => h_.1))) : P := h
theorem z9_37 {P : Prop} (h : P := by first | rfl | (simp [errW_none, errW_some] <;> rfl) | (simp [*, errW_none, errW_some] <;> rfl)) : P := h
theorem z9_38 {P : Prop} (h : P := by (with_reducible repeat (first | apply Kd.qu0 | apply Kd.qt0 | apply Kd.qx0)); exact (Kd.qw0 (Kd.R_far (p := ⟨gb283, 3, none⟩) (Kd.R_far (p := ⟨gb283, 2, none⟩) (Kd.R_far (p := ⟨gb283, 1, none⟩) (Kd.R_far (p := ⟨gb283, 0, none⟩) (Kd.qz0 HO274.out BK283.out (by decide)) (fun _ hk => hk.2) (.int .i64 t276)) (fun _ hk => hk.2) (.int .i64 t277)) (fun _ hk => hk.2) (.slice Ao125 t278.length co125)) (fun _ hk => hk.2) (.int .i64 t281)) (fun _ h_ => h_.1))) : P := h
theorem z9_39 {P : Prop} (h : P := by (with_reducible repeat (first | apply Kd.qu0 | apply Kd.qt0 | apply Kd.qx0)); exact (Kd.qw0 (Kd.R_far (p := ⟨gb240, 3, none⟩) (Kd.R_far (p := ⟨gb240, 2, none⟩) (Kd.R_far (p := ⟨gb240, 1, none⟩) (Kd.R_far (p := ⟨gb240, 0, none⟩) (Kd.qz0 HO231.out BK240.out (by decide)) (fun _ hk => hk.2) (.int .i64 t233)) (fun _ hk => hk.2) (.int .i64 t234)) (fun _ hk => hk.2) (.slice Ao24 t235.length co24)) (fun _ hk => hk.2) (.int .i64 t238)) (fun _ h_ => h_.1))) : P := h
theorem z9_40 {P : Prop} (h : P := by (with_reducible repeat (first | apply Kd.qu0 | apply Kd.qt0 | apply Kd.qx0)); exact (Kd.qw0 (Kd.R_far (p := ⟨gb240, 3, none⟩) (Kd.R_far (p := ⟨gb240, 2, none⟩) (Kd.R_far (p := ⟨gb240, 1, none⟩) (Kd.R_far (p := ⟨gb240, 0, none⟩) (Kd.qz0 HO237.out BK240.out (by decide)) (fun _ hk => hk.2) (.int .i64 t233)) (fun _ hk => hk.2) (.int .i64 t234)) (fun _ hk => hk.2) (.slice Ao24 t235.length co24)) (fun _ hk => hk.2) (.int .i64 t238)) (fun _ h_ => h_.1))) : P := h
theorem z9_41 {P : Prop} (h : P := by (with_reducible repeat (first | apply Kd.qu0 | apply Kd.qt0 | apply Kd.qx0)); exact (Kd.qw0 (Kd.R_far (p := ⟨gb247, 3, none⟩) (Kd.R_far (p := ⟨gb247, 2, none⟩) (Kd.R_far (p := ⟨gb247, 1, none⟩) (Kd.R_far (p := ⟨gb247, 0, none⟩) (Kd.qz0 HO231.out BK247.out (by decide)) (fun _ hk => hk.2) (.int .i64 t241)) (fun _ hk => hk.2) (.int .i64 t242)) (fun _ hk => hk.2) (.slice Ao31 t243.length co31)) (fun _ hk => hk.2) (.int .i64 t246)) (fun _ h_ => h_.1))) : P := h
theorem z9_42 {P : Prop} (h : P := by (with_reducible repeat (first | apply Kd.qu0 | apply Kd.qt0 | apply Kd.qx0)); exact (Kd.qw0 (Kd.R_far (p := ⟨gb247, 3, none⟩) (Kd.R_far (p := ⟨gb247, 2, none⟩) (Kd.R_far (p := ⟨gb247, 1, none⟩) (Kd.R_far (p := ⟨gb247, 0, none⟩) (Kd.qz0 HO237.out BK247.out (by decide)) (fun _ hk => hk.2) (.int .i64 t241)) (fun _ hk => hk.2) (.int .i64 t242)) (fun _ hk => hk.2) (.slice Ao31 t243.length co31)) (fun _ hk => hk.2) (.int .i64 t246)) (fun _ h_ => h_.1))) : P := h
theorem z9_43 {P : Prop} (h : P := by (with_reducible repeat (first | apply Kd.qu0 | apply Kd.qt0 | apply Kd.qx0)); exact (Kd.qw0 (Kd.R_far (p := ⟨gb255, 3, none⟩) (Kd.R_far (p := ⟨gb255, 2, none⟩) (Kd.R_far (p := ⟨gb255, 1, none⟩) (Kd.R_far (p := ⟨gb255, 0, none⟩) (Kd.qz0 HO231.out BK255.out (by decide)) (fun _ hk => hk.2) (.int .i64 t248)) (fun _ hk => hk.2) (.int .i64 t249)) (fun _ hk => hk.2) (.slice Ao38 t250.length co38)) (fun _ hk => hk.2) (.int .i64 t253)) (fun _ h_ => h_.1))) : P := h
theorem z9_44 {P : Prop} (h : P := by (with_reducible repeat (first | apply Kd.qu0 | apply Kd.qt0 | apply Kd.qx0)); exact (Kd.qw0 (Kd.R_far (p := ⟨gb255, 3, none⟩) (Kd.R_far (p := ⟨gb255, 2, none⟩) (Kd.R_far (p := ⟨gb255, 1, none⟩) (Kd.R_far (p := ⟨gb255, 0, none⟩) (Kd.qz0 HO245.out BK255.out (by decide)) (fun _ hk => hk.2) (.int .i64 t248)) (fun _ hk => hk.2) (.int .i64 t249)) (fun _ hk => hk.2) (.slice Ao38 t250.length co38)) (fun _ hk => hk.2) (.int .i64 t253)) (fun _ h_ => h_.1))) : P := h
theorem z9_45 {P : Prop} (h : P := by rw [hg]; exact Nat.ne_of_lt (qe1 (g := gb240) (o := .cells #[.int .i64 t233, .int .i64 t234, .slice Ao24 t235.length co24, .int .i64 t238] 37 (0, 0)) (by (with_reducible repeat (first | refine qc0 ?_ _ | refine qe0 ?_ | refine qd0 ?_ _)); exact BK240.out))) : P := h
theorem z9_46 {P : Prop} (h : P := by rw [hg]; exact Nat.ne_of_gt (qe1 (g := gb240) (o := .cells #[.int .i64 t233, .int .i64 t234, .slice Ao24 t235.length co24, .int .i64 t238] 37 (0, 0)) (by (with_reducible repeat (first | refine qc0 ?_ _ | refine qe0 ?_ | refine qd0 ?_ _)); exact BK240.out))) : P := h
theorem z9_47 {P : Prop} (h : P := by repeat (first | (with_reducible first | exact HB.out | apply qk0 | apply qh0 | apply qi0) | exact HB.out)) : P := h
theorem z9_48 {P : Prop} (h : P := by (try simp only [List.map_toArray, List.map_cons, List.map_nil]); first | done | (rw [show t268.length = t250.length from (Kd.qq0 HO_256002.out).1.symm] <;> rfl) | rfl | (simp only [List.length_drop, List.length_take]; rfl)) : P := h
theorem z9_49 {P : Prop} (h : P := by rw [hg]; exact (qn0 (by repeat (first | (with_reducible first | exact HB.out | apply qk0 | apply qh0 | apply qi0) | exact HB.out)))) : P := h
theorem z9_50 {P : Prop} (h : P := by rw [hg]; exact (qn0 (by repeat (first | (with_reducible first | exact HB.out | apply qk0 | apply qh0 | apply qi0 | refine ql0 ?_ GE225.out | refine ql0 ?_ GE240.out | refine ql0 ?_ GE247.out | refine ql0 ?_ GE255.out) | exact HB.out)))) : P := h
theorem z9_51 {P : Prop} (h : P := by rw [hg]; exact (qn0 (by repeat (first | (with_reducible first | exact HB.out | apply qk0 | apply qh0 | apply qi0 | refine ql0 ?_ GE225.out | refine ql0 ?_ GE240.out | refine ql0 ?_ GE247.out) | exact HB.out)))) : P := h
theorem z9_52 {P : Prop} (h : P := by (with_reducible repeat (first | apply Kd.qu0 | apply Kd.qt0 | apply Kd.qx0)); exact HO231.out) : P := h
theorem z9_53 {P : Prop} (h : P := by rw [hg]; exact (qn0 (by repeat (first | (with_reducible first | exact HB.out | apply qk0 | apply qh0 | apply qi0 | refine ql0 ?_ GE225.out | refine ql0 ?_ GE240.out) | exact HB.out)))) : P := h
theorem z9_54 {P : Prop} (h : P := by (with_reducible repeat (first | apply Kd.qu0 | apply Kd.qt0 | apply Kd.qx0)); exact Kd.qw0 HO_248002.out (fun _ hk => ⟨hk.1.1, hk.1.2⟩)) : P := h
theorem z9_55 {P : Prop} (h : P := by (with_reducible repeat (first | apply Kd.qu0 | apply Kd.qt0 | apply Kd.qx0)); exact Kd.qw0 HO_241002.out (fun _ hk => ⟨hk.1, hk.2.1⟩)) : P := h
theorem z9_56 {P : Prop} (h : P := by (with_reducible repeat (first | apply Kd.qu0 | apply Kd.qt0 | apply Kd.qx0)); exact Kd.qw0 HO_256002.out (fun _ hk => ⟨hk.1, hk.2.1⟩)) : P := h
theorem z9_57 {P : Prop} (h : P := by (with_reducible repeat (first | apply Kd.qu0 | apply Kd.qt0 | apply Kd.qx0)); exact HO261.out) : P := h
theorem z9_58 {P : Prop} (h : P := by kernel_rfl) : P := h
theorem z9_59 {P : Prop} (h : P := by rw [hg]; exact (qn0 (by repeat (first | (with_reducible first | exact HB.out | apply qk0 | apply qh0 | apply qi0 | refine ql0 ?_ GE225.out) | exact HB.out)))) : P := h
theorem z9_60 {P : Prop} (h : P := by decide) : P := h
theorem z9_61 {P : Prop} (h : P := by (try simp only [hl248002_61]); (with_reducible repeat (first | apply Kd.qu0 | apply Kd.qt0 | apply Kd.qx0)); exact Kd.qw0 HO_241002.out (fun _ hk => ⟨hk.1.1.1, ⟨hk.1.1.2, hk.2⟩⟩)) : P := h
theorem z9_62 {P : Prop} (h : P := by (try simp only [hl248002_61]); (with_reducible repeat (first | apply Kd.qu0 | apply Kd.qt0 | apply Kd.qx0)); exact Kd.qw0 HO_248002.out (fun _ hk => ⟨hk.1.1.1, ⟨hk.1.1.2, hk.2⟩⟩)) : P := h
theorem z9_63 {P : Prop} (h : P := by (try simp only [hl248002_61]); (with_reducible repeat (first | apply Kd.qu0 | apply Kd.qt0 | apply Kd.qx0)); exact Kd.qw0 HO_256002.out (fun _ hk => ⟨hk.1.1.1, ⟨hk.1.1.2, hk.2⟩⟩)) : P := h
theorem z9_64 {P : Prop} (h : P := by (try simp only [hl248002_61]); (with_reducible repeat (first | apply Kd.qu0 | apply Kd.qt0 | apply Kd.qx0)); exact Kd.qw0 HO280.out (fun _ hk => ⟨hk.1.1.1.2, ⟨hk.1.1.2, hk.1.2⟩⟩)) : P := h
theorem z9_65 {P : Prop} (h : P := by repeat (first | exact (Kd.qq0 HO_248002.out).2.2 | (with_reducible refine Kd.C_alloc ?_ _) | (with_reducible refine Kd.C_drewN ?_ _) | (with_reducible refine Kd.C_drew ?_))) : P := h
theorem z9_66 {P : Prop} (h : P := by repeat (first | exact (Kd.qq0 HO_241002.out).2.2 | (with_reducible refine Kd.C_alloc ?_ _) | (with_reducible refine Kd.C_drewN ?_ _) | (with_reducible refine Kd.C_drew ?_))) : P := h
theorem z9_67 {P : Prop} (h : P := by (with_reducible repeat (first | refine qc0 ?_ _ | refine qe0 ?_ | refine qd0 ?_ _)); exact BK283.out) : P := h
theorem z9_68 {P : Prop} (h : P := by repeat (first | exact (Kd.qq0 HO261.out).2.2 | (with_reducible refine Kd.C_alloc ?_ _) | (with_reducible refine Kd.C_drewN ?_ _) | (with_reducible refine Kd.C_drew ?_))) : P := h
theorem z9_69 {P : Prop} (h : P := by rw [show t268.length = t250.length from (Kd.qq0 HO_256002.out).1.symm]; exact (Kd.qq0 HO_256002.out).2.1) : P := h
theorem z9_70 {P : Prop} (h : P := by (with_reducible repeat (first | apply Kd.qu0 | apply Kd.qt0 | apply Kd.qx0)); exact HO_284002.out) : P := h
theorem z9_71 {P : Prop} (h : P := by first | rfl | (simp; done) | (simp [*]; done)) : P := h
theorem z9_72 {P : Prop} (h : P := by (with_reducible repeat (first | apply Kd.qu0 | apply Kd.qt0 | apply Kd.qx0)); exact HO237.out) : P := h
theorem z9_73 {P : Prop} (h : P := by (with_reducible repeat (first | apply Kd.qu0 | apply Kd.qt0 | apply Kd.qx0)); exact HO274.out) : P := h
theorem z9_74 {P : Prop} (h : P := by (try simp only [hl248002_61]); (with_reducible repeat (first | refine qc0 ?_ _ | refine qe0 ?_ | refine qd0 ?_ _)); exact BK225.out) : P := h
theorem z9_75 {P : Prop} (h : P := by (try simp only [hl248002_61]); (with_reducible repeat (first | refine qc0 ?_ _ | refine qe0 ?_ | refine qd0 ?_ _)); exact BK240.out) : P := h
theorem z9_76 {P : Prop} (h : P := by (try simp only [hl248002_61]); (with_reducible repeat (first | refine qc0 ?_ _ | refine qe0 ?_ | refine qd0 ?_ _)); exact BK247.out) : P := h
theorem z9_77 {P : Prop} (h : P := by (try simp only [hl248002_61]); (with_reducible repeat (first | refine qc0 ?_ _ | refine qe0 ?_ | refine qd0 ?_ _)); exact BK255.out) : P := h
theorem z9_78 {P : Prop} (h : P := by (try simp only [hl248002_61]); (with_reducible repeat (first | refine qc0 ?_ _ | refine qe0 ?_ | refine qd0 ?_ _)); exact BK283.out) : P := h
theorem z9_79 {P : Prop} (h : P := by (with_reducible repeat (first | apply Kd.qu0 | apply Kd.qt0 | apply Kd.qx0)); exact Kd.qw0 HO237.out (fun _ hk => ⟨hk.1.2, hk.2⟩)) : P := h
theorem z9_80 {P : Prop} (h : P := by (with_reducible repeat (first | apply Kd.qu0 | apply Kd.qt0 | apply Kd.qx0)); exact Kd.qw0 HO245.out (fun _ hk => ⟨hk.1.2, hk.2⟩)) : P := h
theorem z9_81 {P : Prop} (h : P := by (with_reducible repeat (first | apply Kd.qu0 | apply Kd.qt0 | apply Kd.qx0)); exact Kd.qw0 HO252.out (fun _ hk => ⟨hk.1.2, hk.2⟩)) : P := h
theorem z9_82 {P : Prop} (h : P := by first | (go_simp; done) | (go_simp; rfl)) : P := h
attribute [local go_sem] max2_int min2_int max_two min_two max_three min_three max_four min_four   -- for this text's walks alone
set_option linter.unusedVariables false
set_option linter.unusedSimpArgs false

/-! ### laws_FnExactTakeIn: function 4 -/
mutual
def laws_FnExactTakeIn.j0 : Nat → Int → Int → Bool → Bool → Bool → Int → Int → List (S73) → Int → Int → Int → List (S59) → Int → Int → Int → List (S59) → Int → Int → Int → List (S59) → Int → Option (Bool)
 | 0, _, _, _, _, _, _, _, _, _, _, _, _, _, _, _, _, _, _, _, _, _ => none
 | k + 1, x1, x2, x9, x12, x48, x226000, x226001, x226002, x226003, x241000, x241001, x241002, x241003, x248000, x248001, x248002, x248003, x256000, x256001, x256002, x256003 => if x48 = true then (some false) else ((laws_toWorth.f k x226000 x226001 x226002 x226003).bind fun bt257 => ((laws_eqWorth.f k x248000 x248001 x248002 x248003 bt257.1 bt257.2.1 bt257.2.2.1 bt257.2.2.2).bind fun t263 => (if t263 = true then ((laws_markWorth.f k x248000 x248001 x248002 x248003 1).bind fun bt264 => (if bt264.1 < 0 then (laws_FnExactTakeIn.j1 k x1 x2 x9 true x226000 x226001 x226002 x226003 x241000 x241001 x241002 x241003 x256000 x256001 x256002 x256003) else ((laws_eqWorth.f k x256000 x256001 x256002 x256003 x241000 x241001 x241002 x241003).bind fun t266 => (if t266 = true then (laws_FnExactTakeIn.j1 k x1 x2 x9 (x12 != x9) x226000 x226001 x226002 x226003 x241000 x241001 x241002 x241003 x256000 x256001 x256002 x256003) else (laws_FnExactTakeIn.j1 k x1 x2 x9 true x226000 x226001 x226002 x226003 x241000 x241001 x241002 x241003 x256000 x256001 x256002 x256003))))) else (some false))))
def laws_FnExactTakeIn.j1 : Nat → Int → Int → Bool → Bool → Int → Int → List (S73) → Int → Int → Int → List (S59) → Int → Int → Int → List (S59) → Int → Option (Bool)
 | 0, _, _, _, _, _, _, _, _, _, _, _, _, _, _, _, _ => none
 | k + 1, x1, x2, x9, x69, x226000, x226001, x226002, x226003, x241000, x241001, x241002, x241003, x256000, x256001, x256002, x256003 => if x69 = true then (some false) else ((laws_markWorth.f k x256000 x256001 x256002 x256003 1).bind fun bt267 => ((laws_heldWorth.f k x256000 x256001 bt267.2 x256003 1).bind fun t269 => (if t269 < 0 then (some false) else (if t269 = bt267.1 then ((laws_toWorth.f k x226000 x226001 x226002 x226003).bind fun bt270 => ((impl_TakeIn.f k bt270.1 bt270.2.1 bt270.2.2.1 bt270.2.2.2 x1 x2).bind fun bt276 => ((laws_eqWorth.f k bt276.1 bt276.2.1 bt276.2.2.1 bt276.2.2.2.1 x241000 x241001 x241002 x241003).bind fun t284 => (if t284 = true then (laws_FnExactTakeIn.j2 k bt267.1 (bt276.2.2.2.2 != x9) x256000 x256001 bt267.2 x256003) else (laws_FnExactTakeIn.j2 k bt267.1 true x256000 x256001 bt267.2 x256003))))) else (some false)))))
def laws_FnExactTakeIn.j2 : Nat → Int → Bool → Int → Int → List (S59) → Int → Option (Bool)
 | 0, _, _, _, _, _, _ => none
 | k + 1, x14, x97, x256000, x256001, x256002, x256003 => if x97 = true then (some false) else ((laws_heldWorth.f k x256000 x256001 x256002 x256003 1).bind fun t285 => (if t285 < 0 then (some false) else (if t285 = x14 then (some true) else (some false))))
end
def laws_FnExactTakeIn.f (k : Nat) (a0_0 : Int) (a0_1 : Int) (l0_2 : List (S73)) (a0_3 : Int) (a1 : Int) (a2 : Int) : Option (Bool) := (laws_szWorth.f a0_0 a0_1 l0_2 a0_3 1048576).bind fun t226 => (if t226 < 0 then (some true) else ((laws_toWorth.f k a0_0 a0_1 l0_2 a0_3).bind fun bt227 => ((spec_TakeIn.f k bt227.1 bt227.2.1 bt227.2.2.1 bt227.2.2.2 a1 a2).bind fun bt233 => ((laws_toWorth.f k a0_0 a0_1 l0_2 a0_3).bind fun bt241 => ((impl_TakeIn.f k bt241.1 bt241.2.1 bt241.2.2.1 bt241.2.2.2 a1 a2).bind fun bt248 => ((laws_eqWorth.f k bt248.1 bt248.2.1 bt248.2.2.1 bt248.2.2.2.1 bt233.1 bt233.2.1 bt233.2.2.1 bt233.2.2.2.1).bind fun t256 => (if t256 = true then (laws_FnExactTakeIn.j0 k a1 a2 bt233.2.2.2.2 bt248.2.2.2.2 (bt248.2.2.2.2 != bt233.2.2.2.2) a0_0 a0_1 l0_2 a0_3 bt233.1 bt233.2.1 bt233.2.2.1 bt233.2.2.2.1 bt241.1 bt241.2.1 bt241.2.2.1 bt241.2.2.2 bt248.1 bt248.2.1 bt248.2.2.1 bt248.2.2.2.1) else (laws_FnExactTakeIn.j0 k a1 a2 bt233.2.2.2.2 bt248.2.2.2.2 true a0_0 a0_1 l0_2 a0_3 bt233.1 bt233.2.1 bt233.2.2.1 bt233.2.2.2.1 bt241.1 bt241.2.1 bt241.2.2.1 bt241.2.2.2 bt248.1 bt248.2.1 bt248.2.2.1 bt248.2.2.2.1))))))))
theorem laws_FnExactTakeIn.mono_l : ∀ k, (∀ y0 y1 y2 y3 y4 y5 y6 y7 y8 y9 y10 y11 y12 y13 y14 y15 y16 y17 y18 y19 y20, LeO (laws_FnExactTakeIn.j0 k y0 y1 y2 y3 y4 y5 y6 y7 y8 y9 y10 y11 y12 y13 y14 y15 y16 y17 y18 y19 y20) (laws_FnExactTakeIn.j0 (k + 1) y0 y1 y2 y3 y4 y5 y6 y7 y8 y9 y10 y11 y12 y13 y14 y15 y16 y17 y18 y19 y20)) ∧ (∀ y0 y1 y2 y3 y4 y5 y6 y7 y8 y9 y10 y11 y12 y13 y14 y15, LeO (laws_FnExactTakeIn.j1 k y0 y1 y2 y3 y4 y5 y6 y7 y8 y9 y10 y11 y12 y13 y14 y15) (laws_FnExactTakeIn.j1 (k + 1) y0 y1 y2 y3 y4 y5 y6 y7 y8 y9 y10 y11 y12 y13 y14 y15)) ∧ (∀ y0 y1 y2 y3 y4 y5, LeO (laws_FnExactTakeIn.j2 k y0 y1 y2 y3 y4 y5) (laws_FnExactTakeIn.j2 (k + 1) y0 y1 y2 y3 y4 y5))
 | 0 => ⟨fun _ _ _ _ _ _ _ _ _ _ _ _ _ _ _ _ _ _ _ _ _ r h => by simp [laws_FnExactTakeIn.j0] at h, fun _ _ _ _ _ _ _ _ _ _ _ _ _ _ _ _ r h => by simp [laws_FnExactTakeIn.j1] at h, fun _ _ _ _ _ _ r h => by simp [laws_FnExactTakeIn.j2] at h⟩
 | k + 1 => by
  obtain ⟨ih0, ih1, ih2⟩ := laws_FnExactTakeIn.mono_l k
  refine ⟨?_, ?_, ?_⟩
  ·intro y0 y1 y2 y3 y4 y5 y6 y7 y8 y9 y10 y11 y12 y13 y14 y15 y16 y17 y18 y19 y20
   unfold laws_FnExactTakeIn.j0
   repeat' first
   | (with_reducible exact ih0 _ _ _ _ _ _ _ _ _ _ _ _ _ _ _ _ _ _ _ _ _)
   | (with_reducible exact ih1 _ _ _ _ _ _ _ _ _ _ _ _ _ _ _ _)
   | (with_reducible exact ih2 _ _ _ _ _ _)
   | (with_reducible exact impl_TakeIn.mono _ _ _ _ _ _ _)
   | (with_reducible exact laws_eqWorth.mono _ _ _ _ _ _ _ _ _)
   | (with_reducible exact laws_heldWorth.mono _ _ _ _ _ _)
   | (with_reducible exact laws_markWorth.mono _ _ _ _ _ _)
   | (with_reducible exact laws_toWorth.mono _ _ _ _ _)
   | (with_reducible exact spec_TakeIn.mono _ _ _ _ _ _ _)
   | (with_reducible exact LeO.refl _)
   | (with_reducible exact LeO.none _)
   | (with_reducible refine LeO.ite ?_ ?_)
   | (with_reducible refine LeO.bind ?_ (fun _ => ?_))
   | exact ih0 _ _ _ _ _ _ _ _ _ _ _ _ _ _ _ _ _ _ _ _ _
   | exact ih1 _ _ _ _ _ _ _ _ _ _ _ _ _ _ _ _
   | exact ih2 _ _ _ _ _ _
   | exact impl_TakeIn.mono _ _ _ _ _ _ _
   | exact laws_eqWorth.mono _ _ _ _ _ _ _ _ _
   | exact laws_heldWorth.mono _ _ _ _ _ _
   | exact laws_markWorth.mono _ _ _ _ _ _
   | exact laws_toWorth.mono _ _ _ _ _
   | exact spec_TakeIn.mono _ _ _ _ _ _ _
   | exact LeO.none _
   | refine LeO.ite ?_ ?_
   | refine LeO.bind ?_ (fun _ => ?_)
  ·intro y0 y1 y2 y3 y4 y5 y6 y7 y8 y9 y10 y11 y12 y13 y14 y15
   unfold laws_FnExactTakeIn.j1
   repeat' first
   | (with_reducible exact ih0 _ _ _ _ _ _ _ _ _ _ _ _ _ _ _ _ _ _ _ _ _)
   | (with_reducible exact ih1 _ _ _ _ _ _ _ _ _ _ _ _ _ _ _ _)
   | (with_reducible exact ih2 _ _ _ _ _ _)
   | (with_reducible exact impl_TakeIn.mono _ _ _ _ _ _ _)
   | (with_reducible exact laws_eqWorth.mono _ _ _ _ _ _ _ _ _)
   | (with_reducible exact laws_heldWorth.mono _ _ _ _ _ _)
   | (with_reducible exact laws_markWorth.mono _ _ _ _ _ _)
   | (with_reducible exact laws_toWorth.mono _ _ _ _ _)
   | (with_reducible exact spec_TakeIn.mono _ _ _ _ _ _ _)
   | (with_reducible exact LeO.refl _)
   | (with_reducible exact LeO.none _)
   | (with_reducible refine LeO.ite ?_ ?_)
   | (with_reducible refine LeO.bind ?_ (fun _ => ?_))
   | exact ih0 _ _ _ _ _ _ _ _ _ _ _ _ _ _ _ _ _ _ _ _ _
   | exact ih1 _ _ _ _ _ _ _ _ _ _ _ _ _ _ _ _
   | exact ih2 _ _ _ _ _ _
   | exact impl_TakeIn.mono _ _ _ _ _ _ _
   | exact laws_eqWorth.mono _ _ _ _ _ _ _ _ _
   | exact laws_heldWorth.mono _ _ _ _ _ _
   | exact laws_markWorth.mono _ _ _ _ _ _
   | exact laws_toWorth.mono _ _ _ _ _
   | exact spec_TakeIn.mono _ _ _ _ _ _ _
   | exact LeO.none _
   | refine LeO.ite ?_ ?_
   | refine LeO.bind ?_ (fun _ => ?_)
  ·intro y0 y1 y2 y3 y4 y5
   unfold laws_FnExactTakeIn.j2
   repeat' first
   | (with_reducible exact ih0 _ _ _ _ _ _ _ _ _ _ _ _ _ _ _ _ _ _ _ _ _)
   | (with_reducible exact ih1 _ _ _ _ _ _ _ _ _ _ _ _ _ _ _ _)
   | (with_reducible exact ih2 _ _ _ _ _ _)
   | (with_reducible exact impl_TakeIn.mono _ _ _ _ _ _ _)
   | (with_reducible exact laws_eqWorth.mono _ _ _ _ _ _ _ _ _)
   | (with_reducible exact laws_heldWorth.mono _ _ _ _ _ _)
   | (with_reducible exact laws_markWorth.mono _ _ _ _ _ _)
   | (with_reducible exact laws_toWorth.mono _ _ _ _ _)
   | (with_reducible exact spec_TakeIn.mono _ _ _ _ _ _ _)
   | (with_reducible exact LeO.refl _)
   | (with_reducible exact LeO.none _)
   | (with_reducible refine LeO.ite ?_ ?_)
   | (with_reducible refine LeO.bind ?_ (fun _ => ?_))
   | exact ih0 _ _ _ _ _ _ _ _ _ _ _ _ _ _ _ _ _ _ _ _ _
   | exact ih1 _ _ _ _ _ _ _ _ _ _ _ _ _ _ _ _
   | exact ih2 _ _ _ _ _ _
   | exact impl_TakeIn.mono _ _ _ _ _ _ _
   | exact laws_eqWorth.mono _ _ _ _ _ _ _ _ _
   | exact laws_heldWorth.mono _ _ _ _ _ _
   | exact laws_markWorth.mono _ _ _ _ _ _
   | exact laws_toWorth.mono _ _ _ _ _
   | exact spec_TakeIn.mono _ _ _ _ _ _ _
   | exact LeO.none _
   | refine LeO.ite ?_ ?_
   | refine LeO.bind ?_ (fun _ => ?_)
theorem laws_FnExactTakeIn.mono : ∀ a0 a1 a2 a3 a4 a5 k, LeO (laws_FnExactTakeIn.f k a0 a1 a2 a3 a4 a5) (laws_FnExactTakeIn.f (k + 1) a0 a1 a2 a3 a4 a5) := by
 intro a0 a1 a2 a3 a4 a5 k
 obtain ⟨ih0, ih1, ih2⟩ := laws_FnExactTakeIn.mono_l k
 unfold laws_FnExactTakeIn.f
 repeat' first
   | (with_reducible exact ih0 _ _ _ _ _ _ _ _ _ _ _ _ _ _ _ _ _ _ _ _ _)
   | (with_reducible exact ih1 _ _ _ _ _ _ _ _ _ _ _ _ _ _ _ _)
   | (with_reducible exact ih2 _ _ _ _ _ _)
   | (with_reducible exact impl_TakeIn.mono _ _ _ _ _ _ _)
   | (with_reducible exact laws_eqWorth.mono _ _ _ _ _ _ _ _ _)
   | (with_reducible exact laws_heldWorth.mono _ _ _ _ _ _)
   | (with_reducible exact laws_markWorth.mono _ _ _ _ _ _)
   | (with_reducible exact laws_toWorth.mono _ _ _ _ _)
   | (with_reducible exact spec_TakeIn.mono _ _ _ _ _ _ _)
   | (with_reducible exact LeO.refl _)
   | (with_reducible exact LeO.none _)
   | (with_reducible refine LeO.ite ?_ ?_)
   | (with_reducible refine LeO.bind ?_ (fun _ => ?_))
   | exact ih0 _ _ _ _ _ _ _ _ _ _ _ _ _ _ _ _ _ _ _ _ _
   | exact ih1 _ _ _ _ _ _ _ _ _ _ _ _ _ _ _ _
   | exact ih2 _ _ _ _ _ _
   | exact impl_TakeIn.mono _ _ _ _ _ _ _
   | exact laws_eqWorth.mono _ _ _ _ _ _ _ _ _
   | exact laws_heldWorth.mono _ _ _ _ _ _
   | exact laws_markWorth.mono _ _ _ _ _ _
   | exact laws_toWorth.mono _ _ _ _ _
   | exact spec_TakeIn.mono _ _ _ _ _ _ _
   | exact LeO.none _
   | refine LeO.ite ?_ ?_
   | refine LeO.bind ?_ (fun _ => ?_)
set_option maxHeartbeats 8000000 in
set_option maxRecDepth 100000 in
theorem laws_FnExactTakeIn.calls (k : Nat) (a0_0 : Int) (a0_1 : Int) (A0_2 : Option Addr) (c0_2 : Nat) (l0_2 : List (S73)) (a0_3 : Int) (a1 : Int) (a2 : Int) (r : Bool) (w : World) (hr0_2 : Kd.C k73 w A0_2 l0_2.length l0_2) (hc0_2 : l0_2.length ≤ c0_2) (h : laws_FnExactTakeIn.f k a0_0 a0_1 l0_2 a0_3 a1 a2 = some r) :
  Calls Try.prog 4 #[.agg #[.int .i64 a0_0, .int .i64 a0_1, .slice A0_2 l0_2.length c0_2, .int .i64 a0_3], .int .i64 a1, .int .i64 a2] w fun e w' => e = .returned (.bool r) ∧ Below w.heap.size w w' := by
 have hu33 := Try.underlying33
 have hu37 := Try.underlying37
 have HR0_2 := Aside0.mk hr0_2
 have HC0_2 := Aside0.mk hc0_2
 clear hr0_2 hc0_2
 have HB := Aside0.mk (Below.refl w.heap.size w)
 have H : ((laws_szWorth.f a0_0 a0_1 l0_2 a0_3 1048576).bind fun t226 => (if t226 < 0 then (some true) else ((laws_toWorth.f k a0_0 a0_1 l0_2 a0_3).bind fun bt227 => ((spec_TakeIn.f k bt227.1 bt227.2.1 bt227.2.2.1 bt227.2.2.2 a1 a2).bind fun bt233 => ((laws_toWorth.f k a0_0 a0_1 l0_2 a0_3).bind fun bt241 => ((impl_TakeIn.f k bt241.1 bt241.2.1 bt241.2.2.1 bt241.2.2.2 a1 a2).bind fun bt248 => ((laws_eqWorth.f k bt248.1 bt248.2.1 bt248.2.2.1 bt248.2.2.2.1 bt233.1 bt233.2.1 bt233.2.2.1 bt233.2.2.2.1).bind fun t256 => (if t256 = true then (laws_FnExactTakeIn.j0 k a1 a2 bt233.2.2.2.2 bt248.2.2.2.2 (bt248.2.2.2.2 != bt233.2.2.2.2) a0_0 a0_1 l0_2 a0_3 bt233.1 bt233.2.1 bt233.2.2.1 bt233.2.2.2.1 bt241.1 bt241.2.1 bt241.2.2.1 bt241.2.2.2 bt248.1 bt248.2.1 bt248.2.2.1 bt248.2.2.2.1) else (laws_FnExactTakeIn.j0 k a1 a2 bt233.2.2.2.2 bt248.2.2.2.2 true a0_0 a0_1 l0_2 a0_3 bt233.1 bt233.2.1 bt233.2.2.1 bt233.2.2.2.1 bt241.1 bt241.2.1 bt241.2.2.1 bt241.2.2.2 bt248.1 bt248.2.1 bt248.2.2.1 bt248.2.2.2.1))))))))) = some r := h
 clear h
 replace H := Option.bind_eq_some_iff.mp H
 obtain ⟨t226, A40, H⟩ := H
 replace H : (if t226 < 0 then (some true) else ((laws_toWorth.f k a0_0 a0_1 l0_2 a0_3).bind fun bt227 => ((spec_TakeIn.f k bt227.1 bt227.2.1 bt227.2.2.1 bt227.2.2.2 a1 a2).bind fun bt233 => ((laws_toWorth.f k a0_0 a0_1 l0_2 a0_3).bind fun bt241 => ((impl_TakeIn.f k bt241.1 bt241.2.1 bt241.2.2.1 bt241.2.2.2 a1 a2).bind fun bt248 => ((laws_eqWorth.f k bt248.1 bt248.2.1 bt248.2.2.1 bt248.2.2.2.1 bt233.1 bt233.2.1 bt233.2.2.1 bt233.2.2.2.1).bind fun t256 => (if t256 = true then (laws_FnExactTakeIn.j0 k a1 a2 bt233.2.2.2.2 bt248.2.2.2.2 (bt248.2.2.2.2 != bt233.2.2.2.2) a0_0 a0_1 l0_2 a0_3 bt233.1 bt233.2.1 bt233.2.2.1 bt233.2.2.2.1 bt241.1 bt241.2.1 bt241.2.2.1 bt241.2.2.2 bt248.1 bt248.2.1 bt248.2.2.1 bt248.2.2.2.1) else (laws_FnExactTakeIn.j0 k a1 a2 bt233.2.2.2.2 bt248.2.2.2.2 true a0_0 a0_1 l0_2 a0_3 bt233.1 bt233.2.1 bt233.2.2.1 bt233.2.2.2.1 bt241.1 bt241.2.1 bt241.2.2.1 bt241.2.2.2 bt248.1 bt248.2.1 bt248.2.2.1 bt248.2.2.2.1)))))))) = some r := H
 have A4 := Aside0.mk A40
 clear A40
 by_cases c5 : t226 < 0
 ·rw [if_pos c5] at H
  have c5b0 : decide (t226 < 0) = true := decide_eq_true c5
  clear c5
  obtain rfl := Option.some.inj H
  go_enter Try.func4, Try.ntmps4
  go_wp2_with (first | ((with_reducible refine qr0 (N := 3) rfl ?_); refine qo0 ?hg (N := 3) ?hd (cs := #[.int .i64 a0_0, .int .i64 a0_1, .slice A0_2 l0_2.length c0_2, .int .i64 a0_3]) (t := 33) ?hr ?_; (case hd => rfl); (case hg => rfl); (case hr => exact z9_82); intro gb225 hg w6 hbox hb; have n0_ := Aside0.mk (qg0 z9_47 hb); have n1_ := Aside0.mk (hbox); have n2_ := Aside0.mk ((z9_49 : w.heap.size ≤ gb225)); have n3_ := Aside0.mk ((z9_49 : w.heap.size ≤ gb225)); clear HB; have HB := n0_; have BK225 := n1_; have GW225 := n2_; have GE225 := n3_; clear n0_ n1_ n2_ n3_; clear hb hbox hg; have hcz7_0 : w6.cell? ⟨gb225, 0, none⟩ = some (.int .i64 a0_0) := (qb0 BK225.out 0).trans rfl; have hcz7_1 : w6.cell? ⟨gb225, 1, none⟩ = some (.int .i64 a0_1) := (qb0 BK225.out 1).trans rfl; have hcz7_2 : w6.cell? ⟨gb225, 2, none⟩ = some (.slice A0_2 l0_2.length c0_2) := (qb0 BK225.out 2).trans rfl; have hcz7_3 : w6.cell? ⟨gb225, 3, none⟩ = some (.int .i64 a0_3) := (qb0 BK225.out 3).trans rfl; have hfz7_0 := qa0 BK225.out 0; have hfz7_1 := qa0 BK225.out 1; have hfz7_2 := qa0 BK225.out 2; have hfz7_3 := qa0 BK225.out 3) | ((with_reducible refine qj0 (f := 11) rfl ?_); refine qy0 (some 20) rfl rfl Try.func11 z9_58 rfl #[.agg #[.int .i64 a0_0, .int .i64 a0_1, .slice A0_2 l0_2.length c0_2, .int .i64 a0_3], .int .i64 1048576] rfl z9_5 ?_; (with_reducible refine (laws_szWorth.calls a0_0 a0_1 _ _ l0_2 a0_3 1048576 t226 _ ?side1 ?side2 A4.out).mono ?_); (case side1 => exact z9_34); (case side2 => exact HC0_2.out); rintro e w8 ⟨rfl, hb⟩; refine ⟨_, rfl, ?_⟩; have n0_ := Aside0.mk (qf0 (g := gb225) (o := .cells #[.int .i64 a0_0, .int .i64 a0_1, .slice A0_2 l0_2.length c0_2, .int .i64 a0_3] 33 (0, 0)) z9_1 hb); have n1_ := Aside0.mk (qg0 z9_18 hb); clear BK225; clear HB; have BK225 := n0_; have HB := n1_; clear n0_ n1_; (try clear hb); (try clear hb2); (try clear hk); (try clear hi)))
  go_ret
  exact ⟨z9_37, z9_18⟩
 rw [if_neg c5] at H
 have c5b0 : decide (t226 < 0) = false := decide_eq_false c5
 clear c5
 replace H := Option.bind_eq_some_iff.mp H
 obtain ⟨⟨t227, t228, t229, t232⟩, A90, H⟩ := H
 replace H : ((spec_TakeIn.f k t227 t228 t229 t232 a1 a2).bind fun bt233 => ((laws_toWorth.f k a0_0 a0_1 l0_2 a0_3).bind fun bt241 => ((impl_TakeIn.f k bt241.1 bt241.2.1 bt241.2.2.1 bt241.2.2.2 a1 a2).bind fun bt248 => ((laws_eqWorth.f k bt248.1 bt248.2.1 bt248.2.2.1 bt248.2.2.2.1 bt233.1 bt233.2.1 bt233.2.2.1 bt233.2.2.2.1).bind fun t256 => (if t256 = true then (laws_FnExactTakeIn.j0 k a1 a2 bt233.2.2.2.2 bt248.2.2.2.2 (bt248.2.2.2.2 != bt233.2.2.2.2) a0_0 a0_1 l0_2 a0_3 bt233.1 bt233.2.1 bt233.2.2.1 bt233.2.2.2.1 bt241.1 bt241.2.1 bt241.2.2.1 bt241.2.2.2 bt248.1 bt248.2.1 bt248.2.2.1 bt248.2.2.2.1) else (laws_FnExactTakeIn.j0 k a1 a2 bt233.2.2.2.2 bt248.2.2.2.2 true a0_0 a0_1 l0_2 a0_3 bt233.1 bt233.2.1 bt233.2.2.1 bt233.2.2.2.1 bt241.1 bt241.2.1 bt241.2.2.1 bt241.2.2.2 bt248.1 bt248.2.1 bt248.2.2.1 bt248.2.2.2.1)))))) = some r := H
 have A9 := Aside0.mk A90
 clear A90
 replace H := Option.bind_eq_some_iff.mp H
 obtain ⟨⟨t233, t234, t235, t238, t239⟩, A100, H⟩ := H
 replace H : ((laws_toWorth.f k a0_0 a0_1 l0_2 a0_3).bind fun bt241 => ((impl_TakeIn.f k bt241.1 bt241.2.1 bt241.2.2.1 bt241.2.2.2 a1 a2).bind fun bt248 => ((laws_eqWorth.f k bt248.1 bt248.2.1 bt248.2.2.1 bt248.2.2.2.1 t233 t234 t235 t238).bind fun t256 => (if t256 = true then (laws_FnExactTakeIn.j0 k a1 a2 t239 bt248.2.2.2.2 (bt248.2.2.2.2 != t239) a0_0 a0_1 l0_2 a0_3 t233 t234 t235 t238 bt241.1 bt241.2.1 bt241.2.2.1 bt241.2.2.2 bt248.1 bt248.2.1 bt248.2.2.1 bt248.2.2.2.1) else (laws_FnExactTakeIn.j0 k a1 a2 t239 bt248.2.2.2.2 true a0_0 a0_1 l0_2 a0_3 t233 t234 t235 t238 bt241.1 bt241.2.1 bt241.2.2.1 bt241.2.2.2 bt248.1 bt248.2.1 bt248.2.2.1 bt248.2.2.2.1))))) = some r := H
 have A10 := Aside0.mk A100
 clear A100
 replace H := Option.bind_eq_some_iff.mp H
 obtain ⟨⟨t241, t242, t243, t246⟩, A110, H⟩ := H
 replace H : ((impl_TakeIn.f k t241 t242 t243 t246 a1 a2).bind fun bt248 => ((laws_eqWorth.f k bt248.1 bt248.2.1 bt248.2.2.1 bt248.2.2.2.1 t233 t234 t235 t238).bind fun t256 => (if t256 = true then (laws_FnExactTakeIn.j0 k a1 a2 t239 bt248.2.2.2.2 (bt248.2.2.2.2 != t239) a0_0 a0_1 l0_2 a0_3 t233 t234 t235 t238 t241 t242 t243 t246 bt248.1 bt248.2.1 bt248.2.2.1 bt248.2.2.2.1) else (laws_FnExactTakeIn.j0 k a1 a2 t239 bt248.2.2.2.2 true a0_0 a0_1 l0_2 a0_3 t233 t234 t235 t238 t241 t242 t243 t246 bt248.1 bt248.2.1 bt248.2.2.1 bt248.2.2.2.1)))) = some r := H
 have A11 := Aside0.mk A110
 clear A110
 replace H := Option.bind_eq_some_iff.mp H
 obtain ⟨⟨t248, t249, t250, t253, t254⟩, A120, H⟩ := H
 replace H : ((laws_eqWorth.f k t248 t249 t250 t253 t233 t234 t235 t238).bind fun t256 => (if t256 = true then (laws_FnExactTakeIn.j0 k a1 a2 t239 t254 (t254 != t239) a0_0 a0_1 l0_2 a0_3 t233 t234 t235 t238 t241 t242 t243 t246 t248 t249 t250 t253) else (laws_FnExactTakeIn.j0 k a1 a2 t239 t254 true a0_0 a0_1 l0_2 a0_3 t233 t234 t235 t238 t241 t242 t243 t246 t248 t249 t250 t253))) = some r := H
 have A12 := Aside0.mk A120
 clear A120
 have HC13 := Aside0.mk H
 clear H
 go_enter Try.func4, Try.ntmps4
 go_upto_region 8 with (first | ((with_reducible refine qr0 (N := 3) rfl ?_); refine qo0 ?hg (N := 3) ?hd (cs := #[.int .i64 a0_0, .int .i64 a0_1, .slice A0_2 l0_2.length c0_2, .int .i64 a0_3]) (t := 33) ?hr ?_; (case hd => rfl); (case hg => rfl); (case hr => exact z9_82); intro gb225 hg w14 hbox hb; have n0_ := Aside0.mk (qg0 z9_47 hb); have n1_ := Aside0.mk (hbox); have n2_ := Aside0.mk ((z9_49 : w.heap.size ≤ gb225)); have n3_ := Aside0.mk ((z9_49 : w.heap.size ≤ gb225)); clear HB; have HB := n0_; have BK225 := n1_; have GW225 := n2_; have GE225 := n3_; clear n0_ n1_ n2_ n3_; clear hb hbox hg; have hcz15_0 : w14.cell? ⟨gb225, 0, none⟩ = some (.int .i64 a0_0) := (qb0 BK225.out 0).trans rfl; have hcz15_1 : w14.cell? ⟨gb225, 1, none⟩ = some (.int .i64 a0_1) := (qb0 BK225.out 1).trans rfl; have hcz15_2 : w14.cell? ⟨gb225, 2, none⟩ = some (.slice A0_2 l0_2.length c0_2) := (qb0 BK225.out 2).trans rfl; have hcz15_3 : w14.cell? ⟨gb225, 3, none⟩ = some (.int .i64 a0_3) := (qb0 BK225.out 3).trans rfl; have hfz15_0 := qa0 BK225.out 0; have hfz15_1 := qa0 BK225.out 1; have hfz15_2 := qa0 BK225.out 2; have hfz15_3 := qa0 BK225.out 3) | ((with_reducible refine qj0 (f := 11) rfl ?_); refine qy0 (some 20) rfl rfl Try.func11 z9_58 rfl #[.agg #[.int .i64 a0_0, .int .i64 a0_1, .slice A0_2 l0_2.length c0_2, .int .i64 a0_3], .int .i64 1048576] rfl z9_5 ?_; (with_reducible refine (laws_szWorth.calls a0_0 a0_1 _ _ l0_2 a0_3 1048576 t226 _ ?side1 ?side2 A4.out).mono ?_); (case side1 => exact z9_34); (case side2 => exact HC0_2.out); rintro e w16 ⟨rfl, hb⟩; refine ⟨_, rfl, ?_⟩; have n0_ := Aside0.mk (qf0 (g := gb225) (o := .cells #[.int .i64 a0_0, .int .i64 a0_1, .slice A0_2 l0_2.length c0_2, .int .i64 a0_3] 33 (0, 0)) z9_1 hb); have n1_ := Aside0.mk (qg0 z9_18 hb); clear BK225; clear HB; have BK225 := n0_; have HB := n1_; clear n0_ n1_; (try clear hb); (try clear hb2); (try clear hk); (try clear hi); have hcz17_0 : w16.cell? ⟨gb225, 0, none⟩ = some (.int .i64 a0_0) := (qb0 BK225.out 0).trans rfl; have hcz17_1 : w16.cell? ⟨gb225, 1, none⟩ = some (.int .i64 a0_1) := (qb0 BK225.out 1).trans rfl; have hcz17_2 : w16.cell? ⟨gb225, 2, none⟩ = some (.slice A0_2 l0_2.length c0_2) := (qb0 BK225.out 2).trans rfl; have hcz17_3 : w16.cell? ⟨gb225, 3, none⟩ = some (.int .i64 a0_3) := (qb0 BK225.out 3).trans rfl; have hfz17_0 := qa0 BK225.out 0; have hfz17_1 := qa0 BK225.out 1; have hfz17_2 := qa0 BK225.out 2; have hfz17_3 := qa0 BK225.out 3) | ((with_reducible refine qj0 (f := 13) rfl ?_); refine qy0 (some 25) rfl rfl Try.func13 z9_58 rfl #[.agg #[.int .i64 a0_0, .int .i64 a0_1, .slice A0_2 l0_2.length c0_2, .int .i64 a0_3]] rfl z9_5 ?_; (with_reducible refine (laws_toWorth.calls k a0_0 a0_1 _ _ l0_2 a0_3 t227 t228 t229 t232 _ ?side1 ?side2 A9.out).mono ?_); (case side1 => exact z9_34); (case side2 => exact HC0_2.out); rintro e w18 ⟨v230, rfl, ho0, hb⟩; refine ⟨_, rfl, ?_⟩; have n0_ := Aside0.mk (Kd.qh1 ho0 (qn0 z9_18)); have n1_ := Aside0.mk (qf0 (g := gb225) (o := .cells #[.int .i64 a0_0, .int .i64 a0_1, .slice A0_2 l0_2.length c0_2, .int .i64 a0_3] 33 (0, 0)) z9_1 hb); have n2_ := Aside0.mk (qg0 z9_18 hb); clear BK225; clear HB; have HO231 := n0_; have BK225 := n1_; have HB := n2_; clear n0_ n1_ n2_; (try clear hb); (try clear hb2); (try clear hk); (try clear hi); (try clear ho0); obtain ⟨Ao19, co19, eo19⟩ := Kd.qb1 HO231.out; subst eo19) | ((with_reducible refine qj0 (f := 12) rfl ?_); refine qy0 (some 28) rfl rfl Try.func12 z9_58 rfl #[.agg #[.int .i64 t227, .int .i64 t228, .slice Ao19 t229.length co19, .int .i64 t232], .int .i64 a1, .int .i64 a2] rfl z9_5 ?_; (with_reducible refine (spec_TakeIn.calls k t227 t228 _ _ t229 t232 a1 a2 t233 t234 t235 t238 t239 _ ?side1 ?side2 A10.out).mono ?_); (case side1 => repeat (first | exact (Kd.qq0 HO231.out).2.2 | (with_reducible refine Kd.C_alloc ?_ _) | (with_reducible refine Kd.C_drewN ?_ _) | (with_reducible refine Kd.C_drew ?_))); (case side2 => exact (Kd.qq0 HO231.out).2.1); rintro e w20 ⟨v236, rfl, ho0, hb⟩; refine ⟨_, rfl, ?_⟩; have n0_ := Aside0.mk (Kd.qg1 z9_52 (Kd.qn1 ho0) hb); have n1_ := Aside0.mk (Kd.qh1 (Kd.qm1 ho0 (Kd.R_lt z9_52)) (qn0 z9_18)); have n2_ := Aside0.mk (qf0 (g := gb225) (o := .cells #[.int .i64 a0_0, .int .i64 a0_1, .slice A0_2 l0_2.length c0_2, .int .i64 a0_3] 33 (0, 0)) z9_1 hb); have n3_ := Aside0.mk (qg0 z9_18 hb); clear HO231; clear BK225; clear HB; have HO231 := n0_; have HO237 := n1_; have BK225 := n2_; have HB := n3_; clear n0_ n1_ n2_ n3_; (try clear hb); (try clear hb2); (try clear hk); (try clear hi); (try clear ho0)) | ((with_reducible refine qr0 (N := 8) rfl ?_); refine qo0 ?hg (N := 8) ?hd (cs := #[.int .i64 0, .int .i64 0, .slice none 0 0, .int .i64 0]) (t := 37) ?hr ?_; (case hd => rfl); (case hg => rfl); (case hr => exact z9_82); intro gb240 hg w21 hbox hb; have n0_ := Aside0.mk (Kd.qp0 z9_52 hb); have n1_ := Aside0.mk (Kd.qp0 z9_72 hb); have n2_ := Aside0.mk (qf0 (g := gb225) (o := .cells #[.int .i64 a0_0, .int .i64 a0_1, .slice A0_2 l0_2.length c0_2, .int .i64 a0_3] 33 (0, 0)) z9_1 hb); have n3_ := Aside0.mk (qg0 z9_18 hb); have n4_ := Aside0.mk (hbox); have n5_ := Aside0.mk ((z9_59 : w.heap.size ≤ gb240)); have n6_ := Aside0.mk ((z9_59 : w.heap.size ≤ gb240)); have n7_ := Aside0.mk ((z9_32 : gb225 ≠ gb240)); have n8_ := Aside0.mk ((z9_33 : gb240 ≠ gb225)); clear HO231; clear HO237; clear BK225; clear HB; have HO231 := n0_; have HO237 := n1_; have BK225 := n2_; have HB := n3_; have BK240 := n4_; have GW240 := n5_; have GE240 := n6_; have NB225_240 := n7_; have NB240_225 := n8_; clear n0_ n1_ n2_ n3_ n4_ n5_ n6_ n7_ n8_; clear hb hbox hg; have hnb22 := NB240_225.out; have hnc22 := NB225_240.out; have hcz23_0 : w21.cell? ⟨gb240, 0, none⟩ = some (.int .i64 0) := (qb0 BK240.out 0).trans rfl; have hcz23_1 : w21.cell? ⟨gb240, 1, none⟩ = some (.int .i64 0) := (qb0 BK240.out 1).trans rfl; have hcz23_2 : w21.cell? ⟨gb240, 2, none⟩ = some (.slice none 0 0) := (qb0 BK240.out 2).trans rfl; have hcz23_3 : w21.cell? ⟨gb240, 3, none⟩ = some (.int .i64 0) := (qb0 BK240.out 3).trans rfl; have hfz23_0 := qa0 BK240.out 0; have hfz23_1 := qa0 BK240.out 1; have hfz23_2 := qa0 BK240.out 2; have hfz23_3 := qa0 BK240.out 3; obtain ⟨Ao24, co24, eo24⟩ := Kd.qb1 HO237.out; subst eo24; have hcz25_0 : w21.cell? ⟨gb225, 0, none⟩ = some (.int .i64 a0_0) := (qb0 BK225.out 0).trans rfl; have hcz25_1 : w21.cell? ⟨gb225, 1, none⟩ = some (.int .i64 a0_1) := (qb0 BK225.out 1).trans rfl; have hcz25_2 : w21.cell? ⟨gb225, 2, none⟩ = some (.slice A0_2 l0_2.length c0_2) := (qb0 BK225.out 2).trans rfl; have hcz25_3 : w21.cell? ⟨gb225, 3, none⟩ = some (.int .i64 a0_3) := (qb0 BK225.out 3).trans rfl; have hfz25_0 := qa0 BK225.out 0; have hfz25_1 := qa0 BK225.out 1; have hfz25_2 := qa0 BK225.out 2; have hfz25_3 := qa0 BK225.out 3) | ((with_reducible refine qj0 (f := 13) rfl ?_); refine qy0 (some 32) rfl rfl Try.func13 z9_58 rfl #[.agg #[.int .i64 a0_0, .int .i64 a0_1, .slice A0_2 l0_2.length c0_2, .int .i64 a0_3]] rfl z9_5 ?_; (with_reducible refine (laws_toWorth.calls k a0_0 a0_1 _ _ l0_2 a0_3 t241 t242 t243 t246 _ ?side1 ?side2 A11.out).mono ?_); (case side1 => exact Kd.C_below HR0_2.out z9_30); (case side2 => exact HC0_2.out); rintro e w26 ⟨v244, rfl, ho0, hb⟩; refine ⟨_, rfl, ?_⟩; have n0_ := Aside0.mk (Kd.qg1 z9_39 (Kd.qn1 ho0) hb); have n1_ := Aside0.mk (Kd.qg1 z9_40 (Kd.qn1 ho0) hb); have n2_ := Aside0.mk (Kd.qh1 (Kd.qm1 (Kd.qm1 ho0 (Kd.R_lt z9_39)) (Kd.R_lt z9_40)) (qn0 z9_30)); have n3_ := Aside0.mk (qf0 (g := gb225) (o := .cells #[.int .i64 a0_0, .int .i64 a0_1, .slice A0_2 l0_2.length c0_2, .int .i64 a0_3] 33 (0, 0)) (by (with_reducible repeat (first | refine qc0 ?_ _ | refine qe0 ?_ | refine qd0 ?_ _)); refine qv0 ?_ NB225_240.out _; (with_reducible repeat (first | refine qc0 ?_ _ | refine qe0 ?_ | refine qd0 ?_ _)); refine qv0 ?_ NB225_240.out _; (with_reducible repeat (first | refine qc0 ?_ _ | refine qe0 ?_ | refine qd0 ?_ _)); refine qv0 ?_ NB225_240.out _; (with_reducible repeat (first | refine qc0 ?_ _ | refine qe0 ?_ | refine qd0 ?_ _)); refine qv0 ?_ NB225_240.out _; (with_reducible repeat (first | refine qc0 ?_ _ | refine qe0 ?_ | refine qd0 ?_ _)); exact BK225.out) hb); have n4_ := Aside0.mk (qf0 (g := gb240) (o := .cells #[.int .i64 t233, .int .i64 t234, .slice Ao24 t235.length co24, .int .i64 t238] 37 (0, 0)) (by (with_reducible repeat (first | refine qc0 ?_ _ | refine qe0 ?_ | refine qd0 ?_ _)); refine qm0 (cs := #[.int .i64 t233, .int .i64 t234, .slice Ao24 t235.length co24, .int .i64 0]) ?_ 3 _ rfl; (with_reducible repeat (first | refine qc0 ?_ _ | refine qe0 ?_ | refine qd0 ?_ _)); refine qm0 (cs := #[.int .i64 t233, .int .i64 t234, .slice none 0 0, .int .i64 0]) ?_ 2 _ rfl; (with_reducible repeat (first | refine qc0 ?_ _ | refine qe0 ?_ | refine qd0 ?_ _)); refine qm0 (cs := #[.int .i64 t233, .int .i64 0, .slice none 0 0, .int .i64 0]) ?_ 1 _ rfl; (with_reducible repeat (first | refine qc0 ?_ _ | refine qe0 ?_ | refine qd0 ?_ _)); refine qm0 (cs := #[.int .i64 0, .int .i64 0, .slice none 0 0, .int .i64 0]) ?_ 0 _ rfl; (with_reducible repeat (first | refine qc0 ?_ _ | refine qe0 ?_ | refine qd0 ?_ _)); exact BK240.out) hb); have n5_ := Aside0.mk (qg0 z9_30 hb); clear HO231; clear HO237; clear BK225; clear BK240; clear HB; have HO231 := n0_; have HO237 := n1_; have HO245 := n2_; have BK225 := n3_; have BK240 := n4_; have HB := n5_; clear n0_ n1_ n2_ n3_ n4_ n5_; (try clear hb); (try clear hb2); (try clear hk); (try clear hi); (try clear ho0)) | ((with_reducible refine qr0 (N := 10) rfl ?_); refine qo0 ?hg (N := 10) ?hd (cs := #[.int .i64 0, .int .i64 0, .slice none 0 0, .int .i64 0]) (t := 37) ?hr ?_; (case hd => rfl); (case hg => rfl); (case hr => exact z9_82); intro gb247 hg w27 hbox hb; have n0_ := Aside0.mk (Kd.qp0 z9_52 hb); have n1_ := Aside0.mk (Kd.qp0 z9_72 hb); have n2_ := Aside0.mk (Kd.qp0 (by (with_reducible repeat (first | apply Kd.qu0 | apply Kd.qt0 | apply Kd.qx0)); exact HO245.out) hb); have n3_ := Aside0.mk (qf0 (g := gb225) (o := .cells #[.int .i64 a0_0, .int .i64 a0_1, .slice A0_2 l0_2.length c0_2, .int .i64 a0_3] 33 (0, 0)) z9_1 hb); have n4_ := Aside0.mk (qf0 (g := gb240) (o := .cells #[.int .i64 t233, .int .i64 t234, .slice Ao24 t235.length co24, .int .i64 t238] 37 (0, 0)) z9_2 hb); have n5_ := Aside0.mk (qg0 z9_30 hb); have n6_ := Aside0.mk (hbox); have n7_ := Aside0.mk ((z9_53 : w.heap.size ≤ gb247)); have n8_ := Aside0.mk ((z9_53 : w.heap.size ≤ gb247)); have n9_ := Aside0.mk ((z9_32 : gb225 ≠ gb247)); have n10_ := Aside0.mk ((z9_33 : gb247 ≠ gb225)); have n11_ := Aside0.mk ((z9_45 : gb240 ≠ gb247)); have n12_ := Aside0.mk ((z9_46 : gb247 ≠ gb240)); clear HO231; clear HO237; clear HO245; clear BK225; clear BK240; clear HB; have HO231 := n0_; have HO237 := n1_; have HO245 := n2_; have BK225 := n3_; have BK240 := n4_; have HB := n5_; have BK247 := n6_; have GW247 := n7_; have GE247 := n8_; have NB225_247 := n9_; have NB247_225 := n10_; have NB240_247 := n11_; have NB247_240 := n12_; clear n0_ n1_ n2_ n3_ n4_ n5_ n6_ n7_ n8_ n9_ n10_ n11_ n12_; clear hb hbox hg; have hnb28 := NB247_225.out; have hnc28 := NB225_247.out; have hnb29 := NB247_240.out; have hnc29 := NB240_247.out; have hcz30_0 : w27.cell? ⟨gb247, 0, none⟩ = some (.int .i64 0) := (qb0 BK247.out 0).trans rfl; have hcz30_1 : w27.cell? ⟨gb247, 1, none⟩ = some (.int .i64 0) := (qb0 BK247.out 1).trans rfl; have hcz30_2 : w27.cell? ⟨gb247, 2, none⟩ = some (.slice none 0 0) := (qb0 BK247.out 2).trans rfl; have hcz30_3 : w27.cell? ⟨gb247, 3, none⟩ = some (.int .i64 0) := (qb0 BK247.out 3).trans rfl; have hfz30_0 := qa0 BK247.out 0; have hfz30_1 := qa0 BK247.out 1; have hfz30_2 := qa0 BK247.out 2; have hfz30_3 := qa0 BK247.out 3; obtain ⟨Ao31, co31, eo31⟩ := Kd.qb1 HO245.out; subst eo31) | ((with_reducible refine qj0 (f := 14) rfl ?_); refine qy0 (some 37) rfl rfl Try.func14 z9_58 rfl #[.agg #[.int .i64 t241, .int .i64 t242, .slice Ao31 t243.length co31, .int .i64 t246], .int .i64 a1, .int .i64 a2] rfl z9_5 ?_; (with_reducible refine (impl_TakeIn.calls k t241 t242 _ _ t243 t246 a1 a2 t248 t249 t250 t253 t254 _ ?side1 ?side2 A12.out).mono ?_); (case side1 => refine (Kd.qq0 (e := 59) (base := w.heap.size) (ok := fun k_ => ((True ∧ some k_ ≠ (.slice Ao19 t229.length co19 : Value).ownBlock) ∧ some k_ ≠ (.slice Ao24 t235.length co24 : Value).ownBlock)) (n := t243.length) (c := co31) ?_).2.2; exact z9_22); (case side2 => exact (Kd.qq0 HO245.out).2.1); rintro e w32 ⟨v251, rfl, ho0, hb⟩; refine ⟨_, rfl, ?_⟩; have n0_ := Aside0.mk (Kd.qg1 z9_41 (Kd.qn1 ho0) hb); have n1_ := Aside0.mk (Kd.qg1 z9_42 (Kd.qn1 ho0) hb); have n2_ := Aside0.mk (Kd.qg1 z9_22 (Kd.qn1 ho0) hb); have n3_ := Aside0.mk (Kd.qh1 (Kd.qm1 (Kd.qm1 (Kd.qm1 ho0 (Kd.R_lt z9_41)) (Kd.R_lt z9_42)) (Kd.R_lt z9_22)) (qn0 z9_31)); have n4_ := Aside0.mk (qf0 (g := gb225) (o := .cells #[.int .i64 a0_0, .int .i64 a0_1, .slice A0_2 l0_2.length c0_2, .int .i64 a0_3] 33 (0, 0)) (by (with_reducible repeat (first | refine qc0 ?_ _ | refine qe0 ?_ | refine qd0 ?_ _)); refine qv0 ?_ NB225_247.out _; (with_reducible repeat (first | refine qc0 ?_ _ | refine qe0 ?_ | refine qd0 ?_ _)); refine qv0 ?_ NB225_247.out _; (with_reducible repeat (first | refine qc0 ?_ _ | refine qe0 ?_ | refine qd0 ?_ _)); refine qv0 ?_ NB225_247.out _; (with_reducible repeat (first | refine qc0 ?_ _ | refine qe0 ?_ | refine qd0 ?_ _)); refine qv0 ?_ NB225_247.out _; (with_reducible repeat (first | refine qc0 ?_ _ | refine qe0 ?_ | refine qd0 ?_ _)); exact BK225.out) hb); have n5_ := Aside0.mk (qf0 (g := gb240) (o := .cells #[.int .i64 t233, .int .i64 t234, .slice Ao24 t235.length co24, .int .i64 t238] 37 (0, 0)) (by (with_reducible repeat (first | refine qc0 ?_ _ | refine qe0 ?_ | refine qd0 ?_ _)); refine qv0 ?_ NB240_247.out _; (with_reducible repeat (first | refine qc0 ?_ _ | refine qe0 ?_ | refine qd0 ?_ _)); refine qv0 ?_ NB240_247.out _; (with_reducible repeat (first | refine qc0 ?_ _ | refine qe0 ?_ | refine qd0 ?_ _)); refine qv0 ?_ NB240_247.out _; (with_reducible repeat (first | refine qc0 ?_ _ | refine qe0 ?_ | refine qd0 ?_ _)); refine qv0 ?_ NB240_247.out _; (with_reducible repeat (first | refine qc0 ?_ _ | refine qe0 ?_ | refine qd0 ?_ _)); exact BK240.out) hb); have n6_ := Aside0.mk (qf0 (g := gb247) (o := .cells #[.int .i64 t241, .int .i64 t242, .slice Ao31 t243.length co31, .int .i64 t246] 37 (0, 0)) (by (with_reducible repeat (first | refine qc0 ?_ _ | refine qe0 ?_ | refine qd0 ?_ _)); refine qm0 (cs := #[.int .i64 t241, .int .i64 t242, .slice Ao31 t243.length co31, .int .i64 0]) ?_ 3 _ rfl; (with_reducible repeat (first | refine qc0 ?_ _ | refine qe0 ?_ | refine qd0 ?_ _)); refine qm0 (cs := #[.int .i64 t241, .int .i64 t242, .slice none 0 0, .int .i64 0]) ?_ 2 _ rfl; (with_reducible repeat (first | refine qc0 ?_ _ | refine qe0 ?_ | refine qd0 ?_ _)); refine qm0 (cs := #[.int .i64 t241, .int .i64 0, .slice none 0 0, .int .i64 0]) ?_ 1 _ rfl; (with_reducible repeat (first | refine qc0 ?_ _ | refine qe0 ?_ | refine qd0 ?_ _)); refine qm0 (cs := #[.int .i64 0, .int .i64 0, .slice none 0 0, .int .i64 0]) ?_ 0 _ rfl; (with_reducible repeat (first | refine qc0 ?_ _ | refine qe0 ?_ | refine qd0 ?_ _)); exact BK247.out) hb); have n7_ := Aside0.mk (qg0 z9_31 hb); clear HO231; clear HO237; clear HO245; clear BK225; clear BK240; clear BK247; clear HB; have HO231 := n0_; have HO237 := n1_; have HO245 := n2_; have HO252 := n3_; have BK225 := n4_; have BK240 := n5_; have BK247 := n6_; have HB := n7_; clear n0_ n1_ n2_ n3_ n4_ n5_ n6_ n7_; (try clear hb); (try clear hb2); (try clear hk); (try clear hi); (try clear ho0)) | ((with_reducible refine qr0 (N := 11) rfl ?_); refine qo0 ?hg (N := 11) ?hd (cs := #[.int .i64 0, .int .i64 0, .slice none 0 0, .int .i64 0]) (t := 37) ?hr ?_; (case hd => rfl); (case hg => rfl); (case hr => exact z9_82); intro gb255 hg w33 hbox hb; have n0_ := Aside0.mk (Kd.qp0 z9_52 hb); have n1_ := Aside0.mk (Kd.qp0 z9_72 hb); have n2_ := Aside0.mk (Kd.qp0 (by (with_reducible repeat (first | apply Kd.qu0 | apply Kd.qt0 | apply Kd.qx0)); exact HO245.out) hb); have n3_ := Aside0.mk (Kd.qp0 (by (with_reducible repeat (first | apply Kd.qu0 | apply Kd.qt0 | apply Kd.qx0)); exact HO252.out) hb); have n4_ := Aside0.mk (qf0 (g := gb225) (o := .cells #[.int .i64 a0_0, .int .i64 a0_1, .slice A0_2 l0_2.length c0_2, .int .i64 a0_3] 33 (0, 0)) z9_1 hb); have n5_ := Aside0.mk (qf0 (g := gb240) (o := .cells #[.int .i64 t233, .int .i64 t234, .slice Ao24 t235.length co24, .int .i64 t238] 37 (0, 0)) z9_2 hb); have n6_ := Aside0.mk (qf0 (g := gb247) (o := .cells #[.int .i64 t241, .int .i64 t242, .slice Ao31 t243.length co31, .int .i64 t246] 37 (0, 0)) z9_3 hb); have n7_ := Aside0.mk (qg0 z9_31 hb); have n8_ := Aside0.mk (hbox); have n9_ := Aside0.mk ((z9_51 : w.heap.size ≤ gb255)); have n10_ := Aside0.mk ((z9_51 : w.heap.size ≤ gb255)); have n11_ := Aside0.mk ((z9_32 : gb225 ≠ gb255)); have n12_ := Aside0.mk ((z9_33 : gb255 ≠ gb225)); have n13_ := Aside0.mk ((z9_45 : gb240 ≠ gb255)); have n14_ := Aside0.mk ((z9_46 : gb255 ≠ gb240)); have n15_ := Aside0.mk ((by rw [hg]; exact Nat.ne_of_lt (qe1 (g := gb247) (o := .cells #[.int .i64 t241, .int .i64 t242, .slice Ao31 t243.length co31, .int .i64 t246] 37 (0, 0)) z9_3) : gb247 ≠ gb255)); have n16_ := Aside0.mk ((by rw [hg]; exact Nat.ne_of_gt (qe1 (g := gb247) (o := .cells #[.int .i64 t241, .int .i64 t242, .slice Ao31 t243.length co31, .int .i64 t246] 37 (0, 0)) z9_3) : gb255 ≠ gb247)); clear HO231; clear HO237; clear HO245; clear HO252; clear BK225; clear BK240; clear BK247; clear HB; have HO231 := n0_; have HO237 := n1_; have HO245 := n2_; have HO252 := n3_; have BK225 := n4_; have BK240 := n5_; have BK247 := n6_; have HB := n7_; have BK255 := n8_; have GW255 := n9_; have GE255 := n10_; have NB225_255 := n11_; have NB255_225 := n12_; have NB240_255 := n13_; have NB255_240 := n14_; have NB247_255 := n15_; have NB255_247 := n16_; clear n0_ n1_ n2_ n3_ n4_ n5_ n6_ n7_ n8_ n9_ n10_ n11_ n12_ n13_ n14_ n15_ n16_; clear hb hbox hg; have hnb34 := NB255_225.out; have hnc34 := NB225_255.out; have hnb35 := NB255_240.out; have hnc35 := NB240_255.out; have hnb36 := NB255_247.out; have hnc36 := NB247_255.out; have hcz37_0 : w33.cell? ⟨gb255, 0, none⟩ = some (.int .i64 0) := (qb0 BK255.out 0).trans rfl; have hcz37_1 : w33.cell? ⟨gb255, 1, none⟩ = some (.int .i64 0) := (qb0 BK255.out 1).trans rfl; have hcz37_2 : w33.cell? ⟨gb255, 2, none⟩ = some (.slice none 0 0) := (qb0 BK255.out 2).trans rfl; have hcz37_3 : w33.cell? ⟨gb255, 3, none⟩ = some (.int .i64 0) := (qb0 BK255.out 3).trans rfl; have hfz37_0 := qa0 BK255.out 0; have hfz37_1 := qa0 BK255.out 1; have hfz37_2 := qa0 BK255.out 2; have hfz37_3 := qa0 BK255.out 3; obtain ⟨Ao38, co38, eo38⟩ := Kd.qb1 HO252.out; subst eo38))
 (try simp only [Act.put, List.setIfInBounds_toArray, List.set_cons_zero, List.set_cons_succ])
 go_cut [48] (fun v48 wc => ∃ (kq : Nat) (x48_12 : Bool), v48 = .bool x48_12 ∧ Aside0 (laws_FnExactTakeIn.j0 kq a1 a2 t239 t254 x48_12 a0_0 a0_1 l0_2 a0_3 t233 t234 t235 t238 t241 t242 t243 t246 t248 t249 t250 t253 = some r) ∧ Aside0 (kq ≤ k) ∧ Aside0 (Kd.R k59 59 wc w.heap.size (fun k_ => some k_ ≠ ((.slice Ao31 t243.length co31) : Value).ownBlock ∧ some k_ ≠ ((.slice Ao38 t250.length co38) : Value).ownBlock) (.slice Ao24 t235.length co24) t235) ∧ Aside0 (Kd.R k59 59 wc w.heap.size (fun k_ => some k_ ≠ ((.slice Ao24 t235.length co24) : Value).ownBlock ∧ some k_ ≠ ((.slice Ao38 t250.length co38) : Value).ownBlock) (.slice Ao31 t243.length co31) t243) ∧ Aside0 (Kd.R k59 59 wc w.heap.size (fun k_ => some k_ ≠ ((.slice Ao24 t235.length co24) : Value).ownBlock ∧ some k_ ≠ ((.slice Ao31 t243.length co31) : Value).ownBlock) (.slice Ao38 t250.length co38) t250) ∧ Aside0 (wc.heap[gb225]? = some (.cells #[.int .i64 a0_0, .int .i64 a0_1, (.slice A0_2 l0_2.length c0_2), .int .i64 a0_3] 33 (0, 0))) ∧ Aside0 (wc.heap[gb240]? = some (.cells #[.int .i64 t233, .int .i64 t234, (.slice Ao24 t235.length co24), .int .i64 t238] 37 (0, 0))) ∧ Aside0 (wc.heap[gb247]? = some (.cells #[.int .i64 t241, .int .i64 t242, (.slice Ao31 t243.length co31), .int .i64 t246] 37 (0, 0))) ∧ Aside0 (wc.heap[gb255]? = some (.cells #[.int .i64 t248, .int .i64 t249, (.slice Ao38 t250.length co38), .int .i64 t253] 37 (0, 0))) ∧ Aside0 (Below w.heap.size w wc))
 case first =>
  have H := HC13.out
  clear HC13
  replace H := Option.bind_eq_some_iff.mp H
  obtain ⟨t256, A390, H⟩ := H
  replace H : (if t256 = true then (laws_FnExactTakeIn.j0 k a1 a2 t239 t254 (t254 != t239) a0_0 a0_1 l0_2 a0_3 t233 t234 t235 t238 t241 t242 t243 t246 t248 t249 t250 t253) else (laws_FnExactTakeIn.j0 k a1 a2 t239 t254 true a0_0 a0_1 l0_2 a0_3 t233 t234 t235 t238 t241 t242 t243 t246 t248 t249 t250 t253)) = some r := H
  have A39 := Aside0.mk A390
  clear A390
  by_cases c40 : t256 = true
  ·subst c40
   have H1 : (laws_FnExactTakeIn.j0 k a1 a2 t239 t254 (t254 != t239) a0_0 a0_1 l0_2 a0_3 t233 t234 t235 t238 t241 t242 t243 t246 t248 t249 t250 t253) = some r := by rw [if_pos rfl] at H; exact H
   clear H
   have H := H1
   clear H1
   have H' := Aside0.mk H
   clear H
   have hnb41 := NB255_225.out
   have hnc41 := NB225_255.out
   have hnb42 := NB255_240.out
   have hnc42 := NB240_255.out
   have hnb43 := NB255_247.out
   have hnc43 := NB247_255.out
   have hcz44_0 : w33.cell? ⟨gb255, 0, none⟩ = some (.int .i64 0) := (qb0 BK255.out 0).trans rfl
   have hcz44_1 : w33.cell? ⟨gb255, 1, none⟩ = some (.int .i64 0) := (qb0 BK255.out 1).trans rfl
   have hcz44_2 : w33.cell? ⟨gb255, 2, none⟩ = some (.slice none 0 0) := (qb0 BK255.out 2).trans rfl
   have hcz44_3 : w33.cell? ⟨gb255, 3, none⟩ = some (.int .i64 0) := (qb0 BK255.out 3).trans rfl
   have hfz44_0 := qa0 BK255.out 0
   have hfz44_1 := qa0 BK255.out 1
   have hfz44_2 := qa0 BK255.out 2
   have hfz44_3 := qa0 BK255.out 3
   have hnb45 := NB240_225.out
   have hnc45 := NB225_240.out
   have hnb46 := NB240_247.out
   have hnc46 := NB247_240.out
   have hcz47_0 : w33.cell? ⟨gb240, 0, none⟩ = some (.int .i64 t233) := (qb0 BK240.out 0).trans rfl
   have hcz47_1 : w33.cell? ⟨gb240, 1, none⟩ = some (.int .i64 t234) := (qb0 BK240.out 1).trans rfl
   have hcz47_2 : w33.cell? ⟨gb240, 2, none⟩ = some (.slice Ao24 t235.length co24) := (qb0 BK240.out 2).trans rfl
   have hcz47_3 : w33.cell? ⟨gb240, 3, none⟩ = some (.int .i64 t238) := (qb0 BK240.out 3).trans rfl
   have hfz47_0 := qa0 BK240.out 0
   have hfz47_1 := qa0 BK240.out 1
   have hfz47_2 := qa0 BK240.out 2
   have hfz47_3 := qa0 BK240.out 3
   go_wp2_with (first | ((with_reducible refine qj0 (f := 15) rfl ?_); refine qy0 (some 42) rfl rfl Try.func15 z9_58 rfl #[.agg #[.int .i64 t248, .int .i64 t249, .slice Ao38 t250.length co38, .int .i64 t253], .agg #[.int .i64 t233, .int .i64 t234, .slice Ao24 t235.length co24, .int .i64 t238]] rfl z9_5 ?_; (with_reducible refine (laws_eqWorth.calls k t248 t249 _ _ t250 t253 t233 t234 _ _ t235 t238 true _ ?side1 ?side2 ?side3 ?side4 A39.out).mono ?_); (case side1 => exact z9_19); (case side2 => exact (Kd.qq0 HO252.out).2.1); (case side3 => exact z9_20); (case side4 => exact (Kd.qq0 HO237.out).2.1); rintro e w48 ⟨rfl, hb⟩; refine ⟨_, rfl, ?_⟩; have n0_ := Aside0.mk (Kd.qp0 z9_43 hb); have n1_ := Aside0.mk (Kd.qp0 z9_13 hb); have n2_ := Aside0.mk (Kd.qp0 z9_44 hb); have n3_ := Aside0.mk (Kd.qp0 z9_12 hb); have n4_ := Aside0.mk (qf0 (g := gb225) (o := .cells #[.int .i64 a0_0, .int .i64 a0_1, .slice A0_2 l0_2.length c0_2, .int .i64 a0_3] 33 (0, 0)) z9_23 hb); have n5_ := Aside0.mk (qf0 (g := gb240) (o := .cells #[.int .i64 t233, .int .i64 t234, .slice Ao24 t235.length co24, .int .i64 t238] 37 (0, 0)) z9_24 hb); have n6_ := Aside0.mk (qf0 (g := gb247) (o := .cells #[.int .i64 t241, .int .i64 t242, .slice Ao31 t243.length co31, .int .i64 t246] 37 (0, 0)) z9_25 hb); have n7_ := Aside0.mk (qf0 (g := gb255) (o := .cells #[.int .i64 t248, .int .i64 t249, .slice Ao38 t250.length co38, .int .i64 t253] 37 (0, 0)) z9_15 hb); have n8_ := Aside0.mk (qg0 z9_0 hb); clear HO231; clear HO237; clear HO245; clear HO252; clear BK225; clear BK240; clear BK247; clear BK255; clear HB; have HO231 := n0_; have HO237 := n1_; have HO245 := n2_; have HO252 := n3_; have BK225 := n4_; have BK240 := n5_; have BK247 := n6_; have BK255 := n7_; have HB := n8_; clear n0_ n1_ n2_ n3_ n4_ n5_ n6_ n7_ n8_; (try clear hb); (try clear hb2); (try clear hk); (try clear hi)))
   go_meet
   case rel => exact ⟨_, ((t254 != t239)), z9_71, H', ⟨by first | omega | exact Nat.le_refl _⟩, ⟨z9_79⟩, ⟨z9_80⟩, ⟨z9_81⟩, ⟨z9_1⟩, ⟨z9_2⟩, ⟨z9_3⟩, ⟨z9_6⟩, ⟨z9_0⟩⟩
  replace c40 := Bool.eq_false_iff.mpr c40
  subst c40
  have H1 : (laws_FnExactTakeIn.j0 k a1 a2 t239 t254 true a0_0 a0_1 l0_2 a0_3 t233 t234 t235 t238 t241 t242 t243 t246 t248 t249 t250 t253) = some r := by rw [if_neg (show ¬ (false = true) from z9_60)] at H; exact H
  clear H
  have H := H1
  clear H1
  have H' := Aside0.mk H
  clear H
  have hnb49 := NB255_225.out
  have hnc49 := NB225_255.out
  have hnb50 := NB255_240.out
  have hnc50 := NB240_255.out
  have hnb51 := NB255_247.out
  have hnc51 := NB247_255.out
  have hcz52_0 : w33.cell? ⟨gb255, 0, none⟩ = some (.int .i64 0) := (qb0 BK255.out 0).trans rfl
  have hcz52_1 : w33.cell? ⟨gb255, 1, none⟩ = some (.int .i64 0) := (qb0 BK255.out 1).trans rfl
  have hcz52_2 : w33.cell? ⟨gb255, 2, none⟩ = some (.slice none 0 0) := (qb0 BK255.out 2).trans rfl
  have hcz52_3 : w33.cell? ⟨gb255, 3, none⟩ = some (.int .i64 0) := (qb0 BK255.out 3).trans rfl
  have hfz52_0 := qa0 BK255.out 0
  have hfz52_1 := qa0 BK255.out 1
  have hfz52_2 := qa0 BK255.out 2
  have hfz52_3 := qa0 BK255.out 3
  have hnb53 := NB240_225.out
  have hnc53 := NB225_240.out
  have hnb54 := NB240_247.out
  have hnc54 := NB247_240.out
  have hcz55_0 : w33.cell? ⟨gb240, 0, none⟩ = some (.int .i64 t233) := (qb0 BK240.out 0).trans rfl
  have hcz55_1 : w33.cell? ⟨gb240, 1, none⟩ = some (.int .i64 t234) := (qb0 BK240.out 1).trans rfl
  have hcz55_2 : w33.cell? ⟨gb240, 2, none⟩ = some (.slice Ao24 t235.length co24) := (qb0 BK240.out 2).trans rfl
  have hcz55_3 : w33.cell? ⟨gb240, 3, none⟩ = some (.int .i64 t238) := (qb0 BK240.out 3).trans rfl
  have hfz55_0 := qa0 BK240.out 0
  have hfz55_1 := qa0 BK240.out 1
  have hfz55_2 := qa0 BK240.out 2
  have hfz55_3 := qa0 BK240.out 3
  go_wp2_with (first | ((with_reducible refine qj0 (f := 15) rfl ?_); refine qy0 (some 42) rfl rfl Try.func15 z9_58 rfl #[.agg #[.int .i64 t248, .int .i64 t249, .slice Ao38 t250.length co38, .int .i64 t253], .agg #[.int .i64 t233, .int .i64 t234, .slice Ao24 t235.length co24, .int .i64 t238]] rfl z9_5 ?_; (with_reducible refine (laws_eqWorth.calls k t248 t249 _ _ t250 t253 t233 t234 _ _ t235 t238 false _ ?side1 ?side2 ?side3 ?side4 A39.out).mono ?_); (case side1 => exact z9_19); (case side2 => exact (Kd.qq0 HO252.out).2.1); (case side3 => exact z9_20); (case side4 => exact (Kd.qq0 HO237.out).2.1); rintro e w56 ⟨rfl, hb⟩; refine ⟨_, rfl, ?_⟩; have n0_ := Aside0.mk (Kd.qp0 z9_43 hb); have n1_ := Aside0.mk (Kd.qp0 z9_13 hb); have n2_ := Aside0.mk (Kd.qp0 z9_44 hb); have n3_ := Aside0.mk (Kd.qp0 z9_12 hb); have n4_ := Aside0.mk (qf0 (g := gb225) (o := .cells #[.int .i64 a0_0, .int .i64 a0_1, .slice A0_2 l0_2.length c0_2, .int .i64 a0_3] 33 (0, 0)) z9_23 hb); have n5_ := Aside0.mk (qf0 (g := gb240) (o := .cells #[.int .i64 t233, .int .i64 t234, .slice Ao24 t235.length co24, .int .i64 t238] 37 (0, 0)) z9_24 hb); have n6_ := Aside0.mk (qf0 (g := gb247) (o := .cells #[.int .i64 t241, .int .i64 t242, .slice Ao31 t243.length co31, .int .i64 t246] 37 (0, 0)) z9_25 hb); have n7_ := Aside0.mk (qf0 (g := gb255) (o := .cells #[.int .i64 t248, .int .i64 t249, .slice Ao38 t250.length co38, .int .i64 t253] 37 (0, 0)) z9_15 hb); have n8_ := Aside0.mk (qg0 z9_0 hb); clear HO231; clear HO237; clear HO245; clear HO252; clear BK225; clear BK240; clear BK247; clear BK255; clear HB; have HO231 := n0_; have HO237 := n1_; have HO245 := n2_; have HO252 := n3_; have BK225 := n4_; have BK240 := n5_; have BK247 := n6_; have BK255 := n7_; have HB := n8_; clear n0_ n1_ n2_ n3_ n4_ n5_ n6_ n7_ n8_; (try clear hb); (try clear hb2); (try clear hk); (try clear hi)))
  go_meet
  case rel => exact ⟨_, (true), z9_71, H', ⟨by first | omega | exact Nat.le_refl _⟩, ⟨z9_79⟩, ⟨z9_80⟩, ⟨z9_81⟩, ⟨z9_1⟩, ⟨z9_2⟩, ⟨z9_3⟩, ⟨z9_6⟩, ⟨z9_0⟩⟩
 case rest =>
  clear HC13
  try clear c1
  try clear c2
  try clear p2
  try clear c3
  try clear c4
  try clear c5
  try clear c5b0
  try clear c11
  try clear c12
  try clear c13
  try clear c14
  try clear c15
  try clear c22
  try clear c28
  try clear c29
  try clear c34
  try clear c35
  try clear c36
  try clear c40
  try clear c41
  try clear c42
  try clear c43
  try clear c45
  try clear c46
  try clear c49
  try clear c50
  try clear c51
  try clear c53
  try clear c54
  try clear hcz15_0
  try clear hcz15_1
  try clear hcz15_2
  try clear hcz15_3
  try clear hcz17_0
  try clear hcz17_1
  try clear hcz17_2
  try clear hcz17_3
  try clear hcz23_0
  try clear hcz23_1
  try clear hcz23_2
  try clear hcz23_3
  try clear hcz25_0
  try clear hcz25_1
  try clear hcz25_2
  try clear hcz25_3
  try clear hcz30_0
  try clear hcz30_1
  try clear hcz30_2
  try clear hcz30_3
  try clear hcz37_0
  try clear hcz37_1
  try clear hcz37_2
  try clear hcz37_3
  try clear hcz44_0
  try clear hcz44_1
  try clear hcz44_2
  try clear hcz44_3
  try clear hcz47_0
  try clear hcz47_1
  try clear hcz47_2
  try clear hcz47_3
  try clear hcz52_0
  try clear hcz52_1
  try clear hcz52_2
  try clear hcz52_3
  try clear hcz55_0
  try clear hcz55_1
  try clear hcz55_2
  try clear hcz55_3
  try clear hcz7_0
  try clear hcz7_1
  try clear hcz7_2
  try clear hcz7_3
  try clear hfz15_0
  try clear hfz15_1
  try clear hfz15_2
  try clear hfz15_3
  try clear hfz17_0
  try clear hfz17_1
  try clear hfz17_2
  try clear hfz17_3
  try clear hfz23_0
  try clear hfz23_1
  try clear hfz23_2
  try clear hfz23_3
  try clear hfz25_0
  try clear hfz25_1
  try clear hfz25_2
  try clear hfz25_3
  try clear hfz30_0
  try clear hfz30_1
  try clear hfz30_2
  try clear hfz30_3
  try clear hfz37_0
  try clear hfz37_1
  try clear hfz37_2
  try clear hfz37_3
  try clear hfz44_0
  try clear hfz44_1
  try clear hfz44_2
  try clear hfz44_3
  try clear hfz47_0
  try clear hfz47_1
  try clear hfz47_2
  try clear hfz47_3
  try clear hfz52_0
  try clear hfz52_1
  try clear hfz52_2
  try clear hfz52_3
  try clear hfz55_0
  try clear hfz55_1
  try clear hfz55_2
  try clear hfz55_3
  try clear hfz7_0
  try clear hfz7_1
  try clear hfz7_2
  try clear hfz7_3
  obtain ⟨kq, x48_12, rfl, HA, HJ12, HO_241002, HO_248002, HO_256002, BK225, BK240, BK247, BK255, HB⟩ := hcut
  cases kq with
  | zero => exact absurd HA.out (by simp [laws_FnExactTakeIn.j0])
  | succ kj12 =>
   have H := HA.out
   clear HA
   simp only [laws_FnExactTakeIn.j0] at H
   by_cases c57 : x48_12 = true
   ·subst c57
    have H1 : (some false) = some r := by rw [if_pos rfl] at H; exact H
    clear H
    have H := H1
    clear H1
    obtain rfl := Option.some.inj H
    go_wp2
    go_ret
    exact ⟨z9_37, z9_0⟩
   replace c57 := Bool.eq_false_iff.mpr c57
   subst c57
   have H1 : ((laws_toWorth.f kj12 a0_0 a0_1 l0_2 a0_3).bind fun bt257 => ((laws_eqWorth.f kj12 t241 t242 t243 t246 bt257.1 bt257.2.1 bt257.2.2.1 bt257.2.2.2).bind fun t263 => (if t263 = true then ((laws_markWorth.f kj12 t241 t242 t243 t246 1).bind fun bt264 => (if bt264.1 < 0 then (laws_FnExactTakeIn.j1 kj12 a1 a2 t239 true a0_0 a0_1 l0_2 a0_3 t233 t234 t235 t238 t248 t249 t250 t253) else ((laws_eqWorth.f kj12 t248 t249 t250 t253 t233 t234 t235 t238).bind fun t266 => (if t266 = true then (laws_FnExactTakeIn.j1 kj12 a1 a2 t239 (t254 != t239) a0_0 a0_1 l0_2 a0_3 t233 t234 t235 t238 t248 t249 t250 t253) else (laws_FnExactTakeIn.j1 kj12 a1 a2 t239 true a0_0 a0_1 l0_2 a0_3 t233 t234 t235 t238 t248 t249 t250 t253))))) else (some false)))) = some r := by rw [if_neg (show ¬ (false = true) from z9_60)] at H; exact H
   clear H
   have H := H1
   clear H1
   replace H := Option.bind_eq_some_iff.mp H
   obtain ⟨⟨t257, t258, t259, t262⟩, A580, H⟩ := H
   replace H : ((laws_eqWorth.f kj12 t241 t242 t243 t246 t257 t258 t259 t262).bind fun t263 => (if t263 = true then ((laws_markWorth.f kj12 t241 t242 t243 t246 1).bind fun bt264 => (if bt264.1 < 0 then (laws_FnExactTakeIn.j1 kj12 a1 a2 t239 true a0_0 a0_1 l0_2 a0_3 t233 t234 t235 t238 t248 t249 t250 t253) else ((laws_eqWorth.f kj12 t248 t249 t250 t253 t233 t234 t235 t238).bind fun t266 => (if t266 = true then (laws_FnExactTakeIn.j1 kj12 a1 a2 t239 (t254 != t239) a0_0 a0_1 l0_2 a0_3 t233 t234 t235 t238 t248 t249 t250 t253) else (laws_FnExactTakeIn.j1 kj12 a1 a2 t239 true a0_0 a0_1 l0_2 a0_3 t233 t234 t235 t238 t248 t249 t250 t253))))) else (some false))) = some r := H
   have A58 := Aside0.mk A580
   clear A580
   replace H := Option.bind_eq_some_iff.mp H
   obtain ⟨t263, A590, H⟩ := H
   replace H : (if t263 = true then ((laws_markWorth.f kj12 t241 t242 t243 t246 1).bind fun bt264 => (if bt264.1 < 0 then (laws_FnExactTakeIn.j1 kj12 a1 a2 t239 true a0_0 a0_1 l0_2 a0_3 t233 t234 t235 t238 t248 t249 t250 t253) else ((laws_eqWorth.f kj12 t248 t249 t250 t253 t233 t234 t235 t238).bind fun t266 => (if t266 = true then (laws_FnExactTakeIn.j1 kj12 a1 a2 t239 (t254 != t239) a0_0 a0_1 l0_2 a0_3 t233 t234 t235 t238 t248 t249 t250 t253) else (laws_FnExactTakeIn.j1 kj12 a1 a2 t239 true a0_0 a0_1 l0_2 a0_3 t233 t234 t235 t238 t248 t249 t250 t253))))) else (some false)) = some r := H
   have A59 := Aside0.mk A590
   clear A590
   by_cases c60 : t263 = true
   ·subst c60
    have H1 : ((laws_markWorth.f kj12 t241 t242 t243 t246 1).bind fun bt264 => (if bt264.1 < 0 then (laws_FnExactTakeIn.j1 kj12 a1 a2 t239 true a0_0 a0_1 l0_2 a0_3 t233 t234 t235 t238 t248 t249 t250 t253) else ((laws_eqWorth.f kj12 t248 t249 t250 t253 t233 t234 t235 t238).bind fun t266 => (if t266 = true then (laws_FnExactTakeIn.j1 kj12 a1 a2 t239 (t254 != t239) a0_0 a0_1 l0_2 a0_3 t233 t234 t235 t238 t248 t249 t250 t253) else (laws_FnExactTakeIn.j1 kj12 a1 a2 t239 true a0_0 a0_1 l0_2 a0_3 t233 t234 t235 t238 t248 t249 t250 t253))))) = some r := by rw [if_pos rfl] at H; exact H
    clear H
    have H := H1
    clear H1
    replace H := Option.bind_eq_some_iff.mp H
    obtain ⟨⟨t264, t265⟩, A610, H⟩ := H
    replace H : (if t264 < 0 then (laws_FnExactTakeIn.j1 kj12 a1 a2 t239 true a0_0 a0_1 l0_2 a0_3 t233 t234 t235 t238 t248 t249 t250 t253) else ((laws_eqWorth.f kj12 t248 t249 t250 t253 t233 t234 t235 t238).bind fun t266 => (if t266 = true then (laws_FnExactTakeIn.j1 kj12 a1 a2 t239 (t254 != t239) a0_0 a0_1 l0_2 a0_3 t233 t234 t235 t238 t248 t249 t250 t253) else (laws_FnExactTakeIn.j1 kj12 a1 a2 t239 true a0_0 a0_1 l0_2 a0_3 t233 t234 t235 t238 t248 t249 t250 t253)))) = some r := H
    have A61 := Aside0.mk A610
    clear A610
    have HC62 := Aside0.mk H
    clear H
    try go_wp2
    have n0_ := Aside0.mk (Kd.qx0 HO_241002.out)
    have n1_ := Aside0.mk (Kd.qx0 HO_248002.out)
    have n2_ := Aside0.mk (Kd.qx0 HO_256002.out)
    have n3_ := Aside0.mk (qe0 BK225.out)
    have n4_ := Aside0.mk (qe0 BK240.out)
    have n5_ := Aside0.mk (qe0 BK247.out)
    have n6_ := Aside0.mk (qe0 BK255.out)
    have n7_ := Aside0.mk (qi0 HB.out)
    clear HO_241002
    clear HO_248002
    clear HO_256002
    clear BK225
    clear BK240
    clear BK247
    clear BK255
    clear HB
    have HO_241002 := n0_
    have HO_248002 := n1_
    have HO_256002 := n2_
    have BK225 := n3_
    have BK240 := n4_
    have BK247 := n5_
    have BK255 := n6_
    have HB := n7_
    clear n0_ n1_ n2_ n3_ n4_ n5_ n6_ n7_
    refine start_ (n := 5) (S := fun w' => w'.cell? ⟨gb247, 0, none⟩ = some (.int .i64 t241) ∧ w'.cell? ⟨gb247, 1, none⟩ = some (.int .i64 t242) ∧ w'.cell? ⟨gb247, 2, none⟩ = some (.slice Ao31 t243.length co31) ∧ w'.cell? ⟨gb247, 3, none⟩ = some (.int .i64 t246) ∧ w'.cell? ⟨gb225, 0, none⟩ = some (.int .i64 a0_0) ∧ w'.cell? ⟨gb225, 1, none⟩ = some (.int .i64 a0_1) ∧ w'.cell? ⟨gb225, 2, none⟩ = some (.slice A0_2 l0_2.length c0_2) ∧ w'.cell? ⟨gb225, 3, none⟩ = some (.int .i64 a0_3)) (ds := []) #[false, false, false, false, false] z9_58 rfl rfl ⟨(qb0 BK247.out 0).trans rfl, (qb0 BK247.out 1).trans rfl, (qb0 BK247.out 2).trans rfl, (qb0 BK247.out 3).trans rfl, (qb0 BK225.out 0).trans rfl, (qb0 BK225.out 1).trans rfl, (qb0 BK225.out 2).trans rfl, (qb0 BK225.out 3).trans rfl⟩ (fun hHeld => ?_)
    generalize wc.drew = w63 at HO_241002 HO_248002 HO_256002 BK225 BK240 BK247 BK255 HB hHeld ⊢
    refine take_ (i := 0) (N := some 49) (v := ?_) (a' := ?_) #[true, false, false, false, false] rfl rfl z9_58 (fun _ _ _ h => h) (Or.inl ⟨by rfl, ?_⟩) hHeld ?_ ?_
    rotate_left
    ·rintro w' ⟨s0, s1, s2, s3, s4, s5, s6, s7⟩
     go_simp
     with_reducible rfl
    rotate_left
    ·simp only [Act.put, List.setIfInBounds_toArray, List.set_cons_zero, List.set_cons_succ, i64_w, i32_w]
     rfl
    refine take_ (i := 1) (N := some 50) (v := ?_) (a' := ?_) #[true, true, false, false, false] rfl rfl z9_58 (fun _ _ _ h => h) (Or.inl ⟨by rfl, ?_⟩) hHeld ?_ ?_
    rotate_left
    ·rintro w' ⟨s0, s1, s2, s3, s4, s5, s6, s7⟩
     go_simp
     with_reducible rfl
    rotate_left
    ·simp only [Act.put, List.setIfInBounds_toArray, List.set_cons_zero, List.set_cons_succ, i64_w, i32_w]
     rfl
    refine one_ (i := 2) (N := some 51) #[true, true, true, false, false] rfl rfl z9_58 z9_60 (fun K hK => ?_)
    refine goes_ Try.func13 z9_58 rfl #[.agg #[.int .i64 a0_0, .int .i64 a0_1, .slice A0_2 l0_2.length c0_2, .int .i64 a0_3]] (by rfl) rfl rfl z9_5 ?_
    with_reducible refine (laws_toWorth.calls kj12 a0_0 a0_1 _ _ l0_2 a0_3 t257 t258 t259 t262 _ ?side1 ?side2 A58.out).mono ?_
    (case side1 => exact z9_34)
    (case side2 => exact HC0_2.out)
    rintro e w64 ⟨v260, rfl, ho0, hb⟩
    refine ⟨_, rfl, ?_⟩
    have n0_ := Aside0.mk (Kd.qg1 z9_7 (Kd.qn1 ho0) hb)
    have n1_ := Aside0.mk (Kd.qg1 z9_8 (Kd.qn1 ho0) hb)
    have n2_ := Aside0.mk (Kd.qg1 z9_9 (Kd.qn1 ho0) hb)
    have n3_ := Aside0.mk (Kd.qh1 (Kd.qm1 (Kd.qm1 (Kd.qm1 ho0 (Kd.R_lt z9_7)) (Kd.R_lt z9_8)) (Kd.R_lt z9_9)) (qn0 z9_0))
    have n4_ := Aside0.mk (qf0 (g := gb225) (o := .cells #[.int .i64 a0_0, .int .i64 a0_1, .slice A0_2 l0_2.length c0_2, .int .i64 a0_3] 33 (0, 0)) z9_1 hb)
    have n5_ := Aside0.mk (qf0 (g := gb240) (o := .cells #[.int .i64 t233, .int .i64 t234, .slice Ao24 t235.length co24, .int .i64 t238] 37 (0, 0)) z9_2 hb)
    have n6_ := Aside0.mk (qf0 (g := gb247) (o := .cells #[.int .i64 t241, .int .i64 t242, .slice Ao31 t243.length co31, .int .i64 t246] 37 (0, 0)) z9_3 hb)
    have n7_ := Aside0.mk (qf0 (g := gb255) (o := .cells #[.int .i64 t248, .int .i64 t249, .slice Ao38 t250.length co38, .int .i64 t253] 37 (0, 0)) z9_6 hb)
    have n8_ := Aside0.mk (qg0 z9_0 hb)
    clear HO_241002
    clear HO_248002
    clear HO_256002
    clear BK225
    clear BK240
    clear BK247
    clear BK255
    clear HB
    have HO_241002 := n0_
    have HO_248002 := n1_
    have HO_256002 := n2_
    have HO261 := n3_
    have BK225 := n4_
    have BK240 := n5_
    have BK247 := n6_
    have BK255 := n7_
    have HB := n8_
    clear n0_ n1_ n2_ n3_ n4_ n5_ n6_ n7_ n8_
    (try clear hb)
    (try clear hb2)
    (try clear hk)
    (try clear hi)
    (try clear ho0)
    obtain ⟨Ao65, co65, eo65⟩ := Kd.qb1 HO261.out
    (first | subst eo65 | (injection eo65 with f1_ f2_ f3_; have f4_ := f1_.symm; have f5_ := f3_.symm; clear f1_ f2_ f3_; subst f4_; subst f5_))
    refine hK.out _ _ ⟨(qb0 BK247.out 0).trans rfl, (qb0 BK247.out 1).trans rfl, (qb0 BK247.out 2).trans rfl, (qb0 BK247.out 3).trans rfl, (qb0 BK225.out 0).trans rfl, (qb0 BK225.out 1).trans rfl, (qb0 BK225.out 2).trans rfl, (qb0 BK225.out 3).trans rfl⟩ (fun hHeld => ?_)
    clear hK K
    refine norm_ (a' := ?_) ?_ ?_
    rotate_left
    ·show Act.put _ (some 51) _ = _
     simp only [Act.put, List.setIfInBounds_toArray, List.set_cons_zero, List.set_cons_succ, i64_w, i32_w]
     rfl
    refine one_ (i := 3) (N := some 52) #[true, true, true, true, false] rfl rfl z9_58 z9_60 (fun K hK => ?_)
    refine goes_ Try.func15 z9_58 rfl #[.agg #[.int .i64 t241, .int .i64 t242, .slice Ao31 t243.length co31, .int .i64 t246], .agg #[.int .i64 t257, .int .i64 t258, .slice Ao65 t259.length co65, .int .i64 t262]] (by rfl) rfl rfl z9_5 ?_
    with_reducible refine (laws_eqWorth.calls kj12 t241 t242 _ _ t243 t246 t257 t258 _ _ t259 t262 true _ ?side1 ?side2 ?side3 ?side4 A59.out).mono ?_
    (case side1 => exact z9_65)
    (case side2 => exact (Kd.qq0 HO_248002.out).2.1)
    (case side3 => exact z9_68)
    (case side4 => exact (Kd.qq0 HO261.out).2.1)
    rintro e w66 ⟨rfl, hb⟩
    refine ⟨_, rfl, ?_⟩
    have n0_ := Aside0.mk (Kd.qp0 z9_7 hb)
    have n1_ := Aside0.mk (Kd.qp0 z9_8 hb)
    have n2_ := Aside0.mk (Kd.qp0 z9_9 hb)
    have n3_ := Aside0.mk (Kd.qp0 z9_57 hb)
    have n4_ := Aside0.mk (qf0 (g := gb225) (o := .cells #[.int .i64 a0_0, .int .i64 a0_1, .slice A0_2 l0_2.length c0_2, .int .i64 a0_3] 33 (0, 0)) z9_1 hb)
    have n5_ := Aside0.mk (qf0 (g := gb240) (o := .cells #[.int .i64 t233, .int .i64 t234, .slice Ao24 t235.length co24, .int .i64 t238] 37 (0, 0)) z9_2 hb)
    have n6_ := Aside0.mk (qf0 (g := gb247) (o := .cells #[.int .i64 t241, .int .i64 t242, .slice Ao31 t243.length co31, .int .i64 t246] 37 (0, 0)) z9_3 hb)
    have n7_ := Aside0.mk (qf0 (g := gb255) (o := .cells #[.int .i64 t248, .int .i64 t249, .slice Ao38 t250.length co38, .int .i64 t253] 37 (0, 0)) z9_6 hb)
    have n8_ := Aside0.mk (qg0 z9_0 hb)
    clear HO_241002
    clear HO_248002
    clear HO_256002
    clear HO261
    clear BK225
    clear BK240
    clear BK247
    clear BK255
    clear HB
    have HO_241002 := n0_
    have HO_248002 := n1_
    have HO_256002 := n2_
    have HO261 := n3_
    have BK225 := n4_
    have BK240 := n5_
    have BK247 := n6_
    have BK255 := n7_
    have HB := n8_
    clear n0_ n1_ n2_ n3_ n4_ n5_ n6_ n7_ n8_
    (try clear hb)
    (try clear hb2)
    (try clear hk)
    (try clear hi)
    refine hK.out _ _ ⟨(qb0 BK247.out 0).trans rfl, (qb0 BK247.out 1).trans rfl, (qb0 BK247.out 2).trans rfl, (qb0 BK247.out 3).trans rfl, (qb0 BK225.out 0).trans rfl, (qb0 BK225.out 1).trans rfl, (qb0 BK225.out 2).trans rfl, (qb0 BK225.out 3).trans rfl⟩ (fun hHeld => ?_)
    clear hK K
    refine norm_ (a' := ?_) ?_ ?_
    rotate_left
    ·show Act.put _ (some 52) _ = _
     simp only [Act.put, List.setIfInBounds_toArray, List.set_cons_zero, List.set_cons_succ, i64_w, i32_w]
     rfl
    refine pure_ (i := 4) (N := some 53) (v := ?_) (a' := ?_) #[true, true, true, true, true] rfl rfl z9_58 (fun _ _ _ h => h) (Or.inl ⟨by rfl, ?_⟩) ?_ ?_
    rotate_left
    ·intro w'
     go_simp
     with_reducible rfl
    rotate_left
    ·simp only [Act.put, List.setIfInBounds_toArray, List.set_cons_zero, List.set_cons_succ, i64_w, i32_w]
     rfl
    refine done_ z9_58 ?_
    have hnb67 := NB247_225.out
    have hnc67 := NB225_247.out
    have hnb68 := NB247_240.out
    have hnc68 := NB240_247.out
    have hnb69 := NB247_255.out
    have hnc69 := NB255_247.out
    have hcz70_0 : w66.cell? ⟨gb247, 0, none⟩ = some (.int .i64 t241) := (qb0 BK247.out 0).trans rfl
    have hcz70_1 : w66.cell? ⟨gb247, 1, none⟩ = some (.int .i64 t242) := (qb0 BK247.out 1).trans rfl
    have hcz70_2 : w66.cell? ⟨gb247, 2, none⟩ = some (.slice Ao31 t243.length co31) := (qb0 BK247.out 2).trans rfl
    have hcz70_3 : w66.cell? ⟨gb247, 3, none⟩ = some (.int .i64 t246) := (qb0 BK247.out 3).trans rfl
    have hfz70_0 := qa0 BK247.out 0
    have hfz70_1 := qa0 BK247.out 1
    have hfz70_2 := qa0 BK247.out 2
    have hfz70_3 := qa0 BK247.out 3
    go_upto_region 14 with (first | ((with_reducible refine qj0 (f := 16) rfl ?_); refine qy0 (some 56) rfl rfl Try.func16 z9_58 rfl #[.agg #[.int .i64 t241, .int .i64 t242, .slice Ao31 t243.length co31, .int .i64 t246], .int .i64 1] rfl z9_5 ?_; (with_reducible refine (laws_markWorth.calls kj12 t241 t242 (fun k_ => some k_ = (.slice Ao31 t243.length co31 : Value).ownBlock) (.slice Ao31 t243.length co31) t243 t246 1 t264 t265 w _ ?side1 ?side2 A61.out).mono ?_); (case side1 => exact z9_0); (case side2 => exact Kd.R_tight rfl HO_248002.out); rintro e w71 ⟨rfl, hy0, hb, hkp⟩; refine ⟨_, rfl, ?_⟩; have n0_ := Aside0.mk (Kd.qw0 (ok' := fun k_ => some k_ ≠ (.slice Ao31 t243.length co31 : Value).ownBlock ∧ some k_ ≠ (.slice Ao38 t250.length co38 : Value).ownBlock ∧ some k_ ≠ (.slice Ao65 t259.length co65 : Value).ownBlock) (Kd.R_keptB (HO_241002.out) hkp (fun k_ hk_ hs_ => (hk_.1.1) hs_)) (fun k_ hk_ => ⟨hk_.1.1.1, hk_.1.1.2, hk_.1.2⟩)); have n1_ := Aside0.mk (Kd.R_reok rfl hy0 (fun k_ e_ => HO_248002.out.1 k_ e_)); have n2_ := Aside0.mk (Kd.qw0 (ok' := fun k_ => some k_ ≠ (.slice Ao24 t235.length co24 : Value).ownBlock ∧ some k_ ≠ (.slice Ao31 t243.length co31 : Value).ownBlock ∧ some k_ ≠ (.slice Ao65 t259.length co65 : Value).ownBlock) (Kd.R_keptB (HO_256002.out) hkp (fun k_ hk_ hs_ => (hk_.1.2) hs_)) (fun k_ hk_ => ⟨hk_.1.1.1, hk_.1.1.2, hk_.1.2⟩)); have n3_ := Aside0.mk (qf1 z9_1 hkp (fun hs_ => (fun e_ => (Kd.R_ne HO_248002.out BK225.out z9_60) e_) hs_)); have n4_ := Aside0.mk (qf1 z9_2 hkp (fun hs_ => (fun e_ => (Kd.R_ne HO_248002.out BK240.out z9_60) e_) hs_)); have n5_ := Aside0.mk (qf1 z9_3 hkp (fun hs_ => (fun e_ => (Kd.R_ne HO_248002.out BK247.out z9_60) e_) hs_)); have n6_ := Aside0.mk (qf1 z9_6 hkp (fun hs_ => (fun e_ => (Kd.R_ne HO_248002.out BK255.out z9_60) e_) hs_)); have n7_ := Aside0.mk (Kd.qw0 (ok' := fun k_ => some k_ ≠ (.slice Ao24 t235.length co24 : Value).ownBlock ∧ some k_ ≠ (.slice Ao31 t243.length co31 : Value).ownBlock ∧ some k_ ≠ (.slice Ao38 t250.length co38 : Value).ownBlock) (Kd.R_keptB (HO261.out) hkp (fun k_ hk_ hs_ => (hk_.1.2) hs_)) (fun k_ hk_ => ⟨hk_.1.1.1.2, hk_.1.1.2, hk_.1.2⟩)); have n8_ := Aside0.mk (hb); clear HO_241002; clear HO_248002; clear HO_256002; clear BK225; clear BK240; clear BK247; clear BK255; clear HO261; clear HB; have HO_241002 := n0_; have HO_248002 := n1_; have HO_256002 := n2_; have BK225 := n3_; have BK240 := n4_; have BK247 := n5_; have BK255 := n6_; have HO261 := n7_; have HB := n8_; clear n0_ n1_ n2_ n3_ n4_ n5_ n6_ n7_ n8_; (try clear hb); (try clear hkp); (try clear hy0)))
    (try simp only [Act.put, List.setIfInBounds_toArray, List.set_cons_zero, List.set_cons_succ])
    go_cut [69] (fun v69 wc => ∃ (kq : Nat) (x69_61 : Bool), v69 = .bool x69_61 ∧ Aside0 (laws_FnExactTakeIn.j1 kq a1 a2 t239 x69_61 a0_0 a0_1 l0_2 a0_3 t233 t234 t235 t238 t248 t249 t250 t253 = some r) ∧ Aside0 (kq ≤ kj12) ∧ Aside0 (Kd.R k59 59 wc w.heap.size (fun k_ => some k_ ≠ ((.slice Ao31 t243.length co31) : Value).ownBlock ∧ some k_ ≠ ((.slice Ao38 t250.length co38) : Value).ownBlock) (.slice Ao24 t235.length co24) t235) ∧ Aside0 (Kd.R k59 59 wc w.heap.size (fun k_ => some k_ ≠ ((.slice Ao24 t235.length co24) : Value).ownBlock ∧ some k_ ≠ ((.slice Ao38 t250.length co38) : Value).ownBlock) (.slice Ao31 t243.length co31) t265) ∧ Aside0 (Kd.R k59 59 wc w.heap.size (fun k_ => some k_ ≠ ((.slice Ao24 t235.length co24) : Value).ownBlock ∧ some k_ ≠ ((.slice Ao31 t243.length co31) : Value).ownBlock) (.slice Ao38 t250.length co38) t250) ∧ Aside0 (wc.heap[gb225]? = some (.cells #[.int .i64 a0_0, .int .i64 a0_1, (.slice A0_2 l0_2.length c0_2), .int .i64 a0_3] 33 (0, 0))) ∧ Aside0 (wc.heap[gb240]? = some (.cells #[.int .i64 t233, .int .i64 t234, (.slice Ao24 t235.length co24), .int .i64 t238] 37 (0, 0))) ∧ Aside0 (wc.heap[gb247]? = some (.cells #[.int .i64 t241, .int .i64 t242, (.slice Ao31 t243.length co31), .int .i64 t246] 37 (0, 0))) ∧ Aside0 (wc.heap[gb255]? = some (.cells #[.int .i64 t248, .int .i64 t249, (.slice Ao38 t250.length co38), .int .i64 t253] 37 (0, 0))) ∧ Aside0 (Below w.heap.size w wc))
    case first =>
     have H := HC62.out
     clear HC62
     by_cases c72 : t264 < 0
     ·rw [if_pos c72] at H
      have c72b0 : decide (t264 < 0) = true := decide_eq_true c72
      clear c72
      (first | rw [c72b0] | (simp only [i64_w, i32_w]; rw [c72b0]) | skip)
      have H' := Aside0.mk H
      clear H
      go_wp2
      go_meet
      case rel => exact ⟨_, (true), z9_71, H', ⟨by have := HJ12.out; first | omega | exact Nat.le_refl _⟩, ⟨z9_55⟩, ⟨z9_54⟩, ⟨z9_56⟩, ⟨z9_1⟩, ⟨z9_2⟩, ⟨z9_3⟩, ⟨z9_6⟩, ⟨z9_0⟩⟩
     rw [if_neg c72] at H
     have c72b0 : decide (t264 < 0) = false := decide_eq_false c72
     clear c72
     (first | rw [c72b0] | (simp only [i64_w, i32_w]; rw [c72b0]) | skip)
     replace H := Option.bind_eq_some_iff.mp H
     obtain ⟨t266, A730, H⟩ := H
     replace H : (if t266 = true then (laws_FnExactTakeIn.j1 kj12 a1 a2 t239 (t254 != t239) a0_0 a0_1 l0_2 a0_3 t233 t234 t235 t238 t248 t249 t250 t253) else (laws_FnExactTakeIn.j1 kj12 a1 a2 t239 true a0_0 a0_1 l0_2 a0_3 t233 t234 t235 t238 t248 t249 t250 t253)) = some r := H
     have A73 := Aside0.mk A730
     clear A730
     by_cases c74 : t266 = true
     ·subst c74
      have H1 : (laws_FnExactTakeIn.j1 kj12 a1 a2 t239 (t254 != t239) a0_0 a0_1 l0_2 a0_3 t233 t234 t235 t238 t248 t249 t250 t253) = some r := by rw [if_pos rfl] at H; exact H
      clear H
      have H := H1
      clear H1
      have H' := Aside0.mk H
      clear H
      have hnb75 := NB255_225.out
      have hnc75 := NB225_255.out
      have hnb76 := NB255_240.out
      have hnc76 := NB240_255.out
      have hnb77 := NB255_247.out
      have hnc77 := NB247_255.out
      have hcz78_0 : w71.cell? ⟨gb255, 0, none⟩ = some (.int .i64 t248) := (qb0 BK255.out 0).trans rfl
      have hcz78_1 : w71.cell? ⟨gb255, 1, none⟩ = some (.int .i64 t249) := (qb0 BK255.out 1).trans rfl
      have hcz78_2 : w71.cell? ⟨gb255, 2, none⟩ = some (.slice Ao38 t250.length co38) := (qb0 BK255.out 2).trans rfl
      have hcz78_3 : w71.cell? ⟨gb255, 3, none⟩ = some (.int .i64 t253) := (qb0 BK255.out 3).trans rfl
      have hfz78_0 := qa0 BK255.out 0
      have hfz78_1 := qa0 BK255.out 1
      have hfz78_2 := qa0 BK255.out 2
      have hfz78_3 := qa0 BK255.out 3
      have hnb79 := NB240_225.out
      have hnc79 := NB225_240.out
      have hnb80 := NB240_247.out
      have hnc80 := NB247_240.out
      have hcz81_0 : w71.cell? ⟨gb240, 0, none⟩ = some (.int .i64 t233) := (qb0 BK240.out 0).trans rfl
      have hcz81_1 : w71.cell? ⟨gb240, 1, none⟩ = some (.int .i64 t234) := (qb0 BK240.out 1).trans rfl
      have hcz81_2 : w71.cell? ⟨gb240, 2, none⟩ = some (.slice Ao24 t235.length co24) := (qb0 BK240.out 2).trans rfl
      have hcz81_3 : w71.cell? ⟨gb240, 3, none⟩ = some (.int .i64 t238) := (qb0 BK240.out 3).trans rfl
      have hfz81_0 := qa0 BK240.out 0
      have hfz81_1 := qa0 BK240.out 1
      have hfz81_2 := qa0 BK240.out 2
      have hfz81_3 := qa0 BK240.out 3
      go_wp2_with (first | (go_at_call 15; (with_reducible refine (laws_eqWorth.calls kj12 t248 t249 _ _ t250 t253 t233 t234 _ _ t235 t238 true _ ?side1 ?side2 ?side3 ?side4 A73.out).mono ?_); (case side1 => exact z9_21); (case side2 => exact (Kd.qq0 HO_256002.out).2.1); (case side3 => exact z9_66); (case side4 => exact (Kd.qq0 HO_241002.out).2.1); rintro e w82 ⟨rfl, hb⟩; have n0_ := Aside0.mk (Kd.qp0 z9_7 hb); have n1_ := Aside0.mk (Kd.qp0 z9_8 hb); have n2_ := Aside0.mk (Kd.qp0 z9_9 hb); have n3_ := Aside0.mk (Kd.qp0 z9_57 hb); have n4_ := Aside0.mk (qf0 (g := gb225) (o := .cells #[.int .i64 a0_0, .int .i64 a0_1, .slice A0_2 l0_2.length c0_2, .int .i64 a0_3] 33 (0, 0)) z9_1 hb); have n5_ := Aside0.mk (qf0 (g := gb240) (o := .cells #[.int .i64 t233, .int .i64 t234, .slice Ao24 t235.length co24, .int .i64 t238] 37 (0, 0)) z9_2 hb); have n6_ := Aside0.mk (qf0 (g := gb247) (o := .cells #[.int .i64 t241, .int .i64 t242, .slice Ao31 t243.length co31, .int .i64 t246] 37 (0, 0)) z9_3 hb); have n7_ := Aside0.mk (qf0 (g := gb255) (o := .cells #[.int .i64 t248, .int .i64 t249, .slice Ao38 t250.length co38, .int .i64 t253] 37 (0, 0)) z9_6 hb); have n8_ := Aside0.mk (qg0 z9_0 hb); clear HO_241002; clear HO_248002; clear HO_256002; clear HO261; clear BK225; clear BK240; clear BK247; clear BK255; clear HB; have HO_241002 := n0_; have HO_248002 := n1_; have HO_256002 := n2_; have HO261 := n3_; have BK225 := n4_; have BK240 := n5_; have BK247 := n6_; have BK255 := n7_; have HB := n8_; clear n0_ n1_ n2_ n3_ n4_ n5_ n6_ n7_ n8_; (try clear hb); (try clear hb2); (try clear hk); (try clear hi)))
      go_meet
      case rel => exact ⟨_, ((t254 != t239)), z9_71, H', ⟨by have := HJ12.out; first | omega | exact Nat.le_refl _⟩, ⟨z9_55⟩, ⟨z9_54⟩, ⟨z9_56⟩, ⟨z9_1⟩, ⟨z9_2⟩, ⟨z9_3⟩, ⟨z9_6⟩, ⟨z9_0⟩⟩
     replace c74 := Bool.eq_false_iff.mpr c74
     subst c74
     have H1 : (laws_FnExactTakeIn.j1 kj12 a1 a2 t239 true a0_0 a0_1 l0_2 a0_3 t233 t234 t235 t238 t248 t249 t250 t253) = some r := by rw [if_neg (show ¬ (false = true) from z9_60)] at H; exact H
     clear H
     have H := H1
     clear H1
     have H' := Aside0.mk H
     clear H
     have hnb83 := NB255_225.out
     have hnc83 := NB225_255.out
     have hnb84 := NB255_240.out
     have hnc84 := NB240_255.out
     have hnb85 := NB255_247.out
     have hnc85 := NB247_255.out
     have hcz86_0 : w71.cell? ⟨gb255, 0, none⟩ = some (.int .i64 t248) := (qb0 BK255.out 0).trans rfl
     have hcz86_1 : w71.cell? ⟨gb255, 1, none⟩ = some (.int .i64 t249) := (qb0 BK255.out 1).trans rfl
     have hcz86_2 : w71.cell? ⟨gb255, 2, none⟩ = some (.slice Ao38 t250.length co38) := (qb0 BK255.out 2).trans rfl
     have hcz86_3 : w71.cell? ⟨gb255, 3, none⟩ = some (.int .i64 t253) := (qb0 BK255.out 3).trans rfl
     have hfz86_0 := qa0 BK255.out 0
     have hfz86_1 := qa0 BK255.out 1
     have hfz86_2 := qa0 BK255.out 2
     have hfz86_3 := qa0 BK255.out 3
     have hnb87 := NB240_225.out
     have hnc87 := NB225_240.out
     have hnb88 := NB240_247.out
     have hnc88 := NB247_240.out
     have hcz89_0 : w71.cell? ⟨gb240, 0, none⟩ = some (.int .i64 t233) := (qb0 BK240.out 0).trans rfl
     have hcz89_1 : w71.cell? ⟨gb240, 1, none⟩ = some (.int .i64 t234) := (qb0 BK240.out 1).trans rfl
     have hcz89_2 : w71.cell? ⟨gb240, 2, none⟩ = some (.slice Ao24 t235.length co24) := (qb0 BK240.out 2).trans rfl
     have hcz89_3 : w71.cell? ⟨gb240, 3, none⟩ = some (.int .i64 t238) := (qb0 BK240.out 3).trans rfl
     have hfz89_0 := qa0 BK240.out 0
     have hfz89_1 := qa0 BK240.out 1
     have hfz89_2 := qa0 BK240.out 2
     have hfz89_3 := qa0 BK240.out 3
     go_wp2_with (first | (go_at_call 15; (with_reducible refine (laws_eqWorth.calls kj12 t248 t249 _ _ t250 t253 t233 t234 _ _ t235 t238 false _ ?side1 ?side2 ?side3 ?side4 A73.out).mono ?_); (case side1 => exact z9_21); (case side2 => exact (Kd.qq0 HO_256002.out).2.1); (case side3 => exact z9_66); (case side4 => exact (Kd.qq0 HO_241002.out).2.1); rintro e w90 ⟨rfl, hb⟩; have n0_ := Aside0.mk (Kd.qp0 z9_7 hb); have n1_ := Aside0.mk (Kd.qp0 z9_8 hb); have n2_ := Aside0.mk (Kd.qp0 z9_9 hb); have n3_ := Aside0.mk (Kd.qp0 z9_57 hb); have n4_ := Aside0.mk (qf0 (g := gb225) (o := .cells #[.int .i64 a0_0, .int .i64 a0_1, .slice A0_2 l0_2.length c0_2, .int .i64 a0_3] 33 (0, 0)) z9_1 hb); have n5_ := Aside0.mk (qf0 (g := gb240) (o := .cells #[.int .i64 t233, .int .i64 t234, .slice Ao24 t235.length co24, .int .i64 t238] 37 (0, 0)) z9_2 hb); have n6_ := Aside0.mk (qf0 (g := gb247) (o := .cells #[.int .i64 t241, .int .i64 t242, .slice Ao31 t243.length co31, .int .i64 t246] 37 (0, 0)) z9_3 hb); have n7_ := Aside0.mk (qf0 (g := gb255) (o := .cells #[.int .i64 t248, .int .i64 t249, .slice Ao38 t250.length co38, .int .i64 t253] 37 (0, 0)) z9_6 hb); have n8_ := Aside0.mk (qg0 z9_0 hb); clear HO_241002; clear HO_248002; clear HO_256002; clear HO261; clear BK225; clear BK240; clear BK247; clear BK255; clear HB; have HO_241002 := n0_; have HO_248002 := n1_; have HO_256002 := n2_; have HO261 := n3_; have BK225 := n4_; have BK240 := n5_; have BK247 := n6_; have BK255 := n7_; have HB := n8_; clear n0_ n1_ n2_ n3_ n4_ n5_ n6_ n7_ n8_; (try clear hb); (try clear hb2); (try clear hk); (try clear hi)))
     go_meet
     case rel => exact ⟨_, (true), z9_71, H', ⟨by have := HJ12.out; first | omega | exact Nat.le_refl _⟩, ⟨z9_55⟩, ⟨z9_54⟩, ⟨z9_56⟩, ⟨z9_1⟩, ⟨z9_2⟩, ⟨z9_3⟩, ⟨z9_6⟩, ⟨z9_0⟩⟩
    case rest =>
     clear HC62
     try clear c1
     try clear c2
     try clear p2
     try clear c3
     try clear c4
     try clear c5
     try clear c5b0
     try clear c6
     try clear c7
     try clear c8
     try clear c11
     try clear c12
     try clear c13
     try clear c14
     try clear c15
     try clear c16
     try clear c22
     try clear c28
     try clear c29
     try clear c34
     try clear c35
     try clear c36
     try clear c40
     try clear c41
     try clear c42
     try clear c43
     try clear c45
     try clear c46
     try clear c49
     try clear c50
     try clear c51
     try clear c53
     try clear c54
     try clear c57
     try clear c60
     try clear c67
     try clear c68
     try clear c69
     try clear c72
     try clear c72b0
     try clear c74
     try clear c75
     try clear c76
     try clear c77
     try clear c79
     try clear c80
     try clear c83
     try clear c84
     try clear c85
     try clear c87
     try clear c88
     try clear hcz15_0
     try clear hcz15_1
     try clear hcz15_2
     try clear hcz15_3
     try clear hcz17_0
     try clear hcz17_1
     try clear hcz17_2
     try clear hcz17_3
     try clear hcz23_0
     try clear hcz23_1
     try clear hcz23_2
     try clear hcz23_3
     try clear hcz25_0
     try clear hcz25_1
     try clear hcz25_2
     try clear hcz25_3
     try clear hcz30_0
     try clear hcz30_1
     try clear hcz30_2
     try clear hcz30_3
     try clear hcz37_0
     try clear hcz37_1
     try clear hcz37_2
     try clear hcz37_3
     try clear hcz44_0
     try clear hcz44_1
     try clear hcz44_2
     try clear hcz44_3
     try clear hcz47_0
     try clear hcz47_1
     try clear hcz47_2
     try clear hcz47_3
     try clear hcz52_0
     try clear hcz52_1
     try clear hcz52_2
     try clear hcz52_3
     try clear hcz55_0
     try clear hcz55_1
     try clear hcz55_2
     try clear hcz55_3
     try clear hcz70_0
     try clear hcz70_1
     try clear hcz70_2
     try clear hcz70_3
     try clear hcz78_0
     try clear hcz78_1
     try clear hcz78_2
     try clear hcz78_3
     try clear hcz7_0
     try clear hcz7_1
     try clear hcz7_2
     try clear hcz7_3
     try clear hcz81_0
     try clear hcz81_1
     try clear hcz81_2
     try clear hcz81_3
     try clear hcz86_0
     try clear hcz86_1
     try clear hcz86_2
     try clear hcz86_3
     try clear hcz89_0
     try clear hcz89_1
     try clear hcz89_2
     try clear hcz89_3
     try clear hfz15_0
     try clear hfz15_1
     try clear hfz15_2
     try clear hfz15_3
     try clear hfz17_0
     try clear hfz17_1
     try clear hfz17_2
     try clear hfz17_3
     try clear hfz23_0
     try clear hfz23_1
     try clear hfz23_2
     try clear hfz23_3
     try clear hfz25_0
     try clear hfz25_1
     try clear hfz25_2
     try clear hfz25_3
     try clear hfz30_0
     try clear hfz30_1
     try clear hfz30_2
     try clear hfz30_3
     try clear hfz37_0
     try clear hfz37_1
     try clear hfz37_2
     try clear hfz37_3
     try clear hfz44_0
     try clear hfz44_1
     try clear hfz44_2
     try clear hfz44_3
     try clear hfz47_0
     try clear hfz47_1
     try clear hfz47_2
     try clear hfz47_3
     try clear hfz52_0
     try clear hfz52_1
     try clear hfz52_2
     try clear hfz52_3
     try clear hfz55_0
     try clear hfz55_1
     try clear hfz55_2
     try clear hfz55_3
     try clear hfz70_0
     try clear hfz70_1
     try clear hfz70_2
     try clear hfz70_3
     try clear hfz78_0
     try clear hfz78_1
     try clear hfz78_2
     try clear hfz78_3
     try clear hfz7_0
     try clear hfz7_1
     try clear hfz7_2
     try clear hfz7_3
     try clear hfz81_0
     try clear hfz81_1
     try clear hfz81_2
     try clear hfz81_3
     try clear hfz86_0
     try clear hfz86_1
     try clear hfz86_2
     try clear hfz86_3
     try clear hfz89_0
     try clear hfz89_1
     try clear hfz89_2
     try clear hfz89_3
     try clear p2
     obtain ⟨kq, x69_61, rfl, HA, HJ61, HO_241002, HO_248002, HO_256002, BK225, BK240, BK247, BK255, HB⟩ := hcut
     have hl248002_61 := (Kd.qq0 HO_248002.out).1
     rw [hl248002_61] at HO_248002
     (try simp only [hl248002_61])
     (try simp only [hl248002_61] at BK225)
     (try simp only [hl248002_61] at BK240)
     (try simp only [hl248002_61] at BK247)
     (try simp only [hl248002_61] at BK255)
     (try simp only [hl248002_61] at HO_241002)
     (try simp only [hl248002_61] at HO_256002)
     cases kq with
     | zero => exact absurd HA.out (by simp [laws_FnExactTakeIn.j1])
     | succ kj61 =>
      have H := HA.out
      clear HA
      simp only [laws_FnExactTakeIn.j1] at H
      by_cases c91 : x69_61 = true
      ·subst c91
       have H1 : (some false) = some r := by rw [if_pos rfl] at H; exact H
       clear H
       have H := H1
       clear H1
       obtain rfl := Option.some.inj H
       go_wp2
       go_ret
       exact ⟨z9_37, z9_0⟩
      replace c91 := Bool.eq_false_iff.mpr c91
      subst c91
      have H1 : ((laws_markWorth.f kj61 t248 t249 t250 t253 1).bind fun bt267 => ((laws_heldWorth.f kj61 t248 t249 bt267.2 t253 1).bind fun t269 => (if t269 < 0 then (some false) else (if t269 = bt267.1 then ((laws_toWorth.f kj61 a0_0 a0_1 l0_2 a0_3).bind fun bt270 => ((impl_TakeIn.f kj61 bt270.1 bt270.2.1 bt270.2.2.1 bt270.2.2.2 a1 a2).bind fun bt276 => ((laws_eqWorth.f kj61 bt276.1 bt276.2.1 bt276.2.2.1 bt276.2.2.2.1 t233 t234 t235 t238).bind fun t284 => (if t284 = true then (laws_FnExactTakeIn.j2 kj61 bt267.1 (bt276.2.2.2.2 != t239) t248 t249 bt267.2 t253) else (laws_FnExactTakeIn.j2 kj61 bt267.1 true t248 t249 bt267.2 t253))))) else (some false))))) = some r := by rw [if_neg (show ¬ (false = true) from z9_60)] at H; exact H
      clear H
      have H := H1
      clear H1
      replace H := Option.bind_eq_some_iff.mp H
      obtain ⟨⟨t267, t268⟩, A920, H⟩ := H
      replace H : ((laws_heldWorth.f kj61 t248 t249 t268 t253 1).bind fun t269 => (if t269 < 0 then (some false) else (if t269 = t267 then ((laws_toWorth.f kj61 a0_0 a0_1 l0_2 a0_3).bind fun bt270 => ((impl_TakeIn.f kj61 bt270.1 bt270.2.1 bt270.2.2.1 bt270.2.2.2 a1 a2).bind fun bt276 => ((laws_eqWorth.f kj61 bt276.1 bt276.2.1 bt276.2.2.1 bt276.2.2.2.1 t233 t234 t235 t238).bind fun t284 => (if t284 = true then (laws_FnExactTakeIn.j2 kj61 t267 (bt276.2.2.2.2 != t239) t248 t249 t268 t253) else (laws_FnExactTakeIn.j2 kj61 t267 true t248 t249 t268 t253))))) else (some false)))) = some r := H
      have A92 := Aside0.mk A920
      clear A920
      replace H := Option.bind_eq_some_iff.mp H
      obtain ⟨t269, A930, H⟩ := H
      replace H : (if t269 < 0 then (some false) else (if t269 = t267 then ((laws_toWorth.f kj61 a0_0 a0_1 l0_2 a0_3).bind fun bt270 => ((impl_TakeIn.f kj61 bt270.1 bt270.2.1 bt270.2.2.1 bt270.2.2.2 a1 a2).bind fun bt276 => ((laws_eqWorth.f kj61 bt276.1 bt276.2.1 bt276.2.2.1 bt276.2.2.2.1 t233 t234 t235 t238).bind fun t284 => (if t284 = true then (laws_FnExactTakeIn.j2 kj61 t267 (bt276.2.2.2.2 != t239) t248 t249 t268 t253) else (laws_FnExactTakeIn.j2 kj61 t267 true t248 t249 t268 t253))))) else (some false))) = some r := H
      have A93 := Aside0.mk A930
      clear A930
      by_cases c94 : t269 < 0
      ·rw [if_pos c94] at H
       have c94b0 : decide (t269 < 0) = true := decide_eq_true c94
       clear c94
       obtain rfl := Option.some.inj H
       have hnb95 := NB255_225.out
       have hnc95 := NB225_255.out
       have hnb96 := NB255_240.out
       have hnc96 := NB240_255.out
       have hnb97 := NB255_247.out
       have hnc97 := NB247_255.out
       have hcz98_0 : wc.cell? ⟨gb255, 0, none⟩ = some (.int .i64 t248) := (qb0 BK255.out 0).trans rfl
       have hcz98_1 : wc.cell? ⟨gb255, 1, none⟩ = some (.int .i64 t249) := (qb0 BK255.out 1).trans rfl
       have hcz98_2 : wc.cell? ⟨gb255, 2, none⟩ = some (.slice Ao38 t250.length co38) := (qb0 BK255.out 2).trans rfl
       have hcz98_3 : wc.cell? ⟨gb255, 3, none⟩ = some (.int .i64 t253) := (qb0 BK255.out 3).trans rfl
       have hfz98_0 := qa0 BK255.out 0
       have hfz98_1 := qa0 BK255.out 1
       have hfz98_2 := qa0 BK255.out 2
       have hfz98_3 := qa0 BK255.out 3
       go_wp2_with (first | ((with_reducible refine qj0 (f := 16) rfl ?_); refine qy0 (some 72) rfl rfl Try.func16 z9_58 rfl #[.agg #[.int .i64 t248, .int .i64 t249, .slice Ao38 t250.length co38, .int .i64 t253], .int .i64 1] rfl z9_5 ?_; (with_reducible refine (laws_markWorth.calls kj61 t248 t249 (fun k_ => some k_ = (.slice Ao38 t250.length co38 : Value).ownBlock) (.slice Ao38 t250.length co38) t250 t253 1 t267 t268 w _ ?side1 ?side2 A92.out).mono ?_); (case side1 => exact z9_0); (case side2 => exact Kd.R_tight rfl HO_256002.out); rintro e w99 ⟨rfl, hy0, hb, hkp⟩; refine ⟨_, rfl, ?_⟩; have n0_ := Aside0.mk (Kd.qw0 (ok' := fun k_ => some k_ ≠ (.slice Ao31 t265.length co31 : Value).ownBlock ∧ some k_ ≠ (.slice Ao38 t250.length co38 : Value).ownBlock) (Kd.R_keptB (HO_241002.out) hkp (fun k_ hk_ hs_ => (hk_.2) hs_)) (fun k_ hk_ => ⟨hk_.1.1, hk_.1.2⟩)); have n1_ := Aside0.mk (Kd.qw0 (ok' := fun k_ => some k_ ≠ (.slice Ao24 t235.length co24 : Value).ownBlock ∧ some k_ ≠ (.slice Ao38 t250.length co38 : Value).ownBlock) (Kd.R_keptB (HO_248002.out) hkp (fun k_ hk_ hs_ => (hk_.2) hs_)) (fun k_ hk_ => ⟨hk_.1.1, hk_.1.2⟩)); have n2_ := Aside0.mk (Kd.R_reok rfl hy0 (fun k_ e_ => HO_256002.out.1 k_ e_)); have n3_ := Aside0.mk (qf1 z9_1 hkp (fun hs_ => (fun e_ => (Kd.R_ne HO_256002.out BK225.out z9_60) e_) hs_)); have n4_ := Aside0.mk (qf1 z9_2 hkp (fun hs_ => (fun e_ => (Kd.R_ne HO_256002.out BK240.out z9_60) e_) hs_)); have n5_ := Aside0.mk (qf1 z9_3 hkp (fun hs_ => (fun e_ => (Kd.R_ne HO_256002.out BK247.out z9_60) e_) hs_)); have n6_ := Aside0.mk (qf1 z9_6 hkp (fun hs_ => (fun e_ => (Kd.R_ne HO_256002.out BK255.out z9_60) e_) hs_)); have n7_ := Aside0.mk (hb); clear HO_241002; clear HO_248002; clear HO_256002; clear BK225; clear BK240; clear BK247; clear BK255; clear HB; have HO_241002 := n0_; have HO_248002 := n1_; have HO_256002 := n2_; have BK225 := n3_; have BK240 := n4_; have BK247 := n5_; have BK255 := n6_; have HB := n7_; clear n0_ n1_ n2_ n3_ n4_ n5_ n6_ n7_; (try clear hb); (try clear hkp); (try clear hy0); have hcz100_0 : w99.cell? ⟨gb255, 0, none⟩ = some (.int .i64 t248) := (qb0 BK255.out 0).trans rfl; have hcz100_1 : w99.cell? ⟨gb255, 1, none⟩ = some (.int .i64 t249) := (qb0 BK255.out 1).trans rfl; have hcz100_2 : w99.cell? ⟨gb255, 2, none⟩ = some (.slice Ao38 t250.length co38) := (qb0 BK255.out 2).trans rfl; have hcz100_3 : w99.cell? ⟨gb255, 3, none⟩ = some (.int .i64 t253) := (qb0 BK255.out 3).trans rfl; have hfz100_0 := qa0 BK255.out 0; have hfz100_1 := qa0 BK255.out 1; have hfz100_2 := qa0 BK255.out 2; have hfz100_3 := qa0 BK255.out 3) | ((with_reducible refine qj0 (f := 17) rfl ?_); refine qy0 (some 75) rfl rfl Try.func17 z9_58 rfl #[.agg #[.int .i64 t248, .int .i64 t249, .slice Ao38 t268.length co38, .int .i64 t253], .int .i64 1] rfl z9_48 ?_; (with_reducible refine (laws_heldWorth.calls kj61 t248 t249 _ _ t268 t253 1 t269 _ ?side1 ?side2 A93.out).mono ?_); (case side1 => exact z9_21); (case side2 => exact z9_69); rintro e w101 ⟨rfl, hb⟩; refine ⟨_, rfl, ?_⟩; have n0_ := Aside0.mk (Kd.qp0 z9_7 hb); have n1_ := Aside0.mk (Kd.qp0 z9_8 hb); have n2_ := Aside0.mk (Kd.qp0 z9_9 hb); have n3_ := Aside0.mk (qf0 (g := gb225) (o := .cells #[.int .i64 a0_0, .int .i64 a0_1, .slice A0_2 l0_2.length c0_2, .int .i64 a0_3] 33 (0, 0)) z9_1 hb); have n4_ := Aside0.mk (qf0 (g := gb240) (o := .cells #[.int .i64 t233, .int .i64 t234, .slice Ao24 t235.length co24, .int .i64 t238] 37 (0, 0)) z9_2 hb); have n5_ := Aside0.mk (qf0 (g := gb247) (o := .cells #[.int .i64 t241, .int .i64 t242, .slice Ao31 t265.length co31, .int .i64 t246] 37 (0, 0)) z9_3 hb); have n6_ := Aside0.mk (qf0 (g := gb255) (o := .cells #[.int .i64 t248, .int .i64 t249, .slice Ao38 t250.length co38, .int .i64 t253] 37 (0, 0)) z9_6 hb); have n7_ := Aside0.mk (qg0 z9_0 hb); clear HO_241002; clear HO_248002; clear HO_256002; clear BK225; clear BK240; clear BK247; clear BK255; clear HB; have HO_241002 := n0_; have HO_248002 := n1_; have HO_256002 := n2_; have BK225 := n3_; have BK240 := n4_; have BK247 := n5_; have BK255 := n6_; have HB := n7_; clear n0_ n1_ n2_ n3_ n4_ n5_ n6_ n7_; (try clear hb); (try clear hb2); (try clear hk); (try clear hi)))
       go_ret
       exact ⟨z9_37, z9_0⟩
      rw [if_neg c94] at H
      have c94b0 : decide (t269 < 0) = false := decide_eq_false c94
      clear c94
      by_cases c102 : t269 = t267
      ·rw [if_pos c102] at H
       have c102b0 : (t269 == t267) = true := beq_iff_eq.mpr c102
       have c102b1 : (t269 != t267) = false := bne_eq_false_iff_eq.mpr c102
       clear c102
       replace H := Option.bind_eq_some_iff.mp H
       obtain ⟨⟨t270, t271, t272, t275⟩, A1030, H⟩ := H
       replace H : ((impl_TakeIn.f kj61 t270 t271 t272 t275 a1 a2).bind fun bt276 => ((laws_eqWorth.f kj61 bt276.1 bt276.2.1 bt276.2.2.1 bt276.2.2.2.1 t233 t234 t235 t238).bind fun t284 => (if t284 = true then (laws_FnExactTakeIn.j2 kj61 t267 (bt276.2.2.2.2 != t239) t248 t249 t268 t253) else (laws_FnExactTakeIn.j2 kj61 t267 true t248 t249 t268 t253)))) = some r := H
       have A103 := Aside0.mk A1030
       clear A1030
       replace H := Option.bind_eq_some_iff.mp H
       obtain ⟨⟨t276, t277, t278, t281, t282⟩, A1040, H⟩ := H
       replace H : ((laws_eqWorth.f kj61 t276 t277 t278 t281 t233 t234 t235 t238).bind fun t284 => (if t284 = true then (laws_FnExactTakeIn.j2 kj61 t267 (t282 != t239) t248 t249 t268 t253) else (laws_FnExactTakeIn.j2 kj61 t267 true t248 t249 t268 t253))) = some r := H
       have A104 := Aside0.mk A1040
       clear A1040
       have HC105 := Aside0.mk H
       clear H
       have hnb106 := NB255_225.out
       have hnc106 := NB225_255.out
       have hnb107 := NB255_240.out
       have hnc107 := NB240_255.out
       have hnb108 := NB255_247.out
       have hnc108 := NB247_255.out
       have hcz109_0 : wc.cell? ⟨gb255, 0, none⟩ = some (.int .i64 t248) := (qb0 BK255.out 0).trans rfl
       have hcz109_1 : wc.cell? ⟨gb255, 1, none⟩ = some (.int .i64 t249) := (qb0 BK255.out 1).trans rfl
       have hcz109_2 : wc.cell? ⟨gb255, 2, none⟩ = some (.slice Ao38 t250.length co38) := (qb0 BK255.out 2).trans rfl
       have hcz109_3 : wc.cell? ⟨gb255, 3, none⟩ = some (.int .i64 t253) := (qb0 BK255.out 3).trans rfl
       have hfz109_0 := qa0 BK255.out 0
       have hfz109_1 := qa0 BK255.out 1
       have hfz109_2 := qa0 BK255.out 2
       have hfz109_3 := qa0 BK255.out 3
       go_upto_region 25 with (first | ((with_reducible refine qj0 (f := 16) rfl ?_); refine qy0 (some 72) rfl rfl Try.func16 z9_58 rfl #[.agg #[.int .i64 t248, .int .i64 t249, .slice Ao38 t250.length co38, .int .i64 t253], .int .i64 1] rfl z9_5 ?_; (with_reducible refine (laws_markWorth.calls kj61 t248 t249 (fun k_ => some k_ = (.slice Ao38 t250.length co38 : Value).ownBlock) (.slice Ao38 t250.length co38) t250 t253 1 t267 t268 w _ ?side1 ?side2 A92.out).mono ?_); (case side1 => exact z9_0); (case side2 => exact Kd.R_tight rfl HO_256002.out); rintro e w110 ⟨rfl, hy0, hb, hkp⟩; refine ⟨_, rfl, ?_⟩; have n0_ := Aside0.mk (Kd.qw0 (ok' := fun k_ => some k_ ≠ (.slice Ao31 t265.length co31 : Value).ownBlock ∧ some k_ ≠ (.slice Ao38 t250.length co38 : Value).ownBlock) (Kd.R_keptB (HO_241002.out) hkp (fun k_ hk_ hs_ => (hk_.2) hs_)) (fun k_ hk_ => ⟨hk_.1.1, hk_.1.2⟩)); have n1_ := Aside0.mk (Kd.qw0 (ok' := fun k_ => some k_ ≠ (.slice Ao24 t235.length co24 : Value).ownBlock ∧ some k_ ≠ (.slice Ao38 t250.length co38 : Value).ownBlock) (Kd.R_keptB (HO_248002.out) hkp (fun k_ hk_ hs_ => (hk_.2) hs_)) (fun k_ hk_ => ⟨hk_.1.1, hk_.1.2⟩)); have n2_ := Aside0.mk (Kd.R_reok rfl hy0 (fun k_ e_ => HO_256002.out.1 k_ e_)); have n3_ := Aside0.mk (qf1 z9_1 hkp (fun hs_ => (fun e_ => (Kd.R_ne HO_256002.out BK225.out z9_60) e_) hs_)); have n4_ := Aside0.mk (qf1 z9_2 hkp (fun hs_ => (fun e_ => (Kd.R_ne HO_256002.out BK240.out z9_60) e_) hs_)); have n5_ := Aside0.mk (qf1 z9_3 hkp (fun hs_ => (fun e_ => (Kd.R_ne HO_256002.out BK247.out z9_60) e_) hs_)); have n6_ := Aside0.mk (qf1 z9_6 hkp (fun hs_ => (fun e_ => (Kd.R_ne HO_256002.out BK255.out z9_60) e_) hs_)); have n7_ := Aside0.mk (hb); clear HO_241002; clear HO_248002; clear HO_256002; clear BK225; clear BK240; clear BK247; clear BK255; clear HB; have HO_241002 := n0_; have HO_248002 := n1_; have HO_256002 := n2_; have BK225 := n3_; have BK240 := n4_; have BK247 := n5_; have BK255 := n6_; have HB := n7_; clear n0_ n1_ n2_ n3_ n4_ n5_ n6_ n7_; (try clear hb); (try clear hkp); (try clear hy0); have hcz111_0 : w110.cell? ⟨gb255, 0, none⟩ = some (.int .i64 t248) := (qb0 BK255.out 0).trans rfl; have hcz111_1 : w110.cell? ⟨gb255, 1, none⟩ = some (.int .i64 t249) := (qb0 BK255.out 1).trans rfl; have hcz111_2 : w110.cell? ⟨gb255, 2, none⟩ = some (.slice Ao38 t250.length co38) := (qb0 BK255.out 2).trans rfl; have hcz111_3 : w110.cell? ⟨gb255, 3, none⟩ = some (.int .i64 t253) := (qb0 BK255.out 3).trans rfl; have hfz111_0 := qa0 BK255.out 0; have hfz111_1 := qa0 BK255.out 1; have hfz111_2 := qa0 BK255.out 2; have hfz111_3 := qa0 BK255.out 3) | ((with_reducible refine qj0 (f := 17) rfl ?_); refine qy0 (some 75) rfl rfl Try.func17 z9_58 rfl #[.agg #[.int .i64 t248, .int .i64 t249, .slice Ao38 t268.length co38, .int .i64 t253], .int .i64 1] rfl z9_48 ?_; (with_reducible refine (laws_heldWorth.calls kj61 t248 t249 _ _ t268 t253 1 t269 _ ?side1 ?side2 A93.out).mono ?_); (case side1 => exact z9_21); (case side2 => exact z9_69); rintro e w112 ⟨rfl, hb⟩; refine ⟨_, rfl, ?_⟩; have n0_ := Aside0.mk (Kd.qp0 z9_7 hb); have n1_ := Aside0.mk (Kd.qp0 z9_8 hb); have n2_ := Aside0.mk (Kd.qp0 z9_9 hb); have n3_ := Aside0.mk (qf0 (g := gb225) (o := .cells #[.int .i64 a0_0, .int .i64 a0_1, .slice A0_2 l0_2.length c0_2, .int .i64 a0_3] 33 (0, 0)) z9_1 hb); have n4_ := Aside0.mk (qf0 (g := gb240) (o := .cells #[.int .i64 t233, .int .i64 t234, .slice Ao24 t235.length co24, .int .i64 t238] 37 (0, 0)) z9_2 hb); have n5_ := Aside0.mk (qf0 (g := gb247) (o := .cells #[.int .i64 t241, .int .i64 t242, .slice Ao31 t265.length co31, .int .i64 t246] 37 (0, 0)) z9_3 hb); have n6_ := Aside0.mk (qf0 (g := gb255) (o := .cells #[.int .i64 t248, .int .i64 t249, .slice Ao38 t250.length co38, .int .i64 t253] 37 (0, 0)) z9_6 hb); have n7_ := Aside0.mk (qg0 z9_0 hb); clear HO_241002; clear HO_248002; clear HO_256002; clear BK225; clear BK240; clear BK247; clear BK255; clear HB; have HO_241002 := n0_; have HO_248002 := n1_; have HO_256002 := n2_; have BK225 := n3_; have BK240 := n4_; have BK247 := n5_; have BK255 := n6_; have HB := n7_; clear n0_ n1_ n2_ n3_ n4_ n5_ n6_ n7_; (try clear hb); (try clear hb2); (try clear hk); (try clear hi); have hnb113 := NB225_240.out; have hnc113 := NB240_225.out; have hnb114 := NB225_247.out; have hnc114 := NB247_225.out; have hcz115_0 : w112.cell? ⟨gb225, 0, none⟩ = some (.int .i64 a0_0) := (qb0 BK225.out 0).trans rfl; have hcz115_1 : w112.cell? ⟨gb225, 1, none⟩ = some (.int .i64 a0_1) := (qb0 BK225.out 1).trans rfl; have hcz115_2 : w112.cell? ⟨gb225, 2, none⟩ = some (.slice A0_2 l0_2.length c0_2) := (qb0 BK225.out 2).trans rfl; have hcz115_3 : w112.cell? ⟨gb225, 3, none⟩ = some (.int .i64 a0_3) := (qb0 BK225.out 3).trans rfl; have hfz115_0 := qa0 BK225.out 0; have hfz115_1 := qa0 BK225.out 1; have hfz115_2 := qa0 BK225.out 2; have hfz115_3 := qa0 BK225.out 3) | ((with_reducible refine qj0 (f := 13) rfl ?_); refine qy0 (some 83) rfl rfl Try.func13 z9_58 rfl #[.agg #[.int .i64 a0_0, .int .i64 a0_1, .slice A0_2 l0_2.length c0_2, .int .i64 a0_3]] rfl z9_5 ?_; (with_reducible refine (laws_toWorth.calls kj61 a0_0 a0_1 _ _ l0_2 a0_3 t270 t271 t272 t275 _ ?side1 ?side2 A103.out).mono ?_); (case side1 => exact z9_34); (case side2 => exact HC0_2.out); rintro e w116 ⟨v273, rfl, ho0, hb⟩; refine ⟨_, rfl, ?_⟩; have n0_ := Aside0.mk (Kd.qg1 z9_7 (Kd.qn1 ho0) hb); have n1_ := Aside0.mk (Kd.qg1 z9_8 (Kd.qn1 ho0) hb); have n2_ := Aside0.mk (Kd.qg1 z9_9 (Kd.qn1 ho0) hb); have n3_ := Aside0.mk (Kd.qh1 (Kd.qm1 (Kd.qm1 (Kd.qm1 ho0 (Kd.R_lt z9_7)) (Kd.R_lt z9_8)) (Kd.R_lt z9_9)) (qn0 z9_0)); have n4_ := Aside0.mk (qf0 (g := gb225) (o := .cells #[.int .i64 a0_0, .int .i64 a0_1, .slice A0_2 l0_2.length c0_2, .int .i64 a0_3] 33 (0, 0)) z9_1 hb); have n5_ := Aside0.mk (qf0 (g := gb240) (o := .cells #[.int .i64 t233, .int .i64 t234, .slice Ao24 t235.length co24, .int .i64 t238] 37 (0, 0)) z9_2 hb); have n6_ := Aside0.mk (qf0 (g := gb247) (o := .cells #[.int .i64 t241, .int .i64 t242, .slice Ao31 t265.length co31, .int .i64 t246] 37 (0, 0)) z9_3 hb); have n7_ := Aside0.mk (qf0 (g := gb255) (o := .cells #[.int .i64 t248, .int .i64 t249, .slice Ao38 t250.length co38, .int .i64 t253] 37 (0, 0)) z9_6 hb); have n8_ := Aside0.mk (qg0 z9_0 hb); clear HO_241002; clear HO_248002; clear HO_256002; clear BK225; clear BK240; clear BK247; clear BK255; clear HB; have HO_241002 := n0_; have HO_248002 := n1_; have HO_256002 := n2_; have HO274 := n3_; have BK225 := n4_; have BK240 := n5_; have BK247 := n6_; have BK255 := n7_; have HB := n8_; clear n0_ n1_ n2_ n3_ n4_ n5_ n6_ n7_ n8_; (try clear hb); (try clear hb2); (try clear hk); (try clear hi); (try clear ho0); obtain ⟨Ao117, co117, eo117⟩ := Kd.qb1 HO274.out; subst eo117) | ((with_reducible refine qj0 (f := 14) rfl ?_); refine qy0 (some 86) rfl rfl Try.func14 z9_58 rfl #[.agg #[.int .i64 t270, .int .i64 t271, .slice Ao117 t272.length co117, .int .i64 t275], .int .i64 a1, .int .i64 a2] rfl z9_5 ?_; (with_reducible refine (impl_TakeIn.calls kj61 t270 t271 _ _ t272 t275 a1 a2 t276 t277 t278 t281 t282 _ ?side1 ?side2 A104.out).mono ?_); (case side1 => repeat (first | exact (Kd.qq0 HO274.out).2.2 | (with_reducible refine Kd.C_alloc ?_ _) | (with_reducible refine Kd.C_drewN ?_ _) | (with_reducible refine Kd.C_drew ?_))); (case side2 => exact (Kd.qq0 HO274.out).2.1); rintro e w118 ⟨v279, rfl, ho0, hb⟩; refine ⟨_, rfl, ?_⟩; have n0_ := Aside0.mk (Kd.qg1 z9_7 (Kd.qn1 ho0) hb); have n1_ := Aside0.mk (Kd.qg1 z9_8 (Kd.qn1 ho0) hb); have n2_ := Aside0.mk (Kd.qg1 z9_9 (Kd.qn1 ho0) hb); have n3_ := Aside0.mk (Kd.qg1 z9_73 (Kd.qn1 ho0) hb); have n4_ := Aside0.mk (Kd.qh1 (Kd.qm1 (Kd.qm1 (Kd.qm1 (Kd.qm1 ho0 (Kd.R_lt z9_7)) (Kd.R_lt z9_8)) (Kd.R_lt z9_9)) (Kd.R_lt z9_73)) (qn0 z9_0)); have n5_ := Aside0.mk (qf0 (g := gb225) (o := .cells #[.int .i64 a0_0, .int .i64 a0_1, .slice A0_2 l0_2.length c0_2, .int .i64 a0_3] 33 (0, 0)) z9_1 hb); have n6_ := Aside0.mk (qf0 (g := gb240) (o := .cells #[.int .i64 t233, .int .i64 t234, .slice Ao24 t235.length co24, .int .i64 t238] 37 (0, 0)) z9_2 hb); have n7_ := Aside0.mk (qf0 (g := gb247) (o := .cells #[.int .i64 t241, .int .i64 t242, .slice Ao31 t265.length co31, .int .i64 t246] 37 (0, 0)) z9_3 hb); have n8_ := Aside0.mk (qf0 (g := gb255) (o := .cells #[.int .i64 t248, .int .i64 t249, .slice Ao38 t250.length co38, .int .i64 t253] 37 (0, 0)) z9_6 hb); have n9_ := Aside0.mk (qg0 z9_0 hb); clear HO_241002; clear HO_248002; clear HO_256002; clear HO274; clear BK225; clear BK240; clear BK247; clear BK255; clear HB; have HO_241002 := n0_; have HO_248002 := n1_; have HO_256002 := n2_; have HO274 := n3_; have HO280 := n4_; have BK225 := n5_; have BK240 := n6_; have BK247 := n7_; have BK255 := n8_; have HB := n9_; clear n0_ n1_ n2_ n3_ n4_ n5_ n6_ n7_ n8_ n9_; (try clear hb); (try clear hb2); (try clear hk); (try clear hi); (try clear ho0)) | ((with_reducible refine qr0 (N := 16) rfl ?_); refine qo0 ?hg (N := 16) ?hd (cs := #[.int .i64 0, .int .i64 0, .slice none 0 0, .int .i64 0]) (t := 37) ?hr ?_; (case hd => rfl); (case hg => rfl); (case hr => exact z9_82); intro gb283 hg w119 hbox hb; have n0_ := Aside0.mk (Kd.qp0 z9_7 hb); have n1_ := Aside0.mk (Kd.qp0 z9_8 hb); have n2_ := Aside0.mk (Kd.qp0 z9_9 hb); have n3_ := Aside0.mk (Kd.qp0 z9_73 hb); have n4_ := Aside0.mk (Kd.qp0 (by (with_reducible repeat (first | apply Kd.qu0 | apply Kd.qt0 | apply Kd.qx0)); exact HO280.out) hb); have n5_ := Aside0.mk (qf0 (g := gb225) (o := .cells #[.int .i64 a0_0, .int .i64 a0_1, .slice A0_2 l0_2.length c0_2, .int .i64 a0_3] 33 (0, 0)) z9_1 hb); have n6_ := Aside0.mk (qf0 (g := gb240) (o := .cells #[.int .i64 t233, .int .i64 t234, .slice Ao24 t235.length co24, .int .i64 t238] 37 (0, 0)) z9_2 hb); have n7_ := Aside0.mk (qf0 (g := gb247) (o := .cells #[.int .i64 t241, .int .i64 t242, .slice Ao31 t265.length co31, .int .i64 t246] 37 (0, 0)) z9_3 hb); have n8_ := Aside0.mk (qf0 (g := gb255) (o := .cells #[.int .i64 t248, .int .i64 t249, .slice Ao38 t250.length co38, .int .i64 t253] 37 (0, 0)) z9_6 hb); have n9_ := Aside0.mk (qg0 z9_0 hb); have n10_ := Aside0.mk (hbox); have n11_ := Aside0.mk ((z9_50 : w.heap.size ≤ gb283)); have n12_ := Aside0.mk ((z9_50 : w.heap.size ≤ gb283)); have n13_ := Aside0.mk ((z9_32 : gb225 ≠ gb283)); have n14_ := Aside0.mk ((z9_33 : gb283 ≠ gb225)); have n15_ := Aside0.mk ((z9_45 : gb240 ≠ gb283)); have n16_ := Aside0.mk ((z9_46 : gb283 ≠ gb240)); have n17_ := Aside0.mk ((by rw [hg]; exact Nat.ne_of_lt (qe1 (g := gb247) (o := .cells #[.int .i64 t241, .int .i64 t242, .slice Ao31 t265.length co31, .int .i64 t246] 37 (0, 0)) z9_3) : gb247 ≠ gb283)); have n18_ := Aside0.mk ((by rw [hg]; exact Nat.ne_of_gt (qe1 (g := gb247) (o := .cells #[.int .i64 t241, .int .i64 t242, .slice Ao31 t265.length co31, .int .i64 t246] 37 (0, 0)) z9_3) : gb283 ≠ gb247)); have n19_ := Aside0.mk ((by rw [hg]; exact Nat.ne_of_lt (qe1 (g := gb255) (o := .cells #[.int .i64 t248, .int .i64 t249, .slice Ao38 t250.length co38, .int .i64 t253] 37 (0, 0)) z9_6) : gb255 ≠ gb283)); have n20_ := Aside0.mk ((by rw [hg]; exact Nat.ne_of_gt (qe1 (g := gb255) (o := .cells #[.int .i64 t248, .int .i64 t249, .slice Ao38 t250.length co38, .int .i64 t253] 37 (0, 0)) z9_6) : gb283 ≠ gb255)); clear HO_241002; clear HO_248002; clear HO_256002; clear HO274; clear HO280; clear BK225; clear BK240; clear BK247; clear BK255; clear HB; have HO_241002 := n0_; have HO_248002 := n1_; have HO_256002 := n2_; have HO274 := n3_; have HO280 := n4_; have BK225 := n5_; have BK240 := n6_; have BK247 := n7_; have BK255 := n8_; have HB := n9_; have BK283 := n10_; have GW283 := n11_; have GE283 := n12_; have NB225_283 := n13_; have NB283_225 := n14_; have NB240_283 := n15_; have NB283_240 := n16_; have NB247_283 := n17_; have NB283_247 := n18_; have NB255_283 := n19_; have NB283_255 := n20_; clear n0_ n1_ n2_ n3_ n4_ n5_ n6_ n7_ n8_ n9_ n10_ n11_ n12_ n13_ n14_ n15_ n16_ n17_ n18_ n19_ n20_; clear hb hbox hg; have hnb120 := NB283_225.out; have hnc120 := NB225_283.out; have hnb121 := NB283_240.out; have hnc121 := NB240_283.out; have hnb122 := NB283_247.out; have hnc122 := NB247_283.out; have hnb123 := NB283_255.out; have hnc123 := NB255_283.out; have hcz124_0 : w119.cell? ⟨gb283, 0, none⟩ = some (.int .i64 0) := (qb0 BK283.out 0).trans rfl; have hcz124_1 : w119.cell? ⟨gb283, 1, none⟩ = some (.int .i64 0) := (qb0 BK283.out 1).trans rfl; have hcz124_2 : w119.cell? ⟨gb283, 2, none⟩ = some (.slice none 0 0) := (qb0 BK283.out 2).trans rfl; have hcz124_3 : w119.cell? ⟨gb283, 3, none⟩ = some (.int .i64 0) := (qb0 BK283.out 3).trans rfl; have hfz124_0 := qa0 BK283.out 0; have hfz124_1 := qa0 BK283.out 1; have hfz124_2 := qa0 BK283.out 2; have hfz124_3 := qa0 BK283.out 3; obtain ⟨Ao125, co125, eo125⟩ := Kd.qb1 HO280.out; subst eo125))
       (try simp only [Act.put, List.setIfInBounds_toArray, List.set_cons_zero, List.set_cons_succ])
       go_cut [97] (fun v97 wc => ∃ (kq : Nat) (x97_104 : Bool), v97 = .bool x97_104 ∧ Aside0 (laws_FnExactTakeIn.j2 kq t267 x97_104 t248 t249 t268 t253 = some r) ∧ Aside0 (kq ≤ kj61) ∧ Aside0 (Kd.R k59 59 wc w.heap.size (fun k_ => some k_ ≠ ((.slice Ao31 t265.length co31) : Value).ownBlock ∧ some k_ ≠ ((.slice Ao38 t250.length co38) : Value).ownBlock ∧ some k_ ≠ ((.slice Ao125 t278.length co125) : Value).ownBlock) (.slice Ao24 t235.length co24) t235) ∧ Aside0 (Kd.R k59 59 wc w.heap.size (fun k_ => some k_ ≠ ((.slice Ao24 t235.length co24) : Value).ownBlock ∧ some k_ ≠ ((.slice Ao38 t250.length co38) : Value).ownBlock ∧ some k_ ≠ ((.slice Ao125 t278.length co125) : Value).ownBlock) (.slice Ao31 t265.length co31) t265) ∧ Aside0 (Kd.R k59 59 wc w.heap.size (fun k_ => some k_ ≠ ((.slice Ao24 t235.length co24) : Value).ownBlock ∧ some k_ ≠ ((.slice Ao31 t265.length co31) : Value).ownBlock ∧ some k_ ≠ ((.slice Ao125 t278.length co125) : Value).ownBlock) (.slice Ao38 t250.length co38) t268) ∧ Aside0 (Kd.R k59 59 wc w.heap.size (fun k_ => some k_ ≠ ((.slice Ao24 t235.length co24) : Value).ownBlock ∧ some k_ ≠ ((.slice Ao31 t265.length co31) : Value).ownBlock ∧ some k_ ≠ ((.slice Ao38 t250.length co38) : Value).ownBlock) (.slice Ao125 t278.length co125) t278) ∧ Aside0 (wc.heap[gb225]? = some (.cells #[.int .i64 a0_0, .int .i64 a0_1, (.slice A0_2 l0_2.length c0_2), .int .i64 a0_3] 33 (0, 0))) ∧ Aside0 (wc.heap[gb240]? = some (.cells #[.int .i64 t233, .int .i64 t234, (.slice Ao24 t235.length co24), .int .i64 t238] 37 (0, 0))) ∧ Aside0 (wc.heap[gb247]? = some (.cells #[.int .i64 t241, .int .i64 t242, (.slice Ao31 t265.length co31), .int .i64 t246] 37 (0, 0))) ∧ Aside0 (wc.heap[gb255]? = some (.cells #[.int .i64 t248, .int .i64 t249, (.slice Ao38 t250.length co38), .int .i64 t253] 37 (0, 0))) ∧ Aside0 (wc.heap[gb283]? = some (.cells #[.int .i64 t276, .int .i64 t277, (.slice Ao125 t278.length co125), .int .i64 t281] 37 (0, 0))) ∧ Aside0 (Below w.heap.size w wc))
       case first =>
        have H := HC105.out
        clear HC105
        replace H := Option.bind_eq_some_iff.mp H
        obtain ⟨t284, A1260, H⟩ := H
        replace H : (if t284 = true then (laws_FnExactTakeIn.j2 kj61 t267 (t282 != t239) t248 t249 t268 t253) else (laws_FnExactTakeIn.j2 kj61 t267 true t248 t249 t268 t253)) = some r := H
        have A126 := Aside0.mk A1260
        clear A1260
        by_cases c127 : t284 = true
        ·subst c127
         have H1 : (laws_FnExactTakeIn.j2 kj61 t267 (t282 != t239) t248 t249 t268 t253) = some r := by rw [if_pos rfl] at H; exact H
         clear H
         have H := H1
         clear H1
         have H' := Aside0.mk H
         clear H
         have hnb128 := NB283_225.out
         have hnc128 := NB225_283.out
         have hnb129 := NB283_240.out
         have hnc129 := NB240_283.out
         have hnb130 := NB283_247.out
         have hnc130 := NB247_283.out
         have hnb131 := NB283_255.out
         have hnc131 := NB255_283.out
         have hcz132_0 : w119.cell? ⟨gb283, 0, none⟩ = some (.int .i64 0) := (qb0 BK283.out 0).trans rfl
         have hcz132_1 : w119.cell? ⟨gb283, 1, none⟩ = some (.int .i64 0) := (qb0 BK283.out 1).trans rfl
         have hcz132_2 : w119.cell? ⟨gb283, 2, none⟩ = some (.slice none 0 0) := (qb0 BK283.out 2).trans rfl
         have hcz132_3 : w119.cell? ⟨gb283, 3, none⟩ = some (.int .i64 0) := (qb0 BK283.out 3).trans rfl
         have hfz132_0 := qa0 BK283.out 0
         have hfz132_1 := qa0 BK283.out 1
         have hfz132_2 := qa0 BK283.out 2
         have hfz132_3 := qa0 BK283.out 3
         have hnb133 := NB240_225.out
         have hnc133 := NB225_240.out
         have hnb134 := NB240_247.out
         have hnc134 := NB247_240.out
         have hnb135 := NB240_255.out
         have hnc135 := NB255_240.out
         have hcz136_0 : w119.cell? ⟨gb240, 0, none⟩ = some (.int .i64 t233) := (qb0 BK240.out 0).trans rfl
         have hcz136_1 : w119.cell? ⟨gb240, 1, none⟩ = some (.int .i64 t234) := (qb0 BK240.out 1).trans rfl
         have hcz136_2 : w119.cell? ⟨gb240, 2, none⟩ = some (.slice Ao24 t235.length co24) := (qb0 BK240.out 2).trans rfl
         have hcz136_3 : w119.cell? ⟨gb240, 3, none⟩ = some (.int .i64 t238) := (qb0 BK240.out 3).trans rfl
         have hfz136_0 := qa0 BK240.out 0
         have hfz136_1 := qa0 BK240.out 1
         have hfz136_2 := qa0 BK240.out 2
         have hfz136_3 := qa0 BK240.out 3
         go_wp2_with (first | ((with_reducible refine qj0 (f := 15) rfl ?_); refine qy0 (some 91) rfl rfl Try.func15 z9_58 rfl #[.agg #[.int .i64 t276, .int .i64 t277, .slice Ao125 t278.length co125, .int .i64 t281], .agg #[.int .i64 t233, .int .i64 t234, .slice Ao24 t235.length co24, .int .i64 t238]] rfl z9_5 ?_; (with_reducible refine (laws_eqWorth.calls kj61 t276 t277 _ _ t278 t281 t233 t234 _ _ t235 t238 true _ ?side1 ?side2 ?side3 ?side4 A126.out).mono ?_); (case side1 => exact z9_16); (case side2 => exact (Kd.qq0 HO280.out).2.1); (case side3 => exact z9_17); (case side4 => exact (Kd.qq0 HO_241002.out).2.1); rintro e w137 ⟨rfl, hb⟩; refine ⟨_, rfl, ?_⟩; have n0_ := Aside0.mk (Kd.qp0 z9_10 hb); have n1_ := Aside0.mk (Kd.qp0 z9_35 hb); have n2_ := Aside0.mk (Kd.qp0 z9_36 hb); have n3_ := Aside0.mk (Kd.qp0 z9_38 hb); have n4_ := Aside0.mk (Kd.qp0 z9_11 hb); have n5_ := Aside0.mk (qf0 (g := gb225) (o := .cells #[.int .i64 a0_0, .int .i64 a0_1, .slice A0_2 l0_2.length c0_2, .int .i64 a0_3] 33 (0, 0)) z9_26 hb); have n6_ := Aside0.mk (qf0 (g := gb240) (o := .cells #[.int .i64 t233, .int .i64 t234, .slice Ao24 t235.length co24, .int .i64 t238] 37 (0, 0)) z9_27 hb); have n7_ := Aside0.mk (qf0 (g := gb247) (o := .cells #[.int .i64 t241, .int .i64 t242, .slice Ao31 t265.length co31, .int .i64 t246] 37 (0, 0)) z9_28 hb); have n8_ := Aside0.mk (qf0 (g := gb255) (o := .cells #[.int .i64 t248, .int .i64 t249, .slice Ao38 t250.length co38, .int .i64 t253] 37 (0, 0)) z9_29 hb); have n9_ := Aside0.mk (qf0 (g := gb283) (o := .cells #[.int .i64 t276, .int .i64 t277, .slice Ao125 t278.length co125, .int .i64 t281] 37 (0, 0)) z9_14 hb); have n10_ := Aside0.mk (qg0 z9_4 hb); clear HO_241002; clear HO_248002; clear HO_256002; clear HO274; clear HO280; clear BK225; clear BK240; clear BK247; clear BK255; clear BK283; clear HB; have HO_241002 := n0_; have HO_248002 := n1_; have HO_256002 := n2_; have HO274 := n3_; have HO280 := n4_; have BK225 := n5_; have BK240 := n6_; have BK247 := n7_; have BK255 := n8_; have BK283 := n9_; have HB := n10_; clear n0_ n1_ n2_ n3_ n4_ n5_ n6_ n7_ n8_ n9_ n10_; (try clear hb); (try clear hb2); (try clear hk); (try clear hi)))
         go_meet
         case rel => exact ⟨_, ((t282 != t239)), z9_71, H', ⟨by have := HJ12.out; have := HJ61.out; first | omega | exact Nat.le_refl _⟩, ⟨z9_61⟩, ⟨z9_62⟩, ⟨z9_63⟩, ⟨z9_64⟩, ⟨z9_74⟩, ⟨z9_75⟩, ⟨z9_76⟩, ⟨z9_77⟩, ⟨z9_78⟩, ⟨z9_4⟩⟩
        replace c127 := Bool.eq_false_iff.mpr c127
        subst c127
        have H1 : (laws_FnExactTakeIn.j2 kj61 t267 true t248 t249 t268 t253) = some r := by rw [if_neg (show ¬ (false = true) from z9_60)] at H; exact H
        clear H
        have H := H1
        clear H1
        have H' := Aside0.mk H
        clear H
        have hnb138 := NB283_225.out
        have hnc138 := NB225_283.out
        have hnb139 := NB283_240.out
        have hnc139 := NB240_283.out
        have hnb140 := NB283_247.out
        have hnc140 := NB247_283.out
        have hnb141 := NB283_255.out
        have hnc141 := NB255_283.out
        have hcz142_0 : w119.cell? ⟨gb283, 0, none⟩ = some (.int .i64 0) := (qb0 BK283.out 0).trans rfl
        have hcz142_1 : w119.cell? ⟨gb283, 1, none⟩ = some (.int .i64 0) := (qb0 BK283.out 1).trans rfl
        have hcz142_2 : w119.cell? ⟨gb283, 2, none⟩ = some (.slice none 0 0) := (qb0 BK283.out 2).trans rfl
        have hcz142_3 : w119.cell? ⟨gb283, 3, none⟩ = some (.int .i64 0) := (qb0 BK283.out 3).trans rfl
        have hfz142_0 := qa0 BK283.out 0
        have hfz142_1 := qa0 BK283.out 1
        have hfz142_2 := qa0 BK283.out 2
        have hfz142_3 := qa0 BK283.out 3
        have hnb143 := NB240_225.out
        have hnc143 := NB225_240.out
        have hnb144 := NB240_247.out
        have hnc144 := NB247_240.out
        have hnb145 := NB240_255.out
        have hnc145 := NB255_240.out
        have hcz146_0 : w119.cell? ⟨gb240, 0, none⟩ = some (.int .i64 t233) := (qb0 BK240.out 0).trans rfl
        have hcz146_1 : w119.cell? ⟨gb240, 1, none⟩ = some (.int .i64 t234) := (qb0 BK240.out 1).trans rfl
        have hcz146_2 : w119.cell? ⟨gb240, 2, none⟩ = some (.slice Ao24 t235.length co24) := (qb0 BK240.out 2).trans rfl
        have hcz146_3 : w119.cell? ⟨gb240, 3, none⟩ = some (.int .i64 t238) := (qb0 BK240.out 3).trans rfl
        have hfz146_0 := qa0 BK240.out 0
        have hfz146_1 := qa0 BK240.out 1
        have hfz146_2 := qa0 BK240.out 2
        have hfz146_3 := qa0 BK240.out 3
        go_wp2_with (first | ((with_reducible refine qj0 (f := 15) rfl ?_); refine qy0 (some 91) rfl rfl Try.func15 z9_58 rfl #[.agg #[.int .i64 t276, .int .i64 t277, .slice Ao125 t278.length co125, .int .i64 t281], .agg #[.int .i64 t233, .int .i64 t234, .slice Ao24 t235.length co24, .int .i64 t238]] rfl z9_5 ?_; (with_reducible refine (laws_eqWorth.calls kj61 t276 t277 _ _ t278 t281 t233 t234 _ _ t235 t238 false _ ?side1 ?side2 ?side3 ?side4 A126.out).mono ?_); (case side1 => exact z9_16); (case side2 => exact (Kd.qq0 HO280.out).2.1); (case side3 => exact z9_17); (case side4 => exact (Kd.qq0 HO_241002.out).2.1); rintro e w147 ⟨rfl, hb⟩; refine ⟨_, rfl, ?_⟩; have n0_ := Aside0.mk (Kd.qp0 z9_10 hb); have n1_ := Aside0.mk (Kd.qp0 z9_35 hb); have n2_ := Aside0.mk (Kd.qp0 z9_36 hb); have n3_ := Aside0.mk (Kd.qp0 z9_38 hb); have n4_ := Aside0.mk (Kd.qp0 z9_11 hb); have n5_ := Aside0.mk (qf0 (g := gb225) (o := .cells #[.int .i64 a0_0, .int .i64 a0_1, .slice A0_2 l0_2.length c0_2, .int .i64 a0_3] 33 (0, 0)) z9_26 hb); have n6_ := Aside0.mk (qf0 (g := gb240) (o := .cells #[.int .i64 t233, .int .i64 t234, .slice Ao24 t235.length co24, .int .i64 t238] 37 (0, 0)) z9_27 hb); have n7_ := Aside0.mk (qf0 (g := gb247) (o := .cells #[.int .i64 t241, .int .i64 t242, .slice Ao31 t265.length co31, .int .i64 t246] 37 (0, 0)) z9_28 hb); have n8_ := Aside0.mk (qf0 (g := gb255) (o := .cells #[.int .i64 t248, .int .i64 t249, .slice Ao38 t250.length co38, .int .i64 t253] 37 (0, 0)) z9_29 hb); have n9_ := Aside0.mk (qf0 (g := gb283) (o := .cells #[.int .i64 t276, .int .i64 t277, .slice Ao125 t278.length co125, .int .i64 t281] 37 (0, 0)) z9_14 hb); have n10_ := Aside0.mk (qg0 z9_4 hb); clear HO_241002; clear HO_248002; clear HO_256002; clear HO274; clear HO280; clear BK225; clear BK240; clear BK247; clear BK255; clear BK283; clear HB; have HO_241002 := n0_; have HO_248002 := n1_; have HO_256002 := n2_; have HO274 := n3_; have HO280 := n4_; have BK225 := n5_; have BK240 := n6_; have BK247 := n7_; have BK255 := n8_; have BK283 := n9_; have HB := n10_; clear n0_ n1_ n2_ n3_ n4_ n5_ n6_ n7_ n8_ n9_ n10_; (try clear hb); (try clear hb2); (try clear hk); (try clear hi)))
        go_meet
        case rel => exact ⟨_, (true), z9_71, H', ⟨by have := HJ12.out; have := HJ61.out; first | omega | exact Nat.le_refl _⟩, ⟨z9_61⟩, ⟨z9_62⟩, ⟨z9_63⟩, ⟨z9_64⟩, ⟨z9_74⟩, ⟨z9_75⟩, ⟨z9_76⟩, ⟨z9_77⟩, ⟨z9_78⟩, ⟨z9_4⟩⟩
       case rest =>
        clear HC105
        try clear c1
        try clear c2
        try clear p2
        try clear c3
        try clear c4
        try clear c5
        try clear c5b0
        try clear c6
        try clear c7
        try clear c8
        try clear c9
        try clear c10
        try clear c11
        try clear c12
        try clear c13
        try clear c14
        try clear c15
        try clear c16
        try clear c17
        try clear c22
        try clear c28
        try clear c29
        try clear c34
        try clear c35
        try clear c36
        try clear c40
        try clear c41
        try clear c42
        try clear c43
        try clear c45
        try clear c46
        try clear c49
        try clear c50
        try clear c51
        try clear c53
        try clear c54
        try clear c57
        try clear c60
        try clear c67
        try clear c68
        try clear c69
        try clear c72
        try clear c72b0
        try clear c74
        try clear c75
        try clear c76
        try clear c77
        try clear c79
        try clear c80
        try clear c83
        try clear c84
        try clear c85
        try clear c87
        try clear c88
        try clear c91
        try clear c94
        try clear c94b0
        try clear c95
        try clear c96
        try clear c97
        try clear c102
        try clear c102b0
        try clear c102b1
        try clear c106
        try clear c107
        try clear c108
        try clear c113
        try clear c114
        try clear c120
        try clear c121
        try clear c122
        try clear c123
        try clear c127
        try clear c128
        try clear c129
        try clear c130
        try clear c131
        try clear c133
        try clear c134
        try clear c135
        try clear c138
        try clear c139
        try clear c140
        try clear c141
        try clear c143
        try clear c144
        try clear c145
        try clear hcz100_0
        try clear hcz100_1
        try clear hcz100_2
        try clear hcz100_3
        try clear hcz109_0
        try clear hcz109_1
        try clear hcz109_2
        try clear hcz109_3
        try clear hcz111_0
        try clear hcz111_1
        try clear hcz111_2
        try clear hcz111_3
        try clear hcz115_0
        try clear hcz115_1
        try clear hcz115_2
        try clear hcz115_3
        try clear hcz124_0
        try clear hcz124_1
        try clear hcz124_2
        try clear hcz124_3
        try clear hcz132_0
        try clear hcz132_1
        try clear hcz132_2
        try clear hcz132_3
        try clear hcz136_0
        try clear hcz136_1
        try clear hcz136_2
        try clear hcz136_3
        try clear hcz142_0
        try clear hcz142_1
        try clear hcz142_2
        try clear hcz142_3
        try clear hcz146_0
        try clear hcz146_1
        try clear hcz146_2
        try clear hcz146_3
        try clear hcz15_0
        try clear hcz15_1
        try clear hcz15_2
        try clear hcz15_3
        try clear hcz17_0
        try clear hcz17_1
        try clear hcz17_2
        try clear hcz17_3
        try clear hcz23_0
        try clear hcz23_1
        try clear hcz23_2
        try clear hcz23_3
        try clear hcz25_0
        try clear hcz25_1
        try clear hcz25_2
        try clear hcz25_3
        try clear hcz30_0
        try clear hcz30_1
        try clear hcz30_2
        try clear hcz30_3
        try clear hcz37_0
        try clear hcz37_1
        try clear hcz37_2
        try clear hcz37_3
        try clear hcz44_0
        try clear hcz44_1
        try clear hcz44_2
        try clear hcz44_3
        try clear hcz47_0
        try clear hcz47_1
        try clear hcz47_2
        try clear hcz47_3
        try clear hcz52_0
        try clear hcz52_1
        try clear hcz52_2
        try clear hcz52_3
        try clear hcz55_0
        try clear hcz55_1
        try clear hcz55_2
        try clear hcz55_3
        try clear hcz70_0
        try clear hcz70_1
        try clear hcz70_2
        try clear hcz70_3
        try clear hcz78_0
        try clear hcz78_1
        try clear hcz78_2
        try clear hcz78_3
        try clear hcz7_0
        try clear hcz7_1
        try clear hcz7_2
        try clear hcz7_3
        try clear hcz81_0
        try clear hcz81_1
        try clear hcz81_2
        try clear hcz81_3
        try clear hcz86_0
        try clear hcz86_1
        try clear hcz86_2
        try clear hcz86_3
        try clear hcz89_0
        try clear hcz89_1
        try clear hcz89_2
        try clear hcz89_3
        try clear hcz98_0
        try clear hcz98_1
        try clear hcz98_2
        try clear hcz98_3
        try clear hfz100_0
        try clear hfz100_1
        try clear hfz100_2
        try clear hfz100_3
        try clear hfz109_0
        try clear hfz109_1
        try clear hfz109_2
        try clear hfz109_3
        try clear hfz111_0
        try clear hfz111_1
        try clear hfz111_2
        try clear hfz111_3
        try clear hfz115_0
        try clear hfz115_1
        try clear hfz115_2
        try clear hfz115_3
        try clear hfz124_0
        try clear hfz124_1
        try clear hfz124_2
        try clear hfz124_3
        try clear hfz132_0
        try clear hfz132_1
        try clear hfz132_2
        try clear hfz132_3
        try clear hfz136_0
        try clear hfz136_1
        try clear hfz136_2
        try clear hfz136_3
        try clear hfz142_0
        try clear hfz142_1
        try clear hfz142_2
        try clear hfz142_3
        try clear hfz146_0
        try clear hfz146_1
        try clear hfz146_2
        try clear hfz146_3
        try clear hfz15_0
        try clear hfz15_1
        try clear hfz15_2
        try clear hfz15_3
        try clear hfz17_0
        try clear hfz17_1
        try clear hfz17_2
        try clear hfz17_3
        try clear hfz23_0
        try clear hfz23_1
        try clear hfz23_2
        try clear hfz23_3
        try clear hfz25_0
        try clear hfz25_1
        try clear hfz25_2
        try clear hfz25_3
        try clear hfz30_0
        try clear hfz30_1
        try clear hfz30_2
        try clear hfz30_3
        try clear hfz37_0
        try clear hfz37_1
        try clear hfz37_2
        try clear hfz37_3
        try clear hfz44_0
        try clear hfz44_1
        try clear hfz44_2
        try clear hfz44_3
        try clear hfz47_0
        try clear hfz47_1
        try clear hfz47_2
        try clear hfz47_3
        try clear hfz52_0
        try clear hfz52_1
        try clear hfz52_2
        try clear hfz52_3
        try clear hfz55_0
        try clear hfz55_1
        try clear hfz55_2
        try clear hfz55_3
        try clear hfz70_0
        try clear hfz70_1
        try clear hfz70_2
        try clear hfz70_3
        try clear hfz78_0
        try clear hfz78_1
        try clear hfz78_2
        try clear hfz78_3
        try clear hfz7_0
        try clear hfz7_1
        try clear hfz7_2
        try clear hfz7_3
        try clear hfz81_0
        try clear hfz81_1
        try clear hfz81_2
        try clear hfz81_3
        try clear hfz86_0
        try clear hfz86_1
        try clear hfz86_2
        try clear hfz86_3
        try clear hfz89_0
        try clear hfz89_1
        try clear hfz89_2
        try clear hfz89_3
        try clear hfz98_0
        try clear hfz98_1
        try clear hfz98_2
        try clear hfz98_3
        try clear p2
        obtain ⟨kq, x97_104, rfl, HA, HJ104, HO_241002, HO_248002, HO_256002, HO_284002, BK225, BK240, BK247, BK255, BK283, HB⟩ := hcut
        have hl256002_104 := (Kd.qq0 HO_256002.out).1
        rw [hl256002_104] at HO_256002
        (try simp only [hl256002_104])
        (try simp only [hl256002_104] at BK225)
        (try simp only [hl256002_104] at BK240)
        (try simp only [hl256002_104] at BK247)
        (try simp only [hl256002_104] at BK255)
        (try simp only [hl256002_104] at BK283)
        (try simp only [hl256002_104] at HO_241002)
        (try simp only [hl256002_104] at HO_248002)
        (try simp only [hl256002_104] at HO_284002)
        cases kq with
        | zero => exact absurd HA.out (by simp [laws_FnExactTakeIn.j2])
        | succ kj104 =>
         have H := HA.out
         clear HA
         simp only [laws_FnExactTakeIn.j2] at H
         by_cases c148 : x97_104 = true
         ·subst c148
          have H1 : (some false) = some r := by rw [if_pos rfl] at H; exact H
          clear H
          have H := H1
          clear H1
          obtain rfl := Option.some.inj H
          go_wp2
          go_ret
          exact ⟨z9_37, z9_4⟩
         replace c148 := Bool.eq_false_iff.mpr c148
         subst c148
         have H1 : ((laws_heldWorth.f kj104 t248 t249 t268 t253 1).bind fun t285 => (if t285 < 0 then (some false) else (if t285 = t267 then (some true) else (some false)))) = some r := by rw [if_neg (show ¬ (false = true) from z9_60)] at H; exact H
         clear H
         have H := H1
         clear H1
         replace H := Option.bind_eq_some_iff.mp H
         obtain ⟨t285, A1490, H⟩ := H
         replace H : (if t285 < 0 then (some false) else (if t285 = t267 then (some true) else (some false))) = some r := H
         have A149 := Aside0.mk A1490
         clear A1490
         by_cases c150 : t285 < 0
         ·rw [if_pos c150] at H
          have c150b0 : decide (t285 < 0) = true := decide_eq_true c150
          clear c150
          obtain rfl := Option.some.inj H
          have hnb151 := NB255_225.out
          have hnc151 := NB225_255.out
          have hnb152 := NB255_240.out
          have hnc152 := NB240_255.out
          have hnb153 := NB255_247.out
          have hnc153 := NB247_255.out
          have hnb154 := NB255_283.out
          have hnc154 := NB283_255.out
          have hcz155_0 : wc.cell? ⟨gb255, 0, none⟩ = some (.int .i64 t248) := (qb0 BK255.out 0).trans rfl
          have hcz155_1 : wc.cell? ⟨gb255, 1, none⟩ = some (.int .i64 t249) := (qb0 BK255.out 1).trans rfl
          have hcz155_2 : wc.cell? ⟨gb255, 2, none⟩ = some (.slice Ao38 t268.length co38) := (qb0 BK255.out 2).trans rfl
          have hcz155_3 : wc.cell? ⟨gb255, 3, none⟩ = some (.int .i64 t253) := (qb0 BK255.out 3).trans rfl
          have hfz155_0 := qa0 BK255.out 0
          have hfz155_1 := qa0 BK255.out 1
          have hfz155_2 := qa0 BK255.out 2
          have hfz155_3 := qa0 BK255.out 3
          go_wp2_with (first | ((with_reducible refine qj0 (f := 17) rfl ?_); refine qy0 (some 100) rfl rfl Try.func17 z9_58 rfl #[.agg #[.int .i64 t248, .int .i64 t249, .slice Ao38 t268.length co38, .int .i64 t253], .int .i64 1] rfl z9_5 ?_; (with_reducible refine (laws_heldWorth.calls kj104 t248 t249 _ _ t268 t253 1 t285 _ ?side1 ?side2 A149.out).mono ?_); (case side1 => exact z9_21); (case side2 => exact (Kd.qq0 HO_256002.out).2.1); rintro e w156 ⟨rfl, hb⟩; refine ⟨_, rfl, ?_⟩; have n0_ := Aside0.mk (Kd.qp0 z9_7 hb); have n1_ := Aside0.mk (Kd.qp0 z9_8 hb); have n2_ := Aside0.mk (Kd.qp0 z9_9 hb); have n3_ := Aside0.mk (Kd.qp0 z9_70 hb); have n4_ := Aside0.mk (qf0 (g := gb225) (o := .cells #[.int .i64 a0_0, .int .i64 a0_1, .slice A0_2 l0_2.length c0_2, .int .i64 a0_3] 33 (0, 0)) z9_1 hb); have n5_ := Aside0.mk (qf0 (g := gb240) (o := .cells #[.int .i64 t233, .int .i64 t234, .slice Ao24 t235.length co24, .int .i64 t238] 37 (0, 0)) z9_2 hb); have n6_ := Aside0.mk (qf0 (g := gb247) (o := .cells #[.int .i64 t241, .int .i64 t242, .slice Ao31 t265.length co31, .int .i64 t246] 37 (0, 0)) z9_3 hb); have n7_ := Aside0.mk (qf0 (g := gb255) (o := .cells #[.int .i64 t248, .int .i64 t249, .slice Ao38 t268.length co38, .int .i64 t253] 37 (0, 0)) z9_6 hb); have n8_ := Aside0.mk (qf0 (g := gb283) (o := .cells #[.int .i64 t276, .int .i64 t277, .slice Ao125 t278.length co125, .int .i64 t281] 37 (0, 0)) z9_67 hb); have n9_ := Aside0.mk (qg0 z9_4 hb); clear HO_241002; clear HO_248002; clear HO_256002; clear HO_284002; clear BK225; clear BK240; clear BK247; clear BK255; clear BK283; clear HB; have HO_241002 := n0_; have HO_248002 := n1_; have HO_256002 := n2_; have HO_284002 := n3_; have BK225 := n4_; have BK240 := n5_; have BK247 := n6_; have BK255 := n7_; have BK283 := n8_; have HB := n9_; clear n0_ n1_ n2_ n3_ n4_ n5_ n6_ n7_ n8_ n9_; (try clear hb); (try clear hb2); (try clear hk); (try clear hi)))
          go_ret
          exact ⟨z9_37, z9_4⟩
         rw [if_neg c150] at H
         have c150b0 : decide (t285 < 0) = false := decide_eq_false c150
         clear c150
         by_cases c157 : t285 = t267
         ·rw [if_pos c157] at H
          have c157b0 : (t285 == t267) = true := beq_iff_eq.mpr c157
          have c157b1 : (t285 != t267) = false := bne_eq_false_iff_eq.mpr c157
          clear c157
          obtain rfl := Option.some.inj H
          have hnb158 := NB255_225.out
          have hnc158 := NB225_255.out
          have hnb159 := NB255_240.out
          have hnc159 := NB240_255.out
          have hnb160 := NB255_247.out
          have hnc160 := NB247_255.out
          have hnb161 := NB255_283.out
          have hnc161 := NB283_255.out
          have hcz162_0 : wc.cell? ⟨gb255, 0, none⟩ = some (.int .i64 t248) := (qb0 BK255.out 0).trans rfl
          have hcz162_1 : wc.cell? ⟨gb255, 1, none⟩ = some (.int .i64 t249) := (qb0 BK255.out 1).trans rfl
          have hcz162_2 : wc.cell? ⟨gb255, 2, none⟩ = some (.slice Ao38 t268.length co38) := (qb0 BK255.out 2).trans rfl
          have hcz162_3 : wc.cell? ⟨gb255, 3, none⟩ = some (.int .i64 t253) := (qb0 BK255.out 3).trans rfl
          have hfz162_0 := qa0 BK255.out 0
          have hfz162_1 := qa0 BK255.out 1
          have hfz162_2 := qa0 BK255.out 2
          have hfz162_3 := qa0 BK255.out 3
          go_wp2_with (first | ((with_reducible refine qj0 (f := 17) rfl ?_); refine qy0 (some 100) rfl rfl Try.func17 z9_58 rfl #[.agg #[.int .i64 t248, .int .i64 t249, .slice Ao38 t268.length co38, .int .i64 t253], .int .i64 1] rfl z9_5 ?_; (with_reducible refine (laws_heldWorth.calls kj104 t248 t249 _ _ t268 t253 1 t285 _ ?side1 ?side2 A149.out).mono ?_); (case side1 => exact z9_21); (case side2 => exact (Kd.qq0 HO_256002.out).2.1); rintro e w163 ⟨rfl, hb⟩; refine ⟨_, rfl, ?_⟩; have n0_ := Aside0.mk (Kd.qp0 z9_7 hb); have n1_ := Aside0.mk (Kd.qp0 z9_8 hb); have n2_ := Aside0.mk (Kd.qp0 z9_9 hb); have n3_ := Aside0.mk (Kd.qp0 z9_70 hb); have n4_ := Aside0.mk (qf0 (g := gb225) (o := .cells #[.int .i64 a0_0, .int .i64 a0_1, .slice A0_2 l0_2.length c0_2, .int .i64 a0_3] 33 (0, 0)) z9_1 hb); have n5_ := Aside0.mk (qf0 (g := gb240) (o := .cells #[.int .i64 t233, .int .i64 t234, .slice Ao24 t235.length co24, .int .i64 t238] 37 (0, 0)) z9_2 hb); have n6_ := Aside0.mk (qf0 (g := gb247) (o := .cells #[.int .i64 t241, .int .i64 t242, .slice Ao31 t265.length co31, .int .i64 t246] 37 (0, 0)) z9_3 hb); have n7_ := Aside0.mk (qf0 (g := gb255) (o := .cells #[.int .i64 t248, .int .i64 t249, .slice Ao38 t268.length co38, .int .i64 t253] 37 (0, 0)) z9_6 hb); have n8_ := Aside0.mk (qf0 (g := gb283) (o := .cells #[.int .i64 t276, .int .i64 t277, .slice Ao125 t278.length co125, .int .i64 t281] 37 (0, 0)) z9_67 hb); have n9_ := Aside0.mk (qg0 z9_4 hb); clear HO_241002; clear HO_248002; clear HO_256002; clear HO_284002; clear BK225; clear BK240; clear BK247; clear BK255; clear BK283; clear HB; have HO_241002 := n0_; have HO_248002 := n1_; have HO_256002 := n2_; have HO_284002 := n3_; have BK225 := n4_; have BK240 := n5_; have BK247 := n6_; have BK255 := n7_; have BK283 := n8_; have HB := n9_; clear n0_ n1_ n2_ n3_ n4_ n5_ n6_ n7_ n8_ n9_; (try clear hb); (try clear hb2); (try clear hk); (try clear hi)))
          go_ret
          exact ⟨z9_37, z9_4⟩
         rw [if_neg c157] at H
         have c157b0 : (t285 == t267) = false := beq_eq_false_iff_ne.mpr c157
         have c157b1 : (t285 != t267) = true := bne_iff_ne.mpr c157
         obtain rfl := Option.some.inj H
         have hnb164 := NB255_225.out
         have hnc164 := NB225_255.out
         have hnb165 := NB255_240.out
         have hnc165 := NB240_255.out
         have hnb166 := NB255_247.out
         have hnc166 := NB247_255.out
         have hnb167 := NB255_283.out
         have hnc167 := NB283_255.out
         have hcz168_0 : wc.cell? ⟨gb255, 0, none⟩ = some (.int .i64 t248) := (qb0 BK255.out 0).trans rfl
         have hcz168_1 : wc.cell? ⟨gb255, 1, none⟩ = some (.int .i64 t249) := (qb0 BK255.out 1).trans rfl
         have hcz168_2 : wc.cell? ⟨gb255, 2, none⟩ = some (.slice Ao38 t268.length co38) := (qb0 BK255.out 2).trans rfl
         have hcz168_3 : wc.cell? ⟨gb255, 3, none⟩ = some (.int .i64 t253) := (qb0 BK255.out 3).trans rfl
         have hfz168_0 := qa0 BK255.out 0
         have hfz168_1 := qa0 BK255.out 1
         have hfz168_2 := qa0 BK255.out 2
         have hfz168_3 := qa0 BK255.out 3
         go_wp2_with (first | ((with_reducible refine qj0 (f := 17) rfl ?_); refine qy0 (some 100) rfl rfl Try.func17 z9_58 rfl #[.agg #[.int .i64 t248, .int .i64 t249, .slice Ao38 t268.length co38, .int .i64 t253], .int .i64 1] rfl z9_5 ?_; (with_reducible refine (laws_heldWorth.calls kj104 t248 t249 _ _ t268 t253 1 t285 _ ?side1 ?side2 A149.out).mono ?_); (case side1 => exact z9_21); (case side2 => exact (Kd.qq0 HO_256002.out).2.1); rintro e w169 ⟨rfl, hb⟩; refine ⟨_, rfl, ?_⟩; have n0_ := Aside0.mk (Kd.qp0 z9_7 hb); have n1_ := Aside0.mk (Kd.qp0 z9_8 hb); have n2_ := Aside0.mk (Kd.qp0 z9_9 hb); have n3_ := Aside0.mk (Kd.qp0 z9_70 hb); have n4_ := Aside0.mk (qf0 (g := gb225) (o := .cells #[.int .i64 a0_0, .int .i64 a0_1, .slice A0_2 l0_2.length c0_2, .int .i64 a0_3] 33 (0, 0)) z9_1 hb); have n5_ := Aside0.mk (qf0 (g := gb240) (o := .cells #[.int .i64 t233, .int .i64 t234, .slice Ao24 t235.length co24, .int .i64 t238] 37 (0, 0)) z9_2 hb); have n6_ := Aside0.mk (qf0 (g := gb247) (o := .cells #[.int .i64 t241, .int .i64 t242, .slice Ao31 t265.length co31, .int .i64 t246] 37 (0, 0)) z9_3 hb); have n7_ := Aside0.mk (qf0 (g := gb255) (o := .cells #[.int .i64 t248, .int .i64 t249, .slice Ao38 t268.length co38, .int .i64 t253] 37 (0, 0)) z9_6 hb); have n8_ := Aside0.mk (qf0 (g := gb283) (o := .cells #[.int .i64 t276, .int .i64 t277, .slice Ao125 t278.length co125, .int .i64 t281] 37 (0, 0)) z9_67 hb); have n9_ := Aside0.mk (qg0 z9_4 hb); clear HO_241002; clear HO_248002; clear HO_256002; clear HO_284002; clear BK225; clear BK240; clear BK247; clear BK255; clear BK283; clear HB; have HO_241002 := n0_; have HO_248002 := n1_; have HO_256002 := n2_; have HO_284002 := n3_; have BK225 := n4_; have BK240 := n5_; have BK247 := n6_; have BK255 := n7_; have BK283 := n8_; have HB := n9_; clear n0_ n1_ n2_ n3_ n4_ n5_ n6_ n7_ n8_ n9_; (try clear hb); (try clear hb2); (try clear hk); (try clear hi)))
         go_ret
         exact ⟨z9_37, z9_4⟩
      rw [if_neg c102] at H
      have c102b0 : (t269 == t267) = false := beq_eq_false_iff_ne.mpr c102
      have c102b1 : (t269 != t267) = true := bne_iff_ne.mpr c102
      obtain rfl := Option.some.inj H
      have hnb170 := NB255_225.out
      have hnc170 := NB225_255.out
      have hnb171 := NB255_240.out
      have hnc171 := NB240_255.out
      have hnb172 := NB255_247.out
      have hnc172 := NB247_255.out
      have hcz173_0 : wc.cell? ⟨gb255, 0, none⟩ = some (.int .i64 t248) := (qb0 BK255.out 0).trans rfl
      have hcz173_1 : wc.cell? ⟨gb255, 1, none⟩ = some (.int .i64 t249) := (qb0 BK255.out 1).trans rfl
      have hcz173_2 : wc.cell? ⟨gb255, 2, none⟩ = some (.slice Ao38 t250.length co38) := (qb0 BK255.out 2).trans rfl
      have hcz173_3 : wc.cell? ⟨gb255, 3, none⟩ = some (.int .i64 t253) := (qb0 BK255.out 3).trans rfl
      have hfz173_0 := qa0 BK255.out 0
      have hfz173_1 := qa0 BK255.out 1
      have hfz173_2 := qa0 BK255.out 2
      have hfz173_3 := qa0 BK255.out 3
      go_wp2_with (first | ((with_reducible refine qj0 (f := 16) rfl ?_); refine qy0 (some 72) rfl rfl Try.func16 z9_58 rfl #[.agg #[.int .i64 t248, .int .i64 t249, .slice Ao38 t250.length co38, .int .i64 t253], .int .i64 1] rfl z9_5 ?_; (with_reducible refine (laws_markWorth.calls kj61 t248 t249 (fun k_ => some k_ = (.slice Ao38 t250.length co38 : Value).ownBlock) (.slice Ao38 t250.length co38) t250 t253 1 t267 t268 w _ ?side1 ?side2 A92.out).mono ?_); (case side1 => exact z9_0); (case side2 => exact Kd.R_tight rfl HO_256002.out); rintro e w174 ⟨rfl, hy0, hb, hkp⟩; refine ⟨_, rfl, ?_⟩; have n0_ := Aside0.mk (Kd.qw0 (ok' := fun k_ => some k_ ≠ (.slice Ao31 t265.length co31 : Value).ownBlock ∧ some k_ ≠ (.slice Ao38 t250.length co38 : Value).ownBlock) (Kd.R_keptB (HO_241002.out) hkp (fun k_ hk_ hs_ => (hk_.2) hs_)) (fun k_ hk_ => ⟨hk_.1.1, hk_.1.2⟩)); have n1_ := Aside0.mk (Kd.qw0 (ok' := fun k_ => some k_ ≠ (.slice Ao24 t235.length co24 : Value).ownBlock ∧ some k_ ≠ (.slice Ao38 t250.length co38 : Value).ownBlock) (Kd.R_keptB (HO_248002.out) hkp (fun k_ hk_ hs_ => (hk_.2) hs_)) (fun k_ hk_ => ⟨hk_.1.1, hk_.1.2⟩)); have n2_ := Aside0.mk (Kd.R_reok rfl hy0 (fun k_ e_ => HO_256002.out.1 k_ e_)); have n3_ := Aside0.mk (qf1 z9_1 hkp (fun hs_ => (fun e_ => (Kd.R_ne HO_256002.out BK225.out z9_60) e_) hs_)); have n4_ := Aside0.mk (qf1 z9_2 hkp (fun hs_ => (fun e_ => (Kd.R_ne HO_256002.out BK240.out z9_60) e_) hs_)); have n5_ := Aside0.mk (qf1 z9_3 hkp (fun hs_ => (fun e_ => (Kd.R_ne HO_256002.out BK247.out z9_60) e_) hs_)); have n6_ := Aside0.mk (qf1 z9_6 hkp (fun hs_ => (fun e_ => (Kd.R_ne HO_256002.out BK255.out z9_60) e_) hs_)); have n7_ := Aside0.mk (hb); clear HO_241002; clear HO_248002; clear HO_256002; clear BK225; clear BK240; clear BK247; clear BK255; clear HB; have HO_241002 := n0_; have HO_248002 := n1_; have HO_256002 := n2_; have BK225 := n3_; have BK240 := n4_; have BK247 := n5_; have BK255 := n6_; have HB := n7_; clear n0_ n1_ n2_ n3_ n4_ n5_ n6_ n7_; (try clear hb); (try clear hkp); (try clear hy0); have hcz175_0 : w174.cell? ⟨gb255, 0, none⟩ = some (.int .i64 t248) := (qb0 BK255.out 0).trans rfl; have hcz175_1 : w174.cell? ⟨gb255, 1, none⟩ = some (.int .i64 t249) := (qb0 BK255.out 1).trans rfl; have hcz175_2 : w174.cell? ⟨gb255, 2, none⟩ = some (.slice Ao38 t250.length co38) := (qb0 BK255.out 2).trans rfl; have hcz175_3 : w174.cell? ⟨gb255, 3, none⟩ = some (.int .i64 t253) := (qb0 BK255.out 3).trans rfl; have hfz175_0 := qa0 BK255.out 0; have hfz175_1 := qa0 BK255.out 1; have hfz175_2 := qa0 BK255.out 2; have hfz175_3 := qa0 BK255.out 3) | ((with_reducible refine qj0 (f := 17) rfl ?_); refine qy0 (some 75) rfl rfl Try.func17 z9_58 rfl #[.agg #[.int .i64 t248, .int .i64 t249, .slice Ao38 t268.length co38, .int .i64 t253], .int .i64 1] rfl z9_48 ?_; (with_reducible refine (laws_heldWorth.calls kj61 t248 t249 _ _ t268 t253 1 t269 _ ?side1 ?side2 A93.out).mono ?_); (case side1 => exact z9_21); (case side2 => exact z9_69); rintro e w176 ⟨rfl, hb⟩; refine ⟨_, rfl, ?_⟩; have n0_ := Aside0.mk (Kd.qp0 z9_7 hb); have n1_ := Aside0.mk (Kd.qp0 z9_8 hb); have n2_ := Aside0.mk (Kd.qp0 z9_9 hb); have n3_ := Aside0.mk (qf0 (g := gb225) (o := .cells #[.int .i64 a0_0, .int .i64 a0_1, .slice A0_2 l0_2.length c0_2, .int .i64 a0_3] 33 (0, 0)) z9_1 hb); have n4_ := Aside0.mk (qf0 (g := gb240) (o := .cells #[.int .i64 t233, .int .i64 t234, .slice Ao24 t235.length co24, .int .i64 t238] 37 (0, 0)) z9_2 hb); have n5_ := Aside0.mk (qf0 (g := gb247) (o := .cells #[.int .i64 t241, .int .i64 t242, .slice Ao31 t265.length co31, .int .i64 t246] 37 (0, 0)) z9_3 hb); have n6_ := Aside0.mk (qf0 (g := gb255) (o := .cells #[.int .i64 t248, .int .i64 t249, .slice Ao38 t250.length co38, .int .i64 t253] 37 (0, 0)) z9_6 hb); have n7_ := Aside0.mk (qg0 z9_0 hb); clear HO_241002; clear HO_248002; clear HO_256002; clear BK225; clear BK240; clear BK247; clear BK255; clear HB; have HO_241002 := n0_; have HO_248002 := n1_; have HO_256002 := n2_; have BK225 := n3_; have BK240 := n4_; have BK247 := n5_; have BK255 := n6_; have HB := n7_; clear n0_ n1_ n2_ n3_ n4_ n5_ n6_ n7_; (try clear hb); (try clear hb2); (try clear hk); (try clear hi)))
      go_ret
      exact ⟨z9_37, z9_0⟩
   replace c60 := Bool.eq_false_iff.mpr c60
   subst c60
   have H1 : (some false) = some r := by rw [if_neg (show ¬ (false = true) from z9_60)] at H; exact H
   clear H
   have H := H1
   clear H1
   obtain rfl := Option.some.inj H
   try go_wp2
   have n0_ := Aside0.mk (Kd.qx0 HO_241002.out)
   have n1_ := Aside0.mk (Kd.qx0 HO_248002.out)
   have n2_ := Aside0.mk (Kd.qx0 HO_256002.out)
   have n3_ := Aside0.mk (qe0 BK225.out)
   have n4_ := Aside0.mk (qe0 BK240.out)
   have n5_ := Aside0.mk (qe0 BK247.out)
   have n6_ := Aside0.mk (qe0 BK255.out)
   have n7_ := Aside0.mk (qi0 HB.out)
   clear HO_241002
   clear HO_248002
   clear HO_256002
   clear BK225
   clear BK240
   clear BK247
   clear BK255
   clear HB
   have HO_241002 := n0_
   have HO_248002 := n1_
   have HO_256002 := n2_
   have BK225 := n3_
   have BK240 := n4_
   have BK247 := n5_
   have BK255 := n6_
   have HB := n7_
   clear n0_ n1_ n2_ n3_ n4_ n5_ n6_ n7_
   refine start_ (n := 5) (S := fun w' => w'.cell? ⟨gb247, 0, none⟩ = some (.int .i64 t241) ∧ w'.cell? ⟨gb247, 1, none⟩ = some (.int .i64 t242) ∧ w'.cell? ⟨gb247, 2, none⟩ = some (.slice Ao31 t243.length co31) ∧ w'.cell? ⟨gb247, 3, none⟩ = some (.int .i64 t246) ∧ w'.cell? ⟨gb225, 0, none⟩ = some (.int .i64 a0_0) ∧ w'.cell? ⟨gb225, 1, none⟩ = some (.int .i64 a0_1) ∧ w'.cell? ⟨gb225, 2, none⟩ = some (.slice A0_2 l0_2.length c0_2) ∧ w'.cell? ⟨gb225, 3, none⟩ = some (.int .i64 a0_3)) (ds := []) #[false, false, false, false, false] z9_58 rfl rfl ⟨(qb0 BK247.out 0).trans rfl, (qb0 BK247.out 1).trans rfl, (qb0 BK247.out 2).trans rfl, (qb0 BK247.out 3).trans rfl, (qb0 BK225.out 0).trans rfl, (qb0 BK225.out 1).trans rfl, (qb0 BK225.out 2).trans rfl, (qb0 BK225.out 3).trans rfl⟩ (fun hHeld => ?_)
   generalize wc.drew = w177 at HO_241002 HO_248002 HO_256002 BK225 BK240 BK247 BK255 HB hHeld ⊢
   refine take_ (i := 0) (N := some 49) (v := ?_) (a' := ?_) #[true, false, false, false, false] rfl rfl z9_58 (fun _ _ _ h => h) (Or.inl ⟨by rfl, ?_⟩) hHeld ?_ ?_
   rotate_left
   ·rintro w' ⟨s0, s1, s2, s3, s4, s5, s6, s7⟩
    go_simp
    with_reducible rfl
   rotate_left
   ·simp only [Act.put, List.setIfInBounds_toArray, List.set_cons_zero, List.set_cons_succ, i64_w, i32_w]
    rfl
   refine take_ (i := 1) (N := some 50) (v := ?_) (a' := ?_) #[true, true, false, false, false] rfl rfl z9_58 (fun _ _ _ h => h) (Or.inl ⟨by rfl, ?_⟩) hHeld ?_ ?_
   rotate_left
   ·rintro w' ⟨s0, s1, s2, s3, s4, s5, s6, s7⟩
    go_simp
    with_reducible rfl
   rotate_left
   ·simp only [Act.put, List.setIfInBounds_toArray, List.set_cons_zero, List.set_cons_succ, i64_w, i32_w]
    rfl
   refine one_ (i := 2) (N := some 51) #[true, true, true, false, false] rfl rfl z9_58 z9_60 (fun K hK => ?_)
   refine goes_ Try.func13 z9_58 rfl #[.agg #[.int .i64 a0_0, .int .i64 a0_1, .slice A0_2 l0_2.length c0_2, .int .i64 a0_3]] (by rfl) rfl rfl z9_5 ?_
   with_reducible refine (laws_toWorth.calls kj12 a0_0 a0_1 _ _ l0_2 a0_3 t257 t258 t259 t262 _ ?side1 ?side2 A58.out).mono ?_
   (case side1 => exact z9_34)
   (case side2 => exact HC0_2.out)
   rintro e w178 ⟨v260, rfl, ho0, hb⟩
   refine ⟨_, rfl, ?_⟩
   have n0_ := Aside0.mk (Kd.qg1 z9_7 (Kd.qn1 ho0) hb)
   have n1_ := Aside0.mk (Kd.qg1 z9_8 (Kd.qn1 ho0) hb)
   have n2_ := Aside0.mk (Kd.qg1 z9_9 (Kd.qn1 ho0) hb)
   have n3_ := Aside0.mk (Kd.qh1 (Kd.qm1 (Kd.qm1 (Kd.qm1 ho0 (Kd.R_lt z9_7)) (Kd.R_lt z9_8)) (Kd.R_lt z9_9)) (qn0 z9_0))
   have n4_ := Aside0.mk (qf0 (g := gb225) (o := .cells #[.int .i64 a0_0, .int .i64 a0_1, .slice A0_2 l0_2.length c0_2, .int .i64 a0_3] 33 (0, 0)) z9_1 hb)
   have n5_ := Aside0.mk (qf0 (g := gb240) (o := .cells #[.int .i64 t233, .int .i64 t234, .slice Ao24 t235.length co24, .int .i64 t238] 37 (0, 0)) z9_2 hb)
   have n6_ := Aside0.mk (qf0 (g := gb247) (o := .cells #[.int .i64 t241, .int .i64 t242, .slice Ao31 t243.length co31, .int .i64 t246] 37 (0, 0)) z9_3 hb)
   have n7_ := Aside0.mk (qf0 (g := gb255) (o := .cells #[.int .i64 t248, .int .i64 t249, .slice Ao38 t250.length co38, .int .i64 t253] 37 (0, 0)) z9_6 hb)
   have n8_ := Aside0.mk (qg0 z9_0 hb)
   clear HO_241002
   clear HO_248002
   clear HO_256002
   clear BK225
   clear BK240
   clear BK247
   clear BK255
   clear HB
   have HO_241002 := n0_
   have HO_248002 := n1_
   have HO_256002 := n2_
   have HO261 := n3_
   have BK225 := n4_
   have BK240 := n5_
   have BK247 := n6_
   have BK255 := n7_
   have HB := n8_
   clear n0_ n1_ n2_ n3_ n4_ n5_ n6_ n7_ n8_
   (try clear hb)
   (try clear hb2)
   (try clear hk)
   (try clear hi)
   (try clear ho0)
   obtain ⟨Ao179, co179, eo179⟩ := Kd.qb1 HO261.out
   (first | subst eo179 | (injection eo179 with f1_ f2_ f3_; have f4_ := f1_.symm; have f5_ := f3_.symm; clear f1_ f2_ f3_; subst f4_; subst f5_))
   refine hK.out _ _ ⟨(qb0 BK247.out 0).trans rfl, (qb0 BK247.out 1).trans rfl, (qb0 BK247.out 2).trans rfl, (qb0 BK247.out 3).trans rfl, (qb0 BK225.out 0).trans rfl, (qb0 BK225.out 1).trans rfl, (qb0 BK225.out 2).trans rfl, (qb0 BK225.out 3).trans rfl⟩ (fun hHeld => ?_)
   clear hK K
   refine norm_ (a' := ?_) ?_ ?_
   rotate_left
   ·show Act.put _ (some 51) _ = _
    simp only [Act.put, List.setIfInBounds_toArray, List.set_cons_zero, List.set_cons_succ, i64_w, i32_w]
    rfl
   refine one_ (i := 3) (N := some 52) #[true, true, true, true, false] rfl rfl z9_58 z9_60 (fun K hK => ?_)
   refine goes_ Try.func15 z9_58 rfl #[.agg #[.int .i64 t241, .int .i64 t242, .slice Ao31 t243.length co31, .int .i64 t246], .agg #[.int .i64 t257, .int .i64 t258, .slice Ao179 t259.length co179, .int .i64 t262]] (by rfl) rfl rfl z9_5 ?_
   with_reducible refine (laws_eqWorth.calls kj12 t241 t242 _ _ t243 t246 t257 t258 _ _ t259 t262 false _ ?side1 ?side2 ?side3 ?side4 A59.out).mono ?_
   (case side1 => exact z9_65)
   (case side2 => exact (Kd.qq0 HO_248002.out).2.1)
   (case side3 => exact z9_68)
   (case side4 => exact (Kd.qq0 HO261.out).2.1)
   rintro e w180 ⟨rfl, hb⟩
   refine ⟨_, rfl, ?_⟩
   have n0_ := Aside0.mk (Kd.qp0 z9_7 hb)
   have n1_ := Aside0.mk (Kd.qp0 z9_8 hb)
   have n2_ := Aside0.mk (Kd.qp0 z9_9 hb)
   have n3_ := Aside0.mk (Kd.qp0 z9_57 hb)
   have n4_ := Aside0.mk (qf0 (g := gb225) (o := .cells #[.int .i64 a0_0, .int .i64 a0_1, .slice A0_2 l0_2.length c0_2, .int .i64 a0_3] 33 (0, 0)) z9_1 hb)
   have n5_ := Aside0.mk (qf0 (g := gb240) (o := .cells #[.int .i64 t233, .int .i64 t234, .slice Ao24 t235.length co24, .int .i64 t238] 37 (0, 0)) z9_2 hb)
   have n6_ := Aside0.mk (qf0 (g := gb247) (o := .cells #[.int .i64 t241, .int .i64 t242, .slice Ao31 t243.length co31, .int .i64 t246] 37 (0, 0)) z9_3 hb)
   have n7_ := Aside0.mk (qf0 (g := gb255) (o := .cells #[.int .i64 t248, .int .i64 t249, .slice Ao38 t250.length co38, .int .i64 t253] 37 (0, 0)) z9_6 hb)
   have n8_ := Aside0.mk (qg0 z9_0 hb)
   clear HO_241002
   clear HO_248002
   clear HO_256002
   clear HO261
   clear BK225
   clear BK240
   clear BK247
   clear BK255
   clear HB
   have HO_241002 := n0_
   have HO_248002 := n1_
   have HO_256002 := n2_
   have HO261 := n3_
   have BK225 := n4_
   have BK240 := n5_
   have BK247 := n6_
   have BK255 := n7_
   have HB := n8_
   clear n0_ n1_ n2_ n3_ n4_ n5_ n6_ n7_ n8_
   (try clear hb)
   (try clear hb2)
   (try clear hk)
   (try clear hi)
   refine hK.out _ _ ⟨(qb0 BK247.out 0).trans rfl, (qb0 BK247.out 1).trans rfl, (qb0 BK247.out 2).trans rfl, (qb0 BK247.out 3).trans rfl, (qb0 BK225.out 0).trans rfl, (qb0 BK225.out 1).trans rfl, (qb0 BK225.out 2).trans rfl, (qb0 BK225.out 3).trans rfl⟩ (fun hHeld => ?_)
   clear hK K
   refine norm_ (a' := ?_) ?_ ?_
   rotate_left
   ·show Act.put _ (some 52) _ = _
    simp only [Act.put, List.setIfInBounds_toArray, List.set_cons_zero, List.set_cons_succ, i64_w, i32_w]
    rfl
   refine pure_ (i := 4) (N := some 53) (v := ?_) (a' := ?_) #[true, true, true, true, true] rfl rfl z9_58 (fun _ _ _ h => h) (Or.inl ⟨by rfl, ?_⟩) ?_ ?_
   rotate_left
   ·intro w'
    go_simp
    with_reducible rfl
   rotate_left
   ·simp only [Act.put, List.setIfInBounds_toArray, List.set_cons_zero, List.set_cons_succ, i64_w, i32_w]
    rfl
   refine done_ z9_58 ?_
   try go_wp2
   go_ret
   exact ⟨z9_37, z9_0⟩

/-- THE ONE PURE STATEMENT of laws_FnExactTakeIn. -/
def laws_FnExactTakeIn.Pure : Prop := ∀ (a0_0 : Int) (a0_1 : Int) (l0_2 : List (S73)) (a0_3 : Int) (a1 : Int) (a2 : Int), ((Lit.int .i64 a0_0).wf = true) → ((Lit.int .i64 a0_1).wf = true) → ((l0_2.length ≤ maxLen ∧ ∀ a_ ∈ l0_2, G73 a_)) → ((Lit.int .i64 a0_3).wf = true) → ((Lit.int .i64 a1).wf = true) → ((Lit.int .i64 a2).wf = true) → ∃ k, laws_FnExactTakeIn.f k a0_0 a0_1 l0_2 a0_3 a1 a2 = some true

end Go.Proofs.Ytggfggmmecbdnaa.PFnExactTakeIn
