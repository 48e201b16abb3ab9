/- Lines by a program (a changed copy of the kit's print: this repo's wip/tools): Go functions as Lean functions, and proofs that the calls answer so. -/
import Derived.Test.YtkkdmmefnicmaaaZPFnUnitsx0
import Derived.Test.YtkkdmmefnicmaaaZPFnUnitsx1
namespace Go.Proofs.Ytkkdmmefnicmaaa.PFnUnits
open Go.RowKit Go.Proofs.YtkkdmmefnicmaaaW.PrintWords Go.Proofs.YtkkdmmefnicmaaaW.PrintLast Go.Proofs.YtkkdmmefnicmaaaW.PrintMore
attribute [local go_sem] max2_int min2_int max_two min_two max_three min_three max_four min_four   -- for this text's walks alone
set_option linter.unusedVariables false
set_option linter.unusedSimpArgs false
set_option maxHeartbeats 8000000 in
set_option maxRecDepth 100000 in
/-- A map of two pairs, built in whatever order. -/
theorem maplit_17 (k1 k2 : ByteArray) (h1 : ∃ kl, keyOf kz115.P kz115.kt (kz115.enc k1) = some kl) (h2 : ∃ kl, keyOf kz115.P kz115.kt (kz115.enc k2) = some kl) {Q : Exit → Act → World → Prop} {w : World} {x0 x1 x4 x5 x6 x7 x8 x9 x10 x11 x12 x13 x14 x15 x16 x17 x18 x19 x20 x21 x22 x23 x24 x25 x26 x27 x28 x29 x30 x31 x32 x33 x34 x35 x36 x37 x38 x39 x40 x41 x42 x43 x44 x45 x46 x47 x48 x49 x50 x51 x52 x53 x54 x55 x56 x57 x58 x59 x60 x61 x62 x63 x64 x65 x66 x67 x68 x69 x70 x71 x72 x73 x74 x75 x76 x77 x78 x79 x80 x81 x82 x83 x84 x85 x86 x87 x88 x89 x90 x91 x92 x93 x94 x95 x96 x97 x98 x99 x100 x101 x102 x103 x104 x105 x106 x107 x108 x109 x110 x111 x112 x113 x114 x115 x116 x117 x118 x119 x120 x121 x122 x123 x124 x125 x126 x127 x128 x129 x130 x131 x132 x133 x134 x135 x136 x137 x138 x139 x140 x141 x142 x143 x144 x145 x146 x147 x148 x149 x150 x151 x152 x153 x154 x155 x156 x157 x158 x159 x160 x161 x162 x163 x164 x165 x166 x167 x168 x169 x170 x171 x172 x173 x174 x175 : Value} (hQ : ∀ c a (N : Nat) v w, Q (.panic c) (Act.put a (some N) v) w → Q (.panic c) a w)
    (h : ∀ mb, mb = w.heap.size → ∀ w1, Kd.Z kz115 115 w1 w.heap.size (fun _ => True) (.map (some mb)) (mset (mset [] k1 true) k2 true) → Below w.heap.size w w1 → Q .normal { tmps := #[x0, x1, .string k1, .string k2, x4, x5, x6, x7, x8, x9, .map (some mb), x11, x12, x13, x14, x15, x16, x17, x18, x19, x20, x21, x22, x23, x24, x25, x26, x27, x28, x29, x30, x31, x32, x33, x34, x35, x36, x37, x38, x39, .map (some mb), .string k1, .string k2, .map (some mb), x44, x45, x46, x47, x48, x49, x50, x51, x52, x53, x54, x55, x56, x57, x58, x59, x60, x61, x62, x63, x64, x65, x66, x67, x68, x69, x70, x71, x72, x73, x74, x75, x76, x77, x78, x79, x80, x81, x82, x83, x84, x85, x86, x87, x88, x89, x90, x91, x92, x93, x94, x95, x96, x97, x98, x99, x100, x101, x102, x103, x104, x105, x106, x107, x108, x109, x110, x111, x112, x113, x114, x115, x116, x117, x118, x119, x120, x121, x122, x123, x124, x125, x126, x127, x128, x129, x130, x131, x132, x133, x134, x135, x136, x137, x138, x139, x140, x141, x142, x143, x144, x145, x146, x147, x148, x149, x150, x151, x152, x153, x154, x155, x156, x157, x158, x159, x160, x161, x162, x163, x164, x165, x166, x167, x168, x169, x170, x171, x172, x173, x174, x175], defers := [] } w1) :
    (Code.region 3 #[{ dst := some 40, op := Op.makeMap 115 none, type := 115, pos := "t15_stock.go:26", after := #[], guard := none }, { dst := some 41, op := Op.move (Operand.tmp 2), type := 9, pos := "t15_stock.go:26", after := #[], guard := none }, { dst := none, op := Op.insert 115 (Operand.tmp 40) (Operand.tmp 41) (Operand.const (Value.bool true)), type := 0, pos := "t15_stock.go:26", after := #[{ on := 0, ground := Ground.data }, { on := 1, ground := Ground.data }], guard := none }, { dst := some 42, op := Op.move (Operand.tmp 3), type := 9, pos := "t15_stock.go:26", after := #[], guard := none }, { dst := none, op := Op.insert 115 (Operand.tmp 40) (Operand.tmp 42) (Operand.const (Value.bool true)), type := 0, pos := "t15_stock.go:26", after := #[{ on := 0, ground := Ground.data }, { on := 3, ground := Ground.data }], guard := none }, { dst := some 43, op := Op.move (Operand.tmp 40), type := 115, pos := "t15_stock.go:26", after := #[{ on := 0, ground := Ground.data }, { on := 1, ground := Ground.data }, { on := 2, ground := Ground.data }, { on := 3, ground := Ground.data }, { on := 4, ground := Ground.data }], guard := none }, { dst := some 10, op := Op.assign (Operand.tmp 43), type := 115, pos := "t15_stock.go:26", after := #[{ on := 5, ground := Ground.data }, { on := 0, ground := Ground.phase }, { on := 1, ground := Ground.phase }, { on := 2, ground := Ground.phase }, { on := 3, ground := Ground.phase }, { on := 4, ground := Ground.phase }, { on := 5, ground := Ground.phase }], guard := none }] true).wp Try.prog Q { tmps := #[x0, x1, .string k1, .string k2, x4, x5, x6, x7, x8, x9, x10, x11, x12, x13, x14, x15, x16, x17, x18, x19, x20, x21, x22, x23, x24, x25, x26, x27, x28, x29, x30, x31, x32, x33, x34, x35, x36, x37, x38, x39, x40, x41, x42, x43, x44, x45, x46, x47, x48, x49, x50, x51, x52, x53, x54, x55, x56, x57, x58, x59, x60, x61, x62, x63, x64, x65, x66, x67, x68, x69, x70, x71, x72, x73, x74, x75, x76, x77, x78, x79, x80, x81, x82, x83, x84, x85, x86, x87, x88, x89, x90, x91, x92, x93, x94, x95, x96, x97, x98, x99, x100, x101, x102, x103, x104, x105, x106, x107, x108, x109, x110, x111, x112, x113, x114, x115, x116, x117, x118, x119, x120, x121, x122, x123, x124, x125, x126, x127, x128, x129, x130, x131, x132, x133, x134, x135, x136, x137, x138, x139, x140, x141, x142, x143, x144, x145, x146, x147, x148, x149, x150, x151, x152, x153, x154, x155, x156, x157, x158, x159, x160, x161, x162, x163, x164, x165, x166, x167, x168, x169, x170, x171, x172, x173, x174, x175], defers := [] } w := by
  refine start_ (n := 7) (S := fun _ => True) (ds := []) #[false, false, false, false, false, false, false] (by kernel_rfl) rfl rfl trivial (fun _ => ?_)
  refine pure_ (i := 1) (N := some 41) (v := ?_) (a' := ?_) #[false, true, false, false, false, false, false] rfl rfl (by kernel_rfl) (fun c a w h => hQ c a 41 _ w h) (Or.inl ⟨by rfl, ?_⟩) ?_ ?_
  rotate_left
  · intro w'
    go_simp
    with_reducible rfl
  rotate_left
  · simp only [Act.put, List.setIfInBounds_toArray, List.set_cons_zero, List.set_cons_succ]
    rfl
  refine pure_ (i := 3) (N := some 42) (v := ?_) (a' := ?_) #[false, true, false, true, false, false, false] rfl rfl (by kernel_rfl) (fun c a w h => hQ c a 42 _ w h) (Or.inl ⟨by rfl, ?_⟩) ?_ ?_
  rotate_left
  · intro w'
    go_simp
    with_reducible rfl
  rotate_left
  · simp only [Act.put, List.setIfInBounds_toArray, List.set_cons_zero, List.set_cons_succ]
    rfl
  refine one_ (i := 0) (N := some 40) #[true, true, false, true, false, false, false] rfl rfl (by kernel_rfl) (by decide) (fun K hK => ?_)
  rw [if_pos (by rfl)]
  refine Kd.Z_make_wp kz115 115 (ok := fun _ => True) rfl trivial ?_
  intro mb hq0 w2 HZ0 hb
  have HQ := Aside0.mk hq0
  clear hq0
  have HB0 : Below w.heap.size w w2 := ⟨hb.os, hb.tape, hb.output, hb.size, hb.block⟩
  refine hK.out _ _ trivial (fun _ => ?_)
  clear hK K hb
  refine norm_ (a' := ?_) ?_ ?_
  rotate_left
  · show Act.put _ (some 40) _ = _
    simp only [Act.put, List.setIfInBounds_toArray, List.set_cons_zero, List.set_cons_succ]
    rfl
  refine two_ (i := 2) (j := 4) (Ni := none) (Nj := none) #[true, true, true, true, false, false, false] #[true, true, false, true, true, false, false] rfl rfl rfl rfl (by kernel_rfl) (by decide) (by decide) (fun K hK => ?_) (fun K hK => ?_)
  · skip
    rw [if_pos (by rfl)]
    refine Kd.Z_ins_wp (base := w.heap.size) (ok := fun _ => True) kz115 115 rfl _ _ _ 115 rfl rfl kz115_K kz115_inj kz115_t mb [] k1 true rfl rfl rfl h1 HZ0 ?_
    intro w3 HZ1 hg hbb
    have HB1 := qd1 HB0 (some mb) (ql0 HB0) hg (fun k_ e_ => by cases e_; exact hbb)
    refine hK.out _ _ trivial (fun _ => ?_)
    clear hK K hg
    refine one_ (i := 4) (N := none) #[true, true, true, true, true, false, false] rfl rfl (by kernel_rfl) (by decide) (fun K hK => ?_)
    rw [if_pos (by rfl)]
    refine Kd.Z_ins_wp (base := w.heap.size) (ok := fun _ => True) kz115 115 rfl _ _ _ 115 rfl rfl kz115_K kz115_inj kz115_t mb (mset [] k1 true) k2 true rfl rfl rfl h2 HZ1 ?_
    intro w4 HZ2 hg hbb
    have HB2 := qd1 HB1 (some mb) (ql0 HB1) hg (fun k_ e_ => by cases e_; exact hbb)
    refine hK.out _ _ trivial (fun _ => ?_)
    clear hK K hg
    refine pure_ (i := 5) (N := some 43) (v := ?_) (a' := ?_) #[true, true, true, true, true, true, false] rfl rfl (by kernel_rfl) (fun c a w h => hQ c a 43 _ w h) (Or.inl ⟨by rfl, ?_⟩) ?_ ?_
    rotate_left
    · intro w'
      go_simp
      with_reducible rfl
    rotate_left
    · simp only [Act.put, List.setIfInBounds_toArray, List.set_cons_zero, List.set_cons_succ]
      rfl
    refine pure_ (i := 6) (N := some 10) (v := ?_) (a' := ?_) #[true, true, true, true, true, true, true] rfl rfl (by kernel_rfl) (fun c a w h => hQ c a 10 _ w h) (Or.inl ⟨by rfl, ?_⟩) ?_ ?_
    rotate_left
    · intro w'
      go_simp
      with_reducible rfl
    rotate_left
    · simp only [Act.put, List.setIfInBounds_toArray, List.set_cons_zero, List.set_cons_succ]
      rfl
    refine done_ (by kernel_rfl) ?_
    exact h mb HQ.out _ (HZ2) HB2
  · skip
    rw [if_pos (by rfl)]
    refine Kd.Z_ins_wp (base := w.heap.size) (ok := fun _ => True) kz115 115 rfl _ _ _ 115 rfl rfl kz115_K kz115_inj kz115_t mb [] k2 true rfl rfl rfl h2 HZ0 ?_
    intro w3 HZ1 hg hbb
    have HB1 := qd1 HB0 (some mb) (ql0 HB0) hg (fun k_ e_ => by cases e_; exact hbb)
    refine hK.out _ _ trivial (fun _ => ?_)
    clear hK K hg
    refine one_ (i := 2) (N := none) #[true, true, true, true, true, false, false] rfl rfl (by kernel_rfl) (by decide) (fun K hK => ?_)
    rw [if_pos (by rfl)]
    refine Kd.Z_ins_wp (base := w.heap.size) (ok := fun _ => True) kz115 115 rfl _ _ _ 115 rfl rfl kz115_K kz115_inj kz115_t mb (mset [] k2 true) k1 true rfl rfl rfl h1 HZ1 ?_
    intro w4 HZ2 hg hbb
    have HB2 := qd1 HB1 (some mb) (ql0 HB1) hg (fun k_ e_ => by cases e_; exact hbb)
    refine hK.out _ _ trivial (fun _ => ?_)
    clear hK K hg
    refine pure_ (i := 5) (N := some 43) (v := ?_) (a' := ?_) #[true, true, true, true, true, true, false] rfl rfl (by kernel_rfl) (fun c a w h => hQ c a 43 _ w h) (Or.inl ⟨by rfl, ?_⟩) ?_ ?_
    rotate_left
    · intro w'
      go_simp
      with_reducible rfl
    rotate_left
    · simp only [Act.put, List.setIfInBounds_toArray, List.set_cons_zero, List.set_cons_succ]
      rfl
    refine pure_ (i := 6) (N := some 10) (v := ?_) (a' := ?_) #[true, true, true, true, true, true, true] rfl rfl (by kernel_rfl) (fun c a w h => hQ c a 10 _ w h) (Or.inl ⟨by rfl, ?_⟩) ?_ ?_
    rotate_left
    · intro w'
      go_simp
      with_reducible rfl
    rotate_left
    · simp only [Act.put, List.setIfInBounds_toArray, List.set_cons_zero, List.set_cons_succ]
      rfl
    refine done_ (by kernel_rfl) ?_
    exact h mb HQ.out _ (Kd.Z_congr HZ2 (fun x => by simp only [mget_set]; by_cases e1 : k1 = x <;> by_cases e2 : k2 = x <;> simp [e1, e2])) HB2
/-! ### impl_QtyIn: function 17 -/
mutual
def impl_QtyIn.j0 : Nat → List (S35) → Int → ByteArray → ByteArray → Bool → Option (Int × Bool)
  | 0, _, _, _, _, _ => none
  | k + 1, x0, x1, x2, x3, x39 => if x39 = true then (some (0, false)) else (if x2.size ≤ 9223372036854775807 then (if x3.size ≤ 9223372036854775807 then (impl_QtyIn.l0 k x0 x1 x2 x3 (mset (mset ([] : List (ByteArray × Bool)) x2 true) x3 true) x0 (x0.length : Int) 0) else (none)) else (none))
def impl_QtyIn.l0 : Nat → List (S35) → Int → ByteArray → ByteArray → List (ByteArray × Bool) → List (S35) → Int → Int → Option (Int × Bool)
  | 0, _, _, _, _, _, _, _, _ => none
  | k + 1, x0, x1, x2, x3, x10, x44, x45, x46 => if x46 < x45 then (if 0 ≤ x46 then (if x46 < (x44.length : Int) then ((impl_convOk.f k ((rd_T35 x44 x46).f0) ((rd_T35 x44 x46).f1) ((rd_T35 x44 x46).f2) ((rd_T35 x44 x46).f3)).bind fun t117 => (if t117 = true then (if ((rd_T35 x44 x46).f0).size ≤ 9223372036854775807 then (if ((rd_T35 x44 x46).f1).size ≤ 9223372036854775807 then (impl_QtyIn.l0 k x0 x1 x2 x3 (mset (mset x10 ((rd_T35 x44 x46).f0) true) ((rd_T35 x44 x46).f1) true) x44 x45 (wrap64 (x46 + 1))) else (none)) else (none)) else (some (0, false)))) else (none)) else (none)) else (if x2.toList = x3.toList then (some (x1, true)) else (if x2.size ≤ 9223372036854775807 then (impl_QtyIn.l1 k x0 x1 x3 (mdel x10 x2) (([(⟨x2, 1, 1, 0⟩ : S118)] : List (S118)))) else (none)))
def impl_QtyIn.l1 : Nat → List (S35) → Int → ByteArray → List (ByteArray × Bool) → List (S118) → Option (Int × Bool)
  | 0, _, _, _, _, _ => none
  | k + 1, x0, x1, x3, x10, x13 => if (x13.length : Int) > 0 then (if 0 < (x13.length : Int) then (if 1 ≤ (x13.length : Int) then ((some (x13.drop (1 : Int).toNat : List (S118))).bind fun y126 => (if ((rd_T118 x13 0).f3) = 4 then (impl_QtyIn.l1 k x0 x1 x3 x10 y126) else (impl_QtyIn.l2 k x0 x1 x3 x10 y126 x0 (x0.length : Int) 0 ((rd_T118 x13 0).f0) ((rd_T118 x13 0).f1) ((rd_T118 x13 0).f2) ((rd_T118 x13 0).f3)))) else (none)) else (none)) else (some (0, false))
def impl_QtyIn.l2 : Nat → List (S35) → Int → ByteArray → List (ByteArray × Bool) → List (S118) → List (S35) → Int → Int → ByteArray → Int → Int → Int → Option (Int × Bool)
  | 0, _, _, _, _, _, _, _, _, _, _, _, _ => none
  | k + 1, x0, x1, x3, x10, x13, x80, x81, x82, x126000, x126001, x126002, x126003 => if x82 < x81 then (if 0 ≤ x82 then (if x82 < (x80.length : Int) then (if ((rd_T35 x80 x82).f0).toList = x126000.toList then (impl_QtyIn.j4 k x0 x1 x3 x10 x13 x80 x81 x82 x126000 x126001 x126002 x126003 ((rd_T35 x80 x82).f1) (wrap64 (x126001 * ((rd_T35 x80 x82).f2))) (wrap64 (x126002 * ((rd_T35 x80 x82).f3))) (wrap64 (x126003 + 1))) else (if ((rd_T35 x80 x82).f1).toList = x126000.toList then (impl_QtyIn.j4 k x0 x1 x3 x10 x13 x80 x81 x82 x126000 x126001 x126002 x126003 ((rd_T35 x80 x82).f0) (wrap64 (x126001 * ((rd_T35 x80 x82).f3))) (wrap64 (x126002 * ((rd_T35 x80 x82).f2))) (wrap64 (x126003 + 1))) else (impl_QtyIn.l2 k x0 x1 x3 x10 x13 x80 x81 (wrap64 (x82 + 1)) x126000 x126001 x126002 x126003))) else (none)) else (none)) else (impl_QtyIn.l1 k x0 x1 x3 x10 x13)
def impl_QtyIn.j4 : Nat → List (S35) → Int → ByteArray → List (ByteArray × Bool) → List (S118) → List (S35) → Int → Int → ByteArray → Int → Int → Int → ByteArray → Int → Int → Int → Option (Int × Bool)
  | 0, _, _, _, _, _, _, _, _, _, _, _, _, _, _, _, _ => none
  | k + 1, x0, x1, x3, x10, x13, x80, x81, x82, x126000, x126001, x126002, x126003, x132000, x132001, x132002, x132003 => if x132000.size ≤ 9223372036854775807 then (if ((mget x10 x132000).getD false = true) then (if x132000.toList = x3.toList then ((impl_gcd.f k x132001 x132002).bind fun t136 => (if t136 = 0 then (none) else (if (wrap64 (Int.tdiv x132002 t136)) = 0 then (none) else (if (Int.tmod x1 (wrap64 (Int.tdiv x132002 t136))) = 0 then (if (wrap64 (Int.tdiv x1 (wrap64 (Int.tdiv x132002 t136)))) > 0 then (if (wrap64 (Int.tdiv x1 (wrap64 (Int.tdiv x132002 t136)))) = 0 then (none) else (if (wrap64 (Int.tdiv x132001 t136)) > (wrap64 (Int.tdiv (1000000 : Int) (wrap64 (Int.tdiv x1 (wrap64 (Int.tdiv x132002 t136)))))) then (some (0, false)) else (some (wrap64 ((wrap64 (Int.tdiv x1 (wrap64 (Int.tdiv x132002 t136)))) * (wrap64 (Int.tdiv x132001 t136))), true)))) else (some (wrap64 ((wrap64 (Int.tdiv x1 (wrap64 (Int.tdiv x132002 t136)))) * (wrap64 (Int.tdiv x132001 t136))), true))) else (some (0, false)))))) else (if x13.length < 3518437208883 then (impl_QtyIn.l2 k x0 x1 x3 (mdel x10 x132000) (x13 ++ [(⟨x132000, x132001, x132002, x132003⟩ : S118)]) x80 x81 (wrap64 (x82 + 1)) x126000 x126001 x126002 x126003) else (none))) else (impl_QtyIn.l2 k x0 x1 x3 x10 x13 x80 x81 (wrap64 (x82 + 1)) x126000 x126001 x126002 x126003)) else (none)
end
def impl_QtyIn.f (k : Nat) (l0 : List (S35)) (a1 : Int) (a2 : ByteArray) (a3 : ByteArray) : Option (Int × Bool) := if (l0.length : Int) > 40 then (impl_QtyIn.j0 k l0 a1 a2 a3 true) else ((impl_quantity.f a1).bind fun t108 => (if t108 = true then ((impl_NameOk.f k a2).bind fun t109 => (if t109 = true then ((impl_NameOk.f k a3).bind fun t110 => (impl_QtyIn.j0 k l0 a1 a2 a3 (!t110))) else (impl_QtyIn.j0 k l0 a1 a2 a3 true))) else (impl_QtyIn.j0 k l0 a1 a2 a3 true)))
theorem impl_QtyIn.mono_l : ∀ k, (∀ y0 y1 y2 y3 y4, LeO (impl_QtyIn.j0 k y0 y1 y2 y3 y4) (impl_QtyIn.j0 (k + 1) y0 y1 y2 y3 y4)) ∧ (∀ y0 y1 y2 y3 y4 y5 y6 y7, LeO (impl_QtyIn.l0 k y0 y1 y2 y3 y4 y5 y6 y7) (impl_QtyIn.l0 (k + 1) y0 y1 y2 y3 y4 y5 y6 y7)) ∧ (∀ y0 y1 y2 y3 y4, LeO (impl_QtyIn.l1 k y0 y1 y2 y3 y4) (impl_QtyIn.l1 (k + 1) y0 y1 y2 y3 y4)) ∧ (∀ y0 y1 y2 y3 y4 y5 y6 y7 y8 y9 y10 y11, LeO (impl_QtyIn.l2 k y0 y1 y2 y3 y4 y5 y6 y7 y8 y9 y10 y11) (impl_QtyIn.l2 (k + 1) y0 y1 y2 y3 y4 y5 y6 y7 y8 y9 y10 y11)) ∧ (∀ y0 y1 y2 y3 y4 y5 y6 y7 y8 y9 y10 y11 y12 y13 y14 y15, LeO (impl_QtyIn.j4 k y0 y1 y2 y3 y4 y5 y6 y7 y8 y9 y10 y11 y12 y13 y14 y15) (impl_QtyIn.j4 (k + 1) y0 y1 y2 y3 y4 y5 y6 y7 y8 y9 y10 y11 y12 y13 y14 y15))
  | 0 => ⟨fun _ _ _ _ _ r h => by simp [impl_QtyIn.j0] at h, fun _ _ _ _ _ _ _ _ r h => by simp [impl_QtyIn.l0] at h, fun _ _ _ _ _ r h => by simp [impl_QtyIn.l1] at h, fun _ _ _ _ _ _ _ _ _ _ _ _ r h => by simp [impl_QtyIn.l2] at h, fun _ _ _ _ _ _ _ _ _ _ _ _ _ _ _ _ r h => by simp [impl_QtyIn.j4] at h⟩
  | k + 1 => by
    obtain ⟨ih0, ih1, ih2, ih3, ih4⟩ := impl_QtyIn.mono_l k
    refine ⟨?_, ?_, ?_, ?_, ?_⟩
    · intro y0 y1 y2 y3 y4
      unfold impl_QtyIn.j0
      repeat' first
      | (with_reducible exact ih0 _ _ _ _ _)
      | (with_reducible exact ih1 _ _ _ _ _ _ _ _)
      | (with_reducible exact ih2 _ _ _ _ _)
      | (with_reducible exact ih3 _ _ _ _ _ _ _ _ _ _ _ _)
      | (with_reducible exact ih4 _ _ _ _ _ _ _ _ _ _ _ _ _ _ _ _)
      | (with_reducible exact impl_NameOk.mono _ _)
      | (with_reducible exact impl_convOk.mono _ _ _ _ _)
      | (with_reducible exact impl_gcd.mono _ _ _)
      | (with_reducible exact LeO.refl _)
      | (with_reducible exact LeO.none _)
      | (with_reducible refine LeO.ite ?_ ?_)
      | (with_reducible refine LeO.bind ?_ (fun _ => ?_))
      | exact ih0 _ _ _ _ _
      | exact ih1 _ _ _ _ _ _ _ _
      | exact ih2 _ _ _ _ _
      | exact ih3 _ _ _ _ _ _ _ _ _ _ _ _
      | exact ih4 _ _ _ _ _ _ _ _ _ _ _ _ _ _ _ _
      | exact impl_NameOk.mono _ _
      | exact impl_convOk.mono _ _ _ _ _
      | exact impl_gcd.mono _ _ _
      | exact LeO.none _
      | refine LeO.ite ?_ ?_
      | refine LeO.bind ?_ (fun _ => ?_)
    · intro y0 y1 y2 y3 y4 y5 y6 y7
      unfold impl_QtyIn.l0
      repeat' first
      | (with_reducible exact ih0 _ _ _ _ _)
      | (with_reducible exact ih1 _ _ _ _ _ _ _ _)
      | (with_reducible exact ih2 _ _ _ _ _)
      | (with_reducible exact ih3 _ _ _ _ _ _ _ _ _ _ _ _)
      | (with_reducible exact ih4 _ _ _ _ _ _ _ _ _ _ _ _ _ _ _ _)
      | (with_reducible exact impl_NameOk.mono _ _)
      | (with_reducible exact impl_convOk.mono _ _ _ _ _)
      | (with_reducible exact impl_gcd.mono _ _ _)
      | (with_reducible exact LeO.refl _)
      | (with_reducible exact LeO.none _)
      | (with_reducible refine LeO.ite ?_ ?_)
      | (with_reducible refine LeO.bind ?_ (fun _ => ?_))
      | exact ih0 _ _ _ _ _
      | exact ih1 _ _ _ _ _ _ _ _
      | exact ih2 _ _ _ _ _
      | exact ih3 _ _ _ _ _ _ _ _ _ _ _ _
      | exact ih4 _ _ _ _ _ _ _ _ _ _ _ _ _ _ _ _
      | exact impl_NameOk.mono _ _
      | exact impl_convOk.mono _ _ _ _ _
      | exact impl_gcd.mono _ _ _
      | exact LeO.none _
      | refine LeO.ite ?_ ?_
      | refine LeO.bind ?_ (fun _ => ?_)
    · intro y0 y1 y2 y3 y4
      unfold impl_QtyIn.l1
      repeat' first
      | (with_reducible exact ih0 _ _ _ _ _)
      | (with_reducible exact ih1 _ _ _ _ _ _ _ _)
      | (with_reducible exact ih2 _ _ _ _ _)
      | (with_reducible exact ih3 _ _ _ _ _ _ _ _ _ _ _ _)
      | (with_reducible exact ih4 _ _ _ _ _ _ _ _ _ _ _ _ _ _ _ _)
      | (with_reducible exact impl_NameOk.mono _ _)
      | (with_reducible exact impl_convOk.mono _ _ _ _ _)
      | (with_reducible exact impl_gcd.mono _ _ _)
      | (with_reducible exact LeO.refl _)
      | (with_reducible exact LeO.none _)
      | (with_reducible refine LeO.ite ?_ ?_)
      | (with_reducible refine LeO.bind ?_ (fun _ => ?_))
      | exact ih0 _ _ _ _ _
      | exact ih1 _ _ _ _ _ _ _ _
      | exact ih2 _ _ _ _ _
      | exact ih3 _ _ _ _ _ _ _ _ _ _ _ _
      | exact ih4 _ _ _ _ _ _ _ _ _ _ _ _ _ _ _ _
      | exact impl_NameOk.mono _ _
      | exact impl_convOk.mono _ _ _ _ _
      | exact impl_gcd.mono _ _ _
      | exact LeO.none _
      | refine LeO.ite ?_ ?_
      | refine LeO.bind ?_ (fun _ => ?_)
    · intro y0 y1 y2 y3 y4 y5 y6 y7 y8 y9 y10 y11
      unfold impl_QtyIn.l2
      repeat' first
      | (with_reducible exact ih0 _ _ _ _ _)
      | (with_reducible exact ih1 _ _ _ _ _ _ _ _)
      | (with_reducible exact ih2 _ _ _ _ _)
      | (with_reducible exact ih3 _ _ _ _ _ _ _ _ _ _ _ _)
      | (with_reducible exact ih4 _ _ _ _ _ _ _ _ _ _ _ _ _ _ _ _)
      | (with_reducible exact impl_NameOk.mono _ _)
      | (with_reducible exact impl_convOk.mono _ _ _ _ _)
      | (with_reducible exact impl_gcd.mono _ _ _)
      | (with_reducible exact LeO.refl _)
      | (with_reducible exact LeO.none _)
      | (with_reducible refine LeO.ite ?_ ?_)
      | (with_reducible refine LeO.bind ?_ (fun _ => ?_))
      | exact ih0 _ _ _ _ _
      | exact ih1 _ _ _ _ _ _ _ _
      | exact ih2 _ _ _ _ _
      | exact ih3 _ _ _ _ _ _ _ _ _ _ _ _
      | exact ih4 _ _ _ _ _ _ _ _ _ _ _ _ _ _ _ _
      | exact impl_NameOk.mono _ _
      | exact impl_convOk.mono _ _ _ _ _
      | exact impl_gcd.mono _ _ _
      | exact LeO.none _
      | refine LeO.ite ?_ ?_
      | refine LeO.bind ?_ (fun _ => ?_)
    · intro y0 y1 y2 y3 y4 y5 y6 y7 y8 y9 y10 y11 y12 y13 y14 y15
      unfold impl_QtyIn.j4
      repeat' first
      | (with_reducible exact ih0 _ _ _ _ _)
      | (with_reducible exact ih1 _ _ _ _ _ _ _ _)
      | (with_reducible exact ih2 _ _ _ _ _)
      | (with_reducible exact ih3 _ _ _ _ _ _ _ _ _ _ _ _)
      | (with_reducible exact ih4 _ _ _ _ _ _ _ _ _ _ _ _ _ _ _ _)
      | (with_reducible exact impl_NameOk.mono _ _)
      | (with_reducible exact impl_convOk.mono _ _ _ _ _)
      | (with_reducible exact impl_gcd.mono _ _ _)
      | (with_reducible exact LeO.refl _)
      | (with_reducible exact LeO.none _)
      | (with_reducible refine LeO.ite ?_ ?_)
      | (with_reducible refine LeO.bind ?_ (fun _ => ?_))
      | exact ih0 _ _ _ _ _
      | exact ih1 _ _ _ _ _ _ _ _
      | exact ih2 _ _ _ _ _
      | exact ih3 _ _ _ _ _ _ _ _ _ _ _ _
      | exact ih4 _ _ _ _ _ _ _ _ _ _ _ _ _ _ _ _
      | exact impl_NameOk.mono _ _
      | exact impl_convOk.mono _ _ _ _ _
      | exact impl_gcd.mono _ _ _
      | exact LeO.none _
      | refine LeO.ite ?_ ?_
      | refine LeO.bind ?_ (fun _ => ?_)
theorem impl_QtyIn.mono : ∀ a0 a1 a2 a3 k, LeO (impl_QtyIn.f k a0 a1 a2 a3) (impl_QtyIn.f (k + 1) a0 a1 a2 a3) := by
  intro a0 a1 a2 a3 k
  obtain ⟨ih0, ih1, ih2, ih3, ih4⟩ := impl_QtyIn.mono_l k
  unfold impl_QtyIn.f
  repeat' first
      | (with_reducible exact ih0 _ _ _ _ _)
      | (with_reducible exact ih1 _ _ _ _ _ _ _ _)
      | (with_reducible exact ih2 _ _ _ _ _)
      | (with_reducible exact ih3 _ _ _ _ _ _ _ _ _ _ _ _)
      | (with_reducible exact ih4 _ _ _ _ _ _ _ _ _ _ _ _ _ _ _ _)
      | (with_reducible exact impl_NameOk.mono _ _)
      | (with_reducible exact impl_convOk.mono _ _ _ _ _)
      | (with_reducible exact impl_gcd.mono _ _ _)
      | (with_reducible exact LeO.refl _)
      | (with_reducible exact LeO.none _)
      | (with_reducible refine LeO.ite ?_ ?_)
      | (with_reducible refine LeO.bind ?_ (fun _ => ?_))
      | exact ih0 _ _ _ _ _
      | exact ih1 _ _ _ _ _ _ _ _
      | exact ih2 _ _ _ _ _
      | exact ih3 _ _ _ _ _ _ _ _ _ _ _ _
      | exact ih4 _ _ _ _ _ _ _ _ _ _ _ _ _ _ _ _
      | exact impl_NameOk.mono _ _
      | exact impl_convOk.mono _ _ _ _ _
      | exact impl_gcd.mono _ _ _
      | exact LeO.none _
      | refine LeO.ite ?_ ?_
      | refine LeO.bind ?_ (fun _ => ?_)

end Go.Proofs.Ytkkdmmefnicmaaa.PFnUnits
