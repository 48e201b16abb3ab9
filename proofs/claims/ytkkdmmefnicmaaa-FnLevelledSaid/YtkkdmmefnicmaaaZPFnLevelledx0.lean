/- Lines by a program (a changed copy of the kit's print: this repo's wip/tools): Go functions as Lean functions, and proofs that the calls answer so. -/
import Derived.Test.YtkkdmmefnicmaaaProg
import Derived.Below
import Derived.Deep.Draws
import Derived.Deep.AppendLies
import Derived.Maps.AppendAt
import Derived.OwnWalk
import Derived.Laws.BytesArg
import Derived.Laws.MakeOwn
import Derived.Laws.OwnMore
import Derived.Deep.OwnRows
import Derived.Tactics
import Derived.Lib.ConvBytes
import Derived.Laws.Slices
import Derived.WalkKit
import Derived.KernelRfl
import Derived.RowKit3
import Derived.Deep.LoopGhost
import Derived.Deep.QuietTactic
import Derived.BigQuiet
import Derived.WideLaws
import Derived.Deep.DeepCutAuto
import Derived.Deep.CutBlock
import Derived.Deep.RegionHeld3
import Derived.Laws.Rows
import Derived.Lib.AppendStr
import Derived.ArgAppend
import Derived.Laws.IdiomCopy
import Derived.OrdersHeld
import Derived.Laws.BitsLemmas
import Derived.RowKit
import Derived.Test.YtkkdmmefnicmaaaZWWords
import Derived.Test.YtkkdmmefnicmaaaZWLast
import Derived.Test.YtkkdmmefnicmaaaZWTab
import Derived.Test.YtkkdmmefnicmaaaZWFour
import Derived.Test.YtkkdmmefnicmaaaZWQPut
import Derived.Test.YtkkdmmefnicmaaaZWApart
import Derived.Test.YtkkdmmefnicmaaaZWArr
import Derived.Test.YtkkdmmefnicmaaaZWZeros
import Derived.Test.YtkkdmmefnicmaaaZWFoot
import Derived.Test.YtkkdmmefnicmaaaZWKept
import Derived.Test.YtkkdmmefnicmaaaZWShare
import Derived.Test.YtkkdmmefnicmaaaZWN
import Derived.Test.YtkkdmmefnicmaaaZWFootNe
import Derived.Test.YtkkdmmefnicmaaaZWAt
import Derived.Test.YtkkdmmefnicmaaaZWEqStruct
import Derived.Test.YtkkdmmefnicmaaaZWRepsOne
import Derived.Test.YtkkdmmefnicmaaaZWInv
import Derived.Test.YtkkdmmefnicmaaaZWInvWords
import Derived.Test.YtkkdmmefnicmaaaZWGuard
import Derived.Test.YtkkdmmefnicmaaaZWNEv
import Derived.Test.YtkkdmmefnicmaaaZWMore
import Derived.Test.YtkkdmmefnicmaaaZMap
import Derived.Test.YtkkdmmefnicmaaaZFn
import Derived.Test.YtkkdmmefnicmaaaZMark
namespace Go.Proofs.Ytkkdmmefnicmaaa.PFnLevelled
open Go.RowKit Go.Proofs.YtkkdmmefnicmaaaW.PrintWords Go.Proofs.YtkkdmmefnicmaaaW.PrintLast Go.Proofs.YtkkdmmefnicmaaaW.PrintMore
attribute [local go_sem] max2_int min2_int max_two min_two max_three min_three max_four min_four   -- for this text's walks alone
set_option linter.unusedVariables false
set_option linter.unusedSimpArgs false



def errW : Option Int → Value
 | none => .nilIface
 | some c => .iface 0 (.int .i64 c)
theorem errW_none : errW none = .nilIface := rfl
theorem errW_some (c : Int) : errW (some c) = .iface 0 (.int .i64 c) := rfl

theorem info3 : (Try.prog.info? 3).map (fun i => (i.zero, i.size, i.bytes)) = some (some (.int .i64 0), 1, 8) := by kernel_rfl
theorem info4 : (Try.prog.info? 4).map (fun i => (i.zero, i.size, i.bytes)) = some (some (.bool false), 1, 1) := by kernel_rfl
theorem info52 : (Try.prog.info? 52).map (fun i => (i.zero, i.size, i.bytes)) = some (some (.agg #[(.string ⟨#[]⟩), (.int .i64 0), (.bool false), (.slice none 0 0), (.slice none 0 0)]), 5, 80) := by kernel_rfl
theorem info54 : (Try.prog.info? 54).map (fun i => (i.zero, i.size, i.bytes)) = some (some (.agg #[(.int .i64 0), (.int .i64 0), (.int .i64 0), (.int .i64 0), (.int .i64 0), (.int .i64 0)]), 6, 48) := by kernel_rfl
-- the values' own types
/-! #### struct type 54 -/
structure S54 where
 f0 : Int
 f1 : Int
 f2 : Int
 f3 : Int
 f4 : Int
 f5 : Int
def z54 : S54 := ⟨(0 : Int), (0 : Int), (0 : Int), (0 : Int), (0 : Int), (0 : Int)⟩
def k54 : Kd S54 := Kd.iso (Kd.pair (Kd.int .i64) (Kd.pair (Kd.int .i64) (Kd.pair (Kd.int .i64) (Kd.pair (Kd.int .i64) (Kd.pair (Kd.int .i64) (Kd.int .i64)))))) (fun x : S54 => (x.f0, x.f1, x.f2, x.f3, x.f4, x.f5))
theorem k54_open {w : World} {x : S54} {cs : List Value} (h : k54.K w x cs) : cs = [.int .i64 x.f0, .int .i64 x.f1, .int .i64 x.f2, .int .i64 x.f3, .int .i64 x.f4, .int .i64 x.f5] := by
 obtain ⟨_, _, rfl, rfl, ⟨_, _, rfl, rfl, ⟨_, _, rfl, rfl, ⟨_, _, rfl, rfl, ⟨_, _, rfl, rfl, rfl⟩⟩⟩⟩⟩ := h
 exact rfl
theorem k54_openM {w : World} {base : Nat} {ok : Nat → Prop} {x : S54} {cs : List Value} (h : k54.M w base ok x cs) : cs = [.int .i64 x.f0, .int .i64 x.f1, .int .i64 x.f2, .int .i64 x.f3, .int .i64 x.f4, .int .i64 x.f5] := by
 obtain ⟨_, _, rfl, rfl, ⟨_, _, rfl, rfl, ⟨_, _, rfl, rfl, ⟨_, _, rfl, rfl, ⟨_, _, rfl, rfl, rfl⟩⟩⟩⟩⟩ := h
 exact rfl
theorem k54_mkM (w : World) (base : Nat) (ok : Nat → Prop) (x : S54)  : k54.M w base ok x [.int .i64 x.f0, .int .i64 x.f1, .int .i64 x.f2, .int .i64 x.f3, .int .i64 x.f4, .int .i64 x.f5] := ⟨[.int .i64 x.f0], [.int .i64 x.f1, .int .i64 x.f2, .int .i64 x.f3, .int .i64 x.f4, .int .i64 x.f5], rfl, rfl, ⟨[.int .i64 x.f1], [.int .i64 x.f2, .int .i64 x.f3, .int .i64 x.f4, .int .i64 x.f5], rfl, rfl, ⟨[.int .i64 x.f2], [.int .i64 x.f3, .int .i64 x.f4, .int .i64 x.f5], rfl, rfl, ⟨[.int .i64 x.f3], [.int .i64 x.f4, .int .i64 x.f5], rfl, rfl, ⟨[.int .i64 x.f4], [.int .i64 x.f5], rfl, rfl, rfl⟩⟩⟩⟩⟩
def rd_T54 (xs : List S54) (i : Int) : S54 := xs.getD i.toNat z54
theorem at_T54 {w : World} {A : Option Addr} {n : Nat} {xs : List S54} (h : Kd.C k54 w A n xs) (i : Int) (h0 : 0 ≤ i) (h1 : i < n) : ∃ ad , A = some ad ∧ w.cell? (ad.add (i.toNat * 6)) = some (.int .i64 (rd_T54 xs i).f0) ∧ w.cell? ⟨(ad.add (i.toNat * 6)).block, (ad.add (i.toNat * 6)).off + 1, none⟩ = some (.int .i64 (rd_T54 xs i).f1) ∧ w.cell? ⟨(ad.add (i.toNat * 6)).block, (ad.add (i.toNat * 6)).off + 2, none⟩ = some (.int .i64 (rd_T54 xs i).f2) ∧ w.cell? ⟨(ad.add (i.toNat * 6)).block, (ad.add (i.toNat * 6)).off + 3, none⟩ = some (.int .i64 (rd_T54 xs i).f3) ∧ w.cell? ⟨(ad.add (i.toNat * 6)).block, (ad.add (i.toNat * 6)).off + 4, none⟩ = some (.int .i64 (rd_T54 xs i).f4) ∧ w.cell? ⟨(ad.add (i.toNat * 6)).block, (ad.add (i.toNat * 6)).off + 5, none⟩ = some (.int .i64 (rd_T54 xs i).f5) := by
 obtain ⟨ad, c, e, _, hK, hc0⟩ := Kd.C_get h z54 i h0 h1
 have hc : ∀ j u, c[j]? = some u → w.cell? (ad.add (i.toNat * 6 + j)) = some u := hc0
 obtain rfl := k54_open hK
 exact ⟨ad, e, hc 0 _ rfl, by rw [← qp1 _ _ 1 (by omega)]; exact hc 1 _ rfl, by rw [← qp1 _ _ 2 (by omega)]; exact hc 2 _ rfl, by rw [← qp1 _ _ 3 (by omega)]; exact hc 3 _ rfl, by rw [← qp1 _ _ 4 (by omega)]; exact hc 4 _ rfl, by rw [← qp1 _ _ 5 (by omega)]; exact hc 5 _ rfl⟩

/-! #### struct type 52 -/
structure S52 where
 f0 : ByteArray
 f1 : Int
 f2 : Bool
 f3 : (List S54)
 f4 : (List S54)
def z52 : S52 := ⟨(⟨#[]⟩ : ByteArray), (0 : Int), false, ([] : List S54), ([] : List S54)⟩
section
variable {P : Program} {ops : Array Oper} {rest : List Oper} {o : Oper} {a : Act} {Q : Exit → Act → World → Prop}
/-- What is read, told at once. -/
theorem event_same {W : World} {v : Value} (hgd : o.guard = none) (hrun : ∀ Wx, Wx = W → (execOp a.eval o).run P Wx = .ok (.value v) Wx) (h : wpList P ops Q rest (a.put o.dst v) W) : wpList P ops Q (o :: rest) a W := Kd.event_run hgd (hrun W rfl) h
end
/-- A kind whose cells obey a law of their own. -/
def withSep {α : Type} (d : Kd α) (p : List Value → Prop) : Kd α where
 sz := d.sz
 E := d.E
 K := d.K
 M := fun w base ok x cs => d.M w base ok x cs ∧ p cs
 K_len := d.K_len
 K_one := d.K_one
 K_below := d.K_below
 K_of_M := fun h => d.K_of_M h.1
 M_mono := fun hok h => ⟨d.M_mono hok h.1, h.2⟩
 M_bound := fun h => ⟨d.M_bound h.1, h.2⟩
 M_move := fun hm h => ⟨d.M_move hm h.1, h.2⟩
 M_lower := fun hb h => ⟨d.M_lower hb h.1, h.2⟩
/-- Two values' blocks are two. -/
def sepV (u v : Value) : Prop := ∀ k_, u.ownBlock = some k_ → v.ownBlock ≠ some k_
def k52 : Kd S52 := withSep (Kd.iso (Kd.pair Kd.string (Kd.pair (Kd.int .i64) (Kd.pair Kd.bool (Kd.pair (Kd.slice 54 k54) (Kd.slice 54 k54))))) (fun x : S52 => (x.f0, x.f1, x.f2, x.f3, x.f4))) (fun cs => sepV (cs.getD 3 (.slice none 0 0)) (cs.getD 4 (.slice none 0 0)))
theorem k52_open {w : World} {x : S52} {cs : List Value} (h : k52.K w x cs) : ∃ A3 c3 A4 c4, cs = [.string x.f0, .int .i64 x.f1, .bool x.f2, .slice A3 x.f3.length c3, .slice A4 x.f4.length c4] ∧ x.f3.length ≤ c3 ∧ k54.C w A3 x.f3.length x.f3 ∧ x.f4.length ≤ c4 ∧ k54.C w A4 x.f4.length x.f4 := by
 obtain ⟨_, _, rfl, rfl, ⟨_, _, rfl, rfl, ⟨_, _, rfl, rfl, ⟨_, _, rfl, ⟨A3, c3, rfl, l3, g3⟩, ⟨A4, c4, rfl, l4, g4⟩⟩⟩⟩⟩ := h
 exact ⟨A3, c3, A4, c4, rfl, l3, g3, l4, g4⟩
theorem k52_openM {w : World} {base : Nat} {ok : Nat → Prop} {x : S52} {cs : List Value} (h : k52.M w base ok x cs) : ∃ v3 v4, cs = [.string x.f0, .int .i64 x.f1, .bool x.f2, v3, v4] ∧ k54.R 54 w base ok v3 x.f3 ∧ k54.R 54 w base ok v4 x.f4 := by
 obtain ⟨_, _, rfl, rfl, ⟨_, _, rfl, rfl, ⟨_, _, rfl, rfl, ⟨_, _, rfl, ⟨v3, rfl, g3⟩, ⟨v4, rfl, g4⟩⟩⟩⟩⟩ := h.1
 exact ⟨v3, v4, rfl, g3, g4⟩
theorem k52_openS {w : World} {base : Nat} {ok : Nat → Prop} {x : S52} {cs : List Value} (h : k52.M w base ok x cs) : ∃ v3 v4, cs = [.string x.f0, .int .i64 x.f1, .bool x.f2, v3, v4] ∧ sepV v3 v4 ∧ k54.R 54 w base ok v3 x.f3 ∧ k54.R 54 w base ok v4 x.f4 := by
 have hs_ := h.2
 obtain ⟨v3, v4, rfl, g3, g4⟩ := k52_openM h
 exact ⟨v3, v4, rfl, hs_, g3, g4⟩
theorem k52_mkM (w : World) (base : Nat) (ok : Nat → Prop) (x : S52) {v3 : Value} (g3 : k54.R 54 w base ok v3 x.f3) {v4 : Value} (g4 : k54.R 54 w base ok v4 x.f4) (hs_ : sepV v3 v4) : k52.M w base ok x [.string x.f0, .int .i64 x.f1, .bool x.f2, v3, v4] := ⟨⟨[.string x.f0], [.int .i64 x.f1, .bool x.f2, v3, v4], rfl, rfl, ⟨[.int .i64 x.f1], [.bool x.f2, v3, v4], rfl, rfl, ⟨[.bool x.f2], [v3, v4], rfl, rfl, ⟨[v3], [v4], rfl, ⟨v3, rfl, g3⟩, ⟨v4, rfl, g4⟩⟩⟩⟩⟩, hs_⟩
def rd_T52 (xs : List S52) (i : Int) : S52 := xs.getD i.toNat z52
theorem at_T52 {w : World} {A : Option Addr} {n : Nat} {xs : List S52} (h : Kd.C k52 w A n xs) (i : Int) (h0 : 0 ≤ i) (h1 : i < n) : ∃ ad A3 c3 A4 c4, A = some ad ∧ w.cell? (ad.add (i.toNat * 5)) = some (.string (rd_T52 xs i).f0) ∧ w.cell? ⟨(ad.add (i.toNat * 5)).block, (ad.add (i.toNat * 5)).off + 1, none⟩ = some (.int .i64 (rd_T52 xs i).f1) ∧ w.cell? ⟨(ad.add (i.toNat * 5)).block, (ad.add (i.toNat * 5)).off + 2, none⟩ = some (.bool (rd_T52 xs i).f2) ∧ w.cell? ⟨(ad.add (i.toNat * 5)).block, (ad.add (i.toNat * 5)).off + 3, none⟩ = some (.slice A3 (rd_T52 xs i).f3.length c3) ∧ w.cell? ⟨(ad.add (i.toNat * 5)).block, (ad.add (i.toNat * 5)).off + 4, none⟩ = some (.slice A4 (rd_T52 xs i).f4.length c4) ∧ (rd_T52 xs i).f3.length ≤ c3 ∧ k54.C w A3 (rd_T52 xs i).f3.length (rd_T52 xs i).f3 ∧ (rd_T52 xs i).f4.length ≤ c4 ∧ k54.C w A4 (rd_T52 xs i).f4.length (rd_T52 xs i).f4 := by
 obtain ⟨ad, c, e, _, hK, hc0⟩ := Kd.C_get h z52 i h0 h1
 have hc : ∀ j u, c[j]? = some u → w.cell? (ad.add (i.toNat * 5 + j)) = some u := hc0
 obtain ⟨A3, c3, A4, c4, rfl, l3, g3, l4, g4⟩ := k52_open hK
 exact ⟨ad, A3, c3, A4, c4, e, hc 0 _ rfl, by rw [← qp1 _ _ 1 (by omega)]; exact hc 1 _ rfl, by rw [← qp1 _ _ 2 (by omega)]; exact hc 2 _ rfl, by rw [← qp1 _ _ 3 (by omega)]; exact hc 3 _ rfl, by rw [← qp1 _ _ 4 (by omega)]; exact hc 4 _ rfl, l3, g3, l4, g4⟩

noncomputable def kz115 : Kz ByteArray Bool := ⟨Try.prog, 9, Value.string, Value.bool⟩
theorem kz115_K : Go.Maps.Keyed kz115.P kz115.kt := Go.Maps.string_keyed Try.underlying9
theorem kz115_inj : ∀ x y, kz115.enc x = kz115.enc y → x = y := by
 intro x y h
 injection h
theorem kz115_t : kz115.P.underlying 115 = some (.map kz115.kt 4) := Try.underlying115
theorem kz115_z : ∀ w, (zeroValue 4).run kz115.P w = .ok (kz115.encv false) w := fun _ => by kernel_rfl
theorem kz115_key (x : ByteArray) (h : x.size ≤ 9223372036854775807) : ∃ kl, keyOf kz115.P kz115.kt (kz115.enc x) = some kl := ⟨_, Go.WideMaps.keyOf_string_mk Try.underlying9 h⟩
end Go.Proofs.Ytkkdmmefnicmaaa.PFnLevelled
