/- Lines by a program (a changed copy of the kit's print: this repo's wip/tools): Go functions as Lean functions, and proofs that the calls answer so. -/
import Derived.Test.YtdnenglafphkbaaDoorRows
import Derived.Test.YtdnenglafphkbaaDoorZPFnPeriodsWholex8
import Derived.Test.YtdnenglafphkbaaDoorZPureFnPeriodsWhole
import Derived.Test.YtdnenglafphkbaaDoorCards
import Derived.Test.YtdnenglafphkbaaDoorTie
import Derived.LaidMore
import Derived.LaidLaws
import Derived.ChangeVars
import Derived.Lib.LaidTab
import Derived.Stop.Joined
import Derived.SevenTiedAt
import Derived.WalkKit
import Derived.ProofKit
import Derived.OpenShut
import Derived.ShutString
import Derived.ChangeOld
import Derived.Below
import Derived.SizedLaws
import Derived.Test.YtdnenglafphkbaaDoorZWSized
namespace Go.Proofs.YtdnenglafphkbaaDoor.fnPeriodsWhole
open Go.ChangeShapes Go.WideShapes Go.ChangeAt Go.RowKit
open Go.ChangeMaps (open_string shut_string)
set_option linter.unusedVariables false
theorem own : ownKnob Tryd.prog.godebug = none := by kernel_rfl
theorem laidOut : laidOutB Tryd.prog = true := by kernel_rfl
def IsRow (k : IntKind) (w : World) (a : Option Addr) (len cap : Nat) (zs : List Int) : Prop :=
  (a = none ∧ len = 0 ∧ cap = 0 ∧ zs = []) ∨
  ∃ x, a = some x ∧ len ≤ cap ∧ cap ≤ maxLen ∧ zs.length = cap ∧ (∀ i, i < zs.length → w.cell? (x.add i) = some (.int k (zs.getD i 0))) ∧ ∀ n ∈ zs, (Lit.int k n).wf = true
theorem gT : Tryd.prog.globalNamed "loop.example/g00040/impl.monthDays" = some 0 := by kernel_rfl
theorem gTy : (Tryd.prog.globals[0]?).map (·.type) = some 53 := by kernel_rfl
theorem cT : Tryd.prog.cellsOf 53 = 13 := by kernel_rfl
theorem cE : Tryd.prog.cellsOf 3 = 1 := by kernel_rfl
def laidL : List (String × DataW Unit) := [("loop.example/g00040/impl.monthDays", Rows.laid_loop_example_g00040_impl_monthDays)]
def cells13 : Array Value := #[.int .i64 0, .int .i64 31, .int .i64 28, .int .i64 31, .int .i64 30, .int .i64 31, .int .i64 30, .int .i64 31, .int .i64 31, .int .i64 30, .int .i64 31, .int .i64 30, .int .i64 31]
theorem tab_of {W : World} (h : laidMetH Tryd.prog laidL W) : Lib.TabIs Tryd.prog W "loop.example/g00040/impl.monthDays" .i64 PFnPeriodsWhole.monthTab := by
  have h' : laidMet Tryd.prog laidL W := by
    rw [MakeChecks.laidMetH_plain _ _ _ (by kernel_rfl)] at h
    exact h
  exact Lib.tabIs_of_head (rest := []) gT gTy Tryd.underlying53 Tryd.underlying3 cE cT h'
theorem door_met (os : Os) (args : Array Value) : laidMetH Tryd.prog laidL ((World.doorLaid Tryd.prog 400 os).forCall (fun _ _ => 0) ⟨#[], args, []⟩).memory :=
  laidMetH_of_parts3 (fuel := 8) (laidMet_of_run' 8 (by kernel_rfl) (by kernel_rfl)) (by kernel_rfl) (by kernel_rfl)
theorem reads_tab {H : Type} (enc : TypeId × Value → H) (W : World) (sp : Nat → Bool) : DataW.trod enc Tryd.prog W 0 sp true 3 53 cells13.toList = some (Rows.laid_loop_example_g00040_impl_monthDays, []) := by kernel_rfl
theorem var_below {w w1 : World} {n : String} {g : Nat} {cs : Array Value} (h : w.var? Tryd.prog n = some cs) (hg : Tryd.prog.globalNamed n = some g) (bel : Below w.heap.size w w1) (hlt : g < w.heap.size) : w1.var? Tryd.prog n = some cs := by
  simp only [World.var?, hg, Option.bind_some] at h ⊢
  rw [bel.block g hlt]
  exact h
set_option maxRecDepth 100000 in
theorem lifted (os : Os) (started : os.Started) (H : Type) (enc : TypeId × Value → H) :
    ReturnsInHanded {} Tryd.checked os 5 .any (fun w args => (Rows.fnPeriodsWholeSpec.pre enc Tryd.prog Tryd.f5 Rows.fnPeriodsWholeRow.domain false w args ∧ laidMetH Tryd.prog laidL w) ∧ sizedMet enc Tryd.prog Tryd.f5 (OpenSpec.ofChange Rows.fnPeriodsWholeSpec) false w args) (Rows.fnPeriodsWholeSpec.post enc Tryd.prog Tryd.f5 false true false false) := by
  refine returnsInHanded_of_change_and (C := Tryd.checked) (X := fun w _ => laidMetH Tryd.prog laidL w) (fun _ _ _ hh h => h.of_heap hh) own started (by kernel_rfl) Tryd.func5
    (ChangeSpec.witness_shaped (enc := enc) (C := Tryd.checked) (os := os) (X := fun w _ => laidMetH Tryd.prog laidL w) false (World.doorLaid Tryd.prog 400 os) #[.slice none 0 0] 8 rfl (World.shaped_of_RefB (by kernel_rfl) (by kernel_rfl)) (by kernel_rfl) (by kernel_rfl) (by kernel_rfl) (door_met os _)) ?_
  intro W base args ds gs before hval0 hW hcnd hsz0 hL _
  have hsz : (DataW.weightsEach Tryd.prog (Tryd.f5.params.toList ++ Rows.fnPeriodsWholeSpec.plain.varTypes Tryd.prog) (ds ++ gs)).all (· ≤ reachBytes) = true := hsz0
  have hval : ∀ (j : Nat) t v, Tryd.f5.params[j]? = some t → args[j]? = some v → Value.okWide Tryd.prog W .any base t v := hval0
  have hW' := hW
  obtain ⟨p, q, hA0, hV0, rfl, hfz, hnd⟩ := hW
  have hA : DataW.TrodAll enc Tryd.prog W 0 (fun _ => true) true Tryd.f5.params.toList args.toList ds p := hA0
  rw [Tryd.params5] at hA hval hsz
  obtain ⟨v0, vs0, d0, ds0, p0, q0, hargs, rfl, rfl, h0, r0⟩ := trodAll_cons hA
  obtain ⟨rfl, rfl, rfl⟩ := trodAll_nil r0
  obtain rfl : args = #[v0] := by cases args; simp_all
  have hV : DataW.TrodVars enc Tryd.prog W (fun _ => true) ["loop.example/g00040/impl.monthDays"] gs q := hV0
  obtain ⟨g_, t_, cs_, fuel_, d_, pv_, rfl, hg_, ht_, hvar_, hd_, rfl⟩ := trodVars_one hV
  obtain rfl := Option.some.inj (gT.symm.trans hg_)
  obtain rfl := Option.some.inj (gTy.symm.trans ht_)
  have hTI := tab_of hL
  obtain rfl : cs_ = cells13 := Option.some.inj (hvar_.symm.trans hTI)
  obtain ⟨rfl, rfl⟩ := DataW.Trod.unique (v := .agg cells13) ⟨fuel_, hd_⟩ ⟨3, reads_tab enc W _⟩
  have hTab : PFnPeriodsWhole.Tab W := fun i hi => hTI.cell gT i hi
  have hlt_ : 0 < W.heap.size := World.block_lt_of_cell? W _ (hTab 0 (by decide))
  have hvars : ∀ (W' : World) (sp : Nat → Bool), Below W.heap.size W W' → DataW.TrodVars enc Tryd.prog W' sp ["loop.example/g00040/impl.monthDays"] [Rows.laid_loop_example_g00040_impl_monthDays] (MemPlace.row ⟨0, 0, none⟩ cells13.size ++ [] ++ []) := fun W' sp bel_ =>
    ⟨0, 53, cells13, 3, [], [], gT, gTy, var_below hvar_ gT bel_ hlt_, reads_tab enc W' sp, rfl, rfl⟩
  clear hV hV0 hd_ hTI
  obtain ⟨a0, len0, cap0, rfl⟩ := okWide_slice Tryd.underlying22 (hval 0 22 v0 rfl rfl)
  have k0 := h0
  have lt0 : ∀ x ∈ p0, x.block < W.heap.size := by obtain ⟨m, hm⟩ := k0; exact DataW.trod_lt m _ _ _ hm
  obtain ⟨z0, w0⟩ : ∃ zs, IsRow .u8 W a0 len0 cap0 zs := by
    obtain ⟨fuel, hf⟩ := h0
    rcases open_ints Tryd.underlying22 Tryd.underlying5 (by kernel_rfl) hf with ⟨hcs, _⟩ | ⟨x, l, c, zs, hcs, _, hl, hm, hz, _, hcell, hwz⟩
    · simp [Value.cells] at hcs
      obtain ⟨rfl, rfl, rfl⟩ := hcs
      exact ⟨[], .inl ⟨rfl, rfl, rfl, rfl⟩⟩
    · simp [Value.cells] at hcs
      obtain ⟨rfl, rfl, rfl⟩ := hcs
      exact ⟨zs, .inr ⟨_, rfl, hl, hm, by simpa using hz, hcell, hwz⟩⟩
  have y0 : len0 * 1 ≤ 140737488351232 := YtdnenglafphkbaaDoorW.PrintWords.sized_ints hsz (j := 0) (t := 22) rfl rfl Tryd.underlying22 Tryd.underlying5 (by kernel_rfl) (by kernel_rfl) h0
  clear hA0 hval0 hsz0 hsz
  refine (PFnPeriodsWhole.laws_FnPeriodsWhole.walk Pure.FnPeriodsWhole a0 len0 cap0 z0 W w0 y0 hTab).mono fun e W' ⟨he, bel⟩ => ?_
  subst he
  exact ⟨_, rfl, _, _, _, [], _, _, hW', trodAll_mk1 (shut_bool Tryd.underlying4 _), (trodAll_cons_mk (Below.trod laidOut (by kernel_rfl) (of_decide_eq_true (by kernel_rfl)) k0 bel lt0) trodAll_mk0), hvars W' _ bel, bel.frame _, fun h => by cases h⟩
theorem over : Rows.fnPeriodsWholeRow.holds Tryd.pinned (OpenSpec.ofChange Rows.fnPeriodsWholeSpec) :=
  OpenClaim.holds_of_wide 5 Tryd.f5 rfl rfl rfl rfl rfl rfl rfl ⟨rfl, rfl, rfl, rfl, rfl⟩ rfl rfl rfl rfl rfl (by kernel_rfl) Tryd.func5 (by kernel_rfl)
    (of_decide_eq_true (by kernel_rfl)) (by unfold Func.isWrapper; first | (rw [if_pos (by decide +kernel)]; kernel_rfl) | (rw [if_neg (by decide +kernel)]; exact ⟨rfl, rfl⟩))
    (fun os started H enc _ => lifted os started H enc)
theorem card : Rows.FnPeriodsWholeCardSaid :=
  Claim7.holds_tied_plain_at .later [] [.data] true (true, "5b28d5101c808eaac6dbe877e3fa221cbeb7971b733df2263dc2121e151f1fcd") false
    over (fun _ h => by cases h) (by kernel_rfl) (fun _ h => by cases h) fnPeriodsWhole_row_tie rfl ⟨rfl, rfl⟩ (by kernel_rfl) rfl
    (fun f fn hf hfn => by
      obtain rfl : f = 5 := Option.some.inj ((show Tryd.prog.funcNamed "loop.example/g00040/laws.FnPeriodsWhole" = some 5 by kernel_rfl).symm.trans hf) |>.symm
      obtain rfl : fn = Tryd.f5 := (Option.some.inj (Tryd.func5.symm.trans hfn)).symm
      exact ⟨by kernel_rfl, fun j t ht => by
        rw [Tryd.params5] at ht
        have hm : t ∈ [22] := by simpa using Array.mem_of_getElem? ht
        have hall : ([22].all fun u => !Tryd.prog.wantsStandIn u) = true := by kernel_rfl
        exact (show Tryd.prog.wantsStandIn t = false by simpa using List.all_eq_true.1 hall t hm)⟩)
    (by kernel_rfl)
end Go.Proofs.YtdnenglafphkbaaDoor.fnPeriodsWhole
namespace Go.Proofs.YtdnenglafphkbaaDoor
/-- The tied card, under a short name, for the claim. -/
theorem fnPeriodsWhole_holds : Rows.FnPeriodsWholeCardSaid := fnPeriodsWhole.card
end Go.Proofs.YtdnenglafphkbaaDoor
