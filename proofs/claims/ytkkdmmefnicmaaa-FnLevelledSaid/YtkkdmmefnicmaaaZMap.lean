/- Maps that a call makes and uses itself, told as lists of keys and values: what look-ups, stores and deletions leave. -/
import Derived.Test.YtkkdmmefnicmaaaZWMore
import Derived.Maps.Keyed
import Derived.DeepKeys4
import Derived.Maps.OwnSet
set_option linter.unusedVariables false
set_option linter.unusedSimpArgs false
namespace Go.Proofs.YtkkdmmefnicmaaaW.PrintWords
open Go.RowKit Go.MapKept

/-- The value at a key: the newest pair's. -/
def mget {α β : Type} [DecidableEq α] : List (α × β) → α → Option β
  | [], _ => none
  | p :: r, a => if p.1 = a then some p.2 else mget r a
def mset {α β : Type} (m : List (α × β)) (a : α) (b : β) : List (α × β) := (a, b) :: m
theorem mget_set {α β : Type} [DecidableEq α] (m : List (α × β)) (a x : α) (b : β) : mget (mset m a b) x = if a = x then some b else mget m x := rfl
/-- How a map's keys and values lie in memory. -/
structure Kz (α β : Type) where
  P : Program
  kt : Nat
  enc : α → Value
  encv : β → Value

/-- The entries say what the list says. -/
def MapRep {α β : Type} [DecidableEq α] (d : Kz α β) (es : List MapEntry) (m : List (α × β)) : Prop :=
  (∀ e ∈ es, (∃ l, keyOf d.P d.kt e.key = some l) ∧ ∃ a c, e.key = d.enc a ∧ e.val = d.encv c ∧ mget m a = some c) ∧ (∀ a c, mget m a = some c → ∃ e ∈ es, e.key = d.enc a) ∧ (es.map (·.key)).Pairwise (· ≠ ·)

namespace Kd
/-- v is a map of the call's own that reads as m. -/
def Z {α β : Type} [DecidableEq α] (d : Kz α β) (e : Nat) (w : World) (base : Nat) (ok : Nat → Prop) (v : Value) (m : List (α × β)) : Prop :=
  ∃ b es clock, v = .map (some b) ∧ ok b ∧ base ≤ b ∧ w.heap[b]? = some (.map es clock) ∧ MapRep d es.toList m
section
variable {α β : Type} [DecidableEq α] {d : Kz α β} {e e' : Nat} {w w1 W : World} {base : Nat} {ok ok' : Nat → Prop} {v u : Value} {m : List (α × β)}
theorem Z_step (h : Z d e w base ok v m) (hm : ∀ k es clock, ok k → w.heap[k]? = some (.map es clock) → k < w.heap.size → w1.heap[k]? = some (.map es clock)) : Z d e w1 base ok v m := by
  obtain ⟨b, es, clock, rfl, ho, hb, hh, hr⟩ := h
  exact ⟨b, es, clock, rfl, ho, hb, hm b es clock ho hh (qz1 hh), hr⟩
theorem Z_mono (h : Z d e w base ok v m) (hok : ∀ k, ok k → ok' k) : Z d e w base ok' v m := by
  obtain ⟨b, es, clock, hv, ho, r⟩ := h
  exact ⟨b, es, clock, hv, hok b ho, r⟩
theorem Z_lower {base' : Nat} (h : Z d e w base ok v m) (hb : base' ≤ base) : Z d e w base' ok v m := by
  obtain ⟨b, es, clock, hv, ho, hb0, r⟩ := h
  exact ⟨b, es, clock, hv, ho, Nat.le_trans hb hb0, r⟩
theorem Z_below (h : Z d e w base ok v m) (hb : Below w.heap.size w w1) : Z d e w1 base ok v m := Z_step h (fun k _ _ _ hh hk => (hb.block k hk).trans hh)
theorem Z_alloc (h : Z d e w base ok v m) (o : Obj) : Z d e (w.alloc o) base ok v m := Z_below h (qc0 (Below.refl _ _) o)
theorem Z_drew (h : Z d e w base ok v m) : Z d e w.drew base ok v m := Z_below h (below_drew (Below.refl _ _))
theorem Z_drewN (h : Z d e w base ok v m) (n : Nat) : Z d e (w.drewN n) base ok v m := Z_below h (qa0 (Below.refl _ _) n)
theorem Z_ne_cells (h : Z d e w base ok v m) {g t : Nat} {cells : Array Value} {fr : Nat × Nat} (hb : w.heap[g]? = some (.cells cells t fr)) : Z d e w base (fun k => ok k ∧ k ≠ g) v m := by
  obtain ⟨b, es, clock, hv, ho, hb0, hh, r⟩ := h
  refine ⟨b, es, clock, hv, ⟨ho, ?_⟩, hb0, hh, r⟩
  rintro rfl
  rw [hb] at hh
  cases hh
theorem Z_types (h : Z d e w base ok v m) {g t : Nat} {cells : Array Value} (hb : w.heap[g]? = some (.cells cells t (0, 0))) (_ht : ∀ q, q ∈ [e] → q ≠ t) : Z d e w base (fun k => ok k ∧ k ≠ g) v m := Z_ne_cells h hb
theorem Z_far (h : Z d e w base ok v m) {p : Addr} (hok : ∀ k, ok k → k ≠ p.block) (u : Value) : Z d e (w.setCell p u) base ok v m := Z_step h (fun k _ _ ho hh _ => (Below.heap_setCell w p u k (hok k ho)).trans hh)
/-- The map's own block. -/
theorem Z_block {b : Nat} (h : Z d e w base ok (.map (some b)) m) : base ≤ b ∧ ∃ es clock, w.heap[b]? = some (.map es clock) := by
  obtain ⟨b', es, clock, hv, _, hb, hh, _⟩ := h
  cases hv
  exact ⟨hb, es, clock, hh⟩
end
section
variable {α : Type} {d : Kd α} {e base b : Nat} {ok : Nat → Prop} {W w1 : World} {u : Value} {xs : List α}
end
end Kd
theorem blk_neZ {W : World} {g b t : Nat} {cells : Array Value} {fr : Nat × Nat} (h : W.heap[g]? = some (.cells cells t fr)) (hz : ∃ es clock, W.heap[b]? = some (.map es clock)) : some g ≠ some b := by
  intro e
  cases e
  obtain ⟨es, clock, hh⟩ := hz
  rw [h] at hh
  cases hh

namespace Kd
section
variable {α β : Type} [DecidableEq α] {d : Kz α β} {e : Nat} {base : Nat} {ok : Nat → Prop} {v : Value} {l : List (α × β)} {P : Program} {ops : Array Oper} {rest : List Oper} {o : Oper} {a : Act} {Q : Exit → Act → World → Prop} {W : World}
/-- make(map[K]V). -/
theorem Z_make_op (d : Kz α β) (e : Nat) (hgd : o.guard = none) {N : Tmp} (hd : o.dst = some N) {t : TypeId} (ho : o.op = .makeMap t none) (hok : ok W.heap.size)
    (h : ∀ b, b = W.heap.size → ∀ w1, Z d e w1 W.heap.size ok (.map (some b)) ([] : List (α × β)) → Below W.heap.size W w1 → wpList P ops Q rest (a.put o.dst (.map (some b))) w1) : wpList P ops Q (o :: rest) a W := by
  refine wpList_plain hgd fun K hK => ?_
  unfold Oper.wp
  simp only [execOp, ho, Sem.run_bind, Sem.run_pure, run_makeMap, Result.andThen_ok]
  exact hK _ _ (h _ rfl _ ⟨_, #[], 0, rfl, hok, Nat.le_refl _, (MapKept.heap_alloc W _).1, by simp [MapRep, mget]⟩ (qc0 (Below.refl _ _) _))

theorem Z_find {k : α} (K : Go.Maps.Keyed d.P d.kt) (hinj : ∀ x y, d.enc x = d.enc y → x = y) {es : Array MapEntry} (hr : MapRep d es.toList l) (w : World) (hkey : ∃ kl, keyOf d.P d.kt (d.enc k) = some kl) :
    ((Instr.findKey d.kt (d.enc k) es.toList).run d.P w = .ok none w ∧ (∀ x ∈ es.toList, x.key ≠ d.enc k) ∧ mget l k = none) ∨
    ∃ j e0 c, (Instr.findKey d.kt (d.enc k) es.toList).run d.P w = .ok (some (j, d.encv c)) w ∧ es.toList[j]? = some e0 ∧ e0.key = d.enc k ∧ e0.val = d.encv c ∧ mget l k = some c := by
  obtain ⟨kl, hkl⟩ := hkey
  rcases K.find w hkl es.toList (fun e he => (hr.1 e he).1) with ⟨h1, h2⟩ | ⟨j, e0, h1, h2, h3⟩
  · refine .inl ⟨h1, h2, ?_⟩
    cases hm : mget l k with
    | none => rfl
    | some c =>
      obtain ⟨e0, he0, hk0⟩ := hr.2.1 k c hm
      exact absurd hk0 (h2 e0 he0)
  · obtain ⟨_, a0, c, hk0, hv0, hg0⟩ := hr.1 e0 (List.mem_of_getElem? h2)
    have : a0 = k := hinj _ _ (hk0.symm.trans h3)
    subst this
    exact .inr ⟨j, e0, c, by rw [h1, hv0], h2, h3, hv0, hg0⟩

theorem Z_run {k : α} {b : Nat} {t et : TypeId} (K : Go.Maps.Keyed d.P d.kt) (hinj : ∀ x y, d.enc x = d.enc y → x = y) (ht : d.P.underlying t = some (.map d.kt et)) (z : β) (hz : ∀ w, (zeroValue et).run d.P w = .ok (d.encv z) w)
    (HO : Z d e W base ok (.map (some b)) l) (hkey : ∃ kl, keyOf d.P d.kt (d.enc k) = some kl) (c : Bool) :
    (Instr.lookup t (.map (some b)) (d.enc k) c).run d.P W = .ok (if c then .tuple #[d.encv ((mget l k).getD z), .bool (mget l k).isSome] else d.encv ((mget l k).getD z)) W := by
  obtain ⟨b', es, clock, hv, _, _, hh, hr⟩ := HO
  cases hv
  obtain ⟨kl, hkl⟩ := id hkey
  rcases Z_find K hinj hr W hkey with ⟨h1, _, h3⟩ | ⟨j, e0, c0, h1, _, _, _, h3⟩
  · cases c <;> simp [Instr.lookup, run_underlying ht, MapKept.run_getObj_map hh, K.check W _ hkl, h1, h3, hz, Result.andThen]
  · cases c <;> simp [Instr.lookup, run_underlying ht, MapKept.run_getObj_map hh, K.check W _ hkl, h1, h3, Result.andThen]

/-- m[k]. -/
theorem Z_look_op {et : TypeId} (d : Kz α β) (e : Nat) (hP : d.P = P) (hgd : o.guard = none) (m x : Operand) (t : TypeId) (ho : o.op = .lookup t m x false) (K : Go.Maps.Keyed d.P d.kt) (hinj : ∀ x y, d.enc x = d.enc y → x = y) (ht : d.P.underlying t = some (.map d.kt et)) (z : β) (hz : ∀ w, (zeroValue et).run d.P w = .ok (d.encv z) w)
    (b : Nat) (l : List (α × β)) (k : α) (hm : a.eval m = .map (some b)) (hx : a.eval x = d.enc k) (hkey : ∃ kl, keyOf d.P d.kt (d.enc k) = some kl) (HO : Z d e W base ok (.map (some b)) l)
    (r : Value) (hr : d.encv ((mget l k).getD z) = r) (h : wpList P ops Q rest (a.put o.dst r) W) : wpList P ops Q (o :: rest) a W := by
  subst hP
  subst hr
  refine wpList_plain hgd fun K' hK => ?_
  unfold Oper.wp
  simp [execOp, ho, hm, hx, Z_run K hinj ht z hz HO hkey false, Result.andThen]
  exact hK _ _ h
theorem pairwise_push {l : List MapEntry} {x : MapEntry} (h : (l.map (·.key)).Pairwise (· ≠ ·)) (hx : ∀ y ∈ l, y.key ≠ x.key) : ((l ++ [x]).map (·.key)).Pairwise (· ≠ ·) := by
  rw [List.map_append, List.pairwise_append]
  refine ⟨h, by simp, ?_⟩
  intro p hp q hq
  obtain ⟨y, hy, rfl⟩ := List.mem_map.1 hp
  simp at hq
  subst hq
  exact hx y hy

/-- m[k] = c: what the entries say behind it. -/
theorem Z_set_run {k : α} {c : β} {b : Nat} {t et : TypeId} (K : Go.Maps.Keyed d.P d.kt) (hinj : ∀ x y, d.enc x = d.enc y → x = y) (ht : d.P.underlying t = some (.map d.kt et))
    (HO : Z d e W base ok (.map (some b)) l) (hkey : ∃ kl, keyOf d.P d.kt (d.enc k) = some kl) :
    ∃ w1, (Instr.mapUpdate t (.map (some b)) (d.enc k) (d.encv c)).run d.P W = .ok () w1 ∧ Z d e w1 base ok (.map (some b)) (mset l k c) ∧ W.grownBy w1 (some b) := by
  obtain ⟨b', es, clock, hv, ho, hb, hh, hr⟩ := HO
  cases hv
  obtain ⟨kl, hkl⟩ := id hkey
  rcases Z_find K hinj hr W hkey with ⟨h1, h2, h3⟩ | ⟨j, e0, c0, h1, h2, h3, h4, h5⟩
  · refine ⟨ChangeMaps.setBlock W b (.map (es.push ⟨d.enc k, d.encv c, clock⟩) (clock + 1)), ?_, ⟨b, _, _, rfl, ho, hb, ChangeMaps.heap_setBlock_same hh _, ?_⟩, ⟨rfl, rfl, rfl, by simp [ChangeMaps.setBlock], fun i _ hi => ChangeMaps.heap_setBlock_other hh _ (fun e => hi (by rw [e]))⟩⟩
    · simp [Instr.mapUpdate, run_underlying ht, MapKept.run_getObj_map hh, K.check W false hkl, h1, MapKept.run_setObj_map _ hh, Result.andThen, ChangeMaps.setBlock]
    · rw [Array.toList_push]
      refine ⟨fun e he => ?_, fun a0 c1 hg => ?_, pairwise_push hr.2.2 h2⟩
      · rcases List.mem_append.1 he with he | he
        · obtain ⟨hk1, a1, c1, ha1, hc1, hg1⟩ := hr.1 e he
          refine ⟨hk1, a1, c1, ha1, hc1, ?_⟩
          rw [mget_set, if_neg (fun e1 => h2 e he (by rw [ha1, e1]))]
          exact hg1
        · rw [List.mem_singleton] at he
          subst he
          exact ⟨⟨kl, hkl⟩, k, c, rfl, rfl, by rw [mget_set, if_pos rfl]⟩
      · rw [mget_set] at hg
        by_cases e1 : k = a0
        · subst e1
          exact ⟨_, List.mem_append_right _ (List.mem_singleton.2 rfl), rfl⟩
        · rw [if_neg e1] at hg
          obtain ⟨e2, he2, hk2⟩ := hr.2.1 a0 c1 hg
          exact ⟨e2, List.mem_append_left _ he2, hk2⟩
  · have hj : es[j]? = some e0 := by simpa using h2
    have hlist : (es.modify j (fun e' => { e' with key := d.enc k, val := d.encv c })).toList = es.toList.set j { e0 with key := d.enc k, val := d.encv c } := by rw [Array.toList_modify, ChangeMaps.modify_eq_set _ _ _ _ h2]
    refine ⟨ChangeMaps.setBlock W b (.map (es.modify j (fun e' => { e' with key := d.enc k, val := d.encv c })) clock), ?_, ⟨b, _, _, rfl, ho, hb, ChangeMaps.heap_setBlock_same hh _, ?_⟩, ⟨rfl, rfl, rfl, by simp [ChangeMaps.setBlock], fun i _ hi => ChangeMaps.heap_setBlock_other hh _ (fun e => hi (by rw [e]))⟩⟩
    · simp [Instr.mapUpdate, run_underlying ht, MapKept.run_getObj_map hh, K.check W false hkl, h1, hj, h3, K.stays W hkl, MapKept.run_setObj_map _ hh, Result.andThen, ChangeMaps.setBlock]
    · rw [hlist]
      have hkeys : (es.toList.set j { e0 with key := d.enc k, val := d.encv c }).map (·.key) = es.toList.map (·.key) := by
        rw [List.map_set]
        apply List.ext_getElem?
        intro i
        by_cases hi : j = i
        · subst hi
          rw [List.getElem?_set_self (by simpa using (List.getElem?_eq_some_iff.1 h2).1)]
          simp [h2, h3, hj]
        · rw [List.getElem?_set_ne hi]
      refine ⟨fun e he => ?_, fun a0 c1 hg => ?_, by rw [hkeys]; exact hr.2.2⟩
      · obtain ⟨i, hi, ex⟩ := List.getElem_of_mem he
        rw [List.getElem_set] at ex
        split at ex
        · subst ex
          exact ⟨⟨kl, hkl⟩, k, c, rfl, rfl, by rw [mget_set, if_pos rfl]⟩
        · rename_i hne
          have hi' : i < es.toList.length := by simpa using hi
          obtain ⟨hk1, a1, c1, ha1, hc1, hg1⟩ := hr.1 e (ex ▸ List.getElem_mem hi')
          refine ⟨hk1, a1, c1, ha1, hc1, ?_⟩
          rw [mget_set, if_neg ?_]
          · exact hg1
          · rintro rfl
            have hp := hr.2.2
            rw [List.pairwise_iff_getElem] at hp
            have hjl : j < es.toList.length := (List.getElem?_eq_some_iff.1 h2).1
            have e2 : es.toList[j] = e0 := (List.getElem?_eq_some_iff.1 h2).2
            rcases Nat.lt_or_ge i j with hlt | hge
            · have := hp i j (by simpa using hi') (by simpa using hjl) hlt
              apply this
              rw [List.getElem_map, List.getElem_map, ex, e2, ha1, h3]
            · have := hp j i (by simpa using hjl) (by simpa using hi') (by omega)
              apply this
              rw [List.getElem_map, List.getElem_map, ex, e2, ha1, h3]
      · rw [mget_set] at hg
        have hjl : j < es.toList.length := (List.getElem?_eq_some_iff.1 h2).1
        by_cases e1 : k = a0
        · subst e1
          exact ⟨{ e0 with key := d.enc k, val := d.encv c }, List.mem_of_getElem? (i := j) (by rw [List.getElem?_set_self hjl]), rfl⟩
        · rw [if_neg e1] at hg
          obtain ⟨e2, he2, hk2⟩ := hr.2.1 a0 c1 hg
          obtain ⟨i, hi⟩ := List.getElem?_of_mem he2
          have hij : j ≠ i := by
            rintro rfl
            rw [h2] at hi
            cases hi
            exact e1 (hinj _ _ (h3.symm.trans hk2))
          exact ⟨e2, List.mem_of_getElem? (i := i) (by rw [List.getElem?_set_ne hij]; exact hi), hk2⟩

theorem Z_set_op {et : TypeId} (d : Kz α β) (e : Nat) (hP : d.P = P) (hgd : o.guard = none) (m x y : Operand) (t : TypeId) (ho : o.op = .mapUpdate t m x y) (hN : o.dst = none) (K : Go.Maps.Keyed d.P d.kt) (hinj : ∀ x y, d.enc x = d.enc y → x = y) (ht : d.P.underlying t = some (.map d.kt et))
    (b : Nat) (l : List (α × β)) (k : α) (c : β) (hm : a.eval m = .map (some b)) (hx : a.eval x = d.enc k) (hy : a.eval y = d.encv c) (hkey : ∃ kl, keyOf d.P d.kt (d.enc k) = some kl) (HO : Z d e W base ok (.map (some b)) l)
    (h : ∀ w1, Z d e w1 base ok (.map (some b)) (mset l k c) → W.grownBy w1 (some b) → base ≤ b → (∃ es clock, W.heap[b]? = some (.map es clock)) → wpList P ops Q rest a w1) : wpList P ops Q (o :: rest) a W := by
  subst hP
  have hz := Z_block HO
  refine wpList_plain hgd fun K' hK => ?_
  obtain ⟨w1, hrun, r1, r2⟩ := Z_set_run (c := c) K hinj ht HO hkey
  unfold Oper.wp
  simp [execOp, ho, hm, hx, hy, hrun, Result.andThen]
  show K' (a.put o.dst undef) w1
  rw [hN]
  exact hK _ _ (h w1 r1 r2 hz.1 hz.2)

end
end Kd
theorem gate_mapset {P : Program} {ops : Array Oper} {rest : List Oper} {o : Oper} {a : Act} {Q : Exit → Act → World → Prop} {W : World} {t : TypeId} {m x y : Operand} (_ho : o.op = .mapUpdate t m x y) (h : wpList P ops Q (o :: rest) a W) : wpList P ops Q (o :: rest) a W := h
namespace Kd
section
variable {α β : Type} [DecidableEq α] {d : Kz α β} {e : Nat} {base : Nat} {ok : Nat → Prop} {v : Value} {l l' : List (α × β)} {P : Program} {o : Oper} {a : Act} {K : Act → World → Prop} {Q : Exit → Act → World → Prop} {W : World}
end
end Kd
end Go.Proofs.YtkkdmmefnicmaaaW.PrintWords
