/- The library's Sort and Compact on an own row of numbers. -/
import Derived.Test.YtfcihgjageeglaaV2
import Derived.Test.YtfcihgjageeglaaSpecs
import Derived.Test.YtfcihgjageeglaaXtI
import Derived.Shelf.Sort.Plain
import Derived.Shelf.Slices.In.SortNone
import Derived.Shelf.SlicesE.Compact
import Derived.Sort.OwnSortedInts
set_option linter.unusedSimpArgs false
set_option linter.unusedVariables false
namespace Go.Xt
open Go.RowKit Go.Sort Go.Proofs Go.Shelf

theorem ints_holds {w : World} {g c : Nat} {T : TypeId} {zs : List Int} (h : IntsAt w g c T zs) : ∃ cur : Array Value, w.heap[g]? = some (.cells cur T (0, 0)) ∧ cur.size = c ∧ zs.length ≤ c ∧ cur.toList.take zs.length = zs.map (Value.int .i64) := by
  obtain ⟨cur, h1, h2, h3, h4⟩ := h
  refine ⟨cur, h1, h2, h3, List.ext_getElem? fun j => ?_⟩
  by_cases hj : j < zs.length
  · rw [List.getElem?_take_of_lt hj, Array.getElem?_toList, h4 j hj]
    simp [hj, List.getD_eq_getElem?_getD]
  · rw [List.getElem?_take_eq_none (by omega), List.getElem?_eq_none (by simp; omega)]

theorem put_other {w : World} {g n k : Nat} {os : Array Obj} (d : Array Int) (hk : k < w.heap.size) (hne : k ≠ g) : (grow (putRow (Value.int .i64) (Sort.ahead w n) g 0 d) os).heap[k]? = w.heap[k]? := by
  rw [heap_grow_old _ _ (by simpa using hk)]
  have : ¬ g = k := fun e => hne e.symm
  simp [putRow, mapBlock, Sort.ahead, Array.getElem?_modify, this]
theorem put_ints {w : World} {g c n : Nat} {T : TypeId} {os : Array Obj} {cur : Array Value} (ys : List Int) (m : Nat) (z : Int) (hb : w.heap[g]? = some (.cells cur T (0, 0))) (hc : cur.size = c) (hl : ys.length + m ≤ c) :
    IntsAt (grow (putRow (Value.int .i64) (Sort.ahead w n) g 0 (ys ++ List.replicate m z).toArray) os) g c T ys := by
  refine ⟨_, heap_sortedI _ hb, by simp [putCells, hc], by omega, fun i hi => ?_⟩
  have h1 : i < cur.size := by omega
  simp [putCells, h1, List.getElem?_append_left hi, List.getD_eq_getElem?_getD, hi]
  intro h; omega
theorem grow_none (w : World) : grow w #[] = w := by simp [grow]

theorem ipSort {P : Program} {r : Ren} (Ly : Lays.n189 P r) :
    IpOK P (r.f 189) false (fnOf (fun (l : List Int) => l.length < 4611686018427387904) (fun (l : List Int) => [L l]) (fun (l : List Int) => [L (sorted l)])) := by
  intro ps rs hf
  obtain ⟨l, hp, rfl, rfl⟩ := fnOf_inv hf
  have hlen : (sorted l).length = l.length := List.length_mergeSort ..
  refine ⟨l, sorted l, rfl, rfl, by omega, fun _ => hlen, fun y hy => List.mem_mergeSort.1 hy, fun w g c T hI => ?_, fun w A hz => ?_⟩
  · obtain ⟨cur, h1, h2, h3, h4⟩ := ints_holds hI
    have hg : g < w.heap.size := (Array.getElem?_eq_some_iff.1 h1).1
    refine (Any.slices_Sort_int Ly g 0 c l w (holds_of_blockI h1 h4) hg hp).mono ?_
    rintro e w' ⟨rfl, n, os, rfl⟩
    have hq := put_ints (n := n) (os := os) (sorted l) 0 0 h1 h2 (by omega)
    simp only [List.replicate_zero, List.append_nil] at hq
    refine ⟨rfl, hq, fun g' hg' hne => put_other _ hg' hne, ?_, rfl, rfl, rfl⟩
    simp [grow, putRow, mapBlock, Sort.ahead]
  · subst hz
    refine (Any.slices_Sort_int_none Ly A 0 w).mono ?_
    rintro e w' ⟨rfl, rfl⟩
    exact ⟨rfl, Below.refl _ _⟩
theorem compGo_snoc : ∀ (r : List Int) (p x : Int), compGo p (r ++ [x]) = compGo p r ++ if x = r.getLastD p then [] else [x]
  | [], p, x => by
    by_cases e : x = p <;> simp [compGo, e]
  | y :: r, p, x => by
    simp only [List.cons_append, compGo, List.getLastD_cons]
    by_cases e : y = p
    · subst e; rw [if_pos rfl, if_pos rfl, compGo_snoc r y x]
    · rw [if_neg e, if_neg e, compGo_snoc r y x]; rfl
theorem compacted_snoc (l : List Int) (x : Int) : compacted (l ++ [x]) = compacted l ++ if l ≠ [] ∧ x = l.getLastD 0 then [] else [x] := by
  cases l with
  | nil => simp [compacted, compGo]
  | cons a r =>
    simp only [List.cons_append, compacted, compGo_snoc, List.getLastD_cons, ne_eq, reduceCtorEq, not_false_eq_true, true_and]
theorem last_take {l : List Int} {m : Nat} (h : m < l.length) (h0 : 0 < m) : (l.take m).getLastD 0 = l[m - 1] := by
  obtain ⟨k, rfl⟩ : ∃ k, m = k + 1 := ⟨m - 1, by omega⟩
  rw [List.take_add_one, List.getElem?_eq_getElem (by omega), Option.toList_some, List.getLastD_concat]
  rfl
theorem compactUpTo_eq (l : List Int) : ∀ m, m ≤ l.length → Go.Lib.compactUpTo l.toArray m = compacted (l.take m)
  | 0, _ => by simp [Go.Lib.compactUpTo, compacted]
  | m + 1, h => by
    rw [Go.Lib.compactUpTo_succ, compactUpTo_eq l m (by omega), List.take_add_one, List.getElem?_eq_getElem (by omega), Option.toList_some, compacted_snoc]
    congr 1
    have e1 : l.toArray[m]! = l[m] := by simp [show m < l.length by omega]
    have e2 : 0 < m → l.toArray[m - 1]! = l[m - 1] := fun h0 => by simp [show m - 1 < l.length by omega]
    rw [e1]
    unfold Go.Lib.keeps
    rw [e1]
    by_cases h0 : m = 0
    · subst h0; simp
    · have h1 : l.take m ≠ [] := by
        intro e; have := congrArg List.length e; rw [List.length_take, List.length_nil] at this; omega
      rw [e2 (by omega), last_take (by omega) (by omega)]
      by_cases e : l[m] = l[m - 1] <;> simp [h0, h1, e]
theorem compacted_mem {l : List Int} {y : Int} (h : y ∈ compacted l) : y ∈ l := by
  have hc := compactUpTo_eq l l.length (Nat.le_refl _)
  rw [List.take_length] at hc
  rw [← hc] at h
  unfold Go.Lib.compactUpTo at h
  rw [List.mem_map] at h
  obtain ⟨j, hj, rfl⟩ := h
  have := (List.mem_filter.1 hj).1
  rw [List.mem_range] at this
  simp [this]
theorem compacted_len (l : List Int) : (compacted l).length ≤ l.length := by
  have hc := compactUpTo_eq l l.length (Nat.le_refl _)
  rw [List.take_length] at hc
  rw [← hc]
  unfold Go.Lib.compactUpTo
  have := List.length_filter_le (Go.Lib.keeps l.toArray) (List.range l.length)
  simpa using this

set_option maxHeartbeats 4000000 in
set_option maxRecDepth 1000000 in
theorem compact_none {P : Program} {ρ : Ren} (L : SlLaysE.n43 P ρ) (A : Option Addr) (w : World) : Calls P (ρ.f 43) #[.slice A 0 0] w fun e w' => e = .returned (.slice A 0 0) ∧ w' = w := by
  have mixed := L.mixed; have t0 := L.t0; have a0 := L.a0; have z0 := L.z0; have v0 := L.v0; have t3 := L.t3; have a3 := L.a3; have z3 := L.z3; have v3 := L.v3; have t4 := L.t4; have a4 := L.a4; have z4 := L.z4; have v4 := L.v4; have t22 := L.t22; have a22 := L.a22; have z22 := L.z22; have v22 := L.v22; have a23 := L.a23; have z23 := L.z23
  obtain ⟨_, _, FG⟩ := L.f43
  go_enter FG, SlBodyN.n43_ntmps ρ
  go_wp2
  go_ret
  exact ⟨rfl, rfl⟩

theorem ipCompact {P : Program} {r : Ren} (L43 : SlLaysE.n43 P r) (v23 : ∀ w, (zeroValue (r.t 23)).run P w = .ok (.int .i64 0) w) :
    IpOK P (r.f 43) true (fnOf (fun (l : List Int) => l.length < 4611686018427387904) (fun (l : List Int) => [L l]) (fun (l : List Int) => [L (compacted l)])) := by
  intro ps rs hf
  obtain ⟨l, hp, rfl, rfl⟩ := fnOf_inv hf
  have hlen := compacted_len l
  have hc := compactUpTo_eq l l.length (Nat.le_refl _)
  rw [List.take_length] at hc
  refine ⟨l, compacted l, rfl, rfl, hlen, fun h => (by cases h), fun y hy => compacted_mem hy, fun w g c T hI => ?_, fun w A hz => ?_⟩
  · obtain ⟨cur, h1, h2, h3, h4⟩ := ints_holds hI
    have hg : g < w.heap.size := (Array.getElem?_eq_some_iff.1 h1).1
    have hk := AnyE.slices_Compact L43 (Value.int .i64) (fun _ => rfl) (EqlAt.intD P _ .i64) (NeqAt.intD P _ .i64) 0 v23 g 0 c l.toArray w (holds_of_blockI h1 h4) (by simp; omega) (by simpa using h3)
    simp only [List.size_toArray, hc] at hk
    refine hk.mono ?_
    rintro e w' ⟨rfl, n, rfl⟩
    have hq := put_ints (n := n) (os := #[]) (compacted l) (l.length - (compacted l).length) 0 h1 h2 (by omega)
    rw [grow_none] at hq
    refine ⟨rfl, hq, fun g' hg' hne => ?_, ?_, rfl, rfl, rfl⟩
    · have := put_other (n := n) (os := #[]) (compacted l ++ List.replicate (l.length - (compacted l).length) 0).toArray hg' hne
      rw [grow_none] at this; exact this
    · simp [putRow, mapBlock, Sort.ahead]
  · subst hz
    refine (compact_none L43 A w).mono ?_
    rintro e w' ⟨rfl, rfl⟩
    exact ⟨rfl, Below.refl _ _⟩
end Go.Xt
