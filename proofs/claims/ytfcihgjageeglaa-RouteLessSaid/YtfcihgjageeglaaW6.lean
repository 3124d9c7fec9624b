/- Steps towards the statements of this seat; the conditions stand in each theorem. -/
import Derived.Test.YtfcihgjageeglaaW5
set_option linter.unusedSimpArgs false
set_option linter.unusedVariables false
set_option maxRecDepth 100000
namespace Go.Xt
theorem ext_lt : ∀ {xs ys : List Int}, xs.Pairwise (· < ·) → ys.Pairwise (· < ·) → (∀ a, a ∈ xs ↔ a ∈ ys) → xs = ys
  | [], [], _, _, _ => rfl
  | [], y :: ys, _, _, h => by have := (h y).2 (by simp); simp at this
  | x :: xs, [], _, _, h => by have := (h x).1 (by simp); simp at this
  | x :: xs, y :: ys, h1, h2, h => by
    rw [List.pairwise_cons] at h1 h2
    have e : x = y := by
      have a := (h x).1 (by simp)
      have b := (h y).2 (by simp)
      rw [List.mem_cons] at a b
      rcases a with a | a
      · exact a
      · rcases b with b | b
        · exact b.symm
        · have := h2.1 x a; have := h1.1 y b; omega
    subst e
    rw [ext_lt h1.2 h2.2 fun a => ⟨fun ha => ?_, fun ha => ?_⟩]
    · have := (h a).1 (by simp [ha])
      rw [List.mem_cons] at this
      rcases this with e | e
      · have := h1.1 a ha; omega
      · exact e
    · have := (h a).2 (by simp [ha])
      rw [List.mem_cons] at this
      rcases this with e | e
      · have := h2.1 a ha; omega
      · exact e
theorem compGo_ok : ∀ {r : List Int} {p : Int}, r.Pairwise (· ≤ ·) → (∀ a ∈ r, p ≤ a) → (compGo p r).Pairwise (· < ·) ∧ (∀ a, a ∈ compGo p r ↔ a ∈ r ∧ a ≠ p)
  | [], p, _, _ => by simp [compGo]
  | y :: r, p, h1, h2 => by
    rw [List.pairwise_cons] at h1
    unfold compGo
    by_cases e : y = p
    · subst e
      obtain ⟨a, b⟩ := compGo_ok h1.2 h1.1
      rw [if_pos rfl]
      refine ⟨a, fun z => ?_⟩
      rw [b, List.mem_cons]
      exact ⟨fun h => ⟨.inr h.1, h.2⟩, fun h => ⟨h.1.resolve_left h.2, h.2⟩⟩
    · obtain ⟨a, b⟩ := compGo_ok h1.2 h1.1
      rw [if_neg e]
      refine ⟨List.pairwise_cons.2 ⟨fun z hz => ?_, a⟩, fun z => ?_⟩
      · have := (b z).1 hz
        have := h1.1 z this.1
        omega
      · have hy := h2 y (by simp)
        rw [List.mem_cons, b, List.mem_cons]
        constructor
        · rintro (rfl | ⟨h, h'⟩)
          · exact ⟨.inl rfl, e⟩
          · exact ⟨.inr h, by have := h1.1 z h; omega⟩
        · rintro ⟨rfl | h, h'⟩
          · exact .inl rfl
          · by_cases z = y
            · left; assumption
            · right; exact ⟨h, by assumption⟩
theorem comp_ok {l : List Int} (h : l.Pairwise (· ≤ ·)) : (compacted l).Pairwise (· < ·) ∧ ∀ a, a ∈ compacted l ↔ a ∈ l := by
  cases l with
  | nil => simp [compacted]
  | cons x r =>
    rw [List.pairwise_cons] at h
    obtain ⟨a, b⟩ := compGo_ok h.2 h.1
    unfold compacted
    refine ⟨List.pairwise_cons.2 ⟨fun z hz => ?_, a⟩, fun z => ?_⟩
    · have := (b z).1 hz
      have := h.1 z this.1
      omega
    · rw [List.mem_cons, b, List.mem_cons]
      by_cases e : z = x <;> simp [e]
theorem sorted_mem {l : List Int} {a : Int} : a ∈ sorted l ↔ a ∈ l := List.mem_mergeSort
theorem sorted_pw (l : List Int) : (sorted l).Pairwise (· ≤ ·) := by
  have := List.pairwise_mergeSort (le := fun x y : Int => decide (x ≤ y)) (by intro a b c; simp; omega) (by intro a b; simp; omega) l
  simpa [sorted] using this
theorem nodesL_mem {a : Int} : a ∈ nodesL ↔ isN a = true := by
  rw [isN_iff]; simp [nodesL]; omega
theorem nodes_pw : nodesL.Pairwise (· < ·) := by decide
theorem comp_sorted {l : List Int} (h : ∀ a ∈ l, isN a = true) : compacted (sorted l) = nodesL.filter fun n => l.contains n := by
  obtain ⟨a, b⟩ := comp_ok (sorted_pw l)
  refine ext_lt a (nodes_pw.filter _) fun z => ?_
  rw [b, sorted_mem, List.mem_filter, nodesL_mem]
  simp only [List.contains_eq_mem, decide_eq_true_eq]
  exact ⟨fun hz => ⟨h z hz, hz⟩, fun hz => hz.2⟩
theorem firstGo_mem {k : Int} : ∀ (l : List Int) (b d : Int), (firstGo k b d l = b ∧ (0 ≤ b ∨ l = [])) ∨ firstGo k b d l ∈ l
  | [], b, d => .inl ⟨rfl, .inr rfl⟩
  | x :: r, b, d => by
    unfold firstGo
    split
    · rcases firstGo_mem r x (far k (nn x)) with ⟨h, _⟩ | h
      · right; rw [h]; simp
      · right; simp [h]
    · rename_i hb
      rcases firstGo_mem r b d with ⟨h, _⟩ | h
      · left; exact ⟨h, .inl (by omega)⟩
      · right; simp [h]
theorem firstN_mem {live : List Int} {k : Int} (h : live ≠ []) : firstN live k ∈ live := by
  rcases firstGo_mem (k := k) live (-1) 0 with ⟨_, h1 | h1⟩ | h1
  · omega
  · exact absurd h1 h
  · exact h1
theorem fingL_succ (live : List Int) (self : Int) (k : Nat) : fingL live self (k + 1) = fingL live self k ++ if firstN live (backN self k) ≠ self then [firstN live (backN self k)] else [] := by
  unfold fingL
  rw [List.range_succ, List.map_append, List.filter_append]
  congr 1
  by_cases h : firstN live (backN self k) = self <;> simp [h]
theorem fingL_len (live : List Int) (self : Int) : ∀ k : Nat, (fingL live self k).length ≤ k
  | 0 => by simp [fingL]
  | k + 1 => by
    have := fingL_len live self k
    rw [fingL_succ, List.length_append]
    split <;> simp <;> omega
theorem fingL_mem {live : List Int} {self n : Int} {k : Nat} (h0 : live ≠ []) (h : n ∈ fingL live self k) : n ∈ live ∧ n ≠ self := by
  unfold fingL at h
  simp only [List.mem_filter, List.mem_map, decide_eq_true_eq] at h
  obtain ⟨⟨i, _, rfl⟩, h2⟩ := h
  exact ⟨firstN_mem h0, h2⟩
theorem backN_bd (self : Int) {i : Nat} (h : i < 62) : 0 ≤ backN self i ∧ backN self i < 4611686018427387904 := by
  have b : (1 : Int) ≤ 2 ^ i ∧ (2 : Int) ^ i < 4611686018427387904 := pow_bd ⟨i, h⟩
  exact far_bd (by omega) b.2 (nn_bd self).1 (nn_bd self).2
theorem fingers_of {live : List Int} {self : Int} (h1 : live.all isN = true) (h3 : live ≠ []) : compacted (sorted (fingL live self 62)) = fingers live self := by
  rw [List.all_eq_true] at h1
  rw [comp_sorted fun a ha => h1 a (fingL_mem h3 ha).1]; rfl
theorem sorted_len (l : List Int) : (sorted l).length = l.length := List.length_mergeSort ..
theorem w_route_fingers (live : List Int) (self : Int) (hp : live.all isN = true ∧ isN self = true ∧ live ≠ []) (hg : Goods [L live, I self]) : S_route_fingers ρ (L live) (I self) (· = [L (fingers live self)]) := by
  unfold S_route_fingers
  obtain ⟨p1, p2, p3⟩ := hp
  simp (disch := first | omega | assumption | (simp only [List.length_cons, List.length_nil]; omega)) only [↓OP_len, ↓OP_len0, ↓OP_idx, ↓OP_drop, ↓OP_take, ↓OP_mid, ↓OP_all, ↓OP_isl, ↓OP_isl0, ↓OP_app, ↓OP_app0, ↓OP_appN, ↓OP_app00, ↓OP_rowI, ↓OP_rowI2, ↓OP_rowL, ↓OP_rowLL, ↓OP_rowI4, ↓OP_rowI8, ↓OP_lss, ↓OP_leq, ↓OP_gtr, ↓OP_geq, ↓OP_eql, ↓OP_neq, ↓OP_not, ↓OP_beq, ↓OP_bne, ↓OP_add, ↓OP_sub, ↓OP_mn, ↓OP_mx, ↓OP_sel, ↓OP_cu, ↓OP_remU, ↓OP_ci, ↓ITE_true, ↓ITE_false, ↓ITE_bool, decide_eq_true_eq, decide_eq_false_iff_not, Bool.not_eq_eq_eq_not, Bool.not_true, Bool.not_false, Bool.false_eq_true, Bool.true_eq_false, false_implies, true_implies, true_and, and_true, implies_true, not_true_eq_false, not_false_eq_true, app1, app2, app3, app4, cell0, look_z, look_s, rowI, rowB, rowL, ↓c_ring_Node, ↓c_key_Back, ↓c_route_first, ↓c_slices_Sort_int_int, ↓c_slices_Compact_int_int, p2, if_true]
  refine LOOP.rule (α := Nat) (fun i => [I i, L (fingL live self i)]) (fun i => i ≤ 62) (fun i => 62 - i) 0 rfl (by simp) (fun _ => rfl) ?_
  intro i h4
  simp only [app] at *
  have hl := fingL_len live self i
  simp (disch := first | omega | assumption | (simp only [List.length_cons, List.length_nil]; omega)) only [↓OP_len, ↓OP_len0, ↓OP_idx, ↓OP_drop, ↓OP_take, ↓OP_mid, ↓OP_all, ↓OP_isl, ↓OP_isl0, ↓OP_app, ↓OP_app0, ↓OP_appN, ↓OP_app00, ↓OP_rowI, ↓OP_rowI2, ↓OP_rowL, ↓OP_rowLL, ↓OP_rowI4, ↓OP_rowI8, ↓OP_lss, ↓OP_leq, ↓OP_gtr, ↓OP_geq, ↓OP_eql, ↓OP_neq, ↓OP_not, ↓OP_beq, ↓OP_bne, ↓OP_add, ↓OP_sub, ↓OP_mn, ↓OP_mx, ↓OP_sel, ↓OP_cu, ↓OP_remU, ↓OP_ci, ↓ITE_true, ↓ITE_false, ↓ITE_bool, decide_eq_true_eq, decide_eq_false_iff_not, Bool.not_eq_eq_eq_not, Bool.not_true, Bool.not_false, Bool.false_eq_true, Bool.true_eq_false, false_implies, true_implies, true_and, and_true, implies_true, not_true_eq_false, not_false_eq_true, app1, app2, app3, app4, cell0, look_z, look_s, rowI, rowB, rowL, ↓c_ring_Node, ↓c_key_Back, ↓c_route_first, ↓c_slices_Sort_int_int, ↓c_slices_Compact_int_int]
  refine ⟨fun h6 => ?_, fun h6 => ?_⟩
  · have e : (isK (nn self) && decide (0 ≤ (i : Int)) && decide ((i : Int) ≤ 61)) = true := by simp [isK_nn]; omega
    have hb := backN_bd self (i := i) (by omega)
    have hk : live.all isN = true ∧ 0 ≤ backN self i ∧ backN self i < 4611686018427387904 := ⟨p1, hb⟩
    have e2 : far (2 ^ i) (nn self) = backN self i := rfl
    simp (disch := first | omega | assumption | (simp only [List.length_cons, List.length_nil]; omega)) only [↓OP_len, ↓OP_len0, ↓OP_idx, ↓OP_drop, ↓OP_take, ↓OP_mid, ↓OP_all, ↓OP_isl, ↓OP_isl0, ↓OP_app, ↓OP_app0, ↓OP_appN, ↓OP_app00, ↓OP_rowI, ↓OP_rowI2, ↓OP_rowL, ↓OP_rowLL, ↓OP_rowI4, ↓OP_rowI8, ↓OP_lss, ↓OP_leq, ↓OP_gtr, ↓OP_geq, ↓OP_eql, ↓OP_neq, ↓OP_not, ↓OP_beq, ↓OP_bne, ↓OP_add, ↓OP_sub, ↓OP_mn, ↓OP_mx, ↓OP_sel, ↓OP_cu, ↓OP_remU, ↓OP_ci, ↓ITE_true, ↓ITE_false, ↓ITE_bool, decide_eq_true_eq, decide_eq_false_iff_not, Bool.not_eq_eq_eq_not, Bool.not_true, Bool.not_false, Bool.false_eq_true, Bool.true_eq_false, false_implies, true_implies, true_and, and_true, implies_true, not_true_eq_false, not_false_eq_true, app1, app2, app3, app4, cell0, look_z, look_s, rowI, rowB, rowL, ↓c_ring_Node, ↓c_key_Back, ↓c_route_first, ↓c_slices_Sort_int_int, ↓c_slices_Compact_int_int, e, if_true, Int.toNat_natCast, e2]
    refine ⟨fun h7 => ⟨i + 1, ?_, by omega, by omega⟩, fun h7 => ⟨i + 1, ?_, by omega, by omega⟩⟩
    · rw [fingL_succ]; simp [h7]
    · rw [fingL_succ]; simp [h7]
  · have e : i = 62 := by omega
    subst e
    have hs := sorted_len (fingL live self 62)
    simp (disch := first | omega | assumption | (simp only [List.length_cons, List.length_nil]; omega)) only [↓OP_len, ↓OP_len0, ↓OP_idx, ↓OP_drop, ↓OP_take, ↓OP_mid, ↓OP_all, ↓OP_isl, ↓OP_isl0, ↓OP_app, ↓OP_app0, ↓OP_appN, ↓OP_app00, ↓OP_rowI, ↓OP_rowI2, ↓OP_rowL, ↓OP_rowLL, ↓OP_rowI4, ↓OP_rowI8, ↓OP_lss, ↓OP_leq, ↓OP_gtr, ↓OP_geq, ↓OP_eql, ↓OP_neq, ↓OP_not, ↓OP_beq, ↓OP_bne, ↓OP_add, ↓OP_sub, ↓OP_mn, ↓OP_mx, ↓OP_sel, ↓OP_cu, ↓OP_remU, ↓OP_ci, ↓ITE_true, ↓ITE_false, ↓ITE_bool, decide_eq_true_eq, decide_eq_false_iff_not, Bool.not_eq_eq_eq_not, Bool.not_true, Bool.not_false, Bool.false_eq_true, Bool.true_eq_false, false_implies, true_implies, true_and, and_true, implies_true, not_true_eq_false, not_false_eq_true, app1, app2, app3, app4, cell0, look_z, look_s, rowI, rowB, rowL, ↓c_ring_Node, ↓c_key_Back, ↓c_route_first, ↓c_slices_Sort_int_int, ↓c_slices_Compact_int_int, fingers_of p1 p3]
theorem w_route_Fingers (live : List Int) (self : Int) (hg : Goods [L live, I self]) : S_route_Fingers ρ (L live) (I self) (· = [L (if chkL live self = 0 then fingers live self else []), I (chkL live self)]) := by
  unfold S_route_Fingers
  simp (disch := first | omega | assumption | (simp only [List.length_cons, List.length_nil]; omega)) only [↓OP_len, ↓OP_len0, ↓OP_idx, ↓OP_drop, ↓OP_take, ↓OP_mid, ↓OP_all, ↓OP_isl, ↓OP_isl0, ↓OP_app, ↓OP_app0, ↓OP_appN, ↓OP_app00, ↓OP_rowI, ↓OP_rowI2, ↓OP_rowL, ↓OP_rowLL, ↓OP_rowI4, ↓OP_rowI8, ↓OP_lss, ↓OP_leq, ↓OP_gtr, ↓OP_geq, ↓OP_eql, ↓OP_neq, ↓OP_not, ↓OP_beq, ↓OP_bne, ↓OP_add, ↓OP_sub, ↓OP_mn, ↓OP_mx, ↓OP_sel, ↓OP_cu, ↓OP_remU, ↓OP_ci, ↓ITE_true, ↓ITE_false, ↓ITE_bool, decide_eq_true_eq, decide_eq_false_iff_not, Bool.not_eq_eq_eq_not, Bool.not_true, Bool.not_false, Bool.false_eq_true, Bool.true_eq_false, false_implies, true_implies, true_and, and_true, implies_true, not_true_eq_false, not_false_eq_true, app1, app2, app3, app4, cell0, look_z, look_s, rowI, rowB, rowL, ↓c_route_Check, ↓c_route_fingers]
  refine ⟨fun h => by simp [h]; rfl, fun h => ?_⟩
  have hA := (chkL_zero h).2.1
  simp (disch := first | omega | assumption | (simp only [List.length_cons, List.length_nil]; omega)) only [↓OP_len, ↓OP_len0, ↓OP_idx, ↓OP_drop, ↓OP_take, ↓OP_mid, ↓OP_all, ↓OP_isl, ↓OP_isl0, ↓OP_app, ↓OP_app0, ↓OP_appN, ↓OP_app00, ↓OP_rowI, ↓OP_rowI2, ↓OP_rowL, ↓OP_rowLL, ↓OP_rowI4, ↓OP_rowI8, ↓OP_lss, ↓OP_leq, ↓OP_gtr, ↓OP_geq, ↓OP_eql, ↓OP_neq, ↓OP_not, ↓OP_beq, ↓OP_bne, ↓OP_add, ↓OP_sub, ↓OP_mn, ↓OP_mx, ↓OP_sel, ↓OP_cu, ↓OP_remU, ↓OP_ci, ↓ITE_true, ↓ITE_false, ↓ITE_bool, decide_eq_true_eq, decide_eq_false_iff_not, Bool.not_eq_eq_eq_not, Bool.not_true, Bool.not_false, Bool.false_eq_true, Bool.true_eq_false, false_implies, true_implies, true_and, and_true, implies_true, not_true_eq_false, not_false_eq_true, app1, app2, app3, app4, cell0, look_z, look_s, rowI, rowB, rowL, ↓c_route_Check, ↓c_route_fingers]
  simp [h]
theorem aheadGo_mem {self : Int} : ∀ (l : List Int) (b d : Int), aheadGo self b d l = b ∨ (aheadGo self b d l ∈ l ∧ aheadGo self b d l ≠ self)
  | [], b, d => .inl rfl
  | x :: r, b, d => by
    unfold aheadGo
    split
    · rename_i h1
      rcases aheadGo_mem r x (far (nn x) (nn self)) with h | h
      · right; rw [h]; exact ⟨by simp, h1.1⟩
      · right; exact ⟨by simp [h], h.2⟩
    · rcases aheadGo_mem r b d with h | h
      · left; exact h
      · right; exact ⟨by simp [h], h.2⟩
theorem aheadN_mem (live : List Int) (self : Int) : aheadN live self = -1 ∨ (aheadN live self ∈ live ∧ aheadN live self ≠ self) := aheadGo_mem live (-1) 0
theorem fingers_len (live : List Int) (self : Int) : (fingers live self).length ≤ 8 := by
  have := List.length_filter_le (fun n => (fingL live self 62).contains n) nodesL
  exact this
theorem w_route_next (t : Int) (live : List Int) (self : Int) (hp : live.all isN = true ∧ isN self = true ∧ live ≠ []) (hg : Goods [I t, L live, I self]) : S_route_next ρ (I t) (L live) (I self) (· = [I (nextN t live self)]) := by
  unfold S_route_next nextN
  have hA : live.all isN = true ∧ isN self = true := ⟨hp.1, hp.2.1⟩
  have hl := fingers_len live self
  simp (disch := first | omega | assumption | (simp only [List.length_cons, List.length_nil]; omega)) only [↓OP_len, ↓OP_len0, ↓OP_idx, ↓OP_drop, ↓OP_take, ↓OP_mid, ↓OP_all, ↓OP_isl, ↓OP_isl0, ↓OP_app, ↓OP_app0, ↓OP_appN, ↓OP_app00, ↓OP_rowI, ↓OP_rowI2, ↓OP_rowL, ↓OP_rowLL, ↓OP_rowI4, ↓OP_rowI8, ↓OP_lss, ↓OP_leq, ↓OP_gtr, ↓OP_geq, ↓OP_eql, ↓OP_neq, ↓OP_not, ↓OP_beq, ↓OP_bne, ↓OP_add, ↓OP_sub, ↓OP_mn, ↓OP_mx, ↓OP_sel, ↓OP_cu, ↓OP_remU, ↓OP_ci, ↓ITE_true, ↓ITE_false, ↓ITE_bool, decide_eq_true_eq, decide_eq_false_iff_not, Bool.not_eq_eq_eq_not, Bool.not_true, Bool.not_false, Bool.false_eq_true, Bool.true_eq_false, false_implies, true_implies, true_and, and_true, implies_true, not_true_eq_false, not_false_eq_true, app1, app2, app3, app4, cell0, look_z, look_s, rowI, rowB, rowL, ↓c_ring_Nearer, ↓c_route_ahead, ↓c_route_fingers]
  have hl2 : (fingers live self ++ [aheadN live self]).length ≤ 9 := by simp; omega
  generalize fingers live self ++ [aheadN live self] = l at hl2 ⊢
  refine LOOP.rule (α := Nat × Int) (fun a => [I a.2, I a.1]) (fun a => a.1 ≤ l.length ∧ ownGo t a.2 (l.drop a.1) = ownGo t self l) (fun a => l.length - a.1) (0, self) rfl ⟨by simp, by simp⟩ (fun _ => rfl) ?_
  rintro ⟨i, b⟩ ⟨h4, h5⟩
  simp only [app] at *
  simp (disch := first | omega | assumption | (simp only [List.length_cons, List.length_nil]; omega)) only [↓OP_len, ↓OP_len0, ↓OP_idx, ↓OP_drop, ↓OP_take, ↓OP_mid, ↓OP_all, ↓OP_isl, ↓OP_isl0, ↓OP_app, ↓OP_app0, ↓OP_appN, ↓OP_app00, ↓OP_rowI, ↓OP_rowI2, ↓OP_rowL, ↓OP_rowLL, ↓OP_rowI4, ↓OP_rowI8, ↓OP_lss, ↓OP_leq, ↓OP_gtr, ↓OP_geq, ↓OP_eql, ↓OP_neq, ↓OP_not, ↓OP_beq, ↓OP_bne, ↓OP_add, ↓OP_sub, ↓OP_mn, ↓OP_mx, ↓OP_sel, ↓OP_cu, ↓OP_remU, ↓OP_ci, ↓ITE_true, ↓ITE_false, ↓ITE_bool, decide_eq_true_eq, decide_eq_false_iff_not, Bool.not_eq_eq_eq_not, Bool.not_true, Bool.not_false, Bool.false_eq_true, Bool.true_eq_false, false_implies, true_implies, true_and, and_true, implies_true, not_true_eq_false, not_false_eq_true, app1, app2, app3, app4, cell0, look_z, look_s, rowI, rowB, rowL, ↓c_ring_Nearer, ↓c_route_ahead, ↓c_route_fingers]
  refine ⟨fun h6 => ?_, fun h6 => ?_⟩
  · obtain ⟨x, hx⟩ := get_ex h6
    rw [drop_eq hx, ownGo] at h5
    simp (disch := first | omega | assumption | (simp only [List.length_cons, List.length_nil]; omega)) only [↓OP_len, ↓OP_len0, ↓OP_idx, ↓OP_drop, ↓OP_take, ↓OP_mid, ↓OP_all, ↓OP_isl, ↓OP_isl0, ↓OP_app, ↓OP_app0, ↓OP_appN, ↓OP_app00, ↓OP_rowI, ↓OP_rowI2, ↓OP_rowL, ↓OP_rowLL, ↓OP_rowI4, ↓OP_rowI8, ↓OP_lss, ↓OP_leq, ↓OP_gtr, ↓OP_geq, ↓OP_eql, ↓OP_neq, ↓OP_not, ↓OP_beq, ↓OP_bne, ↓OP_add, ↓OP_sub, ↓OP_mn, ↓OP_mx, ↓OP_sel, ↓OP_cu, ↓OP_remU, ↓OP_ci, ↓ITE_true, ↓ITE_false, ↓ITE_bool, decide_eq_true_eq, decide_eq_false_iff_not, Bool.not_eq_eq_eq_not, Bool.not_true, Bool.not_false, Bool.false_eq_true, Bool.true_eq_false, false_implies, true_implies, true_and, and_true, implies_true, not_true_eq_false, not_false_eq_true, app1, app2, app3, app4, cell0, look_z, look_s, rowI, rowB, rowL, ↓c_ring_Nearer, ↓c_route_ahead, ↓c_route_fingers, cell_L hx]
    refine ⟨fun h7 => ⟨(i + 1, x), by simp, ⟨by simp; omega, by simpa [h7] using h5⟩, by simp; omega⟩, fun h7 => ⟨(i + 1, b), by simp, ⟨by simp; omega, by simpa [h7] using h5⟩, by simp; omega⟩⟩
  · rw [drop_nil h6, ownGo] at h5
    rw [← h5]
    refine ⟨fun h => by simp [h], fun h => by simp [h]⟩
theorem near_trans {t a b c : Int} (h1 : near t a b = true) (h2 : near t b c = true) : near t a c = true := by
  simp only [near, Bool.and_eq_true, decide_eq_true_eq] at *
  exact ⟨⟨⟨h1.1.1.1, h1.1.1.2⟩, h2.1.2⟩, by omega⟩
theorem ownGo_near {t : Int} : ∀ (l : List Int) (b : Int), ownGo t b l = b ∨ (near t (ownGo t b l) b = true ∧ ownGo t b l ∈ l)
  | [], b => .inl rfl
  | x :: r, b => by
    unfold ownGo
    by_cases h : near t x b = true
    · rw [if_pos h]
      rcases ownGo_near r x (t := t) with e | e
      · right; rw [e]; exact ⟨h, by simp⟩
      · right; exact ⟨near_trans e.1 h, by simp [e.2]⟩
    · rw [if_neg h]
      rcases ownGo_near r b (t := t) with e | e
      · left; exact e
      · right; exact ⟨e.1, by simp [e.2]⟩
theorem next_cases (t : Int) (live : List Int) (self : Int) : nextN t live self = -1 ∨ (near t (nextN t live self) self = true ∧ nextN t live self ∈ fingers live self ++ [aheadN live self]) := by
  unfold nextN
  split
  · left; rfl
  · rename_i h
    exact .inr ((ownGo_near _ _).resolve_left h)
theorem next_near {t : Int} {live : List Int} {self : Int} (h : 0 ≤ nextN t live self) : near t (nextN t live self) self = true := by
  rcases next_cases t live self with e | e
  · omega
  · exact e.1
theorem rk_le (t b : Int) : rk t b ≤ 8 := by
  have := List.length_filter_le (fun (a : Nat) => near t a b) (List.range 8)
  simpa [rk] using this
theorem wayN_nil {t : Int} {live : List Int} {n : Int} (h : nextN t live n < 0) (k : Nat) : wayN t live k n = [] := by
  cases k <;> simp [wayN, h]
theorem w_route_Way (t : Int) (live : List Int) (self : Int) (hg : Goods [I t, L live, I self]) : S_route_Way ρ (I t) (L live) (I self) (· = [L (if askedN t live self = 0 then way t live self else []), I (askedN t live self)]) := by
  unfold S_route_Way
  simp (disch := first | omega | assumption | (simp only [List.length_cons, List.length_nil]; omega)) only [↓OP_len, ↓OP_len0, ↓OP_idx, ↓OP_drop, ↓OP_take, ↓OP_mid, ↓OP_all, ↓OP_isl, ↓OP_isl0, ↓OP_app, ↓OP_app0, ↓OP_appN, ↓OP_app00, ↓OP_rowI, ↓OP_rowI2, ↓OP_rowL, ↓OP_rowLL, ↓OP_rowI4, ↓OP_rowI8, ↓OP_lss, ↓OP_leq, ↓OP_gtr, ↓OP_geq, ↓OP_eql, ↓OP_neq, ↓OP_not, ↓OP_beq, ↓OP_bne, ↓OP_add, ↓OP_sub, ↓OP_mn, ↓OP_mx, ↓OP_sel, ↓OP_cu, ↓OP_remU, ↓OP_ci, ↓ITE_true, ↓ITE_false, ↓ITE_bool, decide_eq_true_eq, decide_eq_false_iff_not, Bool.not_eq_eq_eq_not, Bool.not_true, Bool.not_false, Bool.false_eq_true, Bool.true_eq_false, false_implies, true_implies, true_and, and_true, implies_true, not_true_eq_false, not_false_eq_true, app1, app2, app3, app4, cell0, look_z, look_s, rowI, rowB, rowL, ↓c_route_asked, ↓c_route_next]
  refine ⟨fun h => by simp [h]; rfl, fun h => ?_⟩
  have hB : live.all isN = true ∧ isN self = true ∧ live ≠ [] := by
    unfold askedN at h
    by_cases h2 : chkL live self = 0
    · exact (chkL_zero h2).2.1
    · rw [if_neg h2] at h; exact absurd h h2
  simp (disch := first | omega | assumption | (simp only [List.length_cons, List.length_nil]; omega)) only [↓OP_len, ↓OP_len0, ↓OP_idx, ↓OP_drop, ↓OP_take, ↓OP_mid, ↓OP_all, ↓OP_isl, ↓OP_isl0, ↓OP_app, ↓OP_app0, ↓OP_appN, ↓OP_app00, ↓OP_rowI, ↓OP_rowI2, ↓OP_rowL, ↓OP_rowLL, ↓OP_rowI4, ↓OP_rowI8, ↓OP_lss, ↓OP_leq, ↓OP_gtr, ↓OP_geq, ↓OP_eql, ↓OP_neq, ↓OP_not, ↓OP_beq, ↓OP_bne, ↓OP_add, ↓OP_sub, ↓OP_mn, ↓OP_mx, ↓OP_sel, ↓OP_cu, ↓OP_remU, ↓OP_ci, ↓ITE_true, ↓ITE_false, ↓ITE_bool, decide_eq_true_eq, decide_eq_false_iff_not, Bool.not_eq_eq_eq_not, Bool.not_true, Bool.not_false, Bool.false_eq_true, Bool.true_eq_false, false_implies, true_implies, true_and, and_true, implies_true, not_true_eq_false, not_false_eq_true, app1, app2, app3, app4, cell0, look_z, look_s, rowI, rowB, rowL, ↓c_route_asked, ↓c_route_next]
  refine LOOP.rule (α := List Int × Int) (fun a => [I (nextN t live a.2), L a.1]) (fun a => isN a.2 = true ∧ ∃ k, rk t a.2 ≤ k ∧ a.1.length + k ≤ 8 ∧ a.1 ++ wayN t live k a.2 = way t live self) (fun a => rk t a.2) ([], self) rfl ⟨hB.2.1, 8, rk_le t self, by simp, rfl⟩ (fun _ => rfl) ?_
  rintro ⟨acc, n⟩ ⟨h1, k, h2, h3, h4⟩
  simp only [app] at *
  simp (disch := first | omega | assumption | (simp only [List.length_cons, List.length_nil]; omega)) only [↓OP_len, ↓OP_len0, ↓OP_idx, ↓OP_drop, ↓OP_take, ↓OP_mid, ↓OP_all, ↓OP_isl, ↓OP_isl0, ↓OP_app, ↓OP_app0, ↓OP_appN, ↓OP_app00, ↓OP_rowI, ↓OP_rowI2, ↓OP_rowL, ↓OP_rowLL, ↓OP_rowI4, ↓OP_rowI8, ↓OP_lss, ↓OP_leq, ↓OP_gtr, ↓OP_geq, ↓OP_eql, ↓OP_neq, ↓OP_not, ↓OP_beq, ↓OP_bne, ↓OP_add, ↓OP_sub, ↓OP_mn, ↓OP_mx, ↓OP_sel, ↓OP_cu, ↓OP_remU, ↓OP_ci, ↓ITE_true, ↓ITE_false, ↓ITE_bool, decide_eq_true_eq, decide_eq_false_iff_not, Bool.not_eq_eq_eq_not, Bool.not_true, Bool.not_false, Bool.false_eq_true, Bool.true_eq_false, false_implies, true_implies, true_and, and_true, implies_true, not_true_eq_false, not_false_eq_true, app1, app2, app3, app4, cell0, look_z, look_s, rowI, rowB, rowL, ↓c_route_asked, ↓c_route_next]
  refine ⟨fun h6 => ?_, fun h6 => ?_⟩
  · have hn := next_near h6
    have hd := near_dom hn
    have hr := near_rk hn
    have hp : live.all isN = true ∧ isN (nextN t live n) = true ∧ live ≠ [] := ⟨hB.1, isN_iff.2 hd.2.1, hB.2.2⟩
    simp (disch := first | omega | assumption | (simp only [List.length_cons, List.length_nil]; omega)) only [↓OP_len, ↓OP_len0, ↓OP_idx, ↓OP_drop, ↓OP_take, ↓OP_mid, ↓OP_all, ↓OP_isl, ↓OP_isl0, ↓OP_app, ↓OP_app0, ↓OP_appN, ↓OP_app00, ↓OP_rowI, ↓OP_rowI2, ↓OP_rowL, ↓OP_rowLL, ↓OP_rowI4, ↓OP_rowI8, ↓OP_lss, ↓OP_leq, ↓OP_gtr, ↓OP_geq, ↓OP_eql, ↓OP_neq, ↓OP_not, ↓OP_beq, ↓OP_bne, ↓OP_add, ↓OP_sub, ↓OP_mn, ↓OP_mx, ↓OP_sel, ↓OP_cu, ↓OP_remU, ↓OP_ci, ↓ITE_true, ↓ITE_false, ↓ITE_bool, decide_eq_true_eq, decide_eq_false_iff_not, Bool.not_eq_eq_eq_not, Bool.not_true, Bool.not_false, Bool.false_eq_true, Bool.true_eq_false, false_implies, true_implies, true_and, and_true, implies_true, not_true_eq_false, not_false_eq_true, app1, app2, app3, app4, cell0, look_z, look_s, rowI, rowB, rowL, ↓c_route_asked, ↓c_route_next]
    obtain ⟨k, rfl⟩ : ∃ j, k = j + 1 := ⟨k - 1, by omega⟩
    refine ⟨(acc ++ [nextN t live n], nextN t live n), by simp, ⟨hp.2.1, k, by simp; omega, by simp; omega, ?_⟩, by simp; omega⟩
    have : ¬ nextN t live n < 0 := by omega
    rw [← h4]
    simp [wayN, this]
  · rw [wayN_nil (by omega)] at h4
    simp [h, ← h4]
theorem w_route_Next (t : Int) (live : List Int) (self : Int) (hg : Goods [I t, L live, I self]) : S_route_Next ρ (I t) (L live) (I self) (· = [I (if askedN t live self = 0 then max (nextN t live self) 0 else 0), bb (decide (askedN t live self = 0) && decide (0 ≤ nextN t live self)), I (askedN t live self)]) := by
  unfold S_route_Next
  simp (disch := first | omega | assumption | (simp only [List.length_cons, List.length_nil]; omega)) only [↓OP_len, ↓OP_len0, ↓OP_idx, ↓OP_drop, ↓OP_take, ↓OP_mid, ↓OP_all, ↓OP_isl, ↓OP_isl0, ↓OP_app, ↓OP_app0, ↓OP_appN, ↓OP_app00, ↓OP_rowI, ↓OP_rowI2, ↓OP_rowL, ↓OP_rowLL, ↓OP_rowI4, ↓OP_rowI8, ↓OP_lss, ↓OP_leq, ↓OP_gtr, ↓OP_geq, ↓OP_eql, ↓OP_neq, ↓OP_not, ↓OP_beq, ↓OP_bne, ↓OP_add, ↓OP_sub, ↓OP_mn, ↓OP_mx, ↓OP_sel, ↓OP_cu, ↓OP_remU, ↓OP_ci, ↓ITE_true, ↓ITE_false, ↓ITE_bool, decide_eq_true_eq, decide_eq_false_iff_not, Bool.not_eq_eq_eq_not, Bool.not_true, Bool.not_false, Bool.false_eq_true, Bool.true_eq_false, false_implies, true_implies, true_and, and_true, implies_true, not_true_eq_false, not_false_eq_true, app1, app2, app3, app4, cell0, look_z, look_s, rowI, rowB, rowL, ↓c_route_asked, ↓c_route_next]
  refine ⟨fun h => by simp [h], fun h => ?_⟩
  have hB : live.all isN = true ∧ isN self = true ∧ live ≠ [] := by
    unfold askedN at h
    by_cases h2 : chkL live self = 0
    · exact (chkL_zero h2).2.1
    · rw [if_neg h2] at h; exact absurd h h2
  simp (disch := first | omega | assumption | (simp only [List.length_cons, List.length_nil]; omega)) only [↓OP_len, ↓OP_len0, ↓OP_idx, ↓OP_drop, ↓OP_take, ↓OP_mid, ↓OP_all, ↓OP_isl, ↓OP_isl0, ↓OP_app, ↓OP_app0, ↓OP_appN, ↓OP_app00, ↓OP_rowI, ↓OP_rowI2, ↓OP_rowL, ↓OP_rowLL, ↓OP_rowI4, ↓OP_rowI8, ↓OP_lss, ↓OP_leq, ↓OP_gtr, ↓OP_geq, ↓OP_eql, ↓OP_neq, ↓OP_not, ↓OP_beq, ↓OP_bne, ↓OP_add, ↓OP_sub, ↓OP_mn, ↓OP_mx, ↓OP_sel, ↓OP_cu, ↓OP_remU, ↓OP_ci, ↓ITE_true, ↓ITE_false, ↓ITE_bool, decide_eq_true_eq, decide_eq_false_iff_not, Bool.not_eq_eq_eq_not, Bool.not_true, Bool.not_false, Bool.false_eq_true, Bool.true_eq_false, false_implies, true_implies, true_and, and_true, implies_true, not_true_eq_false, not_false_eq_true, app1, app2, app3, app4, cell0, look_z, look_s, rowI, rowB, rowL, ↓c_route_asked, ↓c_route_next]
  refine ⟨fun h2 => ?_, fun h2 => ?_⟩
  · have : max (nextN t live self) 0 = 0 := by omega
    simp [h, this]; omega
  · have : max (nextN t live self) 0 = nextN t live self := by omega
    simp [h, this]; omega
end Go.Xt
