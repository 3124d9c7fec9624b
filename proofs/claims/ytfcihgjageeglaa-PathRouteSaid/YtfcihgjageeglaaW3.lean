/- Steps towards the statements of this seat; the conditions stand in each theorem. -/
import Derived.Test.YtfcihgjageeglaaW2
set_option linter.unusedSimpArgs false
set_option linter.unusedVariables false
set_option maxRecDepth 100000
namespace Go.Xt
theorem pigeon : ∀ (n : Nat) (f : Nat → Nat), (∀ i, i ≤ n → f i < n) → ∃ i j, i < j ∧ j ≤ n ∧ f i = f j
  | 0, f, h => absurd (h 0 (by omega)) (by omega)
  | n + 1, f, h => by
    by_cases hv : ∃ i, i ≤ n ∧ f i = f (n + 1)
    · obtain ⟨i, h1, h2⟩ := hv; exact ⟨i, n + 1, by omega, by omega, h2⟩
    · have hv' : ∀ i, i ≤ n → f i ≠ f (n + 1) := fun i hi e => hv ⟨i, hi, e⟩
      obtain ⟨i, j, h1, h2, h3⟩ := pigeon n (fun i => if f i > f (n + 1) then f i - 1 else f i) (fun i hi => by
        have := hv' i hi; have := h i (by omega); have := h (n + 1) (by omega)
        show (if f i > f (n + 1) then f i - 1 else f i) < n
        split <;> omega)
      refine ⟨i, j, h1, by omega, ?_⟩
      have a1 := hv' i (by omega); have a2 := hv' j (by omega)
      split at h3 <;> split at h3 <;> omega

theorem iter_add (rows : List (List Int)) : ∀ (k m : Nat) (x : Int), iterP rows (k + m) x = iterP rows m (iterP rows k x)
  | 0, m, x => by simp [iterP]
  | k + 1, m, x => by rw [Nat.add_right_comm]; simp only [iterP]; exact iter_add rows k m _
theorem iter_neg (rows : List (List Int)) : ∀ (k : Nat) (x : Int), x < 0 → iterP rows k x = x
  | 0, x, _ => rfl
  | k + 1, x, h => by simp only [iterP]; rw [if_neg (by omega)]; exact iter_neg rows k x h
theorem iter_succ (rows : List (List Int)) (k : Nat) (x : Int) (h : 0 ≤ iterP rows k x) : iterP rows (k + 1) x = par rows (iterP rows k x) := by
  rw [iter_add rows k 1]; simp [iterP, h]
theorem iter_alive (rows : List (List Int)) {k m : Nat} {x : Int} (h : 0 ≤ iterP rows k x) (hm : m ≤ k) : 0 ≤ iterP rows m x := by
  rcases Int.lt_or_le (iterP rows m x) 0 with h1 | h1
  · obtain ⟨d, rfl⟩ := Nat.exists_eq_add_of_le hm
    rw [iter_add, iter_neg _ _ _ h1] at h; omega
  · exact h1
theorem par_alive {rows : List (List Int)} {x : Int} (h0 : 0 ≤ x) (h : 0 ≤ par rows x) : x < rows.length := by
  unfold par at h
  rcases Nat.lt_or_ge x.toNat rows.length with h1 | h1
  · omega
  · rw [List.getElem?_eq_none (by omega)] at h; simp at h

theorem iter_forever {rows : List (List Int)} {x : Int} (h : 0 ≤ iterP rows (rows.length + 1) x) (k : Nat) : 0 ≤ iterP rows k x := by
  have hlt : ∀ i, i ≤ rows.length → (iterP rows i x).toNat < rows.length := by
    intro i hi
    have h1 := iter_alive rows h (m := i) (by omega)
    have h2 := iter_alive rows h (m := i + 1) (by omega)
    rw [iter_succ rows i x h1] at h2
    have := par_alive h1 h2
    omega
  obtain ⟨i, j, h1, h2, h3⟩ := pigeon rows.length (fun i => (iterP rows i x).toNat) hlt
  have hi := iter_alive rows h (m := i) (by omega)
  have hj := iter_alive rows h (m := j) (by omega)
  have he : iterP rows i x = iterP rows j x := by omega
  induction k using Nat.strongRecOn with
  | _ k ih =>
    by_cases hk : k ≤ rows.length
    · exact iter_alive rows h (by omega)
    · have := ih (k - j + i) (by omega)
      rw [Nat.add_comm, iter_add, he, ← iter_add, show j + (k - j) = k by omega] at this
      exact this
theorem w_path_Whole (t : Int) (paths : List (List Int)) (hg : Goods [I t, L paths]) : S_path_Whole ρ (I t) (L paths) (· = [bb (whole paths)]) := by
  unfold S_path_Whole
  simp only [Goods, good_L] at hg
  refine SUB.v1 (bb (!(decide (paths.length ≤ 8) && paths.all (·.all isN)))) ?_ ?_
  · simp (disch := first | omega | assumption | (simp only [List.length_cons, List.length_nil]; omega)) only [↓OP_len, ↓OP_len0, ↓OP_idx, ↓OP_drop, ↓OP_take, ↓OP_mid, ↓OP_all, ↓OP_isl, ↓OP_isl0, ↓OP_app, ↓OP_app0, ↓OP_appN, ↓OP_app00, ↓OP_rowI, ↓OP_rowI2, ↓OP_rowL, ↓OP_rowLL, ↓OP_rowI4, ↓OP_rowI8, ↓OP_lss, ↓OP_leq, ↓OP_gtr, ↓OP_geq, ↓OP_eql, ↓OP_neq, ↓OP_not, ↓OP_beq, ↓OP_bne, ↓OP_add, ↓OP_sub, ↓OP_mn, ↓OP_mx, ↓OP_sel, ↓OP_cu, ↓OP_remU, ↓OP_ci, ↓ITE_true, ↓ITE_false, ↓ITE_bool, decide_eq_true_eq, decide_eq_false_iff_not, Bool.not_eq_eq_eq_not, Bool.not_true, Bool.not_false, Bool.false_eq_true, Bool.true_eq_false, false_implies, true_implies, true_and, and_true, implies_true, not_true_eq_false, not_false_eq_true, app1, app2, app3, app4, cell0, look_z, look_s, rowI, rowB, rowL, ↓c_ring_All, ↓c_path_parent]
    refine ⟨fun h => ?_, fun h => ?_⟩
    · have : ¬ paths.length ≤ 8 := by omega
      simp [this]
    refine LOOP.rule (α := Nat) (fun i => [I i]) (fun i => i ≤ paths.length ∧ (paths.drop i).all (·.all isN) = paths.all (·.all isN)) (fun i => paths.length - i) 0 rfl ⟨by omega, by simp⟩ (fun _ => rfl) ?_
    rintro i ⟨h1, h2⟩
    simp only [app]
    simp (disch := first | omega | assumption | (simp only [List.length_cons, List.length_nil]; omega)) only [↓OP_len, ↓OP_len0, ↓OP_idx, ↓OP_drop, ↓OP_take, ↓OP_mid, ↓OP_all, ↓OP_isl, ↓OP_isl0, ↓OP_app, ↓OP_app0, ↓OP_appN, ↓OP_app00, ↓OP_rowI, ↓OP_rowI2, ↓OP_rowL, ↓OP_rowLL, ↓OP_rowI4, ↓OP_rowI8, ↓OP_lss, ↓OP_leq, ↓OP_gtr, ↓OP_geq, ↓OP_eql, ↓OP_neq, ↓OP_not, ↓OP_beq, ↓OP_bne, ↓OP_add, ↓OP_sub, ↓OP_mn, ↓OP_mx, ↓OP_sel, ↓OP_cu, ↓OP_remU, ↓OP_ci, ↓ITE_true, ↓ITE_false, ↓ITE_bool, decide_eq_true_eq, decide_eq_false_iff_not, Bool.not_eq_eq_eq_not, Bool.not_true, Bool.not_false, Bool.false_eq_true, Bool.true_eq_false, false_implies, true_implies, true_and, and_true, implies_true, not_true_eq_false, not_false_eq_true, app1, app2, app3, app4, cell0, look_z, look_s, rowI, rowB, rowL, ↓c_ring_All, ↓c_path_parent]
    refine ⟨fun h => ?_, fun h => ?_⟩
    · obtain ⟨x, hx⟩ := get_ex h
      rw [drop_eq hx, List.all_cons] at h2
      simp (disch := first | omega | assumption | (simp only [List.length_cons, List.length_nil]; omega)) only [↓OP_len, ↓OP_len0, ↓OP_idx, ↓OP_drop, ↓OP_take, ↓OP_mid, ↓OP_all, ↓OP_isl, ↓OP_isl0, ↓OP_app, ↓OP_app0, ↓OP_appN, ↓OP_app00, ↓OP_rowI, ↓OP_rowI2, ↓OP_rowL, ↓OP_rowLL, ↓OP_rowI4, ↓OP_rowI8, ↓OP_lss, ↓OP_leq, ↓OP_gtr, ↓OP_geq, ↓OP_eql, ↓OP_neq, ↓OP_not, ↓OP_beq, ↓OP_bne, ↓OP_add, ↓OP_sub, ↓OP_mn, ↓OP_mx, ↓OP_sel, ↓OP_cu, ↓OP_remU, ↓OP_ci, ↓ITE_true, ↓ITE_false, ↓ITE_bool, decide_eq_true_eq, decide_eq_false_iff_not, Bool.not_eq_eq_eq_not, Bool.not_true, Bool.not_false, Bool.false_eq_true, Bool.true_eq_false, false_implies, true_implies, true_and, and_true, implies_true, not_true_eq_false, not_false_eq_true, app1, app2, app3, app4, cell0, look_z, look_s, rowI, rowB, rowL, ↓c_ring_All, ↓c_path_parent, cell_L hx]
      refine ⟨fun h3 => ?_, fun h3 => ⟨i + 1, rfl, ⟨by omega, by simpa [h3] using h2⟩, by omega⟩⟩
      rw [h3] at h2; simp only [← h2]; simp; try omega
    · rw [drop_nil h] at h2
      simp only [← h2]; split <;> simp <;> omega
  simp (disch := first | omega | assumption | (simp only [List.length_cons, List.length_nil]; omega)) only [↓OP_len, ↓OP_len0, ↓OP_idx, ↓OP_drop, ↓OP_take, ↓OP_mid, ↓OP_all, ↓OP_isl, ↓OP_isl0, ↓OP_app, ↓OP_app0, ↓OP_appN, ↓OP_app00, ↓OP_rowI, ↓OP_rowI2, ↓OP_rowL, ↓OP_rowLL, ↓OP_rowI4, ↓OP_rowI8, ↓OP_lss, ↓OP_leq, ↓OP_gtr, ↓OP_geq, ↓OP_eql, ↓OP_neq, ↓OP_not, ↓OP_beq, ↓OP_bne, ↓OP_add, ↓OP_sub, ↓OP_mn, ↓OP_mx, ↓OP_sel, ↓OP_cu, ↓OP_remU, ↓OP_ci, ↓ITE_true, ↓ITE_false, ↓ITE_bool, decide_eq_true_eq, decide_eq_false_iff_not, Bool.not_eq_eq_eq_not, Bool.not_true, Bool.not_false, Bool.false_eq_true, Bool.true_eq_false, false_implies, true_implies, true_and, and_true, implies_true, not_true_eq_false, not_false_eq_true, app1, app2, app3, app4, cell0, look_z, look_s, rowI, rowB, rowL, ↓c_ring_All, ↓c_path_parent]
  unfold whole
  refine ⟨fun h => ?_, fun h => ?_⟩
  · simp only [h]; simp
  simp only [h, Bool.true_and]
  refine LOOP.rule (α := Nat) (fun i => [I i]) (fun i => i ≤ paths.length ∧ ∀ m, m < i → iterP paths 9 m < 0) (fun i => paths.length - i) 0 rfl ⟨by omega, by omega⟩ (fun _ => rfl) ?_
  rintro i ⟨h1, h2⟩
  simp only [app]
  simp (disch := first | omega | assumption | (simp only [List.length_cons, List.length_nil]; omega)) only [↓OP_len, ↓OP_len0, ↓OP_idx, ↓OP_drop, ↓OP_take, ↓OP_mid, ↓OP_all, ↓OP_isl, ↓OP_isl0, ↓OP_app, ↓OP_app0, ↓OP_appN, ↓OP_app00, ↓OP_rowI, ↓OP_rowI2, ↓OP_rowL, ↓OP_rowLL, ↓OP_rowI4, ↓OP_rowI8, ↓OP_lss, ↓OP_leq, ↓OP_gtr, ↓OP_geq, ↓OP_eql, ↓OP_neq, ↓OP_not, ↓OP_beq, ↓OP_bne, ↓OP_add, ↓OP_sub, ↓OP_mn, ↓OP_mx, ↓OP_sel, ↓OP_cu, ↓OP_remU, ↓OP_ci, ↓ITE_true, ↓ITE_false, ↓ITE_bool, decide_eq_true_eq, decide_eq_false_iff_not, Bool.not_eq_eq_eq_not, Bool.not_true, Bool.not_false, Bool.false_eq_true, Bool.true_eq_false, false_implies, true_implies, true_and, and_true, implies_true, not_true_eq_false, not_false_eq_true, app1, app2, app3, app4, cell0, look_z, look_s, rowI, rowB, rowL, ↓c_ring_All, ↓c_path_parent]
  refine ⟨fun h3 => ?_, fun h3 => ?_⟩
  · refine LOOP.rule (α := Nat × Int) (fun a => [I a.2, I a.1]) (fun a => a.1 ≤ 8 ∧ iterP paths (8 - a.1) a.2 = iterP paths 9 i) (fun a => 8 - a.1) (0, par paths i) rfl ⟨by simp, by simp [iterP]⟩ (fun _ => rfl) ?_
    rintro ⟨k, x⟩ ⟨h4, h5⟩
    simp only [app] at *
    simp (disch := first | omega | assumption | (simp only [List.length_cons, List.length_nil]; omega)) only [↓OP_len, ↓OP_len0, ↓OP_idx, ↓OP_drop, ↓OP_take, ↓OP_mid, ↓OP_all, ↓OP_isl, ↓OP_isl0, ↓OP_app, ↓OP_app0, ↓OP_appN, ↓OP_app00, ↓OP_rowI, ↓OP_rowI2, ↓OP_rowL, ↓OP_rowLL, ↓OP_rowI4, ↓OP_rowI8, ↓OP_lss, ↓OP_leq, ↓OP_gtr, ↓OP_geq, ↓OP_eql, ↓OP_neq, ↓OP_not, ↓OP_beq, ↓OP_bne, ↓OP_add, ↓OP_sub, ↓OP_mn, ↓OP_mx, ↓OP_sel, ↓OP_cu, ↓OP_remU, ↓OP_ci, ↓ITE_true, ↓ITE_false, ↓ITE_bool, decide_eq_true_eq, decide_eq_false_iff_not, Bool.not_eq_eq_eq_not, Bool.not_true, Bool.not_false, Bool.false_eq_true, Bool.true_eq_false, false_implies, true_implies, true_and, and_true, implies_true, not_true_eq_false, not_false_eq_true, app1, app2, app3, app4, cell0, look_z, look_s, rowI, rowB, rowL, ↓c_ring_All, ↓c_path_parent]
    refine ⟨fun h6 => ⟨fun h7 => ?_, fun h7 => ?_⟩, fun h6 => ⟨fun h7 => ?_, fun h7 => ?_⟩⟩
    · rw [show 8 - k = (8 - (k + 1)) + 1 by omega, iterP, if_pos h7] at h5
      simp (disch := first | omega | assumption | (simp only [List.length_cons, List.length_nil]; omega)) only [↓OP_len, ↓OP_len0, ↓OP_idx, ↓OP_drop, ↓OP_take, ↓OP_mid, ↓OP_all, ↓OP_isl, ↓OP_isl0, ↓OP_app, ↓OP_app0, ↓OP_appN, ↓OP_app00, ↓OP_rowI, ↓OP_rowI2, ↓OP_rowL, ↓OP_rowLL, ↓OP_rowI4, ↓OP_rowI8, ↓OP_lss, ↓OP_leq, ↓OP_gtr, ↓OP_geq, ↓OP_eql, ↓OP_neq, ↓OP_not, ↓OP_beq, ↓OP_bne, ↓OP_add, ↓OP_sub, ↓OP_mn, ↓OP_mx, ↓OP_sel, ↓OP_cu, ↓OP_remU, ↓OP_ci, ↓ITE_true, ↓ITE_false, ↓ITE_bool, decide_eq_true_eq, decide_eq_false_iff_not, Bool.not_eq_eq_eq_not, Bool.not_true, Bool.not_false, Bool.false_eq_true, Bool.true_eq_false, false_implies, true_implies, true_and, and_true, implies_true, not_true_eq_false, not_false_eq_true, app1, app2, app3, app4, cell0, look_z, look_s, rowI, rowB, rowL, ↓c_ring_All, ↓c_path_parent]
      exact ⟨(k + 1, par paths x), rfl, ⟨by simp; omega, h5⟩, by simp; omega⟩
    · rw [show 8 - k = (8 - (k + 1)) + 1 by omega, iterP, if_neg h7] at h5
      exact ⟨(k + 1, x), rfl, ⟨by simp; omega, h5⟩, by simp; omega⟩
    · rw [show 8 - k = 0 by omega, iterP] at h5
      have : (List.range paths.length).all (fun n => decide (iterP paths 9 n < 0)) = false := by
        rw [List.all_eq_false]; exact ⟨i, by simp; omega, by simp; omega⟩
      rw [this]
    · rw [show 8 - k = 0 by omega, iterP] at h5
      refine ⟨i + 1, rfl, ⟨by omega, fun m hm => ?_⟩, by omega⟩
      by_cases e : m = i
      · subst e; omega
      · exact h2 m (by omega)
  · have : (List.range paths.length).all (fun n => decide (iterP paths 9 n < 0)) = true := by
      rw [List.all_eq_true]; intro m hm; simp at hm; simp; exact h2 m (by omega)
    rw [this]
theorem w_ref10_Whole (paths : List (List Int)) (hp : ∀ x ∈ paths, x.length ≤ 1000) (hg : Goods [L paths]) : S_ref10_Whole ρ (L paths) (· = [bb (whole paths)]) := by
  unfold S_ref10_Whole whole
  simp only [Goods, good_L] at hg
  simp (disch := first | omega | assumption | (simp only [List.length_cons, List.length_nil]; omega)) only [↓OP_len, ↓OP_len0, ↓OP_idx, ↓OP_drop, ↓OP_take, ↓OP_mid, ↓OP_all, ↓OP_isl, ↓OP_isl0, ↓OP_app, ↓OP_app0, ↓OP_appN, ↓OP_app00, ↓OP_rowI, ↓OP_rowI2, ↓OP_rowL, ↓OP_rowLL, ↓OP_rowI4, ↓OP_rowI8, ↓OP_lss, ↓OP_leq, ↓OP_gtr, ↓OP_geq, ↓OP_eql, ↓OP_neq, ↓OP_not, ↓OP_beq, ↓OP_bne, ↓OP_add, ↓OP_sub, ↓OP_mn, ↓OP_mx, ↓OP_sel, ↓OP_cu, ↓OP_remU, ↓OP_ci, ↓ITE_true, ↓ITE_false, ↓ITE_bool, decide_eq_true_eq, decide_eq_false_iff_not, Bool.not_eq_eq_eq_not, Bool.not_true, Bool.not_false, Bool.false_eq_true, Bool.true_eq_false, false_implies, true_implies, true_and, and_true, implies_true, not_true_eq_false, not_false_eq_true, app1, app2, app3, app4, cell0, look_z, look_s, rowI, rowB, rowL, ↓c_ref01_IsNode]
  refine ⟨fun h => ?_, fun h => ?_⟩
  · simp; omega
  refine LOOP.rule (α := Nat) (fun i => [I i]) (fun i => i ≤ paths.length ∧ (paths.drop i).all (·.all isN) = paths.all (·.all isN)) (fun i => paths.length - i) 0 rfl ⟨by omega, by simp⟩ (fun _ => rfl) ?_
  rintro i ⟨h1, h2⟩
  simp only [app]
  simp (disch := first | omega | assumption | (simp only [List.length_cons, List.length_nil]; omega)) only [↓OP_len, ↓OP_len0, ↓OP_idx, ↓OP_drop, ↓OP_take, ↓OP_mid, ↓OP_all, ↓OP_isl, ↓OP_isl0, ↓OP_app, ↓OP_app0, ↓OP_appN, ↓OP_app00, ↓OP_rowI, ↓OP_rowI2, ↓OP_rowL, ↓OP_rowLL, ↓OP_rowI4, ↓OP_rowI8, ↓OP_lss, ↓OP_leq, ↓OP_gtr, ↓OP_geq, ↓OP_eql, ↓OP_neq, ↓OP_not, ↓OP_beq, ↓OP_bne, ↓OP_add, ↓OP_sub, ↓OP_mn, ↓OP_mx, ↓OP_sel, ↓OP_cu, ↓OP_remU, ↓OP_ci, ↓ITE_true, ↓ITE_false, ↓ITE_bool, decide_eq_true_eq, decide_eq_false_iff_not, Bool.not_eq_eq_eq_not, Bool.not_true, Bool.not_false, Bool.false_eq_true, Bool.true_eq_false, false_implies, true_implies, true_and, and_true, implies_true, not_true_eq_false, not_false_eq_true, app1, app2, app3, app4, cell0, look_z, look_s, rowI, rowB, rowL, ↓c_ref01_IsNode]
  refine ⟨fun h3 => ?_, fun h3 => ?_⟩
  · obtain ⟨x, hx⟩ := get_ex h3
    rw [drop_eq hx, List.all_cons] at h2
    have hxl := hp x (List.mem_of_getElem? hx)
    refine LOOP.rule (α := Nat) (fun i => [I i]) (fun k => k ≤ x.length ∧ (x.drop k).all isN = x.all isN) (fun k => x.length - k) 0 rfl ⟨by omega, by simp⟩ (fun _ => rfl) ?_
    rintro k ⟨h4, h5⟩
    simp only [app]
    simp (disch := first | omega | assumption | (simp only [List.length_cons, List.length_nil]; omega)) only [↓OP_len, ↓OP_len0, ↓OP_idx, ↓OP_drop, ↓OP_take, ↓OP_mid, ↓OP_all, ↓OP_isl, ↓OP_isl0, ↓OP_app, ↓OP_app0, ↓OP_appN, ↓OP_app00, ↓OP_rowI, ↓OP_rowI2, ↓OP_rowL, ↓OP_rowLL, ↓OP_rowI4, ↓OP_rowI8, ↓OP_lss, ↓OP_leq, ↓OP_gtr, ↓OP_geq, ↓OP_eql, ↓OP_neq, ↓OP_not, ↓OP_beq, ↓OP_bne, ↓OP_add, ↓OP_sub, ↓OP_mn, ↓OP_mx, ↓OP_sel, ↓OP_cu, ↓OP_remU, ↓OP_ci, ↓ITE_true, ↓ITE_false, ↓ITE_bool, decide_eq_true_eq, decide_eq_false_iff_not, Bool.not_eq_eq_eq_not, Bool.not_true, Bool.not_false, Bool.false_eq_true, Bool.true_eq_false, false_implies, true_implies, true_and, and_true, implies_true, not_true_eq_false, not_false_eq_true, app1, app2, app3, app4, cell0, look_z, look_s, rowI, rowB, rowL, ↓c_ref01_IsNode, cell_L hx]
    refine ⟨fun h6 => ?_, fun h6 => ?_⟩
    · obtain ⟨y, hy⟩ := get_ex h6
      rw [drop_eq hy, List.all_cons] at h5
      simp (disch := first | omega | assumption | (simp only [List.length_cons, List.length_nil]; omega)) only [↓OP_len, ↓OP_len0, ↓OP_idx, ↓OP_drop, ↓OP_take, ↓OP_mid, ↓OP_all, ↓OP_isl, ↓OP_isl0, ↓OP_app, ↓OP_app0, ↓OP_appN, ↓OP_app00, ↓OP_rowI, ↓OP_rowI2, ↓OP_rowL, ↓OP_rowLL, ↓OP_rowI4, ↓OP_rowI8, ↓OP_lss, ↓OP_leq, ↓OP_gtr, ↓OP_geq, ↓OP_eql, ↓OP_neq, ↓OP_not, ↓OP_beq, ↓OP_bne, ↓OP_add, ↓OP_sub, ↓OP_mn, ↓OP_mx, ↓OP_sel, ↓OP_cu, ↓OP_remU, ↓OP_ci, ↓ITE_true, ↓ITE_false, ↓ITE_bool, decide_eq_true_eq, decide_eq_false_iff_not, Bool.not_eq_eq_eq_not, Bool.not_true, Bool.not_false, Bool.false_eq_true, Bool.true_eq_false, false_implies, true_implies, true_and, and_true, implies_true, not_true_eq_false, not_false_eq_true, app1, app2, app3, app4, cell0, look_z, look_s, rowI, rowB, rowL, ↓c_ref01_IsNode, cell_L hx, cell_L hy]
      refine ⟨fun h7 => ?_, fun h7 => ⟨k + 1, rfl, ⟨by omega, by simpa [h7] using h5⟩, by omega⟩⟩
      rw [h7] at h5; rw [← h2]; simp [← h5]
    · rw [drop_nil h6] at h5
      refine ⟨i + 1, rfl, ⟨by omega, by rw [← h2, ← h5]; simp⟩, by omega⟩
  rw [drop_nil h3] at h2
  have hall : (paths.all fun x => x.all isN) = true := by rw [← h2]; rfl
  rw [hall]
  have hpos : ∀ (x : Int) (y : List Int) (z : Int) r, paths[x.toNat]? = some (z :: r) → par paths x = z ∧ 0 ≤ z := by
    intro x y z r h
    refine ⟨by simp [par, h], ?_⟩
    have h4 := List.all_eq_true.1 hall _ (List.mem_of_getElem? h)
    have h5 := List.all_eq_true.1 h4 z (by simp)
    exact (isN_iff.1 h5).1
  have hle : decide (paths.length ≤ 8) = true := by simp; omega
  rw [hle]
  simp only [Bool.true_and]
  refine LOOP.rule (α := Nat) (fun i => [I i]) (fun i => i ≤ paths.length ∧ ∀ m, m < i → iterP paths 9 m < 0) (fun i => paths.length - i) 0 rfl ⟨by omega, by omega⟩ (fun _ => rfl) ?_
  rintro i ⟨h1, h2⟩
  simp only [app]
  simp (disch := first | omega | assumption | (simp only [List.length_cons, List.length_nil]; omega)) only [↓OP_len, ↓OP_len0, ↓OP_idx, ↓OP_drop, ↓OP_take, ↓OP_mid, ↓OP_all, ↓OP_isl, ↓OP_isl0, ↓OP_app, ↓OP_app0, ↓OP_appN, ↓OP_app00, ↓OP_rowI, ↓OP_rowI2, ↓OP_rowL, ↓OP_rowLL, ↓OP_rowI4, ↓OP_rowI8, ↓OP_lss, ↓OP_leq, ↓OP_gtr, ↓OP_geq, ↓OP_eql, ↓OP_neq, ↓OP_not, ↓OP_beq, ↓OP_bne, ↓OP_add, ↓OP_sub, ↓OP_mn, ↓OP_mx, ↓OP_sel, ↓OP_cu, ↓OP_remU, ↓OP_ci, ↓ITE_true, ↓ITE_false, ↓ITE_bool, decide_eq_true_eq, decide_eq_false_iff_not, Bool.not_eq_eq_eq_not, Bool.not_true, Bool.not_false, Bool.false_eq_true, Bool.true_eq_false, false_implies, true_implies, true_and, and_true, implies_true, not_true_eq_false, not_false_eq_true, app1, app2, app3, app4, cell0, look_z, look_s, rowI, rowB, rowL, ↓c_ref01_IsNode]
  refine ⟨fun h3 => ?_, fun h3 => ?_⟩
  · refine LOOP.rule (α := Nat) (fun k => [I (iterP paths k i), I k]) (fun k => k ≤ paths.length + 1 ∧ 0 ≤ iterP paths k i) (fun k => paths.length + 1 - k) 0 rfl ⟨by omega, by simp [iterP]⟩ (fun _ => rfl) ?_
    rintro k ⟨h4, h5⟩
    simp only [app]
    have hs := iter_succ paths k i h5
    obtain ⟨m, hm⟩ := Int.eq_ofNat_of_zero_le h5
    refine SUB.v1 (bb (decide (0 ≤ iterP paths (k + 1) i))) ?_ ?_
    · rw [hs, hm]
      simp (disch := first | omega | assumption | (simp only [List.length_cons, List.length_nil]; omega)) only [↓OP_len, ↓OP_len0, ↓OP_idx, ↓OP_drop, ↓OP_take, ↓OP_mid, ↓OP_all, ↓OP_isl, ↓OP_isl0, ↓OP_app, ↓OP_app0, ↓OP_appN, ↓OP_app00, ↓OP_rowI, ↓OP_rowI2, ↓OP_rowL, ↓OP_rowLL, ↓OP_rowI4, ↓OP_rowI8, ↓OP_lss, ↓OP_leq, ↓OP_gtr, ↓OP_geq, ↓OP_eql, ↓OP_neq, ↓OP_not, ↓OP_beq, ↓OP_bne, ↓OP_add, ↓OP_sub, ↓OP_mn, ↓OP_mx, ↓OP_sel, ↓OP_cu, ↓OP_remU, ↓OP_ci, ↓ITE_true, ↓ITE_false, ↓ITE_bool, decide_eq_true_eq, decide_eq_false_iff_not, Bool.not_eq_eq_eq_not, Bool.not_true, Bool.not_false, Bool.false_eq_true, Bool.true_eq_false, false_implies, true_implies, true_and, and_true, implies_true, not_true_eq_false, not_false_eq_true, app1, app2, app3, app4, cell0, look_z, look_s, rowI, rowB, rowL, ↓c_ref01_IsNode]
      refine ⟨fun h6 => ?_, fun h6 => ?_⟩
      · obtain ⟨x, hx⟩ := get_ex h6
        simp (disch := first | omega | assumption | (simp only [List.length_cons, List.length_nil]; omega)) only [↓OP_len, ↓OP_len0, ↓OP_idx, ↓OP_drop, ↓OP_take, ↓OP_mid, ↓OP_all, ↓OP_isl, ↓OP_isl0, ↓OP_app, ↓OP_app0, ↓OP_appN, ↓OP_app00, ↓OP_rowI, ↓OP_rowI2, ↓OP_rowL, ↓OP_rowLL, ↓OP_rowI4, ↓OP_rowI8, ↓OP_lss, ↓OP_leq, ↓OP_gtr, ↓OP_geq, ↓OP_eql, ↓OP_neq, ↓OP_not, ↓OP_beq, ↓OP_bne, ↓OP_add, ↓OP_sub, ↓OP_mn, ↓OP_mx, ↓OP_sel, ↓OP_cu, ↓OP_remU, ↓OP_ci, ↓ITE_true, ↓ITE_false, ↓ITE_bool, decide_eq_true_eq, decide_eq_false_iff_not, Bool.not_eq_eq_eq_not, Bool.not_true, Bool.not_false, Bool.false_eq_true, Bool.true_eq_false, false_implies, true_implies, true_and, and_true, implies_true, not_true_eq_false, not_false_eq_true, app1, app2, app3, app4, cell0, look_z, look_s, rowI, rowB, rowL, ↓c_ref01_IsNode, cell_L hx]
        cases x with
        | nil => simp [par, hx]
        | cons z r =>
          have := hpos m [] z r hx
          rw [this.1]
          have h8 : 0 < r.length + 1 := by omega
          simp [this.2]; try omega
      · have : paths[m]? = none := by simp; omega
        simp [par, this]
    simp (disch := first | omega | assumption | (simp only [List.length_cons, List.length_nil]; omega)) only [↓OP_len, ↓OP_len0, ↓OP_idx, ↓OP_drop, ↓OP_take, ↓OP_mid, ↓OP_all, ↓OP_isl, ↓OP_isl0, ↓OP_app, ↓OP_app0, ↓OP_appN, ↓OP_app00, ↓OP_rowI, ↓OP_rowI2, ↓OP_rowL, ↓OP_rowLL, ↓OP_rowI4, ↓OP_rowI8, ↓OP_lss, ↓OP_leq, ↓OP_gtr, ↓OP_geq, ↓OP_eql, ↓OP_neq, ↓OP_not, ↓OP_beq, ↓OP_bne, ↓OP_add, ↓OP_sub, ↓OP_mn, ↓OP_mx, ↓OP_sel, ↓OP_cu, ↓OP_remU, ↓OP_ci, ↓ITE_true, ↓ITE_false, ↓ITE_bool, decide_eq_true_eq, decide_eq_false_iff_not, Bool.not_eq_eq_eq_not, Bool.not_true, Bool.not_false, Bool.false_eq_true, Bool.true_eq_false, false_implies, true_implies, true_and, and_true, implies_true, not_true_eq_false, not_false_eq_true, app1, app2, app3, app4, cell0, look_z, look_s, rowI, rowB, rowL, ↓c_ref01_IsNode]
    refine ⟨fun h6 => ⟨fun h7 => ?_, fun h7 => ?_⟩, fun h6 => ?_⟩
    · have h8 := iter_forever (iter_alive paths h6 (m := paths.length + 1) (by omega)) 9
      have : (List.range paths.length).all (fun n => decide (iterP paths 9 n < 0)) = false := by
        rw [List.all_eq_false]; exact ⟨i, by simp; omega, by simp; omega⟩
      rw [this]
    · have h8 := par_alive h5 (by rw [← hs]; exact h6)
      rw [hm] at h8 ⊢
      obtain ⟨x, hx⟩ := get_ex h8
      simp (disch := first | omega | assumption | (simp only [List.length_cons, List.length_nil]; omega)) only [↓OP_len, ↓OP_len0, ↓OP_idx, ↓OP_drop, ↓OP_take, ↓OP_mid, ↓OP_all, ↓OP_isl, ↓OP_isl0, ↓OP_app, ↓OP_app0, ↓OP_appN, ↓OP_app00, ↓OP_rowI, ↓OP_rowI2, ↓OP_rowL, ↓OP_rowLL, ↓OP_rowI4, ↓OP_rowI8, ↓OP_lss, ↓OP_leq, ↓OP_gtr, ↓OP_geq, ↓OP_eql, ↓OP_neq, ↓OP_not, ↓OP_beq, ↓OP_bne, ↓OP_add, ↓OP_sub, ↓OP_mn, ↓OP_mx, ↓OP_sel, ↓OP_cu, ↓OP_remU, ↓OP_ci, ↓ITE_true, ↓ITE_false, ↓ITE_bool, decide_eq_true_eq, decide_eq_false_iff_not, Bool.not_eq_eq_eq_not, Bool.not_true, Bool.not_false, Bool.false_eq_true, Bool.true_eq_false, false_implies, true_implies, true_and, and_true, implies_true, not_true_eq_false, not_false_eq_true, app1, app2, app3, app4, cell0, look_z, look_s, rowI, rowB, rowL, ↓c_ref01_IsNode, cell_L hx]
      cases x with
      | nil => rw [hs, hm] at h6; simp [par, hx] at h6
      | cons z r =>
        have h9 := hpos m [] z r hx
        simp (disch := first | omega | assumption | (simp only [List.length_cons, List.length_nil]; omega)) only [↓OP_len, ↓OP_len0, ↓OP_idx, ↓OP_drop, ↓OP_take, ↓OP_mid, ↓OP_all, ↓OP_isl, ↓OP_isl0, ↓OP_app, ↓OP_app0, ↓OP_appN, ↓OP_app00, ↓OP_rowI, ↓OP_rowI2, ↓OP_rowL, ↓OP_rowLL, ↓OP_rowI4, ↓OP_rowI8, ↓OP_lss, ↓OP_leq, ↓OP_gtr, ↓OP_geq, ↓OP_eql, ↓OP_neq, ↓OP_not, ↓OP_beq, ↓OP_bne, ↓OP_add, ↓OP_sub, ↓OP_mn, ↓OP_mx, ↓OP_sel, ↓OP_cu, ↓OP_remU, ↓OP_ci, ↓ITE_true, ↓ITE_false, ↓ITE_bool, decide_eq_true_eq, decide_eq_false_iff_not, Bool.not_eq_eq_eq_not, Bool.not_true, Bool.not_false, Bool.false_eq_true, Bool.true_eq_false, false_implies, true_implies, true_and, and_true, implies_true, not_true_eq_false, not_false_eq_true, app1, app2, app3, app4, cell0, look_z, look_s, rowI, rowB, rowL, ↓c_ref01_IsNode]
        refine ⟨k + 1, ?_, ⟨by omega, h6⟩, by omega⟩
        rw [hs, hm, h9.1]; simp
    · refine ⟨i + 1, by simp, ⟨by omega, fun m hm => ?_⟩, by omega⟩
      by_cases e : m = i
      · subst e
        rcases Int.lt_or_le (iterP paths 9 m) 0 with h8 | h8
        · exact h8
        · have := iter_forever (iter_alive paths h8 (m := paths.length + 1) (by omega)) (k + 1)
          omega
      · exact h2 m (by omega)
  · have : (List.range paths.length).all (fun n => decide (iterP paths 9 n < 0)) = true := by
      rw [List.all_eq_true]; intro m hm; simp at hm; simp; exact h2 m (by omega)
    rw [this]
theorem w_law12_wakes  : S_law12_wakes ρ  (· = [bb true]) := by
  unfold S_law12_wakes
  have e1 : addP 0 3 [] = ([3], 0) := by decide
  have e2 : chk 0 1 [] 4 = 0 := by decide
  have e3 : whole [[], [0]] = true := by decide
  have e4 : whole [[1], [0]] = false := by decide
  have e5 : chk 9 0 [] 1 = 1 := by decide
  have g2 : (PV.list []) = L ([] : List Int) := rfl
  rw [c_path_Add, c_path_Check, e1, e2]
  simp only [g2]
  simp (disch := first | omega | assumption | (simp only [List.length_cons, List.length_nil]; omega)) only [↓OP_len, ↓OP_len0, ↓OP_idx, ↓OP_drop, ↓OP_take, ↓OP_mid, ↓OP_all, ↓OP_isl, ↓OP_isl0, ↓OP_app, ↓OP_app0, ↓OP_appN, ↓OP_app00, ↓OP_rowI, ↓OP_rowI2, ↓OP_rowL, ↓OP_rowLL, ↓OP_rowI4, ↓OP_rowI8, ↓OP_lss, ↓OP_leq, ↓OP_gtr, ↓OP_geq, ↓OP_eql, ↓OP_neq, ↓OP_not, ↓OP_beq, ↓OP_bne, ↓OP_add, ↓OP_sub, ↓OP_mn, ↓OP_mx, ↓OP_sel, ↓OP_cu, ↓OP_remU, ↓OP_ci, ↓ITE_true, ↓ITE_false, ↓ITE_bool, decide_eq_true_eq, decide_eq_false_iff_not, Bool.not_eq_eq_eq_not, Bool.not_true, Bool.not_false, Bool.false_eq_true, Bool.true_eq_false, false_implies, true_implies, true_and, and_true, implies_true, not_true_eq_false, not_false_eq_true, app1, app2, app3, app4, cell0, look_z, look_s, rowI, rowB, rowL, ↓c_path_Add, ↓c_path_Whole, ↓c_bkeep_Ints, ↓c_path_Check, e3, e4, e5]
  simp
theorem w_law12_PathExact (t : Int) (self : Int) (l : List Int) (depth : Int) (paths : List (List Int)) (hg : Goods [I t, I self, L l, I depth, L paths]) : S_law12_PathExact ρ (I t) (I self) (L l) (I depth) (L paths) (· = [bb true]) := by
  unfold S_law12_PathExact
  simp only [Goods, good_L] at hg
  refine SUB.v1 (bb (decide ((30 : Int) < l.length) || decide ((20 : Int) < paths.length))) ?_ ?_
  · simp (disch := first | omega | assumption | (simp only [List.length_cons, List.length_nil]; omega)) only [↓OP_len, ↓OP_len0, ↓OP_idx, ↓OP_drop, ↓OP_take, ↓OP_mid, ↓OP_all, ↓OP_isl, ↓OP_isl0, ↓OP_app, ↓OP_app0, ↓OP_appN, ↓OP_app00, ↓OP_rowI, ↓OP_rowI2, ↓OP_rowL, ↓OP_rowLL, ↓OP_rowI4, ↓OP_rowI8, ↓OP_lss, ↓OP_leq, ↓OP_gtr, ↓OP_geq, ↓OP_eql, ↓OP_neq, ↓OP_not, ↓OP_beq, ↓OP_bne, ↓OP_add, ↓OP_sub, ↓OP_mn, ↓OP_mx, ↓OP_sel, ↓OP_cu, ↓OP_remU, ↓OP_ci, ↓ITE_true, ↓ITE_false, ↓ITE_bool, decide_eq_true_eq, decide_eq_false_iff_not, Bool.not_eq_eq_eq_not, Bool.not_true, Bool.not_false, Bool.false_eq_true, Bool.true_eq_false, false_implies, true_implies, true_and, and_true, implies_true, not_true_eq_false, not_false_eq_true, app1, app2, app3, app4, cell0, look_z, look_s, rowI, rowB, rowL, ↓c_bkeep_TwinInts, ↓c_path_Add, ↓c_path_Whole, ↓c_ref10_Whole, ↓c_bkeep_Ints, ↓c_ref01_IsTopic, ↓c_ref01_IsNode, ↓c_ref10_Path, ↓c_path_Check, ↓c_law12_wakes]
    refine ⟨fun h => ?_, fun h => ?_⟩ <;> simp [h]
  simp (disch := first | omega | assumption | (simp only [List.length_cons, List.length_nil]; omega)) only [↓OP_len, ↓OP_len0, ↓OP_idx, ↓OP_drop, ↓OP_take, ↓OP_mid, ↓OP_all, ↓OP_isl, ↓OP_isl0, ↓OP_app, ↓OP_app0, ↓OP_appN, ↓OP_app00, ↓OP_rowI, ↓OP_rowI2, ↓OP_rowL, ↓OP_rowLL, ↓OP_rowI4, ↓OP_rowI8, ↓OP_lss, ↓OP_leq, ↓OP_gtr, ↓OP_geq, ↓OP_eql, ↓OP_neq, ↓OP_not, ↓OP_beq, ↓OP_bne, ↓OP_add, ↓OP_sub, ↓OP_mn, ↓OP_mx, ↓OP_sel, ↓OP_cu, ↓OP_remU, ↓OP_ci, ↓ITE_true, ↓ITE_false, ↓ITE_bool, decide_eq_true_eq, decide_eq_false_iff_not, Bool.not_eq_eq_eq_not, Bool.not_true, Bool.not_false, Bool.false_eq_true, Bool.true_eq_false, false_implies, true_implies, true_and, and_true, implies_true, not_true_eq_false, not_false_eq_true, app1, app2, app3, app4, cell0, look_z, look_s, rowI, rowB, rowL, ↓c_bkeep_TwinInts, ↓c_path_Add, ↓c_path_Whole, ↓c_ref10_Whole, ↓c_bkeep_Ints, ↓c_ref01_IsTopic, ↓c_ref01_IsNode, ↓c_ref10_Path, ↓c_path_Check, ↓c_law12_wakes]
  intro h
  simp at h
  refine LOOP.rule (α := Nat) (fun i => [I i]) (fun i => i ≤ paths.length ∧ ∀ x ∈ paths.take i, x.length ≤ 20) (fun i => paths.length - i) 0 rfl ⟨by omega, by simp⟩ (fun _ => rfl) ?_
  rintro i ⟨h1, h2⟩
  simp only [app]
  simp (disch := first | omega | assumption | (simp only [List.length_cons, List.length_nil]; omega)) only [↓OP_len, ↓OP_len0, ↓OP_idx, ↓OP_drop, ↓OP_take, ↓OP_mid, ↓OP_all, ↓OP_isl, ↓OP_isl0, ↓OP_app, ↓OP_app0, ↓OP_appN, ↓OP_app00, ↓OP_rowI, ↓OP_rowI2, ↓OP_rowL, ↓OP_rowLL, ↓OP_rowI4, ↓OP_rowI8, ↓OP_lss, ↓OP_leq, ↓OP_gtr, ↓OP_geq, ↓OP_eql, ↓OP_neq, ↓OP_not, ↓OP_beq, ↓OP_bne, ↓OP_add, ↓OP_sub, ↓OP_mn, ↓OP_mx, ↓OP_sel, ↓OP_cu, ↓OP_remU, ↓OP_ci, ↓ITE_true, ↓ITE_false, ↓ITE_bool, decide_eq_true_eq, decide_eq_false_iff_not, Bool.not_eq_eq_eq_not, Bool.not_true, Bool.not_false, Bool.false_eq_true, Bool.true_eq_false, false_implies, true_implies, true_and, and_true, implies_true, not_true_eq_false, not_false_eq_true, app1, app2, app3, app4, cell0, look_z, look_s, rowI, rowB, rowL, ↓c_bkeep_TwinInts, ↓c_path_Add, ↓c_path_Whole, ↓c_ref10_Whole, ↓c_bkeep_Ints, ↓c_ref01_IsTopic, ↓c_ref01_IsNode, ↓c_ref10_Path, ↓c_path_Check, ↓c_law12_wakes]
  refine ⟨fun h3 => ?_, fun h3 => ?_⟩
  · obtain ⟨x, hx⟩ := get_ex h3
    simp (disch := first | omega | assumption | (simp only [List.length_cons, List.length_nil]; omega)) only [↓OP_len, ↓OP_len0, ↓OP_idx, ↓OP_drop, ↓OP_take, ↓OP_mid, ↓OP_all, ↓OP_isl, ↓OP_isl0, ↓OP_app, ↓OP_app0, ↓OP_appN, ↓OP_app00, ↓OP_rowI, ↓OP_rowI2, ↓OP_rowL, ↓OP_rowLL, ↓OP_rowI4, ↓OP_rowI8, ↓OP_lss, ↓OP_leq, ↓OP_gtr, ↓OP_geq, ↓OP_eql, ↓OP_neq, ↓OP_not, ↓OP_beq, ↓OP_bne, ↓OP_add, ↓OP_sub, ↓OP_mn, ↓OP_mx, ↓OP_sel, ↓OP_cu, ↓OP_remU, ↓OP_ci, ↓ITE_true, ↓ITE_false, ↓ITE_bool, decide_eq_true_eq, decide_eq_false_iff_not, Bool.not_eq_eq_eq_not, Bool.not_true, Bool.not_false, Bool.false_eq_true, Bool.true_eq_false, false_implies, true_implies, true_and, and_true, implies_true, not_true_eq_false, not_false_eq_true, app1, app2, app3, app4, cell0, look_z, look_s, rowI, rowB, rowL, ↓c_bkeep_TwinInts, ↓c_path_Add, ↓c_path_Whole, ↓c_ref10_Whole, ↓c_bkeep_Ints, ↓c_ref01_IsTopic, ↓c_ref01_IsNode, ↓c_ref10_Path, ↓c_path_Check, ↓c_law12_wakes, cell_L hx]
    refine fun h4 => (⟨i + 1, by simp, ⟨by omega, ?_⟩, by omega⟩)
    intro y hy
    rw [List.take_add_one, hx] at hy
    simp at hy
    rcases hy with hy | rfl
    · exact h2 y hy
    · omega
  rw [List.take_of_length_le (by omega)] at h2
  have hw : ∀ x ∈ paths, x.length ≤ 1000 := fun x hx => by have := h2 x hx; omega
  simp (disch := first | omega | assumption | (simp only [List.length_cons, List.length_nil]; omega)) only [↓OP_len, ↓OP_len0, ↓OP_idx, ↓OP_drop, ↓OP_take, ↓OP_mid, ↓OP_all, ↓OP_isl, ↓OP_isl0, ↓OP_app, ↓OP_app0, ↓OP_appN, ↓OP_app00, ↓OP_rowI, ↓OP_rowI2, ↓OP_rowL, ↓OP_rowLL, ↓OP_rowI4, ↓OP_rowI8, ↓OP_lss, ↓OP_leq, ↓OP_gtr, ↓OP_geq, ↓OP_eql, ↓OP_neq, ↓OP_not, ↓OP_beq, ↓OP_bne, ↓OP_add, ↓OP_sub, ↓OP_mn, ↓OP_mx, ↓OP_sel, ↓OP_cu, ↓OP_remU, ↓OP_ci, ↓ITE_true, ↓ITE_false, ↓ITE_bool, decide_eq_true_eq, decide_eq_false_iff_not, Bool.not_eq_eq_eq_not, Bool.not_true, Bool.not_false, Bool.false_eq_true, Bool.true_eq_false, false_implies, true_implies, true_and, and_true, implies_true, not_true_eq_false, not_false_eq_true, app1, app2, app3, app4, cell0, look_z, look_s, rowI, rowB, rowL, ↓c_bkeep_TwinInts, ↓c_path_Add, ↓c_path_Whole, ↓c_ref10_Whole, ↓c_bkeep_Ints, ↓c_ref01_IsTopic, ↓c_ref01_IsNode, ↓c_ref10_Path, ↓c_path_Check, ↓c_law12_wakes]
  refine SUB.v1 (bb false) (by simp) ?_
  simp (disch := first | omega | assumption | (simp only [List.length_cons, List.length_nil]; omega)) only [↓OP_len, ↓OP_len0, ↓OP_idx, ↓OP_drop, ↓OP_take, ↓OP_mid, ↓OP_all, ↓OP_isl, ↓OP_isl0, ↓OP_app, ↓OP_app0, ↓OP_appN, ↓OP_app00, ↓OP_rowI, ↓OP_rowI2, ↓OP_rowL, ↓OP_rowLL, ↓OP_rowI4, ↓OP_rowI8, ↓OP_lss, ↓OP_leq, ↓OP_gtr, ↓OP_geq, ↓OP_eql, ↓OP_neq, ↓OP_not, ↓OP_beq, ↓OP_bne, ↓OP_add, ↓OP_sub, ↓OP_mn, ↓OP_mx, ↓OP_sel, ↓OP_cu, ↓OP_remU, ↓OP_ci, ↓ITE_true, ↓ITE_false, ↓ITE_bool, decide_eq_true_eq, decide_eq_false_iff_not, Bool.not_eq_eq_eq_not, Bool.not_true, Bool.not_false, Bool.false_eq_true, Bool.true_eq_false, false_implies, true_implies, true_and, and_true, implies_true, not_true_eq_false, not_false_eq_true, app1, app2, app3, app4, cell0, look_z, look_s, rowI, rowB, rowL, ↓c_bkeep_TwinInts, ↓c_path_Add, ↓c_path_Whole, ↓c_ref10_Whole, ↓c_bkeep_Ints, ↓c_ref01_IsTopic, ↓c_ref01_IsNode, ↓c_ref10_Path, ↓c_path_Check, ↓c_law12_wakes]
  refine SUB.v1 (bb (isT t && isN self)) ?_ ?_
  · cases isT t <;> simp
  cases hpl : (isT t && isN self)
  · have e1 : chk t self l 8 = 1 := by simp [chk, hpl]
    have e2 : chk t self l depth = 1 := by simp [chk, hpl]
    have e3 : addP t self l = ([], 1) := by simp [addP, e1]
    refine SUB.v2 (I 1) (I 1) ?_ ?_
    · simp (disch := first | omega | assumption | (simp only [List.length_cons, List.length_nil]; omega)) only [↓OP_len, ↓OP_len0, ↓OP_idx, ↓OP_drop, ↓OP_take, ↓OP_mid, ↓OP_all, ↓OP_isl, ↓OP_isl0, ↓OP_app, ↓OP_app0, ↓OP_appN, ↓OP_app00, ↓OP_rowI, ↓OP_rowI2, ↓OP_rowL, ↓OP_rowLL, ↓OP_rowI4, ↓OP_rowI8, ↓OP_lss, ↓OP_leq, ↓OP_gtr, ↓OP_geq, ↓OP_eql, ↓OP_neq, ↓OP_not, ↓OP_beq, ↓OP_bne, ↓OP_add, ↓OP_sub, ↓OP_mn, ↓OP_mx, ↓OP_sel, ↓OP_cu, ↓OP_remU, ↓OP_ci, ↓ITE_true, ↓ITE_false, ↓ITE_bool, decide_eq_true_eq, decide_eq_false_iff_not, Bool.not_eq_eq_eq_not, Bool.not_true, Bool.not_false, Bool.false_eq_true, Bool.true_eq_false, false_implies, true_implies, true_and, and_true, implies_true, not_true_eq_false, not_false_eq_true, app1, app2, app3, app4, cell0, look_z, look_s, rowI, rowB, rowL, ↓c_bkeep_TwinInts, ↓c_path_Add, ↓c_path_Whole, ↓c_ref10_Whole, ↓c_bkeep_Ints, ↓c_ref01_IsTopic, ↓c_ref01_IsNode, ↓c_ref10_Path, ↓c_path_Check, ↓c_law12_wakes]
    simp (disch := first | omega | assumption | (simp only [List.length_cons, List.length_nil]; omega)) only [↓OP_len, ↓OP_len0, ↓OP_idx, ↓OP_drop, ↓OP_take, ↓OP_mid, ↓OP_all, ↓OP_isl, ↓OP_isl0, ↓OP_app, ↓OP_app0, ↓OP_appN, ↓OP_app00, ↓OP_rowI, ↓OP_rowI2, ↓OP_rowL, ↓OP_rowLL, ↓OP_rowI4, ↓OP_rowI8, ↓OP_lss, ↓OP_leq, ↓OP_gtr, ↓OP_geq, ↓OP_eql, ↓OP_neq, ↓OP_not, ↓OP_beq, ↓OP_bne, ↓OP_add, ↓OP_sub, ↓OP_mn, ↓OP_mx, ↓OP_sel, ↓OP_cu, ↓OP_remU, ↓OP_ci, ↓ITE_true, ↓ITE_false, ↓ITE_bool, decide_eq_true_eq, decide_eq_false_iff_not, Bool.not_eq_eq_eq_not, Bool.not_true, Bool.not_false, Bool.false_eq_true, Bool.true_eq_false, false_implies, true_implies, true_and, and_true, implies_true, not_true_eq_false, not_false_eq_true, app1, app2, app3, app4, cell0, look_z, look_s, rowI, rowB, rowL, ↓c_bkeep_TwinInts, ↓c_path_Add, ↓c_path_Whole, ↓c_ref10_Whole, ↓c_bkeep_Ints, ↓c_ref01_IsTopic, ↓c_ref01_IsNode, ↓c_ref10_Path, ↓c_path_Check, ↓c_law12_wakes, e2, e3]
    refine SUB.v1 (bb false) ?_ ?_
    · simp
    simp [ITE_false]
  · have hpl2 : isT t = true ∧ isN self = true := by simpa using hpl
    have e8 : chk t self l 8 = chkR t self l 8 := by simp [chk, chkR, hpl]
    refine SUB.v2 (I (chk t self l depth)) (I (addP t self l).2) ?_ ?_
    · simp (disch := first | omega | assumption | (simp only [List.length_cons, List.length_nil]; omega)) only [↓OP_len, ↓OP_len0, ↓OP_idx, ↓OP_drop, ↓OP_take, ↓OP_mid, ↓OP_all, ↓OP_isl, ↓OP_isl0, ↓OP_app, ↓OP_app0, ↓OP_appN, ↓OP_app00, ↓OP_rowI, ↓OP_rowI2, ↓OP_rowL, ↓OP_rowLL, ↓OP_rowI4, ↓OP_rowI8, ↓OP_lss, ↓OP_leq, ↓OP_gtr, ↓OP_geq, ↓OP_eql, ↓OP_neq, ↓OP_not, ↓OP_beq, ↓OP_bne, ↓OP_add, ↓OP_sub, ↓OP_mn, ↓OP_mx, ↓OP_sel, ↓OP_cu, ↓OP_remU, ↓OP_ci, ↓ITE_true, ↓ITE_false, ↓ITE_bool, decide_eq_true_eq, decide_eq_false_iff_not, Bool.not_eq_eq_eq_not, Bool.not_true, Bool.not_false, Bool.false_eq_true, Bool.true_eq_false, false_implies, true_implies, true_and, and_true, implies_true, not_true_eq_false, not_false_eq_true, app1, app2, app3, app4, cell0, look_z, look_s, rowI, rowB, rowL, ↓c_bkeep_TwinInts, ↓c_path_Add, ↓c_path_Whole, ↓c_ref10_Whole, ↓c_bkeep_Ints, ↓c_ref01_IsTopic, ↓c_ref01_IsNode, ↓c_ref10_Path, ↓c_path_Check, ↓c_law12_wakes]
      refine SUB.v1 (bb (decide (chkR t self l 8 = 0) && decide ((8 : Int) ≤ l.length))) ?_ ?_
      · by_cases e : chkR t self l 8 = 0 <;> simp [e]
      have ed : 1 ≤ depth → depth ≤ 8 → chk t self l depth = chkR t self l depth := by
        intro h4 h5; simp [chk, chkR, hpl, h4, h5]
      have ed1 : ¬ (1 ≤ depth ∧ depth ≤ 8) → chk t self l depth = 1 := by
        intro h4; simp only [chk]; rw [if_neg]; simp only [Bool.and_eq_true, decide_eq_true_eq]; rintro ⟨⟨⟨_, h5⟩, h6⟩, _⟩; exact h4 ⟨h5, h6⟩
      simp (disch := first | omega | assumption | (simp only [List.length_cons, List.length_nil]; omega)) only [↓OP_len, ↓OP_len0, ↓OP_idx, ↓OP_drop, ↓OP_take, ↓OP_mid, ↓OP_all, ↓OP_isl, ↓OP_isl0, ↓OP_app, ↓OP_app0, ↓OP_appN, ↓OP_app00, ↓OP_rowI, ↓OP_rowI2, ↓OP_rowL, ↓OP_rowLL, ↓OP_rowI4, ↓OP_rowI8, ↓OP_lss, ↓OP_leq, ↓OP_gtr, ↓OP_geq, ↓OP_eql, ↓OP_neq, ↓OP_not, ↓OP_beq, ↓OP_bne, ↓OP_add, ↓OP_sub, ↓OP_mn, ↓OP_mx, ↓OP_sel, ↓OP_cu, ↓OP_remU, ↓OP_ci, ↓ITE_true, ↓ITE_false, ↓ITE_bool, decide_eq_true_eq, decide_eq_false_iff_not, Bool.not_eq_eq_eq_not, Bool.not_true, Bool.not_false, Bool.false_eq_true, Bool.true_eq_false, false_implies, true_implies, true_and, and_true, implies_true, not_true_eq_false, not_false_eq_true, app1, app2, app3, app4, cell0, look_z, look_s, rowI, rowB, rowL, ↓c_bkeep_TwinInts, ↓c_path_Add, ↓c_path_Whole, ↓c_ref10_Whole, ↓c_bkeep_Ints, ↓c_ref01_IsTopic, ↓c_ref01_IsNode, ↓c_ref10_Path, ↓c_path_Check, ↓c_law12_wakes]
      simp only [addP, e8]
      by_cases a : chkR t self l 8 = 0 <;> by_cases b : 8 ≤ l.length <;> by_cases c : 1 ≤ depth <;> by_cases d : depth ≤ 8 <;> simp [a, b, c, d] <;> (try rw [ed c d]) <;> (try rw [ed1 (by omega)]) <;> simp <;> omega
    simp (disch := first | omega | assumption | (simp only [List.length_cons, List.length_nil]; omega)) only [↓OP_len, ↓OP_len0, ↓OP_idx, ↓OP_drop, ↓OP_take, ↓OP_mid, ↓OP_all, ↓OP_isl, ↓OP_isl0, ↓OP_app, ↓OP_app0, ↓OP_appN, ↓OP_app00, ↓OP_rowI, ↓OP_rowI2, ↓OP_rowL, ↓OP_rowLL, ↓OP_rowI4, ↓OP_rowI8, ↓OP_lss, ↓OP_leq, ↓OP_gtr, ↓OP_geq, ↓OP_eql, ↓OP_neq, ↓OP_not, ↓OP_beq, ↓OP_bne, ↓OP_add, ↓OP_sub, ↓OP_mn, ↓OP_mx, ↓OP_sel, ↓OP_cu, ↓OP_remU, ↓OP_ci, ↓ITE_true, ↓ITE_false, ↓ITE_bool, decide_eq_true_eq, decide_eq_false_iff_not, Bool.not_eq_eq_eq_not, Bool.not_true, Bool.not_false, Bool.false_eq_true, Bool.true_eq_false, false_implies, true_implies, true_and, and_true, implies_true, not_true_eq_false, not_false_eq_true, app1, app2, app3, app4, cell0, look_z, look_s, rowI, rowB, rowL, ↓c_bkeep_TwinInts, ↓c_path_Add, ↓c_path_Whole, ↓c_ref10_Whole, ↓c_bkeep_Ints, ↓c_ref01_IsTopic, ↓c_ref01_IsNode, ↓c_ref10_Path, ↓c_path_Check, ↓c_law12_wakes]
    refine SUB.v1 (bb false) (by simp) ?_
    simp (disch := first | omega | assumption | (simp only [List.length_cons, List.length_nil]; omega)) only [↓OP_len, ↓OP_len0, ↓OP_idx, ↓OP_drop, ↓OP_take, ↓OP_mid, ↓OP_all, ↓OP_isl, ↓OP_isl0, ↓OP_app, ↓OP_app0, ↓OP_appN, ↓OP_app00, ↓OP_rowI, ↓OP_rowI2, ↓OP_rowL, ↓OP_rowLL, ↓OP_rowI4, ↓OP_rowI8, ↓OP_lss, ↓OP_leq, ↓OP_gtr, ↓OP_geq, ↓OP_eql, ↓OP_neq, ↓OP_not, ↓OP_beq, ↓OP_bne, ↓OP_add, ↓OP_sub, ↓OP_mn, ↓OP_mx, ↓OP_sel, ↓OP_cu, ↓OP_remU, ↓OP_ci, ↓ITE_true, ↓ITE_false, ↓ITE_bool, decide_eq_true_eq, decide_eq_false_iff_not, Bool.not_eq_eq_eq_not, Bool.not_true, Bool.not_false, Bool.false_eq_true, Bool.true_eq_false, false_implies, true_implies, true_and, and_true, implies_true, not_true_eq_false, not_false_eq_true, app1, app2, app3, app4, cell0, look_z, look_s, rowI, rowB, rowL, ↓c_bkeep_TwinInts, ↓c_path_Add, ↓c_path_Whole, ↓c_ref10_Whole, ↓c_bkeep_Ints, ↓c_ref01_IsTopic, ↓c_ref01_IsNode, ↓c_ref10_Path, ↓c_path_Check, ↓c_law12_wakes]
    simp only [addP]
    by_cases a : chk t self l 8 = 0 <;> by_cases b : 8 ≤ l.length <;> simp [a, b]
end Go.Xt
