/- Steps towards the statements of this seat; the conditions stand in each theorem. -/
import Derived.Test.YtfcihgjageeglaaRho
import Derived.Test.YtfcihgjageeglaaT
set_option linter.unusedSimpArgs false
set_option linter.unusedVariables false
set_option maxRecDepth 100000
namespace Go.Xt
theorem nn_bd (v : Int) : 0 ≤ nn v ∧ nn v < 4611686018427387904 := by
  unfold nn NN
  match v.toNat with
  | 0 => simp | 1 => simp | 2 => simp | 3 => simp | 4 => simp | 5 => simp | 6 => simp | 7 => simp
  | n + 8 => simp
theorem tt_bd (v : Int) : 0 ≤ tt v ∧ tt v < 4611686018427387904 := by
  unfold tt TT
  match v.toNat with
  | 0 => simp | 1 => simp | 2 => simp | 3 => simp
  | n + 4 => simp
theorem isN_iff {v : Int} : isN v = true ↔ 0 ≤ v ∧ v < 8 := by simp [isN]
theorem isT_iff {v : Int} : isT v = true ↔ 0 ≤ v ∧ v < 4 := by simp [isT]
theorem OP_nn {v : Int} {k : PV → Prop} (h0 : 0 ≤ v) (h1 : v < 8) : OP .pickA [I v, I 2342812313538366385, I 1863050908023769503, I 81111313352671826, I 2434324899588211290, I 2454816673080883147, I 1342378062264523301, I 820659310660760249, I 2006264061484817761] k = k (I (nn v)) := by
  obtain ⟨n, rfl⟩ := Int.eq_ofNat_of_zero_le h0
  have : n < 8 := by omega
  match n with
  | 0 => exact OP_of rfl | 1 => exact OP_of rfl | 2 => exact OP_of rfl | 3 => exact OP_of rfl | 4 => exact OP_of rfl | 5 => exact OP_of rfl | 6 => exact OP_of rfl | 7 => exact OP_of rfl
  | n + 8 => omega
theorem OP_tt {v : Int} {k : PV → Prop} (h0 : 0 ≤ v) (h1 : v < 4) : OP .pickA [I v, I 1462484242049070477, I 1775212608919665246, I 3535639072113518480, I 3725500155902745375] k = k (I (tt v)) := by
  obtain ⟨n, rfl⟩ := Int.eq_ofNat_of_zero_le h0
  have : n < 4 := by omega
  match n with
  | 0 => exact OP_of rfl | 1 => exact OP_of rfl | 2 => exact OP_of rfl | 3 => exact OP_of rfl
  | n + 4 => omega
theorem w_ring_Is (n : Int) : S_ring_Is ρ (I n) (· = [bb (isN n)]) := by
  unfold S_ring_Is
  simp (disch := first | omega | assumption | (simp only [List.length_cons, List.length_nil]; omega)) only [↓OP_len, ↓OP_len0, ↓OP_idx, ↓OP_drop, ↓OP_take, ↓OP_mid, ↓OP_all, ↓OP_isl, ↓OP_isl0, ↓OP_app, ↓OP_app0, ↓OP_appN, ↓OP_app00, ↓OP_rowI, ↓OP_rowI2, ↓OP_rowL, ↓OP_rowLL, ↓OP_rowI4, ↓OP_rowI8, ↓OP_lss, ↓OP_leq, ↓OP_gtr, ↓OP_geq, ↓OP_eql, ↓OP_neq, ↓OP_not, ↓OP_beq, ↓OP_bne, ↓OP_add, ↓OP_sub, ↓OP_mn, ↓OP_mx, ↓OP_sel, ↓OP_cu, ↓OP_remU, ↓OP_ci, ↓ITE_true, ↓ITE_false, ↓ITE_bool, decide_eq_true_eq, decide_eq_false_iff_not, Bool.not_eq_eq_eq_not, Bool.not_true, Bool.not_false, Bool.false_eq_true, Bool.true_eq_false, false_implies, true_implies, true_and, and_true, implies_true, not_true_eq_false, not_false_eq_true, app1, app2, app3, app4, cell0, look_z, look_s, rowI, rowB, rowL]
  refine ⟨fun h => ?_, fun h => ?_⟩ <;> simp [isN, h]
  try omega
theorem w_ring_Node (n : Int) : S_ring_Node ρ (I n) (· = [I (if isN n = true then nn n else 0), I (if isN n = true then 0 else 1)]) := by
  unfold S_ring_Node
  simp (disch := first | omega | assumption | (simp only [List.length_cons, List.length_nil]; omega)) only [↓OP_len, ↓OP_len0, ↓OP_idx, ↓OP_drop, ↓OP_take, ↓OP_mid, ↓OP_all, ↓OP_isl, ↓OP_isl0, ↓OP_app, ↓OP_app0, ↓OP_appN, ↓OP_app00, ↓OP_rowI, ↓OP_rowI2, ↓OP_rowL, ↓OP_rowLL, ↓OP_rowI4, ↓OP_rowI8, ↓OP_lss, ↓OP_leq, ↓OP_gtr, ↓OP_geq, ↓OP_eql, ↓OP_neq, ↓OP_not, ↓OP_beq, ↓OP_bne, ↓OP_add, ↓OP_sub, ↓OP_mn, ↓OP_mx, ↓OP_sel, ↓OP_cu, ↓OP_remU, ↓OP_ci, ↓ITE_true, ↓ITE_false, ↓ITE_bool, decide_eq_true_eq, decide_eq_false_iff_not, Bool.not_eq_eq_eq_not, Bool.not_true, Bool.not_false, Bool.false_eq_true, Bool.true_eq_false, false_implies, true_implies, true_and, and_true, implies_true, not_true_eq_false, not_false_eq_true, app1, app2, app3, app4, cell0, look_z, look_s, rowI, rowB, rowL, ↓c_ring_Is]
  refine ⟨fun h => ?_, fun h => ?_⟩ 
  · simp [h]
  · rw [isN_iff] at h
    rw [OP_nn h.1 h.2]; simp [isN_iff, h]
theorem w_ring_Topic (t : Int) : S_ring_Topic ρ (I t) (· = [I (if isT t = true then tt t else 0), I (if isT t = true then 0 else 1)]) := by
  unfold S_ring_Topic
  simp (disch := first | omega | assumption | (simp only [List.length_cons, List.length_nil]; omega)) only [↓OP_len, ↓OP_len0, ↓OP_idx, ↓OP_drop, ↓OP_take, ↓OP_mid, ↓OP_all, ↓OP_isl, ↓OP_isl0, ↓OP_app, ↓OP_app0, ↓OP_appN, ↓OP_app00, ↓OP_rowI, ↓OP_rowI2, ↓OP_rowL, ↓OP_rowLL, ↓OP_rowI4, ↓OP_rowI8, ↓OP_lss, ↓OP_leq, ↓OP_gtr, ↓OP_geq, ↓OP_eql, ↓OP_neq, ↓OP_not, ↓OP_beq, ↓OP_bne, ↓OP_add, ↓OP_sub, ↓OP_mn, ↓OP_mx, ↓OP_sel, ↓OP_cu, ↓OP_remU, ↓OP_ci, ↓ITE_true, ↓ITE_false, ↓ITE_bool, decide_eq_true_eq, decide_eq_false_iff_not, Bool.not_eq_eq_eq_not, Bool.not_true, Bool.not_false, Bool.false_eq_true, Bool.true_eq_false, false_implies, true_implies, true_and, and_true, implies_true, not_true_eq_false, not_false_eq_true, app1, app2, app3, app4, cell0, look_z, look_s, rowI, rowB, rowL]
  refine ⟨fun h => ⟨fun h2 => ?_, fun h2 => ?_⟩, fun h => ?_⟩ 
  · simp [isT, h]; try omega
  · rw [OP_tt h (by omega)]; simp [isT_iff, h]; try omega
  · simp [isT, h]; try omega
theorem w_key_Far (k : Int) (n : Int) (hp : 0 ≤ k ∧ k < 4611686018427387904 ∧ 0 ≤ n ∧ n < 4611686018427387904) : S_key_Far ρ (I k) (I n) (· = [I (far k n)]) := by
  unfold S_key_Far far
  obtain ⟨h1, h2, h3, h4⟩ := hp
  simp (disch := first | omega | assumption | (simp only [List.length_cons, List.length_nil]; omega)) only [↓OP_len, ↓OP_len0, ↓OP_idx, ↓OP_drop, ↓OP_take, ↓OP_mid, ↓OP_all, ↓OP_isl, ↓OP_isl0, ↓OP_app, ↓OP_app0, ↓OP_appN, ↓OP_app00, ↓OP_rowI, ↓OP_rowI2, ↓OP_rowL, ↓OP_rowLL, ↓OP_rowI4, ↓OP_rowI8, ↓OP_lss, ↓OP_leq, ↓OP_gtr, ↓OP_geq, ↓OP_eql, ↓OP_neq, ↓OP_not, ↓OP_beq, ↓OP_bne, ↓OP_add, ↓OP_sub, ↓OP_mn, ↓OP_mx, ↓OP_sel, ↓OP_cu, ↓OP_remU, ↓OP_ci, ↓ITE_true, ↓ITE_false, ↓ITE_bool, decide_eq_true_eq, decide_eq_false_iff_not, Bool.not_eq_eq_eq_not, Bool.not_true, Bool.not_false, Bool.false_eq_true, Bool.true_eq_false, false_implies, true_implies, true_and, and_true, implies_true, not_true_eq_false, not_false_eq_true, app1, app2, app3, app4, cell0, look_z, look_s, rowI, rowB, rowL]
  refine ⟨fun h => ?_, fun h => ?_⟩
  · simp [h]
  · simp [h]; try omega
theorem w_ref01_Node (n : Int) (hp : isN n = true) : S_ref01_Node ρ (I n) (· = [I (nn n)]) := by
  unfold S_ref01_Node
  rw [isN_iff] at hp
  simp (disch := first | omega | assumption | (simp only [List.length_cons, List.length_nil]; omega)) only [↓OP_len, ↓OP_len0, ↓OP_idx, ↓OP_drop, ↓OP_take, ↓OP_mid, ↓OP_all, ↓OP_isl, ↓OP_isl0, ↓OP_app, ↓OP_app0, ↓OP_appN, ↓OP_app00, ↓OP_rowI, ↓OP_rowI2, ↓OP_rowL, ↓OP_rowLL, ↓OP_rowI4, ↓OP_rowI8, ↓OP_lss, ↓OP_leq, ↓OP_gtr, ↓OP_geq, ↓OP_eql, ↓OP_neq, ↓OP_not, ↓OP_beq, ↓OP_bne, ↓OP_add, ↓OP_sub, ↓OP_mn, ↓OP_mx, ↓OP_sel, ↓OP_cu, ↓OP_remU, ↓OP_ci, ↓ITE_true, ↓ITE_false, ↓ITE_bool, decide_eq_true_eq, decide_eq_false_iff_not, Bool.not_eq_eq_eq_not, Bool.not_true, Bool.not_false, Bool.false_eq_true, Bool.true_eq_false, false_implies, true_implies, true_and, and_true, implies_true, not_true_eq_false, not_false_eq_true, app1, app2, app3, app4, cell0, look_z, look_s, rowI, rowB, rowL]
  rw [cell_I hp.1 (by simp only [List.length_cons, List.length_nil]; omega)]; rfl
theorem w_ref01_Topic (t : Int) (hp : isT t = true) : S_ref01_Topic ρ (I t) (· = [I (tt t)]) := by
  unfold S_ref01_Topic
  rw [isT_iff] at hp
  simp (disch := first | omega | assumption | (simp only [List.length_cons, List.length_nil]; omega)) only [↓OP_len, ↓OP_len0, ↓OP_idx, ↓OP_drop, ↓OP_take, ↓OP_mid, ↓OP_all, ↓OP_isl, ↓OP_isl0, ↓OP_app, ↓OP_app0, ↓OP_appN, ↓OP_app00, ↓OP_rowI, ↓OP_rowI2, ↓OP_rowL, ↓OP_rowLL, ↓OP_rowI4, ↓OP_rowI8, ↓OP_lss, ↓OP_leq, ↓OP_gtr, ↓OP_geq, ↓OP_eql, ↓OP_neq, ↓OP_not, ↓OP_beq, ↓OP_bne, ↓OP_add, ↓OP_sub, ↓OP_mn, ↓OP_mx, ↓OP_sel, ↓OP_cu, ↓OP_remU, ↓OP_ci, ↓ITE_true, ↓ITE_false, ↓ITE_bool, decide_eq_true_eq, decide_eq_false_iff_not, Bool.not_eq_eq_eq_not, Bool.not_true, Bool.not_false, Bool.false_eq_true, Bool.true_eq_false, false_implies, true_implies, true_and, and_true, implies_true, not_true_eq_false, not_false_eq_true, app1, app2, app3, app4, cell0, look_z, look_s, rowI, rowB, rowL]
  rw [cell_I hp.1 (by simp only [List.length_cons, List.length_nil]; omega)]; rfl
theorem w_ref01_Behind (k : Int) (n : Int) (hp : 0 ≤ k ∧ k < 4611686018427387904 ∧ 0 ≤ n ∧ n < 4611686018427387904) : S_ref01_Behind ρ (I k) (I n) (· = [I (far k n)]) := by
  unfold S_ref01_Behind far
  obtain ⟨h1, h2, h3, h4⟩ := hp
  simp (disch := first | omega | assumption | (simp only [List.length_cons, List.length_nil]; omega)) only [↓OP_len, ↓OP_len0, ↓OP_idx, ↓OP_drop, ↓OP_take, ↓OP_mid, ↓OP_all, ↓OP_isl, ↓OP_isl0, ↓OP_app, ↓OP_app0, ↓OP_appN, ↓OP_app00, ↓OP_rowI, ↓OP_rowI2, ↓OP_rowL, ↓OP_rowLL, ↓OP_rowI4, ↓OP_rowI8, ↓OP_lss, ↓OP_leq, ↓OP_gtr, ↓OP_geq, ↓OP_eql, ↓OP_neq, ↓OP_not, ↓OP_beq, ↓OP_bne, ↓OP_add, ↓OP_sub, ↓OP_mn, ↓OP_mx, ↓OP_sel, ↓OP_cu, ↓OP_remU, ↓OP_ci, ↓ITE_true, ↓ITE_false, ↓ITE_bool, decide_eq_true_eq, decide_eq_false_iff_not, Bool.not_eq_eq_eq_not, Bool.not_true, Bool.not_false, Bool.false_eq_true, Bool.true_eq_false, false_implies, true_implies, true_and, and_true, implies_true, not_true_eq_false, not_false_eq_true, app1, app2, app3, app4, cell0, look_z, look_s, rowI, rowB, rowL]
  refine ⟨fun h => ?_, fun h => ?_⟩
  · simp; omega
  · simp; omega
theorem w_ref01_IsTopic (t : Int) : S_ref01_IsTopic ρ (I t) (· = [bb (isT t)]) := by
  unfold S_ref01_IsTopic
  simp (disch := first | omega | assumption | (simp only [List.length_cons, List.length_nil]; omega)) only [↓OP_len, ↓OP_len0, ↓OP_idx, ↓OP_drop, ↓OP_take, ↓OP_mid, ↓OP_all, ↓OP_isl, ↓OP_isl0, ↓OP_app, ↓OP_app0, ↓OP_appN, ↓OP_app00, ↓OP_rowI, ↓OP_rowI2, ↓OP_rowL, ↓OP_rowLL, ↓OP_rowI4, ↓OP_rowI8, ↓OP_lss, ↓OP_leq, ↓OP_gtr, ↓OP_geq, ↓OP_eql, ↓OP_neq, ↓OP_not, ↓OP_beq, ↓OP_bne, ↓OP_add, ↓OP_sub, ↓OP_mn, ↓OP_mx, ↓OP_sel, ↓OP_cu, ↓OP_remU, ↓OP_ci, ↓ITE_true, ↓ITE_false, ↓ITE_bool, decide_eq_true_eq, decide_eq_false_iff_not, Bool.not_eq_eq_eq_not, Bool.not_true, Bool.not_false, Bool.false_eq_true, Bool.true_eq_false, false_implies, true_implies, true_and, and_true, implies_true, not_true_eq_false, not_false_eq_true, app1, app2, app3, app4, cell0, look_z, look_s, rowI, rowB, rowL]
  refine ⟨fun h => ?_, fun h => ?_⟩ <;> simp [isT, h]
  all_goals omega
theorem w_ref01_IsNode (n : Int) : S_ref01_IsNode ρ (I n) (· = [bb (isN n)]) := by
  unfold S_ref01_IsNode
  simp (disch := first | omega | assumption | (simp only [List.length_cons, List.length_nil]; omega)) only [↓OP_len, ↓OP_len0, ↓OP_idx, ↓OP_drop, ↓OP_take, ↓OP_mid, ↓OP_all, ↓OP_isl, ↓OP_isl0, ↓OP_app, ↓OP_app0, ↓OP_appN, ↓OP_app00, ↓OP_rowI, ↓OP_rowI2, ↓OP_rowL, ↓OP_rowLL, ↓OP_rowI4, ↓OP_rowI8, ↓OP_lss, ↓OP_leq, ↓OP_gtr, ↓OP_geq, ↓OP_eql, ↓OP_neq, ↓OP_not, ↓OP_beq, ↓OP_bne, ↓OP_add, ↓OP_sub, ↓OP_mn, ↓OP_mx, ↓OP_sel, ↓OP_cu, ↓OP_remU, ↓OP_ci, ↓ITE_true, ↓ITE_false, ↓ITE_bool, decide_eq_true_eq, decide_eq_false_iff_not, Bool.not_eq_eq_eq_not, Bool.not_true, Bool.not_false, Bool.false_eq_true, Bool.true_eq_false, false_implies, true_implies, true_and, and_true, implies_true, not_true_eq_false, not_false_eq_true, app1, app2, app3, app4, cell0, look_z, look_s, rowI, rowB, rowL]
  refine ⟨fun h => ?_, fun h => ?_⟩ <;> simp [isN, h]
  all_goals omega
theorem w_ring_Gap (t : Int) (n : Int) : S_ring_Gap ρ (I t) (I n) (· = [I (if (isT t && isN n) = true then gap t n else 0), I (if (isT t && isN n) = true then 0 else 1)]) := by
  unfold S_ring_Gap gap
  have := tt_bd t; have := nn_bd n
  simp (disch := first | omega | assumption | (simp only [List.length_cons, List.length_nil]; omega)) only [↓OP_len, ↓OP_len0, ↓OP_idx, ↓OP_drop, ↓OP_take, ↓OP_mid, ↓OP_all, ↓OP_isl, ↓OP_isl0, ↓OP_app, ↓OP_app0, ↓OP_appN, ↓OP_app00, ↓OP_rowI, ↓OP_rowI2, ↓OP_rowL, ↓OP_rowLL, ↓OP_rowI4, ↓OP_rowI8, ↓OP_lss, ↓OP_leq, ↓OP_gtr, ↓OP_geq, ↓OP_eql, ↓OP_neq, ↓OP_not, ↓OP_beq, ↓OP_bne, ↓OP_add, ↓OP_sub, ↓OP_mn, ↓OP_mx, ↓OP_sel, ↓OP_cu, ↓OP_remU, ↓OP_ci, ↓ITE_true, ↓ITE_false, ↓ITE_bool, decide_eq_true_eq, decide_eq_false_iff_not, Bool.not_eq_eq_eq_not, Bool.not_true, Bool.not_false, Bool.false_eq_true, Bool.true_eq_false, false_implies, true_implies, true_and, and_true, implies_true, not_true_eq_false, not_false_eq_true, app1, app2, app3, app4, cell0, look_z, look_s, rowI, rowB, rowL, ↓c_ring_Node, ↓c_key_Far, ↓c_ring_Topic]
  cases h1 : isT t <;> cases h2 : isN n <;> simp
theorem w_ring_Nearer (t : Int) (a : Int) (b : Int) : S_ring_Nearer ρ (I t) (I a) (I b) (· = [bb (near t a b)]) := by
  unfold S_ring_Nearer near
  simp (disch := first | omega | assumption | (simp only [List.length_cons, List.length_nil]; omega)) only [↓OP_len, ↓OP_len0, ↓OP_idx, ↓OP_drop, ↓OP_take, ↓OP_mid, ↓OP_all, ↓OP_isl, ↓OP_isl0, ↓OP_app, ↓OP_app0, ↓OP_appN, ↓OP_app00, ↓OP_rowI, ↓OP_rowI2, ↓OP_rowL, ↓OP_rowLL, ↓OP_rowI4, ↓OP_rowI8, ↓OP_lss, ↓OP_leq, ↓OP_gtr, ↓OP_geq, ↓OP_eql, ↓OP_neq, ↓OP_not, ↓OP_beq, ↓OP_bne, ↓OP_add, ↓OP_sub, ↓OP_mn, ↓OP_mx, ↓OP_sel, ↓OP_cu, ↓OP_remU, ↓OP_ci, ↓ITE_true, ↓ITE_false, ↓ITE_bool, decide_eq_true_eq, decide_eq_false_iff_not, Bool.not_eq_eq_eq_not, Bool.not_true, Bool.not_false, Bool.false_eq_true, Bool.true_eq_false, false_implies, true_implies, true_and, and_true, implies_true, not_true_eq_false, not_false_eq_true, app1, app2, app3, app4, cell0, look_z, look_s, rowI, rowB, rowL, ↓c_ring_Gap]
  cases h1 : isT t <;> cases h2 : isN a <;> cases h3 : isN b <;> simp
theorem w_ref01_Gap (t : Int) (n : Int) (hp : isT t = true ∧ isN n = true) : S_ref01_Gap ρ (I t) (I n) (· = [I (gap t n)]) := by
  unfold S_ref01_Gap gap
  have := tt_bd t; have := nn_bd n
  obtain ⟨h1, h2⟩ := hp
  rw [c_ref01_Topic h1, c_ref01_Node h2, c_ref01_Behind (by omega)]
theorem w_ref01_Nearer (t : Int) (a : Int) (b : Int) : S_ref01_Nearer ρ (I t) (I a) (I b) (· = [bb (near t a b)]) := by
  unfold S_ref01_Nearer near
  simp (disch := first | omega | assumption | (simp only [List.length_cons, List.length_nil]; omega)) only [↓OP_len, ↓OP_len0, ↓OP_idx, ↓OP_drop, ↓OP_take, ↓OP_mid, ↓OP_all, ↓OP_isl, ↓OP_isl0, ↓OP_app, ↓OP_app0, ↓OP_appN, ↓OP_app00, ↓OP_rowI, ↓OP_rowI2, ↓OP_rowL, ↓OP_rowLL, ↓OP_rowI4, ↓OP_rowI8, ↓OP_lss, ↓OP_leq, ↓OP_gtr, ↓OP_geq, ↓OP_eql, ↓OP_neq, ↓OP_not, ↓OP_beq, ↓OP_bne, ↓OP_add, ↓OP_sub, ↓OP_mn, ↓OP_mx, ↓OP_sel, ↓OP_cu, ↓OP_remU, ↓OP_ci, ↓ITE_true, ↓ITE_false, ↓ITE_bool, decide_eq_true_eq, decide_eq_false_iff_not, Bool.not_eq_eq_eq_not, Bool.not_true, Bool.not_false, Bool.false_eq_true, Bool.true_eq_false, false_implies, true_implies, true_and, and_true, implies_true, not_true_eq_false, not_false_eq_true, app1, app2, app3, app4, cell0, look_z, look_s, rowI, rowB, rowL, ↓c_ref01_IsTopic, ↓c_ref01_IsNode, ↓c_ref01_Gap]
  cases h1 : isT t <;> cases h2 : isN a <;> cases h3 : isN b <;> simp
  rw [c_ref01_Gap ⟨h1, h2⟩, c_ref01_Gap ⟨h1, h3⟩]
  simp (disch := first | omega | assumption | (simp only [List.length_cons, List.length_nil]; omega)) only [↓OP_len, ↓OP_len0, ↓OP_idx, ↓OP_drop, ↓OP_take, ↓OP_mid, ↓OP_all, ↓OP_isl, ↓OP_isl0, ↓OP_app, ↓OP_app0, ↓OP_appN, ↓OP_app00, ↓OP_rowI, ↓OP_rowI2, ↓OP_rowL, ↓OP_rowLL, ↓OP_rowI4, ↓OP_rowI8, ↓OP_lss, ↓OP_leq, ↓OP_gtr, ↓OP_geq, ↓OP_eql, ↓OP_neq, ↓OP_not, ↓OP_beq, ↓OP_bne, ↓OP_add, ↓OP_sub, ↓OP_mn, ↓OP_mx, ↓OP_sel, ↓OP_cu, ↓OP_remU, ↓OP_ci, ↓ITE_true, ↓ITE_false, ↓ITE_bool, decide_eq_true_eq, decide_eq_false_iff_not, Bool.not_eq_eq_eq_not, Bool.not_true, Bool.not_false, Bool.false_eq_true, Bool.true_eq_false, false_implies, true_implies, true_and, and_true, implies_true, not_true_eq_false, not_false_eq_true, app1, app2, app3, app4, cell0, look_z, look_s, rowI, rowB, rowL, ↓c_ref01_IsTopic, ↓c_ref01_IsNode, ↓c_ref01_Gap]
end Go.Xt
