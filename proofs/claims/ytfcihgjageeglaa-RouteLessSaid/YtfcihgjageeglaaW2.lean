/- Steps towards the statements of this seat; the conditions stand in each theorem. -/
import Derived.Test.YtfcihgjageeglaaW1
set_option linter.unusedSimpArgs false
set_option linter.unusedVariables false
set_option maxRecDepth 100000
namespace Go.Xt
theorem w_ring_All (l : List Int) (hg : Goods [L l]) : S_ring_All ρ (L l) (· = [bb (l.all isN)]) := by
  unfold S_ring_All
  simp only [Goods, good_L] at hg
  simp (disch := first | omega | assumption | (simp only [List.length_cons, List.length_nil]; omega)) only [↓OP_len, ↓OP_len0, ↓OP_idx, ↓OP_drop, ↓OP_take, ↓OP_mid, ↓OP_all, ↓OP_isl, ↓OP_isl0, ↓OP_app, ↓OP_app0, ↓OP_appN, ↓OP_app00, ↓OP_rowI, ↓OP_rowI2, ↓OP_rowL, ↓OP_rowLL, ↓OP_rowI4, ↓OP_rowI8, ↓OP_lss, ↓OP_leq, ↓OP_gtr, ↓OP_geq, ↓OP_eql, ↓OP_neq, ↓OP_not, ↓OP_beq, ↓OP_bne, ↓OP_add, ↓OP_sub, ↓OP_mn, ↓OP_mx, ↓OP_sel, ↓OP_cu, ↓OP_remU, ↓OP_ci, ↓ITE_true, ↓ITE_false, ↓ITE_bool, decide_eq_true_eq, decide_eq_false_iff_not, Bool.not_eq_eq_eq_not, Bool.not_true, Bool.not_false, Bool.false_eq_true, Bool.true_eq_false, false_implies, true_implies, true_and, and_true, implies_true, not_true_eq_false, not_false_eq_true, app1, app2, app3, app4, cell0, look_z, look_s, rowI, rowB, rowL, ↓c_ring_Is]
  refine LOOP.rule (α := Nat) (fun i => [I i]) (fun i => i ≤ l.length ∧ (l.drop i).all isN = l.all isN) (fun i => l.length - i) 0 rfl ⟨by omega, rfl⟩ (fun _ => rfl) ?_
  rintro i ⟨h1, h2⟩
  simp only [app]
  simp (disch := first | omega | assumption | (simp only [List.length_cons, List.length_nil]; omega)) only [↓OP_len, ↓OP_len0, ↓OP_idx, ↓OP_drop, ↓OP_take, ↓OP_mid, ↓OP_all, ↓OP_isl, ↓OP_isl0, ↓OP_app, ↓OP_app0, ↓OP_appN, ↓OP_app00, ↓OP_rowI, ↓OP_rowI2, ↓OP_rowL, ↓OP_rowLL, ↓OP_rowI4, ↓OP_rowI8, ↓OP_lss, ↓OP_leq, ↓OP_gtr, ↓OP_geq, ↓OP_eql, ↓OP_neq, ↓OP_not, ↓OP_beq, ↓OP_bne, ↓OP_add, ↓OP_sub, ↓OP_mn, ↓OP_mx, ↓OP_sel, ↓OP_cu, ↓OP_remU, ↓OP_ci, ↓ITE_true, ↓ITE_false, ↓ITE_bool, decide_eq_true_eq, decide_eq_false_iff_not, Bool.not_eq_eq_eq_not, Bool.not_true, Bool.not_false, Bool.false_eq_true, Bool.true_eq_false, false_implies, true_implies, true_and, and_true, implies_true, not_true_eq_false, not_false_eq_true, app1, app2, app3, app4, cell0, look_z, look_s, rowI, rowB, rowL, ↓c_ring_Is]
  refine ⟨fun h => ?_, fun h => ?_⟩
  · obtain ⟨x, hx⟩ := get_ex h
    rw [drop_eq hx, List.all_cons] at h2
    simp (disch := first | omega | assumption | (simp only [List.length_cons, List.length_nil]; omega)) only [↓OP_len, ↓OP_len0, ↓OP_idx, ↓OP_drop, ↓OP_take, ↓OP_mid, ↓OP_all, ↓OP_isl, ↓OP_isl0, ↓OP_app, ↓OP_app0, ↓OP_appN, ↓OP_app00, ↓OP_rowI, ↓OP_rowI2, ↓OP_rowL, ↓OP_rowLL, ↓OP_rowI4, ↓OP_rowI8, ↓OP_lss, ↓OP_leq, ↓OP_gtr, ↓OP_geq, ↓OP_eql, ↓OP_neq, ↓OP_not, ↓OP_beq, ↓OP_bne, ↓OP_add, ↓OP_sub, ↓OP_mn, ↓OP_mx, ↓OP_sel, ↓OP_cu, ↓OP_remU, ↓OP_ci, ↓ITE_true, ↓ITE_false, ↓ITE_bool, decide_eq_true_eq, decide_eq_false_iff_not, Bool.not_eq_eq_eq_not, Bool.not_true, Bool.not_false, Bool.false_eq_true, Bool.true_eq_false, false_implies, true_implies, true_and, and_true, implies_true, not_true_eq_false, not_false_eq_true, app1, app2, app3, app4, cell0, look_z, look_s, rowI, rowB, rowL, ↓c_ring_Is, cell_L hx]
    refine ⟨fun h3 => ?_, fun h3 => ⟨i + 1, rfl, ⟨by omega, by simpa [h3] using h2⟩, by omega⟩⟩
    rw [h3] at h2; simp [← h2]
  · rw [drop_nil h] at h2
    simp [← h2]
theorem w_path_rises (t : Int) (self : Int) (l : List Int) (hg : Goods [I t, I self, L l]) : S_path_rises ρ (I t) (I self) (L l) (· = [bb (rises t self l)]) := by
  unfold S_path_rises
  simp only [Goods, good_L] at hg
  simp (disch := first | omega | assumption | (simp only [List.length_cons, List.length_nil]; omega)) only [↓OP_len, ↓OP_len0, ↓OP_idx, ↓OP_drop, ↓OP_take, ↓OP_mid, ↓OP_all, ↓OP_isl, ↓OP_isl0, ↓OP_app, ↓OP_app0, ↓OP_appN, ↓OP_app00, ↓OP_rowI, ↓OP_rowI2, ↓OP_rowL, ↓OP_rowLL, ↓OP_rowI4, ↓OP_rowI8, ↓OP_lss, ↓OP_leq, ↓OP_gtr, ↓OP_geq, ↓OP_eql, ↓OP_neq, ↓OP_not, ↓OP_beq, ↓OP_bne, ↓OP_add, ↓OP_sub, ↓OP_mn, ↓OP_mx, ↓OP_sel, ↓OP_cu, ↓OP_remU, ↓OP_ci, ↓ITE_true, ↓ITE_false, ↓ITE_bool, decide_eq_true_eq, decide_eq_false_iff_not, Bool.not_eq_eq_eq_not, Bool.not_true, Bool.not_false, Bool.false_eq_true, Bool.true_eq_false, false_implies, true_implies, true_and, and_true, implies_true, not_true_eq_false, not_false_eq_true, app1, app2, app3, app4, cell0, look_z, look_s, rowI, rowB, rowL, ↓c_ring_Nearer]
  refine LOOP.rule (α := Nat × Int) (fun a => [I a.2, I a.1]) (fun a => a.1 ≤ l.length ∧ rises t a.2 (l.drop a.1) = rises t self l) (fun a => l.length - a.1) (0, self) rfl ⟨by simp, rfl⟩ (fun _ => rfl) ?_
  rintro ⟨i, s⟩ ⟨h1, h2⟩
  simp only [app] at *
  simp (disch := first | omega | assumption | (simp only [List.length_cons, List.length_nil]; omega)) only [↓OP_len, ↓OP_len0, ↓OP_idx, ↓OP_drop, ↓OP_take, ↓OP_mid, ↓OP_all, ↓OP_isl, ↓OP_isl0, ↓OP_app, ↓OP_app0, ↓OP_appN, ↓OP_app00, ↓OP_rowI, ↓OP_rowI2, ↓OP_rowL, ↓OP_rowLL, ↓OP_rowI4, ↓OP_rowI8, ↓OP_lss, ↓OP_leq, ↓OP_gtr, ↓OP_geq, ↓OP_eql, ↓OP_neq, ↓OP_not, ↓OP_beq, ↓OP_bne, ↓OP_add, ↓OP_sub, ↓OP_mn, ↓OP_mx, ↓OP_sel, ↓OP_cu, ↓OP_remU, ↓OP_ci, ↓ITE_true, ↓ITE_false, ↓ITE_bool, decide_eq_true_eq, decide_eq_false_iff_not, Bool.not_eq_eq_eq_not, Bool.not_true, Bool.not_false, Bool.false_eq_true, Bool.true_eq_false, false_implies, true_implies, true_and, and_true, implies_true, not_true_eq_false, not_false_eq_true, app1, app2, app3, app4, cell0, look_z, look_s, rowI, rowB, rowL, ↓c_ring_Nearer]
  refine ⟨fun h => ?_, fun h => ?_⟩
  · obtain ⟨x, hx⟩ := get_ex h
    rw [drop_eq hx, rises] at h2
    simp (disch := first | omega | assumption | (simp only [List.length_cons, List.length_nil]; omega)) only [↓OP_len, ↓OP_len0, ↓OP_idx, ↓OP_drop, ↓OP_take, ↓OP_mid, ↓OP_all, ↓OP_isl, ↓OP_isl0, ↓OP_app, ↓OP_app0, ↓OP_appN, ↓OP_app00, ↓OP_rowI, ↓OP_rowI2, ↓OP_rowL, ↓OP_rowLL, ↓OP_rowI4, ↓OP_rowI8, ↓OP_lss, ↓OP_leq, ↓OP_gtr, ↓OP_geq, ↓OP_eql, ↓OP_neq, ↓OP_not, ↓OP_beq, ↓OP_bne, ↓OP_add, ↓OP_sub, ↓OP_mn, ↓OP_mx, ↓OP_sel, ↓OP_cu, ↓OP_remU, ↓OP_ci, ↓ITE_true, ↓ITE_false, ↓ITE_bool, decide_eq_true_eq, decide_eq_false_iff_not, Bool.not_eq_eq_eq_not, Bool.not_true, Bool.not_false, Bool.false_eq_true, Bool.true_eq_false, false_implies, true_implies, true_and, and_true, implies_true, not_true_eq_false, not_false_eq_true, app1, app2, app3, app4, cell0, look_z, look_s, rowI, rowB, rowL, ↓c_ring_Nearer, cell_L hx]
    refine ⟨fun h3 => ?_, fun h3 => ⟨(i + 1, x), rfl, ⟨by simp; omega, by simpa [h3] using h2⟩, by simp; omega⟩⟩
    rw [h3] at h2; simp [← h2]
  · rw [drop_nil h] at h2
    simp [← h2, rises]
theorem w_path_Check (t : Int) (self : Int) (l : List Int) (depth : Int) (hg : Goods [I t, I self, L l, I depth]) : S_path_Check ρ (I t) (I self) (L l) (I depth) (· = [I (chk t self l depth)]) := by
  unfold S_path_Check chk
  rw [c_ring_Gap]
  refine SUB.v1 (bb (!(isT t && isN self && decide (1 ≤ depth) && decide (depth ≤ 8) && l.all isN))) ?_ ?_
  · simp (disch := first | omega | assumption | (simp only [List.length_cons, List.length_nil]; omega)) only [↓OP_len, ↓OP_len0, ↓OP_idx, ↓OP_drop, ↓OP_take, ↓OP_mid, ↓OP_all, ↓OP_isl, ↓OP_isl0, ↓OP_app, ↓OP_app0, ↓OP_appN, ↓OP_app00, ↓OP_rowI, ↓OP_rowI2, ↓OP_rowL, ↓OP_rowLL, ↓OP_rowI4, ↓OP_rowI8, ↓OP_lss, ↓OP_leq, ↓OP_gtr, ↓OP_geq, ↓OP_eql, ↓OP_neq, ↓OP_not, ↓OP_beq, ↓OP_bne, ↓OP_add, ↓OP_sub, ↓OP_mn, ↓OP_mx, ↓OP_sel, ↓OP_cu, ↓OP_remU, ↓OP_ci, ↓ITE_true, ↓ITE_false, ↓ITE_bool, decide_eq_true_eq, decide_eq_false_iff_not, Bool.not_eq_eq_eq_not, Bool.not_true, Bool.not_false, Bool.false_eq_true, Bool.true_eq_false, false_implies, true_implies, true_and, and_true, implies_true, not_true_eq_false, not_false_eq_true, app1, app2, app3, app4, cell0, look_z, look_s, rowI, rowB, rowL, ↓c_ring_All, ↓c_ring_Gap, ↓c_path_rises]
    by_cases h3 : 1 ≤ depth <;> by_cases h4 : depth ≤ 8 <;> cases h1 : isT t <;> cases h2 : isN self <;> simp [h3, h4] <;> omega
  simp (disch := first | omega | assumption | (simp only [List.length_cons, List.length_nil]; omega)) only [↓OP_len, ↓OP_len0, ↓OP_idx, ↓OP_drop, ↓OP_take, ↓OP_mid, ↓OP_all, ↓OP_isl, ↓OP_isl0, ↓OP_app, ↓OP_app0, ↓OP_appN, ↓OP_app00, ↓OP_rowI, ↓OP_rowI2, ↓OP_rowL, ↓OP_rowLL, ↓OP_rowI4, ↓OP_rowI8, ↓OP_lss, ↓OP_leq, ↓OP_gtr, ↓OP_geq, ↓OP_eql, ↓OP_neq, ↓OP_not, ↓OP_beq, ↓OP_bne, ↓OP_add, ↓OP_sub, ↓OP_mn, ↓OP_mx, ↓OP_sel, ↓OP_cu, ↓OP_remU, ↓OP_ci, ↓ITE_true, ↓ITE_false, ↓ITE_bool, decide_eq_true_eq, decide_eq_false_iff_not, Bool.not_eq_eq_eq_not, Bool.not_true, Bool.not_false, Bool.false_eq_true, Bool.true_eq_false, false_implies, true_implies, true_and, and_true, implies_true, not_true_eq_false, not_false_eq_true, app1, app2, app3, app4, cell0, look_z, look_s, rowI, rowB, rowL, ↓c_ring_All, ↓c_ring_Gap, ↓c_path_rises]
  by_cases h : (isT t && isN self && decide (1 ≤ depth) && decide (depth ≤ 8) && l.all isN) = true
  · rw [if_pos h]; simp only [h]
    cases h5 : rises t self l <;> simp <;> omega
  · rw [if_neg h]; simp [h]
theorem chk_cases (t n : Int) (xs : List Int) (c : Int) : chk t n xs c = 0 ∨ chk t n xs c = 1 ∨ chk t n xs c = 12 := by
  unfold chk; split <;> (try split) <;> (try split) <;> simp
theorem w_path_Add (t : Int) (self : Int) (l : List Int) (hg : Goods [I t, I self, L l]) : S_path_Add ρ (I t) (I self) (L l) (· = [L (addP t self l).1, I (addP t self l).2]) := by
  unfold S_path_Add addP
  simp only [Goods, good_L] at hg
  rw [c_path_Check]
  refine SUB.v1 (bb (decide (chk t self l 8 = 0) && decide (l.length ≥ 8))) ?_ ?_
  · simp (disch := first | omega | assumption | (simp only [List.length_cons, List.length_nil]; omega)) only [↓OP_len, ↓OP_len0, ↓OP_idx, ↓OP_drop, ↓OP_take, ↓OP_mid, ↓OP_all, ↓OP_isl, ↓OP_isl0, ↓OP_app, ↓OP_app0, ↓OP_appN, ↓OP_app00, ↓OP_rowI, ↓OP_rowI2, ↓OP_rowL, ↓OP_rowLL, ↓OP_rowI4, ↓OP_rowI8, ↓OP_lss, ↓OP_leq, ↓OP_gtr, ↓OP_geq, ↓OP_eql, ↓OP_neq, ↓OP_not, ↓OP_beq, ↓OP_bne, ↓OP_add, ↓OP_sub, ↓OP_mn, ↓OP_mx, ↓OP_sel, ↓OP_cu, ↓OP_remU, ↓OP_ci, ↓ITE_true, ↓ITE_false, ↓ITE_bool, decide_eq_true_eq, decide_eq_false_iff_not, Bool.not_eq_eq_eq_not, Bool.not_true, Bool.not_false, Bool.false_eq_true, Bool.true_eq_false, false_implies, true_implies, true_and, and_true, implies_true, not_true_eq_false, not_false_eq_true, app1, app2, app3, app4, cell0, look_z, look_s, rowI, rowB, rowL, ↓c_path_Check]
    by_cases h : chk t self l 8 = 0 <;> simp [h] <;> omega
  simp (disch := first | omega | assumption | (simp only [List.length_cons, List.length_nil]; omega)) only [↓OP_len, ↓OP_len0, ↓OP_idx, ↓OP_drop, ↓OP_take, ↓OP_mid, ↓OP_all, ↓OP_isl, ↓OP_isl0, ↓OP_app, ↓OP_app0, ↓OP_appN, ↓OP_app00, ↓OP_rowI, ↓OP_rowI2, ↓OP_rowL, ↓OP_rowLL, ↓OP_rowI4, ↓OP_rowI8, ↓OP_lss, ↓OP_leq, ↓OP_gtr, ↓OP_geq, ↓OP_eql, ↓OP_neq, ↓OP_not, ↓OP_beq, ↓OP_bne, ↓OP_add, ↓OP_sub, ↓OP_mn, ↓OP_mx, ↓OP_sel, ↓OP_cu, ↓OP_remU, ↓OP_ci, ↓ITE_true, ↓ITE_false, ↓ITE_bool, decide_eq_true_eq, decide_eq_false_iff_not, Bool.not_eq_eq_eq_not, Bool.not_true, Bool.not_false, Bool.false_eq_true, Bool.true_eq_false, false_implies, true_implies, true_and, and_true, implies_true, not_true_eq_false, not_false_eq_true, app1, app2, app3, app4, cell0, look_z, look_s, rowI, rowB, rowL, ↓c_path_Check]
  by_cases h : chk t self l 8 = 0 <;> by_cases h2 : 8 ≤ l.length <;> simp only [h, h2] <;> simp <;> (try rfl)
  · have : ¬ (8 : Int) ≤ l.length := by omega
    simp (disch := first | omega | assumption | (simp only [List.length_cons, List.length_nil]; omega)) only [↓OP_len, ↓OP_len0, ↓OP_idx, ↓OP_drop, ↓OP_take, ↓OP_mid, ↓OP_all, ↓OP_isl, ↓OP_isl0, ↓OP_app, ↓OP_app0, ↓OP_appN, ↓OP_app00, ↓OP_rowI, ↓OP_rowI2, ↓OP_rowL, ↓OP_rowLL, ↓OP_rowI4, ↓OP_rowI8, ↓OP_lss, ↓OP_leq, ↓OP_gtr, ↓OP_geq, ↓OP_eql, ↓OP_neq, ↓OP_not, ↓OP_beq, ↓OP_bne, ↓OP_add, ↓OP_sub, ↓OP_mn, ↓OP_mx, ↓OP_sel, ↓OP_cu, ↓OP_remU, ↓OP_ci, ↓ITE_true, ↓ITE_false, ↓ITE_bool, decide_eq_true_eq, decide_eq_false_iff_not, Bool.not_eq_eq_eq_not, Bool.not_true, Bool.not_false, Bool.false_eq_true, Bool.true_eq_false, false_implies, true_implies, true_and, and_true, implies_true, not_true_eq_false, not_false_eq_true, app1, app2, app3, app4, cell0, look_z, look_s, rowI, rowB, rowL, ↓c_path_Check]
    rfl
  all_goals (simp [h]; try rfl)
theorem w_path_parent (paths : List (List Int)) (n : Int) (hp : 0 ≤ n) : S_path_parent ρ (L paths) (I n) (· = [I (par paths n)]) := by
  unfold S_path_parent par
  obtain ⟨m, rfl⟩ := Int.eq_ofNat_of_zero_le hp
  simp (disch := first | omega | assumption | (simp only [List.length_cons, List.length_nil]; omega)) only [↓OP_len, ↓OP_len0, ↓OP_idx, ↓OP_drop, ↓OP_take, ↓OP_mid, ↓OP_all, ↓OP_isl, ↓OP_isl0, ↓OP_app, ↓OP_app0, ↓OP_appN, ↓OP_app00, ↓OP_rowI, ↓OP_rowI2, ↓OP_rowL, ↓OP_rowLL, ↓OP_rowI4, ↓OP_rowI8, ↓OP_lss, ↓OP_leq, ↓OP_gtr, ↓OP_geq, ↓OP_eql, ↓OP_neq, ↓OP_not, ↓OP_beq, ↓OP_bne, ↓OP_add, ↓OP_sub, ↓OP_mn, ↓OP_mx, ↓OP_sel, ↓OP_cu, ↓OP_remU, ↓OP_ci, ↓ITE_true, ↓ITE_false, ↓ITE_bool, decide_eq_true_eq, decide_eq_false_iff_not, Bool.not_eq_eq_eq_not, Bool.not_true, Bool.not_false, Bool.false_eq_true, Bool.true_eq_false, false_implies, true_implies, true_and, and_true, implies_true, not_true_eq_false, not_false_eq_true, app1, app2, app3, app4, cell0, look_z, look_s, rowI, rowB, rowL]
  refine ⟨fun h => ?_, fun h => ?_⟩
  · have : paths[m]? = none := by simp; omega
    simp [this]
  · obtain ⟨x, hx⟩ := get_ex (xs := paths) (i := m) (by omega)
    simp (disch := first | omega | assumption | (simp only [List.length_cons, List.length_nil]; omega)) only [↓OP_len, ↓OP_len0, ↓OP_idx, ↓OP_drop, ↓OP_take, ↓OP_mid, ↓OP_all, ↓OP_isl, ↓OP_isl0, ↓OP_app, ↓OP_app0, ↓OP_appN, ↓OP_app00, ↓OP_rowI, ↓OP_rowI2, ↓OP_rowL, ↓OP_rowLL, ↓OP_rowI4, ↓OP_rowI8, ↓OP_lss, ↓OP_leq, ↓OP_gtr, ↓OP_geq, ↓OP_eql, ↓OP_neq, ↓OP_not, ↓OP_beq, ↓OP_bne, ↓OP_add, ↓OP_sub, ↓OP_mn, ↓OP_mx, ↓OP_sel, ↓OP_cu, ↓OP_remU, ↓OP_ci, ↓ITE_true, ↓ITE_false, ↓ITE_bool, decide_eq_true_eq, decide_eq_false_iff_not, Bool.not_eq_eq_eq_not, Bool.not_true, Bool.not_false, Bool.false_eq_true, Bool.true_eq_false, false_implies, true_implies, true_and, and_true, implies_true, not_true_eq_false, not_false_eq_true, app1, app2, app3, app4, cell0, look_z, look_s, rowI, rowB, rowL, cell_L hx]
    simp only [Int.toNat_natCast, hx]
    cases x with
    | nil => simp
    | cons a r =>
      refine ⟨fun h => absurd h (by simp; omega), fun h => ?_⟩
      simp (disch := first | omega | assumption | (simp only [List.length_cons, List.length_nil]; omega)) only [↓OP_len, ↓OP_len0, ↓OP_idx, ↓OP_drop, ↓OP_take, ↓OP_mid, ↓OP_all, ↓OP_isl, ↓OP_isl0, ↓OP_app, ↓OP_app0, ↓OP_appN, ↓OP_app00, ↓OP_rowI, ↓OP_rowI2, ↓OP_rowL, ↓OP_rowLL, ↓OP_rowI4, ↓OP_rowI8, ↓OP_lss, ↓OP_leq, ↓OP_gtr, ↓OP_geq, ↓OP_eql, ↓OP_neq, ↓OP_not, ↓OP_beq, ↓OP_bne, ↓OP_add, ↓OP_sub, ↓OP_mn, ↓OP_mx, ↓OP_sel, ↓OP_cu, ↓OP_remU, ↓OP_ci, ↓ITE_true, ↓ITE_false, ↓ITE_bool, decide_eq_true_eq, decide_eq_false_iff_not, Bool.not_eq_eq_eq_not, Bool.not_true, Bool.not_false, Bool.false_eq_true, Bool.true_eq_false, false_implies, true_implies, true_and, and_true, implies_true, not_true_eq_false, not_false_eq_true, app1, app2, app3, app4, cell0, look_z, look_s, rowI, rowB, rowL]
theorem w_bkeep_TwinInts (l : List Int) (hp : l.length ≤ 1000000) : S_bkeep_TwinInts ρ (L l) (· = [L l]) := by
  unfold S_bkeep_TwinInts
  simp (disch := first | omega | assumption | (simp only [List.length_cons, List.length_nil]; omega)) only [↓OP_len, ↓OP_len0, ↓OP_idx, ↓OP_drop, ↓OP_take, ↓OP_mid, ↓OP_all, ↓OP_isl, ↓OP_isl0, ↓OP_app, ↓OP_app0, ↓OP_appN, ↓OP_app00, ↓OP_rowI, ↓OP_rowI2, ↓OP_rowL, ↓OP_rowLL, ↓OP_rowI4, ↓OP_rowI8, ↓OP_lss, ↓OP_leq, ↓OP_gtr, ↓OP_geq, ↓OP_eql, ↓OP_neq, ↓OP_not, ↓OP_beq, ↓OP_bne, ↓OP_add, ↓OP_sub, ↓OP_mn, ↓OP_mx, ↓OP_sel, ↓OP_cu, ↓OP_remU, ↓OP_ci, ↓ITE_true, ↓ITE_false, ↓ITE_bool, decide_eq_true_eq, decide_eq_false_iff_not, Bool.not_eq_eq_eq_not, Bool.not_true, Bool.not_false, Bool.false_eq_true, Bool.true_eq_false, false_implies, true_implies, true_and, and_true, implies_true, not_true_eq_false, not_false_eq_true, app1, app2, app3, app4, cell0, look_z, look_s, rowI, rowB, rowL]
theorem w_bkeep_Ints (a : List Int) (b : List Int) (hg : Goods [L a, L b]) : S_bkeep_Ints ρ (L a) (L b) (· = [bb (decide (a = b))]) := by
  unfold S_bkeep_Ints
  simp only [Goods, good_L] at hg
  simp (disch := first | omega | assumption | (simp only [List.length_cons, List.length_nil]; omega)) only [↓OP_len, ↓OP_len0, ↓OP_idx, ↓OP_drop, ↓OP_take, ↓OP_mid, ↓OP_all, ↓OP_isl, ↓OP_isl0, ↓OP_app, ↓OP_app0, ↓OP_appN, ↓OP_app00, ↓OP_rowI, ↓OP_rowI2, ↓OP_rowL, ↓OP_rowLL, ↓OP_rowI4, ↓OP_rowI8, ↓OP_lss, ↓OP_leq, ↓OP_gtr, ↓OP_geq, ↓OP_eql, ↓OP_neq, ↓OP_not, ↓OP_beq, ↓OP_bne, ↓OP_add, ↓OP_sub, ↓OP_mn, ↓OP_mx, ↓OP_sel, ↓OP_cu, ↓OP_remU, ↓OP_ci, ↓ITE_true, ↓ITE_false, ↓ITE_bool, decide_eq_true_eq, decide_eq_false_iff_not, Bool.not_eq_eq_eq_not, Bool.not_true, Bool.not_false, Bool.false_eq_true, Bool.true_eq_false, false_implies, true_implies, true_and, and_true, implies_true, not_true_eq_false, not_false_eq_true, app1, app2, app3, app4, cell0, look_z, look_s, rowI, rowB, rowL]
  refine ⟨fun h => ?_, fun h => ?_⟩
  · have : a ≠ b := by rintro rfl; simp at h
    simp [this]
  have hl : a.length = b.length := by omega
  refine LOOP.rule (α := Nat) (fun i => [I i]) (fun i => i ≤ a.length ∧ ((a = b) = (a.drop i = b.drop i))) (fun i => a.length - i) 0 rfl ⟨by omega, by simp⟩ (fun _ => rfl) ?_
  rintro i ⟨h1, h2⟩
  simp only [app]
  simp (disch := first | omega | assumption | (simp only [List.length_cons, List.length_nil]; omega)) only [↓OP_len, ↓OP_len0, ↓OP_idx, ↓OP_drop, ↓OP_take, ↓OP_mid, ↓OP_all, ↓OP_isl, ↓OP_isl0, ↓OP_app, ↓OP_app0, ↓OP_appN, ↓OP_app00, ↓OP_rowI, ↓OP_rowI2, ↓OP_rowL, ↓OP_rowLL, ↓OP_rowI4, ↓OP_rowI8, ↓OP_lss, ↓OP_leq, ↓OP_gtr, ↓OP_geq, ↓OP_eql, ↓OP_neq, ↓OP_not, ↓OP_beq, ↓OP_bne, ↓OP_add, ↓OP_sub, ↓OP_mn, ↓OP_mx, ↓OP_sel, ↓OP_cu, ↓OP_remU, ↓OP_ci, ↓ITE_true, ↓ITE_false, ↓ITE_bool, decide_eq_true_eq, decide_eq_false_iff_not, Bool.not_eq_eq_eq_not, Bool.not_true, Bool.not_false, Bool.false_eq_true, Bool.true_eq_false, false_implies, true_implies, true_and, and_true, implies_true, not_true_eq_false, not_false_eq_true, app1, app2, app3, app4, cell0, look_z, look_s, rowI, rowB, rowL]
  refine ⟨fun h => ?_, fun h => ?_⟩
  · obtain ⟨x, hx⟩ := get_ex h
    obtain ⟨y, hy⟩ := get_ex (xs := b) (i := i) (by omega)
    simp (disch := first | omega | assumption | (simp only [List.length_cons, List.length_nil]; omega)) only [↓OP_len, ↓OP_len0, ↓OP_idx, ↓OP_drop, ↓OP_take, ↓OP_mid, ↓OP_all, ↓OP_isl, ↓OP_isl0, ↓OP_app, ↓OP_app0, ↓OP_appN, ↓OP_app00, ↓OP_rowI, ↓OP_rowI2, ↓OP_rowL, ↓OP_rowLL, ↓OP_rowI4, ↓OP_rowI8, ↓OP_lss, ↓OP_leq, ↓OP_gtr, ↓OP_geq, ↓OP_eql, ↓OP_neq, ↓OP_not, ↓OP_beq, ↓OP_bne, ↓OP_add, ↓OP_sub, ↓OP_mn, ↓OP_mx, ↓OP_sel, ↓OP_cu, ↓OP_remU, ↓OP_ci, ↓ITE_true, ↓ITE_false, ↓ITE_bool, decide_eq_true_eq, decide_eq_false_iff_not, Bool.not_eq_eq_eq_not, Bool.not_true, Bool.not_false, Bool.false_eq_true, Bool.true_eq_false, false_implies, true_implies, true_and, and_true, implies_true, not_true_eq_false, not_false_eq_true, app1, app2, app3, app4, cell0, look_z, look_s, rowI, rowB, rowL, cell_L hx, cell_L hy]
    rw [drop_eq hx, drop_eq hy, List.cons.injEq] at h2
    refine ⟨fun h3 => ?_, fun h3 => ⟨i + 1, rfl, ⟨by omega, ?_⟩, by omega⟩⟩
    · simp [h2, h3]
    · simpa [h3] using h2
  · rw [drop_nil h, drop_nil (by omega)] at h2
    simp [h2]
theorem w_ref10_Path (t : Int) (self : Int) (l : List Int) (depth : Int) (hp : isT t = true ∧ isN self = true) (hg : Goods [I t, I self, L l, I depth]) : S_ref10_Path ρ (I t) (I self) (L l) (I depth) (· = [I (chkR t self l depth)]) := by
  unfold S_ref10_Path chkR
  simp only [Goods, good_L] at hg
  refine LOOP.rule (α := Nat) (fun i => [I i]) (fun i => i ≤ l.length ∧ (l.drop i).all isN = l.all isN) (fun i => l.length - i) 0 rfl ⟨by omega, by simp⟩ (fun _ => rfl) ?_
  rintro i ⟨h1, h2⟩
  simp only [app]
  simp (disch := first | omega | assumption | (simp only [List.length_cons, List.length_nil]; omega)) only [↓OP_len, ↓OP_len0, ↓OP_idx, ↓OP_drop, ↓OP_take, ↓OP_mid, ↓OP_all, ↓OP_isl, ↓OP_isl0, ↓OP_app, ↓OP_app0, ↓OP_appN, ↓OP_app00, ↓OP_rowI, ↓OP_rowI2, ↓OP_rowL, ↓OP_rowLL, ↓OP_rowI4, ↓OP_rowI8, ↓OP_lss, ↓OP_leq, ↓OP_gtr, ↓OP_geq, ↓OP_eql, ↓OP_neq, ↓OP_not, ↓OP_beq, ↓OP_bne, ↓OP_add, ↓OP_sub, ↓OP_mn, ↓OP_mx, ↓OP_sel, ↓OP_cu, ↓OP_remU, ↓OP_ci, ↓ITE_true, ↓ITE_false, ↓ITE_bool, decide_eq_true_eq, decide_eq_false_iff_not, Bool.not_eq_eq_eq_not, Bool.not_true, Bool.not_false, Bool.false_eq_true, Bool.true_eq_false, false_implies, true_implies, true_and, and_true, implies_true, not_true_eq_false, not_false_eq_true, app1, app2, app3, app4, cell0, look_z, look_s, rowI, rowB, rowL, ↓c_ref01_IsNode, ↓c_ref01_Nearer]
  refine ⟨fun h => ?_, fun h => ?_⟩
  · obtain ⟨x, hx⟩ := get_ex h
    rw [drop_eq hx, List.all_cons] at h2
    simp (disch := first | omega | assumption | (simp only [List.length_cons, List.length_nil]; omega)) only [↓OP_len, ↓OP_len0, ↓OP_idx, ↓OP_drop, ↓OP_take, ↓OP_mid, ↓OP_all, ↓OP_isl, ↓OP_isl0, ↓OP_app, ↓OP_app0, ↓OP_appN, ↓OP_app00, ↓OP_rowI, ↓OP_rowI2, ↓OP_rowL, ↓OP_rowLL, ↓OP_rowI4, ↓OP_rowI8, ↓OP_lss, ↓OP_leq, ↓OP_gtr, ↓OP_geq, ↓OP_eql, ↓OP_neq, ↓OP_not, ↓OP_beq, ↓OP_bne, ↓OP_add, ↓OP_sub, ↓OP_mn, ↓OP_mx, ↓OP_sel, ↓OP_cu, ↓OP_remU, ↓OP_ci, ↓ITE_true, ↓ITE_false, ↓ITE_bool, decide_eq_true_eq, decide_eq_false_iff_not, Bool.not_eq_eq_eq_not, Bool.not_true, Bool.not_false, Bool.false_eq_true, Bool.true_eq_false, false_implies, true_implies, true_and, and_true, implies_true, not_true_eq_false, not_false_eq_true, app1, app2, app3, app4, cell0, look_z, look_s, rowI, rowB, rowL, ↓c_ref01_IsNode, ↓c_ref01_Nearer, cell_L hx]
    refine ⟨fun h3 => ?_, fun h3 => ⟨i + 1, rfl, ⟨by omega, by simpa [h3] using h2⟩, by omega⟩⟩
    rw [h3] at h2; simp [← h2]
  · rw [drop_nil h] at h2
    simp only [← h2, List.all_nil, if_true]
    refine ⟨fun h3 => by simp [h3], fun h3 => ?_⟩
    rw [if_neg (by omega)]
    refine LOOP.rule (α := Nat × Int) (fun a => [I a.2, I a.1]) (fun a => a.1 ≤ l.length ∧ rises t a.2 (l.drop a.1) = rises t self l) (fun a => l.length - a.1) (0, self) rfl ⟨by simp, rfl⟩ (fun _ => rfl) ?_
    rintro ⟨i, s⟩ ⟨h1, h2⟩
    simp only [app] at *
    simp (disch := first | omega | assumption | (simp only [List.length_cons, List.length_nil]; omega)) only [↓OP_len, ↓OP_len0, ↓OP_idx, ↓OP_drop, ↓OP_take, ↓OP_mid, ↓OP_all, ↓OP_isl, ↓OP_isl0, ↓OP_app, ↓OP_app0, ↓OP_appN, ↓OP_app00, ↓OP_rowI, ↓OP_rowI2, ↓OP_rowL, ↓OP_rowLL, ↓OP_rowI4, ↓OP_rowI8, ↓OP_lss, ↓OP_leq, ↓OP_gtr, ↓OP_geq, ↓OP_eql, ↓OP_neq, ↓OP_not, ↓OP_beq, ↓OP_bne, ↓OP_add, ↓OP_sub, ↓OP_mn, ↓OP_mx, ↓OP_sel, ↓OP_cu, ↓OP_remU, ↓OP_ci, ↓ITE_true, ↓ITE_false, ↓ITE_bool, decide_eq_true_eq, decide_eq_false_iff_not, Bool.not_eq_eq_eq_not, Bool.not_true, Bool.not_false, Bool.false_eq_true, Bool.true_eq_false, false_implies, true_implies, true_and, and_true, implies_true, not_true_eq_false, not_false_eq_true, app1, app2, app3, app4, cell0, look_z, look_s, rowI, rowB, rowL, ↓c_ref01_IsNode, ↓c_ref01_Nearer]
    refine ⟨fun h => ?_, fun h => ?_⟩
    · obtain ⟨x, hx⟩ := get_ex h
      rw [drop_eq hx, rises] at h2
      simp (disch := first | omega | assumption | (simp only [List.length_cons, List.length_nil]; omega)) only [↓OP_len, ↓OP_len0, ↓OP_idx, ↓OP_drop, ↓OP_take, ↓OP_mid, ↓OP_all, ↓OP_isl, ↓OP_isl0, ↓OP_app, ↓OP_app0, ↓OP_appN, ↓OP_app00, ↓OP_rowI, ↓OP_rowI2, ↓OP_rowL, ↓OP_rowLL, ↓OP_rowI4, ↓OP_rowI8, ↓OP_lss, ↓OP_leq, ↓OP_gtr, ↓OP_geq, ↓OP_eql, ↓OP_neq, ↓OP_not, ↓OP_beq, ↓OP_bne, ↓OP_add, ↓OP_sub, ↓OP_mn, ↓OP_mx, ↓OP_sel, ↓OP_cu, ↓OP_remU, ↓OP_ci, ↓ITE_true, ↓ITE_false, ↓ITE_bool, decide_eq_true_eq, decide_eq_false_iff_not, Bool.not_eq_eq_eq_not, Bool.not_true, Bool.not_false, Bool.false_eq_true, Bool.true_eq_false, false_implies, true_implies, true_and, and_true, implies_true, not_true_eq_false, not_false_eq_true, app1, app2, app3, app4, cell0, look_z, look_s, rowI, rowB, rowL, ↓c_ref01_IsNode, ↓c_ref01_Nearer, cell_L hx]
      refine ⟨fun h3 => ?_, fun h3 => ⟨(i + 1, x), rfl, ⟨by simp; omega, by simpa [h3] using h2⟩, by simp; omega⟩⟩
      rw [h3] at h2; simp [← h2]
    · rw [drop_nil h] at h2
      simp [← h2, rises]
end Go.Xt
