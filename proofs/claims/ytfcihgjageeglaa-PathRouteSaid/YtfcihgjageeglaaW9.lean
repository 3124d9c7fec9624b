/- Steps towards the statements of this seat; the conditions stand in each theorem. -/
import Derived.Test.YtfcihgjageeglaaW8
set_option linter.unusedSimpArgs false
set_option linter.unusedVariables false
set_option maxRecDepth 100000
namespace Go.Xt
theorem asked_ok {t : Int} {l : List Int} {n : Int} (ht : isT t = true) (h : chkL l n = 0) : askedN t l n = 0 := by simp [askedN, h, ht]
theorem way_cons {t : Int} {l : List Int} {n x : Int} {r : List Int} (h : way t l n = x :: r) : 0 ≤ nextN t l n ∧ nextN t l n = x ∧ way t l x = r := by
  have h1 : 0 ≤ nextN t l n := by
    refine Int.not_lt.1 fun h2 => ?_
    rw [way_nil h2] at h; cases h
  rw [way_step h1] at h
  simp only [List.cons.injEq] at h
  exact ⟨h1, h.1, by rw [← h.1]; exact h.2⟩
theorem way_empty {t : Int} {l : List Int} {n : Int} (h : way t l n = []) : nextN t l n < 0 := by
  refine Int.not_le.1 fun h2 => ?_
  rw [way_step h2] at h; cases h
theorem w_law11_RouteSteps (t : Int) (bits : Int) (self : Int) (at_ : Int) : S_law11_RouteSteps ρ (I t) (I bits) (I self) (I at_) (· = [bb true]) := by
  unfold S_law11_RouteSteps
  have ht := u64_bd t
  simp (disch := first | omega | assumption | (simp only [List.length_cons, List.length_nil]; omega)) only [↓OP_len, ↓OP_len0, ↓OP_idx, ↓OP_drop, ↓OP_take, ↓OP_mid, ↓OP_all, ↓OP_isl, ↓OP_isl0, ↓OP_app, ↓OP_app0, ↓OP_appN, ↓OP_app00, ↓OP_rowI, ↓OP_rowI2, ↓OP_rowL, ↓OP_rowLL, ↓OP_rowI4, ↓OP_rowI8, ↓OP_lss, ↓OP_leq, ↓OP_gtr, ↓OP_geq, ↓OP_eql, ↓OP_neq, ↓OP_not, ↓OP_beq, ↓OP_bne, ↓OP_add, ↓OP_sub, ↓OP_mn, ↓OP_mx, ↓OP_sel, ↓OP_cu, ↓OP_remU, ↓OP_ci, ↓ITE_true, ↓ITE_false, ↓ITE_bool, decide_eq_true_eq, decide_eq_false_iff_not, Bool.not_eq_eq_eq_not, Bool.not_true, Bool.not_false, Bool.false_eq_true, Bool.true_eq_false, false_implies, true_implies, true_and, and_true, implies_true, not_true_eq_false, not_false_eq_true, app1, app2, app3, app4, cell0, look_z, look_s, rowI, rowB, rowL, ↓c_bkeep_Ints, ↓c_route_Next, ↓c_route_Way, ↓c_law11_wakes, ↓c_law11_Some]
  have hT : isT (u64 t % 4) = true := isT_iff.2 ⟨by omega, by omega⟩
  generalize u64 t % 4 = t' at hT ⊢
  have hs := someN_ok bits self
  generalize (someN bits self).1 = l at hs ⊢
  generalize (someN bits self).2 = n at hs ⊢
  have ha := asked_ok hT hs
  simp only [ha, if_true]
  have hc := chkL_iff.1 hs
  refine ⟨fun h => absurd trivial h, fun _ => ⟨fun h => ?_, fun h => ?_⟩⟩
  · have hw : way t' l n = [] := List.eq_nil_of_length_eq_zero (by omega)
    have := way_empty hw
    simp (disch := first | omega | assumption | (simp only [List.length_cons, List.length_nil]; omega)) only [↓OP_len, ↓OP_len0, ↓OP_idx, ↓OP_drop, ↓OP_take, ↓OP_mid, ↓OP_all, ↓OP_isl, ↓OP_isl0, ↓OP_app, ↓OP_app0, ↓OP_appN, ↓OP_app00, ↓OP_rowI, ↓OP_rowI2, ↓OP_rowL, ↓OP_rowLL, ↓OP_rowI4, ↓OP_rowI8, ↓OP_lss, ↓OP_leq, ↓OP_gtr, ↓OP_geq, ↓OP_eql, ↓OP_neq, ↓OP_not, ↓OP_beq, ↓OP_bne, ↓OP_add, ↓OP_sub, ↓OP_mn, ↓OP_mx, ↓OP_sel, ↓OP_cu, ↓OP_remU, ↓OP_ci, ↓ITE_true, ↓ITE_false, ↓ITE_bool, decide_eq_true_eq, decide_eq_false_iff_not, Bool.not_eq_eq_eq_not, Bool.not_true, Bool.not_false, Bool.false_eq_true, Bool.true_eq_false, false_implies, true_implies, true_and, and_true, implies_true, not_true_eq_false, not_false_eq_true, app1, app2, app3, app4, cell0, look_z, look_s, rowI, rowB, rowL, ↓c_bkeep_Ints, ↓c_route_Next, ↓c_route_Way, ↓c_law11_wakes, ↓c_law11_Some]
    intro h2
    simp at h2; omega
  · have hp : 0 < (way t' l n).length := by omega
    have h8 := way_len8 (t := t') (live := l) (n := n)
    have hm := mod_lt at_ hp
    rw [u64_len (by omega)]
    obtain ⟨x, hx⟩ := get_ex (xs := way t' l n) (i := (u64 at_ % (way t' l n).length).toNat) (by omega)
    have hd := way_drop n _ _ hx
    have hl : chkL l x = 0 := chkL_of hs (way_mem (by rintro rfl; simp at hc) n x (List.mem_of_getElem? hx)).1
    have ha2 := asked_ok hT hl
    have e : (u64 at_ % (way t' l n).length + 1).toNat = (u64 at_ % (way t' l n).length).toNat + 1 := by omega
    simp (disch := first | omega | assumption | (simp only [List.length_cons, List.length_nil]; omega)) only [↓OP_len, ↓OP_len0, ↓OP_idx, ↓OP_drop, ↓OP_take, ↓OP_mid, ↓OP_all, ↓OP_isl, ↓OP_isl0, ↓OP_app, ↓OP_app0, ↓OP_appN, ↓OP_app00, ↓OP_rowI, ↓OP_rowI2, ↓OP_rowL, ↓OP_rowLL, ↓OP_rowI4, ↓OP_rowI8, ↓OP_lss, ↓OP_leq, ↓OP_gtr, ↓OP_geq, ↓OP_eql, ↓OP_neq, ↓OP_not, ↓OP_beq, ↓OP_bne, ↓OP_add, ↓OP_sub, ↓OP_mn, ↓OP_mx, ↓OP_sel, ↓OP_cu, ↓OP_remU, ↓OP_ci, ↓ITE_true, ↓ITE_false, ↓ITE_bool, decide_eq_true_eq, decide_eq_false_iff_not, Bool.not_eq_eq_eq_not, Bool.not_true, Bool.not_false, Bool.false_eq_true, Bool.true_eq_false, false_implies, true_implies, true_and, and_true, implies_true, not_true_eq_false, not_false_eq_true, app1, app2, app3, app4, cell0, look_z, look_s, rowI, rowB, rowL, ↓c_bkeep_Ints, ↓c_route_Next, ↓c_route_Way, ↓c_law11_wakes, ↓c_law11_Some, cell_Lz hm.2.1 hx, ha2, e, hd]
    simp
theorem w_law11_RouteWay (t : Int) (bits : Int) (self : Int) : S_law11_RouteWay ρ (I t) (I bits) (I self) (· = [bb true]) := by
  unfold S_law11_RouteWay
  have ht := u64_bd t
  simp (disch := first | omega | assumption | (simp only [List.length_cons, List.length_nil]; omega)) only [↓OP_len, ↓OP_len0, ↓OP_idx, ↓OP_drop, ↓OP_take, ↓OP_mid, ↓OP_all, ↓OP_isl, ↓OP_isl0, ↓OP_app, ↓OP_app0, ↓OP_appN, ↓OP_app00, ↓OP_rowI, ↓OP_rowI2, ↓OP_rowL, ↓OP_rowLL, ↓OP_rowI4, ↓OP_rowI8, ↓OP_lss, ↓OP_leq, ↓OP_gtr, ↓OP_geq, ↓OP_eql, ↓OP_neq, ↓OP_not, ↓OP_beq, ↓OP_bne, ↓OP_add, ↓OP_sub, ↓OP_mn, ↓OP_mx, ↓OP_sel, ↓OP_cu, ↓OP_remU, ↓OP_ci, ↓ITE_true, ↓ITE_false, ↓ITE_bool, decide_eq_true_eq, decide_eq_false_iff_not, Bool.not_eq_eq_eq_not, Bool.not_true, Bool.not_false, Bool.false_eq_true, Bool.true_eq_false, false_implies, true_implies, true_and, and_true, implies_true, not_true_eq_false, not_false_eq_true, app1, app2, app3, app4, cell0, look_z, look_s, rowI, rowB, rowL, ↓c_ring_Nearer, ↓c_route_Next, ↓c_route_Way, ↓c_ref10_Nodes, ↓c_law11_wakes, ↓c_law11_Some, ↓c_ring_Owner]
  have hT : isT (u64 t % 4) = true := isT_iff.2 ⟨by omega, by omega⟩
  generalize u64 t % 4 = t' at hT ⊢
  have hs := someN_ok bits self
  generalize (someN bits self).1 = l at hs ⊢
  generalize (someN bits self).2 = n at hs ⊢
  have ha := asked_ok hT hs
  have hc := chkL_iff.1 hs
  have hne : l ≠ [] := by rintro rfl; simp at hc
  have ho := owner_ok hT hc.1 hne
  have h8 := way_len8 (t := t') (live := l) (n := n)
  refine SUB.v1 (bb false) ?_ ?_
  · simp (disch := first | omega | assumption | (simp only [List.length_cons, List.length_nil]; omega)) only [↓OP_len, ↓OP_len0, ↓OP_idx, ↓OP_drop, ↓OP_take, ↓OP_mid, ↓OP_all, ↓OP_isl, ↓OP_isl0, ↓OP_app, ↓OP_app0, ↓OP_appN, ↓OP_app00, ↓OP_rowI, ↓OP_rowI2, ↓OP_rowL, ↓OP_rowLL, ↓OP_rowI4, ↓OP_rowI8, ↓OP_lss, ↓OP_leq, ↓OP_gtr, ↓OP_geq, ↓OP_eql, ↓OP_neq, ↓OP_not, ↓OP_beq, ↓OP_bne, ↓OP_add, ↓OP_sub, ↓OP_mn, ↓OP_mx, ↓OP_sel, ↓OP_cu, ↓OP_remU, ↓OP_ci, ↓ITE_true, ↓ITE_false, ↓ITE_bool, decide_eq_true_eq, decide_eq_false_iff_not, Bool.not_eq_eq_eq_not, Bool.not_true, Bool.not_false, Bool.false_eq_true, Bool.true_eq_false, false_implies, true_implies, true_and, and_true, implies_true, not_true_eq_false, not_false_eq_true, app1, app2, app3, app4, cell0, look_z, look_s, rowI, rowB, rowL, ↓c_ring_Nearer, ↓c_route_Next, ↓c_route_Way, ↓c_ref10_Nodes, ↓c_law11_wakes, ↓c_law11_Some, ↓c_ring_Owner]
    have := way_len (t := t') hc.2.2
    simp [ha, ho.1]; omega
  simp (disch := first | omega | assumption | (simp only [List.length_cons, List.length_nil]; omega)) only [↓OP_len, ↓OP_len0, ↓OP_idx, ↓OP_drop, ↓OP_take, ↓OP_mid, ↓OP_all, ↓OP_isl, ↓OP_isl0, ↓OP_app, ↓OP_app0, ↓OP_appN, ↓OP_app00, ↓OP_rowI, ↓OP_rowI2, ↓OP_rowL, ↓OP_rowLL, ↓OP_rowI4, ↓OP_rowI8, ↓OP_lss, ↓OP_leq, ↓OP_gtr, ↓OP_geq, ↓OP_eql, ↓OP_neq, ↓OP_not, ↓OP_beq, ↓OP_bne, ↓OP_add, ↓OP_sub, ↓OP_mn, ↓OP_mx, ↓OP_sel, ↓OP_cu, ↓OP_remU, ↓OP_ci, ↓ITE_true, ↓ITE_false, ↓ITE_bool, decide_eq_true_eq, decide_eq_false_iff_not, Bool.not_eq_eq_eq_not, Bool.not_true, Bool.not_false, Bool.false_eq_true, Bool.true_eq_false, false_implies, true_implies, true_and, and_true, implies_true, not_true_eq_false, not_false_eq_true, app1, app2, app3, app4, cell0, look_z, look_s, rowI, rowB, rowL, ↓c_ring_Nearer, ↓c_route_Next, ↓c_route_Way, ↓c_ref10_Nodes, ↓c_law11_wakes, ↓c_law11_Some, ↓c_ring_Owner]
  simp only [ha, if_true]
  refine LOOP.rule (α := Nat × Int) (fun a => [I a.2, I a.1]) (fun a => a.1 ≤ (way t' l n).length ∧ a.2 ∈ l ∧ (way t' l n).drop a.1 = way t' l a.2) (fun a => (way t' l n).length - a.1) (0, n) rfl ⟨by simp, hc.2.2, rfl⟩ (fun _ => rfl) ?_
  rintro ⟨i, a⟩ ⟨h1, h2, h3⟩
  simp only [app] at *
  have ha2 := asked_ok hT (chkL_of hs h2)
  simp (disch := first | omega | assumption | (simp only [List.length_cons, List.length_nil]; omega)) only [↓OP_len, ↓OP_len0, ↓OP_idx, ↓OP_drop, ↓OP_take, ↓OP_mid, ↓OP_all, ↓OP_isl, ↓OP_isl0, ↓OP_app, ↓OP_app0, ↓OP_appN, ↓OP_app00, ↓OP_rowI, ↓OP_rowI2, ↓OP_rowL, ↓OP_rowLL, ↓OP_rowI4, ↓OP_rowI8, ↓OP_lss, ↓OP_leq, ↓OP_gtr, ↓OP_geq, ↓OP_eql, ↓OP_neq, ↓OP_not, ↓OP_beq, ↓OP_bne, ↓OP_add, ↓OP_sub, ↓OP_mn, ↓OP_mx, ↓OP_sel, ↓OP_cu, ↓OP_remU, ↓OP_ci, ↓ITE_true, ↓ITE_false, ↓ITE_bool, decide_eq_true_eq, decide_eq_false_iff_not, Bool.not_eq_eq_eq_not, Bool.not_true, Bool.not_false, Bool.false_eq_true, Bool.true_eq_false, false_implies, true_implies, true_and, and_true, implies_true, not_true_eq_false, not_false_eq_true, app1, app2, app3, app4, cell0, look_z, look_s, rowI, rowB, rowL, ↓c_ring_Nearer, ↓c_route_Next, ↓c_route_Way, ↓c_ref10_Nodes, ↓c_law11_wakes, ↓c_law11_Some, ↓c_ring_Owner]
  refine ⟨fun h4 => ?_, fun h4 => ?_⟩
  · obtain ⟨x, hx⟩ := get_ex h4
    rw [drop_eq hx] at h3
    obtain ⟨k1, k2, k3⟩ := way_cons h3.symm
    have k4 := next_mem hne k1
    have k5 := next_near k1
    have k6 : max (nextN t' l a) 0 = nextN t' l a := by omega
    rw [k2] at k4 k5 k1 k6
    have hl := chkL_of hs k4
    simp (disch := first | omega | assumption | (simp only [List.length_cons, List.length_nil]; omega)) only [↓OP_len, ↓OP_len0, ↓OP_idx, ↓OP_drop, ↓OP_take, ↓OP_mid, ↓OP_all, ↓OP_isl, ↓OP_isl0, ↓OP_app, ↓OP_app0, ↓OP_appN, ↓OP_app00, ↓OP_rowI, ↓OP_rowI2, ↓OP_rowL, ↓OP_rowLL, ↓OP_rowI4, ↓OP_rowI8, ↓OP_lss, ↓OP_leq, ↓OP_gtr, ↓OP_geq, ↓OP_eql, ↓OP_neq, ↓OP_not, ↓OP_beq, ↓OP_bne, ↓OP_add, ↓OP_sub, ↓OP_mn, ↓OP_mx, ↓OP_sel, ↓OP_cu, ↓OP_remU, ↓OP_ci, ↓ITE_true, ↓ITE_false, ↓ITE_bool, decide_eq_true_eq, decide_eq_false_iff_not, Bool.not_eq_eq_eq_not, Bool.not_true, Bool.not_false, Bool.false_eq_true, Bool.true_eq_false, false_implies, true_implies, true_and, and_true, implies_true, not_true_eq_false, not_false_eq_true, app1, app2, app3, app4, cell0, look_z, look_s, rowI, rowB, rowL, ↓c_ring_Nearer, ↓c_route_Next, ↓c_route_Way, ↓c_ref10_Nodes, ↓c_law11_wakes, ↓c_law11_Some, ↓c_ring_Owner, cell_L hx, ha2, k6, k2, k5, hl]
    simp [k1]
    exact ⟨k5, fun _ => ⟨hl, fun _ => ⟨i + 1, x, ⟨rfl, by simp⟩, ⟨by omega, k4, k3.symm⟩, by omega⟩⟩⟩
  · rw [drop_nil h4] at h3
    have h5 := way_empty h3.symm
    have h6 := (next_none hT hc.1 h2).1 h5
    have h7 : a = (owner t' l).1 := h6
    simp (disch := first | omega | assumption | (simp only [List.length_cons, List.length_nil]; omega)) only [↓OP_len, ↓OP_len0, ↓OP_idx, ↓OP_drop, ↓OP_take, ↓OP_mid, ↓OP_all, ↓OP_isl, ↓OP_isl0, ↓OP_app, ↓OP_app0, ↓OP_appN, ↓OP_app00, ↓OP_rowI, ↓OP_rowI2, ↓OP_rowL, ↓OP_rowLL, ↓OP_rowI4, ↓OP_rowI8, ↓OP_lss, ↓OP_leq, ↓OP_gtr, ↓OP_geq, ↓OP_eql, ↓OP_neq, ↓OP_not, ↓OP_beq, ↓OP_bne, ↓OP_add, ↓OP_sub, ↓OP_mn, ↓OP_mx, ↓OP_sel, ↓OP_cu, ↓OP_remU, ↓OP_ci, ↓ITE_true, ↓ITE_false, ↓ITE_bool, decide_eq_true_eq, decide_eq_false_iff_not, Bool.not_eq_eq_eq_not, Bool.not_true, Bool.not_false, Bool.false_eq_true, Bool.true_eq_false, false_implies, true_implies, true_and, and_true, implies_true, not_true_eq_false, not_false_eq_true, app1, app2, app3, app4, cell0, look_z, look_s, rowI, rowB, rowL, ↓c_ring_Nearer, ↓c_route_Next, ↓c_route_Way, ↓c_ref10_Nodes, ↓c_law11_wakes, ↓c_law11_Some, ↓c_ring_Owner, ha2]
    simp [← h7]; omega
theorem w_law11_RouteNext (t : Int) (bits : Int) (self : Int) : S_law11_RouteNext ρ (I t) (I bits) (I self) (· = [bb true]) := by
  unfold S_law11_RouteNext
  have ht := u64_bd t
  simp (disch := first | omega | assumption | (simp only [List.length_cons, List.length_nil]; omega)) only [↓OP_len, ↓OP_len0, ↓OP_idx, ↓OP_drop, ↓OP_take, ↓OP_mid, ↓OP_all, ↓OP_isl, ↓OP_isl0, ↓OP_app, ↓OP_app0, ↓OP_appN, ↓OP_app00, ↓OP_rowI, ↓OP_rowI2, ↓OP_rowL, ↓OP_rowLL, ↓OP_rowI4, ↓OP_rowI8, ↓OP_lss, ↓OP_leq, ↓OP_gtr, ↓OP_geq, ↓OP_eql, ↓OP_neq, ↓OP_not, ↓OP_beq, ↓OP_bne, ↓OP_add, ↓OP_sub, ↓OP_mn, ↓OP_mx, ↓OP_sel, ↓OP_cu, ↓OP_remU, ↓OP_ci, ↓ITE_true, ↓ITE_false, ↓ITE_bool, decide_eq_true_eq, decide_eq_false_iff_not, Bool.not_eq_eq_eq_not, Bool.not_true, Bool.not_false, Bool.false_eq_true, Bool.true_eq_false, false_implies, true_implies, true_and, and_true, implies_true, not_true_eq_false, not_false_eq_true, app1, app2, app3, app4, cell0, look_z, look_s, rowI, rowB, rowL, ↓c_ring_Nearer, ↓c_route_Ahead, ↓c_route_Fingers, ↓c_route_Next, ↓c_law11_wakes, ↓c_law11_Some, ↓c_ring_Owner]
  have hT : isT (u64 t % 4) = true := isT_iff.2 ⟨by omega, by omega⟩
  generalize u64 t % 4 = t' at hT ⊢
  have hs := someN_ok bits self
  generalize (someN bits self).1 = l at hs ⊢
  generalize (someN bits self).2 = n at hs ⊢
  have ha := asked_ok hT hs
  have hc := chkL_iff.1 hs
  have hne : l ≠ [] := by rintro rfl; simp at hc
  have ho := owner_ok hT hc.1 hne
  have hk : decide (0 ≤ nextN t' l n) = !decide ((owner t' l).1 = n) := by
    have := next_none hT hc.1 hc.2.2
    unfold own at this
    by_cases e : n = (owner t' l).1
    · have := this.2 e; simp [← e]; omega
    · have h2 := mt this.1 e
      have : ¬ (owner t' l).1 = n := fun h => e h.symm
      simp [this]; omega
  refine SUB.v1 (bb false) ?_ ?_
  · simp (disch := first | omega | assumption | (simp only [List.length_cons, List.length_nil]; omega)) only [↓OP_len, ↓OP_len0, ↓OP_idx, ↓OP_drop, ↓OP_take, ↓OP_mid, ↓OP_all, ↓OP_isl, ↓OP_isl0, ↓OP_app, ↓OP_app0, ↓OP_appN, ↓OP_app00, ↓OP_rowI, ↓OP_rowI2, ↓OP_rowL, ↓OP_rowLL, ↓OP_rowI4, ↓OP_rowI8, ↓OP_lss, ↓OP_leq, ↓OP_gtr, ↓OP_geq, ↓OP_eql, ↓OP_neq, ↓OP_not, ↓OP_beq, ↓OP_bne, ↓OP_add, ↓OP_sub, ↓OP_mn, ↓OP_mx, ↓OP_sel, ↓OP_cu, ↓OP_remU, ↓OP_ci, ↓ITE_true, ↓ITE_false, ↓ITE_bool, decide_eq_true_eq, decide_eq_false_iff_not, Bool.not_eq_eq_eq_not, Bool.not_true, Bool.not_false, Bool.false_eq_true, Bool.true_eq_false, false_implies, true_implies, true_and, and_true, implies_true, not_true_eq_false, not_false_eq_true, app1, app2, app3, app4, cell0, look_z, look_s, rowI, rowB, rowL, ↓c_ring_Nearer, ↓c_route_Ahead, ↓c_route_Fingers, ↓c_route_Next, ↓c_law11_wakes, ↓c_law11_Some, ↓c_ring_Owner]
    simp [ha, ho.1, hs, hk]
  simp (disch := first | omega | assumption | (simp only [List.length_cons, List.length_nil]; omega)) only [↓OP_len, ↓OP_len0, ↓OP_idx, ↓OP_drop, ↓OP_take, ↓OP_mid, ↓OP_all, ↓OP_isl, ↓OP_isl0, ↓OP_app, ↓OP_app0, ↓OP_appN, ↓OP_app00, ↓OP_rowI, ↓OP_rowI2, ↓OP_rowL, ↓OP_rowLL, ↓OP_rowI4, ↓OP_rowI8, ↓OP_lss, ↓OP_leq, ↓OP_gtr, ↓OP_geq, ↓OP_eql, ↓OP_neq, ↓OP_not, ↓OP_beq, ↓OP_bne, ↓OP_add, ↓OP_sub, ↓OP_mn, ↓OP_mx, ↓OP_sel, ↓OP_cu, ↓OP_remU, ↓OP_ci, ↓ITE_true, ↓ITE_false, ↓ITE_bool, decide_eq_true_eq, decide_eq_false_iff_not, Bool.not_eq_eq_eq_not, Bool.not_true, Bool.not_false, Bool.false_eq_true, Bool.true_eq_false, false_implies, true_implies, true_and, and_true, implies_true, not_true_eq_false, not_false_eq_true, app1, app2, app3, app4, cell0, look_z, look_s, rowI, rowB, rowL, ↓c_ring_Nearer, ↓c_route_Ahead, ↓c_route_Fingers, ↓c_route_Next, ↓c_law11_wakes, ↓c_law11_Some, ↓c_ring_Owner]
  simp only [ha, if_true, hs]
  refine ⟨fun h => ?_, fun h => ?_⟩
  · have : ¬ 0 ≤ nextN t' l n := by simpa using h
    have : max (nextN t' l n) 0 = 0 := by omega
    simp [this]
  · have h1 : 0 ≤ nextN t' l n := by simpa using h
    have h2 : max (nextN t' l n) 0 = nextN t' l n := by omega
    have h3 := next_best h1
    have hfl := fingers_len l n
    have hA := aheadN_mem l n
    have hno : own t' l ≠ n := fun e => by have := (next_none hT hc.1 hc.2.2).2 e.symm; omega
    have hm := (aheadN_min hc.1 ⟨_, ho.2.1, hno⟩).1
    have hm2 := isN_iff.1 (hc.1 _ hm)
    have h4 : max (aheadN l n) 0 = aheadN l n := by omega
    have h5 : ¬ aheadN l n < 0 := by omega
    have h6 := next_near h1
    simp only [h2, h4, h5, if_false]
    rw [OP_app (by simp; omega)]
    have h7 : ((fingers l n ++ [aheadN l n]).contains (nextN t' l n)) = true := by
      rcases next_cases t' l n with e | e
      · omega
      · simpa using e.2
    have h8 : (fingers l n ++ [aheadN l n]).length ≤ 9 := by simp; omega
    generalize fingers l n ++ [aheadN l n] = K at h3 h7 h8 ⊢
    refine LOOP.rule (α := Nat) (fun i => [bb ((K.take i).contains (nextN t' l n)), I i]) (fun i => i ≤ K.length) (fun i => K.length - i) 0 (by simp) (by simp) (fun _ => rfl) ?_
    intro i h9
    simp only [app]
    simp (disch := first | omega | assumption | (simp only [List.length_cons, List.length_nil]; omega)) only [↓OP_len, ↓OP_len0, ↓OP_idx, ↓OP_drop, ↓OP_take, ↓OP_mid, ↓OP_all, ↓OP_isl, ↓OP_isl0, ↓OP_app, ↓OP_app0, ↓OP_appN, ↓OP_app00, ↓OP_rowI, ↓OP_rowI2, ↓OP_rowL, ↓OP_rowLL, ↓OP_rowI4, ↓OP_rowI8, ↓OP_lss, ↓OP_leq, ↓OP_gtr, ↓OP_geq, ↓OP_eql, ↓OP_neq, ↓OP_not, ↓OP_beq, ↓OP_bne, ↓OP_add, ↓OP_sub, ↓OP_mn, ↓OP_mx, ↓OP_sel, ↓OP_cu, ↓OP_remU, ↓OP_ci, ↓ITE_true, ↓ITE_false, ↓ITE_bool, decide_eq_true_eq, decide_eq_false_iff_not, Bool.not_eq_eq_eq_not, Bool.not_true, Bool.not_false, Bool.false_eq_true, Bool.true_eq_false, false_implies, true_implies, true_and, and_true, implies_true, not_true_eq_false, not_false_eq_true, app1, app2, app3, app4, cell0, look_z, look_s, rowI, rowB, rowL, ↓c_ring_Nearer, ↓c_route_Ahead, ↓c_route_Fingers, ↓c_route_Next, ↓c_law11_wakes, ↓c_law11_Some, ↓c_ring_Owner]
    refine ⟨fun h10 => ?_, fun h10 => ?_⟩
    · obtain ⟨x, hx⟩ := get_ex h10
      have hcn := take_cont (n := nextN t' l n) hx
      have hnn := h3 x (List.mem_of_getElem? hx)
      refine ⟨fun h11 => ?_, fun h11 => ?_⟩
      · simp (disch := first | omega | assumption | (simp only [List.length_cons, List.length_nil]; omega)) only [↓OP_len, ↓OP_len0, ↓OP_idx, ↓OP_drop, ↓OP_take, ↓OP_mid, ↓OP_all, ↓OP_isl, ↓OP_isl0, ↓OP_app, ↓OP_app0, ↓OP_appN, ↓OP_app00, ↓OP_rowI, ↓OP_rowI2, ↓OP_rowL, ↓OP_rowLL, ↓OP_rowI4, ↓OP_rowI8, ↓OP_lss, ↓OP_leq, ↓OP_gtr, ↓OP_geq, ↓OP_eql, ↓OP_neq, ↓OP_not, ↓OP_beq, ↓OP_bne, ↓OP_add, ↓OP_sub, ↓OP_mn, ↓OP_mx, ↓OP_sel, ↓OP_cu, ↓OP_remU, ↓OP_ci, ↓ITE_true, ↓ITE_false, ↓ITE_bool, decide_eq_true_eq, decide_eq_false_iff_not, Bool.not_eq_eq_eq_not, Bool.not_true, Bool.not_false, Bool.false_eq_true, Bool.true_eq_false, false_implies, true_implies, true_and, and_true, implies_true, not_true_eq_false, not_false_eq_true, app1, app2, app3, app4, cell0, look_z, look_s, rowI, rowB, rowL, ↓c_ring_Nearer, ↓c_route_Ahead, ↓c_route_Fingers, ↓c_route_Next, ↓c_law11_wakes, ↓c_law11_Some, ↓c_ring_Owner, cell_L hx, hnn]
        exact ⟨i + 1, by rw [hcn, h11]; simp, by omega, by omega⟩
      · simp (disch := first | omega | assumption | (simp only [List.length_cons, List.length_nil]; omega)) only [↓OP_len, ↓OP_len0, ↓OP_idx, ↓OP_drop, ↓OP_take, ↓OP_mid, ↓OP_all, ↓OP_isl, ↓OP_isl0, ↓OP_app, ↓OP_app0, ↓OP_appN, ↓OP_app00, ↓OP_rowI, ↓OP_rowI2, ↓OP_rowL, ↓OP_rowLL, ↓OP_rowI4, ↓OP_rowI8, ↓OP_lss, ↓OP_leq, ↓OP_gtr, ↓OP_geq, ↓OP_eql, ↓OP_neq, ↓OP_not, ↓OP_beq, ↓OP_bne, ↓OP_add, ↓OP_sub, ↓OP_mn, ↓OP_mx, ↓OP_sel, ↓OP_cu, ↓OP_remU, ↓OP_ci, ↓ITE_true, ↓ITE_false, ↓ITE_bool, decide_eq_true_eq, decide_eq_false_iff_not, Bool.not_eq_eq_eq_not, Bool.not_true, Bool.not_false, Bool.false_eq_true, Bool.true_eq_false, false_implies, true_implies, true_and, and_true, implies_true, not_true_eq_false, not_false_eq_true, app1, app2, app3, app4, cell0, look_z, look_s, rowI, rowB, rowL, ↓c_ring_Nearer, ↓c_route_Ahead, ↓c_route_Fingers, ↓c_route_Next, ↓c_law11_wakes, ↓c_law11_Some, ↓c_ring_Owner, cell_L hx, hnn]
        exact ⟨i + 1, by rw [hcn, h11]; simp, by omega, by omega⟩
    · rw [List.take_of_length_le (by omega), h7]
      simp [h6]
theorem w_law11_RouteExact (t : Int) (live : List Int) (self : Int) (hg : Goods [I t, L live, I self]) : S_law11_RouteExact ρ (I t) (L live) (I self) (· = [bb true]) := by
  unfold S_law11_RouteExact
  simp only [Goods, good_L] at hg
  simp (disch := first | omega | assumption | (simp only [List.length_cons, List.length_nil]; omega)) only [↓OP_len, ↓OP_len0, ↓OP_idx, ↓OP_drop, ↓OP_take, ↓OP_mid, ↓OP_all, ↓OP_isl, ↓OP_isl0, ↓OP_app, ↓OP_app0, ↓OP_appN, ↓OP_app00, ↓OP_rowI, ↓OP_rowI2, ↓OP_rowL, ↓OP_rowLL, ↓OP_rowI4, ↓OP_rowI8, ↓OP_lss, ↓OP_leq, ↓OP_gtr, ↓OP_geq, ↓OP_eql, ↓OP_neq, ↓OP_not, ↓OP_beq, ↓OP_bne, ↓OP_add, ↓OP_sub, ↓OP_mn, ↓OP_mx, ↓OP_sel, ↓OP_cu, ↓OP_remU, ↓OP_ci, ↓ITE_true, ↓ITE_false, ↓ITE_bool, decide_eq_true_eq, decide_eq_false_iff_not, Bool.not_eq_eq_eq_not, Bool.not_true, Bool.not_false, Bool.false_eq_true, Bool.true_eq_false, false_implies, true_implies, true_and, and_true, implies_true, not_true_eq_false, not_false_eq_true, app1, app2, app3, app4, cell0, look_z, look_s, rowI, rowB, rowL, ↓c_bkeep_TwinInts, ↓c_bkeep_Ints, ↓c_ref01_IsTopic, ↓c_route_Ahead, ↓c_route_Fingers, ↓c_route_Next, ↓c_route_Way, ↓c_ref10_Nodes, ↓c_route_Check, ↓c_law11_wakes, ↓c_ref10_Fingers, ↓c_ref10_Ahead, ↓c_ref10_Next, ↓c_ref10_Way]
  intro h
  simp (disch := first | omega | assumption | (simp only [List.length_cons, List.length_nil]; omega)) only [↓OP_len, ↓OP_len0, ↓OP_idx, ↓OP_drop, ↓OP_take, ↓OP_mid, ↓OP_all, ↓OP_isl, ↓OP_isl0, ↓OP_app, ↓OP_app0, ↓OP_appN, ↓OP_app00, ↓OP_rowI, ↓OP_rowI2, ↓OP_rowL, ↓OP_rowLL, ↓OP_rowI4, ↓OP_rowI8, ↓OP_lss, ↓OP_leq, ↓OP_gtr, ↓OP_geq, ↓OP_eql, ↓OP_neq, ↓OP_not, ↓OP_beq, ↓OP_bne, ↓OP_add, ↓OP_sub, ↓OP_mn, ↓OP_mx, ↓OP_sel, ↓OP_cu, ↓OP_remU, ↓OP_ci, ↓ITE_true, ↓ITE_false, ↓ITE_bool, decide_eq_true_eq, decide_eq_false_iff_not, Bool.not_eq_eq_eq_not, Bool.not_true, Bool.not_false, Bool.false_eq_true, Bool.true_eq_false, false_implies, true_implies, true_and, and_true, implies_true, not_true_eq_false, not_false_eq_true, app1, app2, app3, app4, cell0, look_z, look_s, rowI, rowB, rowL, ↓c_bkeep_TwinInts, ↓c_bkeep_Ints, ↓c_ref01_IsTopic, ↓c_route_Ahead, ↓c_route_Fingers, ↓c_route_Next, ↓c_route_Way, ↓c_ref10_Nodes, ↓c_route_Check, ↓c_law11_wakes, ↓c_ref10_Fingers, ↓c_ref10_Ahead, ↓c_ref10_Next, ↓c_ref10_Way]
  refine ⟨fun hc => ?_, fun hc => ?_⟩
  · have h1 := (chkL_01 live self).resolve_left hc
    have h2 : askedN t live self = 1 := by simp [askedN, h1]
    simp only [h1, h2, Int.reduceEq, if_false]
    simp (disch := first | omega | assumption | (simp only [List.length_cons, List.length_nil]; omega)) only [↓OP_len, ↓OP_len0, ↓OP_idx, ↓OP_drop, ↓OP_take, ↓OP_mid, ↓OP_all, ↓OP_isl, ↓OP_isl0, ↓OP_app, ↓OP_app0, ↓OP_appN, ↓OP_app00, ↓OP_rowI, ↓OP_rowI2, ↓OP_rowL, ↓OP_rowLL, ↓OP_rowI4, ↓OP_rowI8, ↓OP_lss, ↓OP_leq, ↓OP_gtr, ↓OP_geq, ↓OP_eql, ↓OP_neq, ↓OP_not, ↓OP_beq, ↓OP_bne, ↓OP_add, ↓OP_sub, ↓OP_mn, ↓OP_mx, ↓OP_sel, ↓OP_cu, ↓OP_remU, ↓OP_ci, ↓ITE_true, ↓ITE_false, ↓ITE_bool, decide_eq_true_eq, decide_eq_false_iff_not, Bool.not_eq_eq_eq_not, Bool.not_true, Bool.not_false, Bool.false_eq_true, Bool.true_eq_false, false_implies, true_implies, true_and, and_true, implies_true, not_true_eq_false, not_false_eq_true, app1, app2, app3, app4, cell0, look_z, look_s, rowI, rowB, rowL, ↓c_bkeep_TwinInts, ↓c_bkeep_Ints, ↓c_ref01_IsTopic, ↓c_route_Ahead, ↓c_route_Fingers, ↓c_route_Next, ↓c_route_Way, ↓c_ref10_Nodes, ↓c_route_Check, ↓c_law11_wakes, ↓c_ref10_Fingers, ↓c_ref10_Ahead, ↓c_ref10_Next, ↓c_ref10_Way]
    simp
  have hB : live.all isN = true ∧ isN self = true ∧ live ≠ [] := (chkL_zero hc).2.1
  have hA : live.all isN = true ∧ isN self = true := (chkL_zero hc).1
  simp only [hc, if_true]
  refine SUB.v1 (bb false) ?_ ?_
  · simp (disch := first | omega | assumption | (simp only [List.length_cons, List.length_nil]; omega)) only [↓OP_len, ↓OP_len0, ↓OP_idx, ↓OP_drop, ↓OP_take, ↓OP_mid, ↓OP_all, ↓OP_isl, ↓OP_isl0, ↓OP_app, ↓OP_app0, ↓OP_appN, ↓OP_app00, ↓OP_rowI, ↓OP_rowI2, ↓OP_rowL, ↓OP_rowLL, ↓OP_rowI4, ↓OP_rowI8, ↓OP_lss, ↓OP_leq, ↓OP_gtr, ↓OP_geq, ↓OP_eql, ↓OP_neq, ↓OP_not, ↓OP_beq, ↓OP_bne, ↓OP_add, ↓OP_sub, ↓OP_mn, ↓OP_mx, ↓OP_sel, ↓OP_cu, ↓OP_remU, ↓OP_ci, ↓ITE_true, ↓ITE_false, ↓ITE_bool, decide_eq_true_eq, decide_eq_false_iff_not, Bool.not_eq_eq_eq_not, Bool.not_true, Bool.not_false, Bool.false_eq_true, Bool.true_eq_false, false_implies, true_implies, true_and, and_true, implies_true, not_true_eq_false, not_false_eq_true, app1, app2, app3, app4, cell0, look_z, look_s, rowI, rowB, rowL, ↓c_bkeep_TwinInts, ↓c_bkeep_Ints, ↓c_ref01_IsTopic, ↓c_route_Ahead, ↓c_route_Fingers, ↓c_route_Next, ↓c_route_Way, ↓c_ref10_Nodes, ↓c_route_Check, ↓c_law11_wakes, ↓c_ref10_Fingers, ↓c_ref10_Ahead, ↓c_ref10_Next, ↓c_ref10_Way]
    simp
  simp (disch := first | omega | assumption | (simp only [List.length_cons, List.length_nil]; omega)) only [↓OP_len, ↓OP_len0, ↓OP_idx, ↓OP_drop, ↓OP_take, ↓OP_mid, ↓OP_all, ↓OP_isl, ↓OP_isl0, ↓OP_app, ↓OP_app0, ↓OP_appN, ↓OP_app00, ↓OP_rowI, ↓OP_rowI2, ↓OP_rowL, ↓OP_rowLL, ↓OP_rowI4, ↓OP_rowI8, ↓OP_lss, ↓OP_leq, ↓OP_gtr, ↓OP_geq, ↓OP_eql, ↓OP_neq, ↓OP_not, ↓OP_beq, ↓OP_bne, ↓OP_add, ↓OP_sub, ↓OP_mn, ↓OP_mx, ↓OP_sel, ↓OP_cu, ↓OP_remU, ↓OP_ci, ↓ITE_true, ↓ITE_false, ↓ITE_bool, decide_eq_true_eq, decide_eq_false_iff_not, Bool.not_eq_eq_eq_not, Bool.not_true, Bool.not_false, Bool.false_eq_true, Bool.true_eq_false, false_implies, true_implies, true_and, and_true, implies_true, not_true_eq_false, not_false_eq_true, app1, app2, app3, app4, cell0, look_z, look_s, rowI, rowB, rowL, ↓c_bkeep_TwinInts, ↓c_bkeep_Ints, ↓c_ref01_IsTopic, ↓c_route_Ahead, ↓c_route_Fingers, ↓c_route_Next, ↓c_route_Way, ↓c_ref10_Nodes, ↓c_route_Check, ↓c_law11_wakes, ↓c_ref10_Fingers, ↓c_ref10_Ahead, ↓c_ref10_Next, ↓c_ref10_Way]
  refine SUB.v1 (bb false) ?_ ?_
  · simp (disch := first | omega | assumption | (simp only [List.length_cons, List.length_nil]; omega)) only [↓OP_len, ↓OP_len0, ↓OP_idx, ↓OP_drop, ↓OP_take, ↓OP_mid, ↓OP_all, ↓OP_isl, ↓OP_isl0, ↓OP_app, ↓OP_app0, ↓OP_appN, ↓OP_app00, ↓OP_rowI, ↓OP_rowI2, ↓OP_rowL, ↓OP_rowLL, ↓OP_rowI4, ↓OP_rowI8, ↓OP_lss, ↓OP_leq, ↓OP_gtr, ↓OP_geq, ↓OP_eql, ↓OP_neq, ↓OP_not, ↓OP_beq, ↓OP_bne, ↓OP_add, ↓OP_sub, ↓OP_mn, ↓OP_mx, ↓OP_sel, ↓OP_cu, ↓OP_remU, ↓OP_ci, ↓ITE_true, ↓ITE_false, ↓ITE_bool, decide_eq_true_eq, decide_eq_false_iff_not, Bool.not_eq_eq_eq_not, Bool.not_true, Bool.not_false, Bool.false_eq_true, Bool.true_eq_false, false_implies, true_implies, true_and, and_true, implies_true, not_true_eq_false, not_false_eq_true, app1, app2, app3, app4, cell0, look_z, look_s, rowI, rowB, rowL, ↓c_bkeep_TwinInts, ↓c_bkeep_Ints, ↓c_ref01_IsTopic, ↓c_route_Ahead, ↓c_route_Fingers, ↓c_route_Next, ↓c_route_Way, ↓c_ref10_Nodes, ↓c_route_Check, ↓c_law11_wakes, ↓c_ref10_Fingers, ↓c_ref10_Ahead, ↓c_ref10_Next, ↓c_ref10_Way]
    by_cases ha : aheadN live self < 0
    · have : max (aheadN live self) 0 = 0 := by omega
      have h2 : ¬ 0 ≤ aheadN live self := by omega
      simp [ha, this, h2]
    · have : max (aheadN live self) 0 = aheadN live self := by omega
      have h2 : 0 ≤ aheadN live self := by omega
      simp [ha, this]
  simp (disch := first | omega | assumption | (simp only [List.length_cons, List.length_nil]; omega)) only [↓OP_len, ↓OP_len0, ↓OP_idx, ↓OP_drop, ↓OP_take, ↓OP_mid, ↓OP_all, ↓OP_isl, ↓OP_isl0, ↓OP_app, ↓OP_app0, ↓OP_appN, ↓OP_app00, ↓OP_rowI, ↓OP_rowI2, ↓OP_rowL, ↓OP_rowLL, ↓OP_rowI4, ↓OP_rowI8, ↓OP_lss, ↓OP_leq, ↓OP_gtr, ↓OP_geq, ↓OP_eql, ↓OP_neq, ↓OP_not, ↓OP_beq, ↓OP_bne, ↓OP_add, ↓OP_sub, ↓OP_mn, ↓OP_mx, ↓OP_sel, ↓OP_cu, ↓OP_remU, ↓OP_ci, ↓ITE_true, ↓ITE_false, ↓ITE_bool, decide_eq_true_eq, decide_eq_false_iff_not, Bool.not_eq_eq_eq_not, Bool.not_true, Bool.not_false, Bool.false_eq_true, Bool.true_eq_false, false_implies, true_implies, true_and, and_true, implies_true, not_true_eq_false, not_false_eq_true, app1, app2, app3, app4, cell0, look_z, look_s, rowI, rowB, rowL, ↓c_bkeep_TwinInts, ↓c_bkeep_Ints, ↓c_ref01_IsTopic, ↓c_route_Ahead, ↓c_route_Fingers, ↓c_route_Next, ↓c_route_Way, ↓c_ref10_Nodes, ↓c_route_Check, ↓c_law11_wakes, ↓c_ref10_Fingers, ↓c_ref10_Ahead, ↓c_ref10_Next, ↓c_ref10_Way]
  refine ⟨fun hT => ?_, fun hT => ?_⟩
  · have h2 : askedN t live self = 1 := by simp [askedN, hc, hT]
    simp only [h2, Int.reduceEq, if_false]
    simp (disch := first | omega | assumption | (simp only [List.length_cons, List.length_nil]; omega)) only [↓OP_len, ↓OP_len0, ↓OP_idx, ↓OP_drop, ↓OP_take, ↓OP_mid, ↓OP_all, ↓OP_isl, ↓OP_isl0, ↓OP_app, ↓OP_app0, ↓OP_appN, ↓OP_app00, ↓OP_rowI, ↓OP_rowI2, ↓OP_rowL, ↓OP_rowLL, ↓OP_rowI4, ↓OP_rowI8, ↓OP_lss, ↓OP_leq, ↓OP_gtr, ↓OP_geq, ↓OP_eql, ↓OP_neq, ↓OP_not, ↓OP_beq, ↓OP_bne, ↓OP_add, ↓OP_sub, ↓OP_mn, ↓OP_mx, ↓OP_sel, ↓OP_cu, ↓OP_remU, ↓OP_ci, ↓ITE_true, ↓ITE_false, ↓ITE_bool, decide_eq_true_eq, decide_eq_false_iff_not, Bool.not_eq_eq_eq_not, Bool.not_true, Bool.not_false, Bool.false_eq_true, Bool.true_eq_false, false_implies, true_implies, true_and, and_true, implies_true, not_true_eq_false, not_false_eq_true, app1, app2, app3, app4, cell0, look_z, look_s, rowI, rowB, rowL, ↓c_bkeep_TwinInts, ↓c_bkeep_Ints, ↓c_ref01_IsTopic, ↓c_route_Ahead, ↓c_route_Fingers, ↓c_route_Next, ↓c_route_Way, ↓c_ref10_Nodes, ↓c_route_Check, ↓c_law11_wakes, ↓c_ref10_Fingers, ↓c_ref10_Ahead, ↓c_ref10_Next, ↓c_ref10_Way]
    simp
  · have h2 : askedN t live self = 0 := asked_ok hT hc
    have hD : isT t = true ∧ chkL live self = 0 := ⟨hT, hc⟩
    simp only [h2]
    simp (disch := first | omega | assumption | (simp only [List.length_cons, List.length_nil]; omega)) only [↓OP_len, ↓OP_len0, ↓OP_idx, ↓OP_drop, ↓OP_take, ↓OP_mid, ↓OP_all, ↓OP_isl, ↓OP_isl0, ↓OP_app, ↓OP_app0, ↓OP_appN, ↓OP_app00, ↓OP_rowI, ↓OP_rowI2, ↓OP_rowL, ↓OP_rowLL, ↓OP_rowI4, ↓OP_rowI8, ↓OP_lss, ↓OP_leq, ↓OP_gtr, ↓OP_geq, ↓OP_eql, ↓OP_neq, ↓OP_not, ↓OP_beq, ↓OP_bne, ↓OP_add, ↓OP_sub, ↓OP_mn, ↓OP_mx, ↓OP_sel, ↓OP_cu, ↓OP_remU, ↓OP_ci, ↓ITE_true, ↓ITE_false, ↓ITE_bool, decide_eq_true_eq, decide_eq_false_iff_not, Bool.not_eq_eq_eq_not, Bool.not_true, Bool.not_false, Bool.false_eq_true, Bool.true_eq_false, false_implies, true_implies, true_and, and_true, implies_true, not_true_eq_false, not_false_eq_true, app1, app2, app3, app4, cell0, look_z, look_s, rowI, rowB, rowL, ↓c_bkeep_TwinInts, ↓c_bkeep_Ints, ↓c_ref01_IsTopic, ↓c_route_Ahead, ↓c_route_Fingers, ↓c_route_Next, ↓c_route_Way, ↓c_ref10_Nodes, ↓c_route_Check, ↓c_law11_wakes, ↓c_ref10_Fingers, ↓c_ref10_Ahead, ↓c_ref10_Next, ↓c_ref10_Way]
    simp
end Go.Xt
