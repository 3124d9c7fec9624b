/- Steps towards the statements of this seat; the conditions stand in each theorem. -/
import Derived.Test.YtfcihgjageeglaaW9
set_option linter.unusedSimpArgs false
set_option linter.unusedVariables false
set_option maxRecDepth 100000
namespace Go.Xt
theorem last_get {l : List Int} {d : Int} (h : l ≠ []) : l[l.length - 1]? = some (l.getLastD d) := by
  rw [List.getLastD_eq_getLast?, ← List.getLast?_eq_getElem?]
  cases l with
  | nil => exact absurd rfl h
  | cons x r => rw [List.getLast?_cons]; rfl
theorem pos_last {l : List Int} {d : Int} (h : 0 < l.length) : l[((l.length : Int) - 1).toNat]? = some (l.getLastD d) := by
  have : ((l.length : Int) - 1).toNat = l.length - 1 := by omega
  rw [this]; exact last_get (by rintro rfl; simp at h)
theorem w_law11_RouteLess (t : Int) (bits : Int) (self : Int) : S_law11_RouteLess ρ (I t) (I bits) (I self) (· = [bb true]) := by
  unfold S_law11_RouteLess
  have ht := u64_bd t
  simp (disch := first | omega | assumption | (simp only [List.length_cons, List.length_nil]; omega)) only [↓OP_len, ↓OP_len0, ↓OP_idx, ↓OP_drop, ↓OP_take, ↓OP_mid, ↓OP_all, ↓OP_isl, ↓OP_isl0, ↓OP_app, ↓OP_app0, ↓OP_appN, ↓OP_app00, ↓OP_rowI, ↓OP_rowI2, ↓OP_rowL, ↓OP_rowLL, ↓OP_rowI4, ↓OP_rowI8, ↓OP_lss, ↓OP_leq, ↓OP_gtr, ↓OP_geq, ↓OP_eql, ↓OP_neq, ↓OP_not, ↓OP_beq, ↓OP_bne, ↓OP_add, ↓OP_sub, ↓OP_mn, ↓OP_mx, ↓OP_sel, ↓OP_cu, ↓OP_remU, ↓OP_ci, ↓ITE_true, ↓ITE_false, ↓ITE_bool, decide_eq_true_eq, decide_eq_false_iff_not, Bool.not_eq_eq_eq_not, Bool.not_true, Bool.not_false, Bool.false_eq_true, Bool.true_eq_false, false_implies, true_implies, true_and, and_true, implies_true, not_true_eq_false, not_false_eq_true, app1, app2, app3, app4, cell0, look_z, look_s, rowI, rowB, rowL, ↓c_ring_Nearer, ↓c_route_Way, ↓c_law11_wakes, ↓c_law11_Some, ↓c_ring_Owner]
  have hT : isT (u64 t % 4) = true := isT_iff.2 ⟨by omega, by omega⟩
  generalize u64 t % 4 = t' at hT ⊢
  have hs := someN_ok bits self
  have hs8 : (someN bits self).1.length ≤ 8 := sg_len bits 8
  generalize (someN bits self).1 = l at hs hs8 ⊢
  generalize (someN bits self).2 = n at hs ⊢
  have ha := asked_ok hT hs
  have hc := chkL_iff.1 hs
  have hne : l ≠ [] := by rintro rfl; simp at hc
  have ho := owner_ok hT hc.1 hne
  have hoo : own t' l = (owner t' l).1 := rfl
  refine SUB.v1 (bb (decide ((owner t' l).1 = n))) ?_ ?_
  · simp (disch := first | omega | assumption | (simp only [List.length_cons, List.length_nil]; omega)) only [↓OP_len, ↓OP_len0, ↓OP_idx, ↓OP_drop, ↓OP_take, ↓OP_mid, ↓OP_all, ↓OP_isl, ↓OP_isl0, ↓OP_app, ↓OP_app0, ↓OP_appN, ↓OP_app00, ↓OP_rowI, ↓OP_rowI2, ↓OP_rowL, ↓OP_rowLL, ↓OP_rowI4, ↓OP_rowI8, ↓OP_lss, ↓OP_leq, ↓OP_gtr, ↓OP_geq, ↓OP_eql, ↓OP_neq, ↓OP_not, ↓OP_beq, ↓OP_bne, ↓OP_add, ↓OP_sub, ↓OP_mn, ↓OP_mx, ↓OP_sel, ↓OP_cu, ↓OP_remU, ↓OP_ci, ↓ITE_true, ↓ITE_false, ↓ITE_bool, decide_eq_true_eq, decide_eq_false_iff_not, Bool.not_eq_eq_eq_not, Bool.not_true, Bool.not_false, Bool.false_eq_true, Bool.true_eq_false, false_implies, true_implies, true_and, and_true, implies_true, not_true_eq_false, not_false_eq_true, app1, app2, app3, app4, cell0, look_z, look_s, rowI, rowB, rowL, ↓c_ring_Nearer, ↓c_route_Way, ↓c_law11_wakes, ↓c_law11_Some, ↓c_ring_Owner]
    simp [ho.1]
  simp (disch := first | omega | assumption | (simp only [List.length_cons, List.length_nil]; omega)) only [↓OP_len, ↓OP_len0, ↓OP_idx, ↓OP_drop, ↓OP_take, ↓OP_mid, ↓OP_all, ↓OP_isl, ↓OP_isl0, ↓OP_app, ↓OP_app0, ↓OP_appN, ↓OP_app00, ↓OP_rowI, ↓OP_rowI2, ↓OP_rowL, ↓OP_rowLL, ↓OP_rowI4, ↓OP_rowI8, ↓OP_lss, ↓OP_leq, ↓OP_gtr, ↓OP_geq, ↓OP_eql, ↓OP_neq, ↓OP_not, ↓OP_beq, ↓OP_bne, ↓OP_add, ↓OP_sub, ↓OP_mn, ↓OP_mx, ↓OP_sel, ↓OP_cu, ↓OP_remU, ↓OP_ci, ↓ITE_true, ↓ITE_false, ↓ITE_bool, decide_eq_true_eq, decide_eq_false_iff_not, Bool.not_eq_eq_eq_not, Bool.not_true, Bool.not_false, Bool.false_eq_true, Bool.true_eq_false, false_implies, true_implies, true_and, and_true, implies_true, not_true_eq_false, not_false_eq_true, app1, app2, app3, app4, cell0, look_z, look_s, rowI, rowB, rowL, ↓c_ring_Nearer, ↓c_route_Way, ↓c_law11_wakes, ↓c_law11_Some, ↓c_ring_Owner]
  refine ⟨fun h => by simp [ho.1], fun hon => ?_⟩
  rw [← hoo] at hon ⊢
  have hn : n ∈ l.filter fun x => decide (x ≠ own t' l) := by
    rw [List.mem_filter]; exact ⟨hc.2.2, by simpa using fun h => hon h.symm⟩
  refine LOOP.rule (α := Nat) (fun i => [I i, L ((l.take i).filter fun x => decide (x ≠ own t' l))]) (fun i => i ≤ l.length) (fun i => l.length - i) 0 (by simp; rfl) (by simp) (fun _ => rfl) ?_
  intro i h4
  simp only [app]
  have hlen := List.length_filter_le (fun x => decide (x ≠ own t' l)) (l.take i)
  rw [List.length_take] at hlen
  simp (disch := first | omega | assumption | (simp only [List.length_cons, List.length_nil]; omega)) only [↓OP_len, ↓OP_len0, ↓OP_idx, ↓OP_drop, ↓OP_take, ↓OP_mid, ↓OP_all, ↓OP_isl, ↓OP_isl0, ↓OP_app, ↓OP_app0, ↓OP_appN, ↓OP_app00, ↓OP_rowI, ↓OP_rowI2, ↓OP_rowL, ↓OP_rowLL, ↓OP_rowI4, ↓OP_rowI8, ↓OP_lss, ↓OP_leq, ↓OP_gtr, ↓OP_geq, ↓OP_eql, ↓OP_neq, ↓OP_not, ↓OP_beq, ↓OP_bne, ↓OP_add, ↓OP_sub, ↓OP_mn, ↓OP_mx, ↓OP_sel, ↓OP_cu, ↓OP_remU, ↓OP_ci, ↓ITE_true, ↓ITE_false, ↓ITE_bool, decide_eq_true_eq, decide_eq_false_iff_not, Bool.not_eq_eq_eq_not, Bool.not_true, Bool.not_false, Bool.false_eq_true, Bool.true_eq_false, false_implies, true_implies, true_and, and_true, implies_true, not_true_eq_false, not_false_eq_true, app1, app2, app3, app4, cell0, look_z, look_s, rowI, rowB, rowL, ↓c_ring_Nearer, ↓c_route_Way, ↓c_law11_wakes, ↓c_law11_Some, ↓c_ring_Owner]
  refine ⟨fun h5 => ?_, fun h5 => ?_⟩
  · obtain ⟨x, hx⟩ := get_ex h5
    have e : ∀ i : Nat, l[i]? = some x → ((l.take (i + 1)).filter fun x => decide (x ≠ own t' l)) = ((l.take i).filter fun x => decide (x ≠ own t' l)) ++ if x ≠ own t' l then [x] else [] := by
      intro i hx
      rw [← take_snoc hx, List.filter_append]
      congr 1
      by_cases h : x = own t' l <;> simp [h]
    simp (disch := first | omega | assumption | (simp only [List.length_cons, List.length_nil]; omega)) only [↓OP_len, ↓OP_len0, ↓OP_idx, ↓OP_drop, ↓OP_take, ↓OP_mid, ↓OP_all, ↓OP_isl, ↓OP_isl0, ↓OP_app, ↓OP_app0, ↓OP_appN, ↓OP_app00, ↓OP_rowI, ↓OP_rowI2, ↓OP_rowL, ↓OP_rowLL, ↓OP_rowI4, ↓OP_rowI8, ↓OP_lss, ↓OP_leq, ↓OP_gtr, ↓OP_geq, ↓OP_eql, ↓OP_neq, ↓OP_not, ↓OP_beq, ↓OP_bne, ↓OP_add, ↓OP_sub, ↓OP_mn, ↓OP_mx, ↓OP_sel, ↓OP_cu, ↓OP_remU, ↓OP_ci, ↓ITE_true, ↓ITE_false, ↓ITE_bool, decide_eq_true_eq, decide_eq_false_iff_not, Bool.not_eq_eq_eq_not, Bool.not_true, Bool.not_false, Bool.false_eq_true, Bool.true_eq_false, false_implies, true_implies, true_and, and_true, implies_true, not_true_eq_false, not_false_eq_true, app1, app2, app3, app4, cell0, look_z, look_s, rowI, rowB, rowL, ↓c_ring_Nearer, ↓c_route_Way, ↓c_law11_wakes, ↓c_law11_Some, ↓c_ring_Owner, cell_L hx]
    refine ⟨fun h6 => ⟨i + 1, by rw [e i hx]; simp [h6], by omega, by omega⟩, fun h6 => ⟨i + 1, by rw [e i hx]; simp [h6], by omega, by omega⟩⟩
  · rw [List.take_of_length_le (by omega)]
    have hm : ∀ x ∈ l.filter (fun x => decide (x ≠ own t' l)), x ∈ l ∧ x ≠ own t' l := by
      intro x hx; rw [List.mem_filter] at hx; exact ⟨hx.1, by simpa using hx.2⟩
    have hs2 : chkL (l.filter fun x => decide (x ≠ own t' l)) n = 0 := chkL_iff.2 ⟨fun x hx => hc.1 x (hm x hx).1, hc.2.1.filter _, hn⟩
    clear hlen
    generalize (l.filter fun x => decide (x ≠ own t' l)) = r at *
    have ha2 := asked_ok hT hs2
    have hc2 := chkL_iff.1 hs2
    have hne2 : r ≠ [] := by rintro rfl; simp at hn
    have ho2 := owner_ok hT hc2.1 hne2
    have hoo2 : own t' r = (owner t' r).1 := rfl
    have hr := hm _ ho2.2.1
    have hl1 := way_last hT hc.1 n hc.2.2
    have hl2 := way_last hT hc2.1 n hc2.2.2
    have h8 := way_len8 (t := t') (live := l) (n := n)
    have h82 := way_len8 (t := t') (live := r) (n := n)
    have hp1 : 0 < (way t' l n).length := by
      rw [List.length_pos_iff]; intro e
      rw [e] at hl1; exact hon hl1.symm
    have hx1 := pos_last (d := n) hp1
    rw [hl1] at hx1
    rw [← hoo2]
    refine SUB.v1 (bb false) ?_ ?_
    · simp only [ha, ha2, if_true, ho2.1]
      simp (disch := first | omega | assumption | (simp only [List.length_cons, List.length_nil]; omega)) only [↓OP_len, ↓OP_len0, ↓OP_idx, ↓OP_drop, ↓OP_take, ↓OP_mid, ↓OP_all, ↓OP_isl, ↓OP_isl0, ↓OP_app, ↓OP_app0, ↓OP_appN, ↓OP_app00, ↓OP_rowI, ↓OP_rowI2, ↓OP_rowL, ↓OP_rowLL, ↓OP_rowI4, ↓OP_rowI8, ↓OP_lss, ↓OP_leq, ↓OP_gtr, ↓OP_geq, ↓OP_eql, ↓OP_neq, ↓OP_not, ↓OP_beq, ↓OP_bne, ↓OP_add, ↓OP_sub, ↓OP_mn, ↓OP_mx, ↓OP_sel, ↓OP_cu, ↓OP_remU, ↓OP_ci, ↓ITE_true, ↓ITE_false, ↓ITE_bool, decide_eq_true_eq, decide_eq_false_iff_not, Bool.not_eq_eq_eq_not, Bool.not_true, Bool.not_false, Bool.false_eq_true, Bool.true_eq_false, false_implies, true_implies, true_and, and_true, implies_true, not_true_eq_false, not_false_eq_true, app1, app2, app3, app4, cell0, look_z, look_s, rowI, rowB, rowL, ↓c_ring_Nearer, ↓c_route_Way, ↓c_law11_wakes, ↓c_law11_Some, ↓c_ring_Owner]
      refine ⟨fun h => by omega, fun h => ?_⟩
      simp (disch := first | omega | assumption | (simp only [List.length_cons, List.length_nil]; omega)) only [↓OP_len, ↓OP_len0, ↓OP_idx, ↓OP_drop, ↓OP_take, ↓OP_mid, ↓OP_all, ↓OP_isl, ↓OP_isl0, ↓OP_app, ↓OP_app0, ↓OP_appN, ↓OP_app00, ↓OP_rowI, ↓OP_rowI2, ↓OP_rowL, ↓OP_rowLL, ↓OP_rowI4, ↓OP_rowI8, ↓OP_lss, ↓OP_leq, ↓OP_gtr, ↓OP_geq, ↓OP_eql, ↓OP_neq, ↓OP_not, ↓OP_beq, ↓OP_bne, ↓OP_add, ↓OP_sub, ↓OP_mn, ↓OP_mx, ↓OP_sel, ↓OP_cu, ↓OP_remU, ↓OP_ci, ↓ITE_true, ↓ITE_false, ↓ITE_bool, decide_eq_true_eq, decide_eq_false_iff_not, Bool.not_eq_eq_eq_not, Bool.not_true, Bool.not_false, Bool.false_eq_true, Bool.true_eq_false, false_implies, true_implies, true_and, and_true, implies_true, not_true_eq_false, not_false_eq_true, app1, app2, app3, app4, cell0, look_z, look_s, rowI, rowB, rowL, ↓c_ring_Nearer, ↓c_route_Way, ↓c_law11_wakes, ↓c_law11_Some, ↓c_ring_Owner, cell_Lz (show (0 : Int) ≤ (way t' l n).length - 1 by omega) hx1]
      simp [hr.2]
    simp only [ha2, if_true]
    simp (disch := first | omega | assumption | (simp only [List.length_cons, List.length_nil]; omega)) only [↓OP_len, ↓OP_len0, ↓OP_idx, ↓OP_drop, ↓OP_take, ↓OP_mid, ↓OP_all, ↓OP_isl, ↓OP_isl0, ↓OP_app, ↓OP_app0, ↓OP_appN, ↓OP_app00, ↓OP_rowI, ↓OP_rowI2, ↓OP_rowL, ↓OP_rowLL, ↓OP_rowI4, ↓OP_rowI8, ↓OP_lss, ↓OP_leq, ↓OP_gtr, ↓OP_geq, ↓OP_eql, ↓OP_neq, ↓OP_not, ↓OP_beq, ↓OP_bne, ↓OP_add, ↓OP_sub, ↓OP_mn, ↓OP_mx, ↓OP_sel, ↓OP_cu, ↓OP_remU, ↓OP_ci, ↓ITE_true, ↓ITE_false, ↓ITE_bool, decide_eq_true_eq, decide_eq_false_iff_not, Bool.not_eq_eq_eq_not, Bool.not_true, Bool.not_false, Bool.false_eq_true, Bool.true_eq_false, false_implies, true_implies, true_and, and_true, implies_true, not_true_eq_false, not_false_eq_true, app1, app2, app3, app4, cell0, look_z, look_s, rowI, rowB, rowL, ↓c_ring_Nearer, ↓c_route_Way, ↓c_law11_wakes, ↓c_law11_Some, ↓c_ring_Owner]
    refine ⟨fun h => ?_, fun h => ?_⟩
    · have : way t' r n = [] := way_nil ((next_none hT hc2.1 hn).2 h.symm)
      simp [this]
    · have hp2 : 0 < (way t' r n).length := by
        rw [List.length_pos_iff]; intro e
        rw [e] at hl2; exact h hl2.symm
      have hx2 := pos_last (d := n) hp2
      rw [hl2] at hx2
      have hnr : near t' (own t' l) (own t' r) = true := by
        rcases near_lin hT (hc.1 _ ho.2.1) (hc.1 _ hr.1) (fun e => hr.2 e.symm) with e | e
        · exact e
        · rw [ho.2.2 _ hr.1] at e; cases e
      simp (disch := first | omega | assumption | (simp only [List.length_cons, List.length_nil]; omega)) only [↓OP_len, ↓OP_len0, ↓OP_idx, ↓OP_drop, ↓OP_take, ↓OP_mid, ↓OP_all, ↓OP_isl, ↓OP_isl0, ↓OP_app, ↓OP_app0, ↓OP_appN, ↓OP_app00, ↓OP_rowI, ↓OP_rowI2, ↓OP_rowL, ↓OP_rowLL, ↓OP_rowI4, ↓OP_rowI8, ↓OP_lss, ↓OP_leq, ↓OP_gtr, ↓OP_geq, ↓OP_eql, ↓OP_neq, ↓OP_not, ↓OP_beq, ↓OP_bne, ↓OP_add, ↓OP_sub, ↓OP_mn, ↓OP_mx, ↓OP_sel, ↓OP_cu, ↓OP_remU, ↓OP_ci, ↓ITE_true, ↓ITE_false, ↓ITE_bool, decide_eq_true_eq, decide_eq_false_iff_not, Bool.not_eq_eq_eq_not, Bool.not_true, Bool.not_false, Bool.false_eq_true, Bool.true_eq_false, false_implies, true_implies, true_and, and_true, implies_true, not_true_eq_false, not_false_eq_true, app1, app2, app3, app4, cell0, look_z, look_s, rowI, rowB, rowL, ↓c_ring_Nearer, ↓c_route_Way, ↓c_law11_wakes, ↓c_law11_Some, ↓c_ring_Owner, cell_Lz (show (0 : Int) ≤ (way t' r n).length - 1 by omega) hx2, hnr]
      intro h; omega
theorem two_of {l : List Int} {n : Int} (h : l.Pairwise (· < ·)) (hn : n ∈ l) (h1 : l.length ≠ 1) : ∃ x ∈ l, x ≠ n := by
  match l, h1 with
  | [], _ => simp at hn
  | [a], h1 => simp at h1
  | a :: b :: r, _ =>
    rw [List.pairwise_cons] at h
    have := h.1 b (by simp)
    by_cases e : a = n
    · exact ⟨b, by simp, by omega⟩
    · exact ⟨a, by simp, e⟩
theorem betw_no {live : List Int} {n x : Int} (h : ∀ x ∈ live, isN x = true) (hx : x ∈ live) (hn : n ∈ live) (h1 : x ≠ n) : betw (nn (aheadN live n)) (nn x) (nn n) = false := by
  obtain ⟨a1, a2, a3⟩ := aheadN_min h ⟨x, hx, h1⟩
  have a4 := a3 x hx h1
  have k1 : nn (aheadN live n) ≠ nn n := fun e => a2 (nn_inj (h _ a1) (h _ hn) e)
  have k2 : nn x ≠ nn n := fun e => h1 (nn_inj (h _ hx) (h _ hn) e)
  unfold betw
  simp only [isK_nn, Bool.true_and]
  have b2 := nn_bd x
  have b3 := nn_bd n
  have b4 := nn_bd (aheadN live n)
  revert a4 k1 k2 b2 b3 b4
  generalize nn (aheadN live n) = a
  generalize nn n = s
  generalize nn x = y
  intro a4 k1 k2 b2 b3 b4
  have : ¬ a = s := k1
  simp only [this, decide_false, Bool.false_or, Bool.and_eq_false_iff, decide_eq_false_iff_not]
  simp only [far] at *
  by_cases e : y = a
  · left; subst e; simp
  · right
    intro hh
    repeat' split at a4
    all_goals repeat' split at hh
    all_goals omega
theorem fingers_pw (live : List Int) (n : Int) : (fingers live n).Pairwise (· < ·) := List.Pairwise.filter _ nodes_pw
theorem fingers_live {live : List Int} {n x : Int} (h : live ≠ []) (hx : x ∈ fingers live n) : x ∈ live ∧ x ≠ n := by
  unfold fingers at hx
  rw [List.mem_filter] at hx
  exact fingL_mem h (by simpa using hx.2)
theorem fingers_has {live : List Int} {n : Int} {i : Nat} (h : ∀ x ∈ live, isN x = true) (hl : live ≠ []) (hi : i < 62) (hn : firstN live (backN n i) ≠ n) : firstN live (backN n i) ∈ fingers live n := by
  unfold fingers
  rw [List.mem_filter]
  refine ⟨nodesL_mem.2 (h _ (firstN_mem hl)), ?_⟩
  simp only [fingL, List.contains_eq_mem, decide_eq_true_eq, List.mem_filter, List.mem_map, List.mem_range]
  exact ⟨⟨i, hi, rfl⟩, hn⟩
theorem w_law11_RouteKnows (bits : Int) (self : Int) (at_ : Int) : S_law11_RouteKnows ρ (I bits) (I self) (I at_) (· = [bb true]) := by
  unfold S_law11_RouteKnows
  simp (disch := first | omega | assumption | (simp only [List.length_cons, List.length_nil]; omega)) only [↓OP_len, ↓OP_len0, ↓OP_idx, ↓OP_drop, ↓OP_take, ↓OP_mid, ↓OP_all, ↓OP_isl, ↓OP_isl0, ↓OP_app, ↓OP_app0, ↓OP_appN, ↓OP_app00, ↓OP_rowI, ↓OP_rowI2, ↓OP_rowL, ↓OP_rowLL, ↓OP_rowI4, ↓OP_rowI8, ↓OP_lss, ↓OP_leq, ↓OP_gtr, ↓OP_geq, ↓OP_eql, ↓OP_neq, ↓OP_not, ↓OP_beq, ↓OP_bne, ↓OP_add, ↓OP_sub, ↓OP_mn, ↓OP_mx, ↓OP_sel, ↓OP_cu, ↓OP_remU, ↓OP_ci, ↓ITE_true, ↓ITE_false, ↓ITE_bool, decide_eq_true_eq, decide_eq_false_iff_not, Bool.not_eq_eq_eq_not, Bool.not_true, Bool.not_false, Bool.false_eq_true, Bool.true_eq_false, false_implies, true_implies, true_and, and_true, implies_true, not_true_eq_false, not_false_eq_true, app1, app2, app3, app4, cell0, look_z, look_s, rowI, rowB, rowL, ↓c_route_Ahead, ↓c_route_Fingers, ↓c_ref10_Nodes, ↓c_law11_wakes, ↓c_law11_Some, ↓c_ring_Node, ↓c_key_Between, ↓c_key_Back, ↓c_key_Behind]
  have hs := someN_ok bits self
  have hs8 : (someN bits self).1.length ≤ 8 := sg_len bits 8
  generalize (someN bits self).1 = l at hs hs8 ⊢
  generalize (someN bits self).2 = n at hs ⊢
  have hc := chkL_iff.1 hs
  have hne : l ≠ [] := by rintro rfl; simp at hc
  have hnN := hc.1 n hc.2.2
  refine ⟨fun h => absurd hs h, fun _ => ⟨fun h1 => ?_, fun h1 => ?_⟩⟩
  · have h2 : l = [n] := by
      match l, hc.2.2, h1 with
      | [a], hn, _ => simp at hn; rw [hn]
    have h3 : fingers l n = [] := by
      refine List.eq_nil_iff_forall_not_mem.2 fun x hx => ?_
      have := fingers_live hne hx
      rw [h2] at this; simp at this
    have h4 : aheadN l n = -1 := by
      rcases aheadN_mem l n with e | e
      · exact e
      · rw [h2] at e; simp at e
    simp [hs, h3, h4]
  obtain ⟨y, hy, hyn⟩ := two_of hc.2.1 hc.2.2 (by omega)
  obtain ⟨a1, a2, a3⟩ := aheadN_min hc.1 ⟨y, hy, hyn⟩
  have haN := hc.1 _ a1
  have ha0 := isN_iff.1 haN
  have e1 : max (aheadN l n) 0 = aheadN l n := by omega
  have e2 : ¬ aheadN l n < 0 := by omega
  have hsa := chkL_of hs a1
  simp only [hs, if_true, e1, e2, if_false, hnN, haN]
  refine SUB.v1 (bb false) ?_ ?_
  · simp (disch := first | omega | assumption | (simp only [List.length_cons, List.length_nil]; omega)) only [↓OP_len, ↓OP_len0, ↓OP_idx, ↓OP_drop, ↓OP_take, ↓OP_mid, ↓OP_all, ↓OP_isl, ↓OP_isl0, ↓OP_app, ↓OP_app0, ↓OP_appN, ↓OP_app00, ↓OP_rowI, ↓OP_rowI2, ↓OP_rowL, ↓OP_rowLL, ↓OP_rowI4, ↓OP_rowI8, ↓OP_lss, ↓OP_leq, ↓OP_gtr, ↓OP_geq, ↓OP_eql, ↓OP_neq, ↓OP_not, ↓OP_beq, ↓OP_bne, ↓OP_add, ↓OP_sub, ↓OP_mn, ↓OP_mx, ↓OP_sel, ↓OP_cu, ↓OP_remU, ↓OP_ci, ↓ITE_true, ↓ITE_false, ↓ITE_bool, decide_eq_true_eq, decide_eq_false_iff_not, Bool.not_eq_eq_eq_not, Bool.not_true, Bool.not_false, Bool.false_eq_true, Bool.true_eq_false, false_implies, true_implies, true_and, and_true, implies_true, not_true_eq_false, not_false_eq_true, app1, app2, app3, app4, cell0, look_z, look_s, rowI, rowB, rowL, ↓c_route_Ahead, ↓c_route_Fingers, ↓c_ref10_Nodes, ↓c_law11_wakes, ↓c_law11_Some, ↓c_ring_Node, ↓c_key_Between, ↓c_key_Back, ↓c_key_Behind]
    simp [a2, hsa]
  simp (disch := first | omega | assumption | (simp only [List.length_cons, List.length_nil]; omega)) only [↓OP_len, ↓OP_len0, ↓OP_idx, ↓OP_drop, ↓OP_take, ↓OP_mid, ↓OP_all, ↓OP_isl, ↓OP_isl0, ↓OP_app, ↓OP_app0, ↓OP_appN, ↓OP_app00, ↓OP_rowI, ↓OP_rowI2, ↓OP_rowL, ↓OP_rowLL, ↓OP_rowI4, ↓OP_rowI8, ↓OP_lss, ↓OP_leq, ↓OP_gtr, ↓OP_geq, ↓OP_eql, ↓OP_neq, ↓OP_not, ↓OP_beq, ↓OP_bne, ↓OP_add, ↓OP_sub, ↓OP_mn, ↓OP_mx, ↓OP_sel, ↓OP_cu, ↓OP_remU, ↓OP_ci, ↓ITE_true, ↓ITE_false, ↓ITE_bool, decide_eq_true_eq, decide_eq_false_iff_not, Bool.not_eq_eq_eq_not, Bool.not_true, Bool.not_false, Bool.false_eq_true, Bool.true_eq_false, false_implies, true_implies, true_and, and_true, implies_true, not_true_eq_false, not_false_eq_true, app1, app2, app3, app4, cell0, look_z, look_s, rowI, rowB, rowL, ↓c_route_Ahead, ↓c_route_Fingers, ↓c_ref10_Nodes, ↓c_law11_wakes, ↓c_law11_Some, ↓c_ring_Node, ↓c_key_Between, ↓c_key_Back, ↓c_key_Behind]
  refine LOOP.rule (α := Nat) (fun i => [I i]) (fun i => i ≤ l.length) (fun i => l.length - i) 0 rfl (by simp) (fun _ => rfl) ?_
  intro i h4
  simp only [app]
  simp (disch := first | omega | assumption | (simp only [List.length_cons, List.length_nil]; omega)) only [↓OP_len, ↓OP_len0, ↓OP_idx, ↓OP_drop, ↓OP_take, ↓OP_mid, ↓OP_all, ↓OP_isl, ↓OP_isl0, ↓OP_app, ↓OP_app0, ↓OP_appN, ↓OP_app00, ↓OP_rowI, ↓OP_rowI2, ↓OP_rowL, ↓OP_rowLL, ↓OP_rowI4, ↓OP_rowI8, ↓OP_lss, ↓OP_leq, ↓OP_gtr, ↓OP_geq, ↓OP_eql, ↓OP_neq, ↓OP_not, ↓OP_beq, ↓OP_bne, ↓OP_add, ↓OP_sub, ↓OP_mn, ↓OP_mx, ↓OP_sel, ↓OP_cu, ↓OP_remU, ↓OP_ci, ↓ITE_true, ↓ITE_false, ↓ITE_bool, decide_eq_true_eq, decide_eq_false_iff_not, Bool.not_eq_eq_eq_not, Bool.not_true, Bool.not_false, Bool.false_eq_true, Bool.true_eq_false, false_implies, true_implies, true_and, and_true, implies_true, not_true_eq_false, not_false_eq_true, app1, app2, app3, app4, cell0, look_z, look_s, rowI, rowB, rowL, ↓c_route_Ahead, ↓c_route_Fingers, ↓c_ref10_Nodes, ↓c_law11_wakes, ↓c_law11_Some, ↓c_ring_Node, ↓c_key_Between, ↓c_key_Back, ↓c_key_Behind]
  refine ⟨fun h5 => ?_, fun h5 => ?_⟩
  · obtain ⟨x, hx⟩ := get_ex h5
    have hxl := List.mem_of_getElem? hx
    have hxN := hc.1 x hxl
    simp (disch := first | omega | assumption | (simp only [List.length_cons, List.length_nil]; omega)) only [↓OP_len, ↓OP_len0, ↓OP_idx, ↓OP_drop, ↓OP_take, ↓OP_mid, ↓OP_all, ↓OP_isl, ↓OP_isl0, ↓OP_app, ↓OP_app0, ↓OP_appN, ↓OP_app00, ↓OP_rowI, ↓OP_rowI2, ↓OP_rowL, ↓OP_rowLL, ↓OP_rowI4, ↓OP_rowI8, ↓OP_lss, ↓OP_leq, ↓OP_gtr, ↓OP_geq, ↓OP_eql, ↓OP_neq, ↓OP_not, ↓OP_beq, ↓OP_bne, ↓OP_add, ↓OP_sub, ↓OP_mn, ↓OP_mx, ↓OP_sel, ↓OP_cu, ↓OP_remU, ↓OP_ci, ↓ITE_true, ↓ITE_false, ↓ITE_bool, decide_eq_true_eq, decide_eq_false_iff_not, Bool.not_eq_eq_eq_not, Bool.not_true, Bool.not_false, Bool.false_eq_true, Bool.true_eq_false, false_implies, true_implies, true_and, and_true, implies_true, not_true_eq_false, not_false_eq_true, app1, app2, app3, app4, cell0, look_z, look_s, rowI, rowB, rowL, ↓c_route_Ahead, ↓c_route_Fingers, ↓c_ref10_Nodes, ↓c_law11_wakes, ↓c_law11_Some, ↓c_ring_Node, ↓c_key_Between, ↓c_key_Back, ↓c_key_Behind, cell_L hx, hxN, if_true]
    have hno : x ≠ n → betw (nn (aheadN l n)) (nn x) (nn n) = false := betw_no hc.1 hxl hc.2.2
    refine ⟨fun h6 => ⟨fun h7 => ?_, fun h7 => ⟨i + 1, by simp, by omega, by omega⟩⟩, fun h6 => ⟨i + 1, by simp, by omega, by omega⟩⟩
    rw [hno h6]
    exact ⟨fun h => by simp at h, fun _ => ⟨i + 1, by simp, by omega, by omega⟩⟩
  · have hu := u64_bd at_
    have eb : (isK (nn n) && decide (0 ≤ u64 at_ % 62) && decide (u64 at_ % 62 ≤ 61)) = true := by simp [isK_nn]; omega
    have hi : (u64 at_ % 62).toNat < 62 := by omega
    simp only [eb, if_true]
    have hbk := backN_bd n hi
    have ebk : far (2 ^ (u64 at_ % 62).toNat) (nn n) = backN n (u64 at_ % 62).toNat := rfl
    rw [ebk]
    have hfh := fingers_has (n := n) hc.1 hne hi
    generalize (backN n (u64 at_ % 62).toNat) = k at hbk hfh ⊢
    have hK : isK k = true := isK_iff.2 hbk
    clear eb hi hu ebk
    obtain ⟨z, hz⟩ := get_ex (xs := l) (i := 0) (by have := List.length_pos_iff.2 hne; omega)
    have hzN := hc.1 z (List.mem_of_getElem? hz)
    have hz2 : l = z :: l.drop 1 := by have := drop_eq hz; simpa using this
    have hfz : firstGo k z (far k (nn z)) (l.drop 1) = firstN l k := by
      unfold firstN
      conv => rhs; rw [hz2]
      simp [firstGo]
    rw [OP_idx (by omega) (by have := List.length_pos_iff.2 hne; omega), cell_Lz (n := 0) (by omega) hz]
    simp only [rowI, look_z]
    refine LOOP.rule (α := Nat × Int) (fun a => [I a.2, I a.1]) (fun a => a.1 ≤ l.length ∧ isN a.2 = true ∧ firstGo k a.2 (far k (nn a.2)) (l.drop a.1) = firstN l k) (fun a => l.length - a.1) (1, z) rfl ⟨by have := List.length_pos_iff.2 hne; omega, hzN, hfz⟩ (fun _ => rfl) ?_
    rintro ⟨j, b⟩ ⟨g1, g2, g3⟩
    simp only [app] at *
    simp (disch := first | omega | assumption | (simp only [List.length_cons, List.length_nil]; omega)) only [↓OP_len, ↓OP_len0, ↓OP_idx, ↓OP_drop, ↓OP_take, ↓OP_mid, ↓OP_all, ↓OP_isl, ↓OP_isl0, ↓OP_app, ↓OP_app0, ↓OP_appN, ↓OP_app00, ↓OP_rowI, ↓OP_rowI2, ↓OP_rowL, ↓OP_rowLL, ↓OP_rowI4, ↓OP_rowI8, ↓OP_lss, ↓OP_leq, ↓OP_gtr, ↓OP_geq, ↓OP_eql, ↓OP_neq, ↓OP_not, ↓OP_beq, ↓OP_bne, ↓OP_add, ↓OP_sub, ↓OP_mn, ↓OP_mx, ↓OP_sel, ↓OP_cu, ↓OP_remU, ↓OP_ci, ↓ITE_true, ↓ITE_false, ↓ITE_bool, decide_eq_true_eq, decide_eq_false_iff_not, Bool.not_eq_eq_eq_not, Bool.not_true, Bool.not_false, Bool.false_eq_true, Bool.true_eq_false, false_implies, true_implies, true_and, and_true, implies_true, not_true_eq_false, not_false_eq_true, app1, app2, app3, app4, cell0, look_z, look_s, rowI, rowB, rowL, ↓c_route_Ahead, ↓c_route_Fingers, ↓c_ref10_Nodes, ↓c_law11_wakes, ↓c_law11_Some, ↓c_ring_Node, ↓c_key_Between, ↓c_key_Back, ↓c_key_Behind]
    refine ⟨fun g5 => ?_, fun g5 => ?_⟩
    · obtain ⟨x, hx⟩ := get_ex g5
      have hxN := hc.1 x (List.mem_of_getElem? hx)
      have gb2 := isN_iff.1 g2
      rw [drop_eq hx, firstGo] at g3
      have gb3 : ¬ b < 0 := by omega
      simp only [gb3, false_or] at g3
      simp (disch := first | omega | assumption | (simp only [List.length_cons, List.length_nil]; omega)) only [↓OP_len, ↓OP_len0, ↓OP_idx, ↓OP_drop, ↓OP_take, ↓OP_mid, ↓OP_all, ↓OP_isl, ↓OP_isl0, ↓OP_app, ↓OP_app0, ↓OP_appN, ↓OP_app00, ↓OP_rowI, ↓OP_rowI2, ↓OP_rowL, ↓OP_rowLL, ↓OP_rowI4, ↓OP_rowI8, ↓OP_lss, ↓OP_leq, ↓OP_gtr, ↓OP_geq, ↓OP_eql, ↓OP_neq, ↓OP_not, ↓OP_beq, ↓OP_bne, ↓OP_add, ↓OP_sub, ↓OP_mn, ↓OP_mx, ↓OP_sel, ↓OP_cu, ↓OP_remU, ↓OP_ci, ↓ITE_true, ↓ITE_false, ↓ITE_bool, decide_eq_true_eq, decide_eq_false_iff_not, Bool.not_eq_eq_eq_not, Bool.not_true, Bool.not_false, Bool.false_eq_true, Bool.true_eq_false, false_implies, true_implies, true_and, and_true, implies_true, not_true_eq_false, not_false_eq_true, app1, app2, app3, app4, cell0, look_z, look_s, rowI, rowB, rowL, ↓c_route_Ahead, ↓c_route_Fingers, ↓c_ref10_Nodes, ↓c_law11_wakes, ↓c_law11_Some, ↓c_ring_Node, ↓c_key_Between, ↓c_key_Back, ↓c_key_Behind, cell_L hx, hxN, g2, if_true, hK, isK_nn, Bool.and_self]
      refine ⟨fun g6 => ⟨(j + 1, x), by simp, ⟨by simp; omega, hxN, by simpa [g6] using g3⟩, by simp; omega⟩, fun g6 => ⟨(j + 1, b), by simp, ⟨by simp; omega, g2, by simpa [g6] using g3⟩, by simp; omega⟩⟩
    · rw [drop_nil g5, firstGo] at g3
      have hmet : (decide (b = n) || (fingers l n).contains b) = true := by
        by_cases e : b = n
        · simp [e]
        · have := hfh (by rw [← g3]; exact e)
          rw [← g3] at this
          simp [this]
      have hpw := fingers_pw l n
      have hfl := fun x => fingers_live (n := n) (x := x) hne
      have hf8 := fingers_len l n
      clear hfh
      generalize fingers l n = f at *
      refine LOOP.rule (α := Nat) (fun i => [bb (decide (b = n) || (f.take i).contains b), I i]) (fun i => i ≤ f.length) (fun i => f.length - i) 0 (by simp) (by simp) (fun _ => rfl) ?_
      intro i g6
      simp only [app]
      simp (disch := first | omega | assumption | (simp only [List.length_cons, List.length_nil]; omega)) only [↓OP_len, ↓OP_len0, ↓OP_idx, ↓OP_drop, ↓OP_take, ↓OP_mid, ↓OP_all, ↓OP_isl, ↓OP_isl0, ↓OP_app, ↓OP_app0, ↓OP_appN, ↓OP_app00, ↓OP_rowI, ↓OP_rowI2, ↓OP_rowL, ↓OP_rowLL, ↓OP_rowI4, ↓OP_rowI8, ↓OP_lss, ↓OP_leq, ↓OP_gtr, ↓OP_geq, ↓OP_eql, ↓OP_neq, ↓OP_not, ↓OP_beq, ↓OP_bne, ↓OP_add, ↓OP_sub, ↓OP_mn, ↓OP_mx, ↓OP_sel, ↓OP_cu, ↓OP_remU, ↓OP_ci, ↓ITE_true, ↓ITE_false, ↓ITE_bool, decide_eq_true_eq, decide_eq_false_iff_not, Bool.not_eq_eq_eq_not, Bool.not_true, Bool.not_false, Bool.false_eq_true, Bool.true_eq_false, false_implies, true_implies, true_and, and_true, implies_true, not_true_eq_false, not_false_eq_true, app1, app2, app3, app4, cell0, look_z, look_s, rowI, rowB, rowL, ↓c_route_Ahead, ↓c_route_Fingers, ↓c_ref10_Nodes, ↓c_law11_wakes, ↓c_law11_Some, ↓c_ring_Node, ↓c_key_Between, ↓c_key_Back, ↓c_key_Behind]
      refine ⟨fun g7 => ?_, fun g7 => ?_⟩
      · obtain ⟨x, hx⟩ := get_ex g7
        have hcn := take_cont (n := b) hx
        have hxl := hfl x (List.mem_of_getElem? hx)
        have hsx := chkL_of hs hxl.1
        simp (disch := first | omega | assumption | (simp only [List.length_cons, List.length_nil]; omega)) only [↓OP_len, ↓OP_len0, ↓OP_idx, ↓OP_drop, ↓OP_take, ↓OP_mid, ↓OP_all, ↓OP_isl, ↓OP_isl0, ↓OP_app, ↓OP_app0, ↓OP_appN, ↓OP_app00, ↓OP_rowI, ↓OP_rowI2, ↓OP_rowL, ↓OP_rowLL, ↓OP_rowI4, ↓OP_rowI8, ↓OP_lss, ↓OP_leq, ↓OP_gtr, ↓OP_geq, ↓OP_eql, ↓OP_neq, ↓OP_not, ↓OP_beq, ↓OP_bne, ↓OP_add, ↓OP_sub, ↓OP_mn, ↓OP_mx, ↓OP_sel, ↓OP_cu, ↓OP_remU, ↓OP_ci, ↓ITE_true, ↓ITE_false, ↓ITE_bool, decide_eq_true_eq, decide_eq_false_iff_not, Bool.not_eq_eq_eq_not, Bool.not_true, Bool.not_false, Bool.false_eq_true, Bool.true_eq_false, false_implies, true_implies, true_and, and_true, implies_true, not_true_eq_false, not_false_eq_true, app1, app2, app3, app4, cell0, look_z, look_s, rowI, rowB, rowL, ↓c_route_Ahead, ↓c_route_Fingers, ↓c_ref10_Nodes, ↓c_law11_wakes, ↓c_law11_Some, ↓c_ring_Node, ↓c_key_Between, ↓c_key_Back, ↓c_key_Behind, cell_L hx]
        refine ⟨fun h => absurd h hxl.2, fun _ => ⟨fun h => absurd hsx h, fun _ => ⟨fun g8 => ?_, fun g8 => ?_⟩⟩⟩
        · obtain ⟨j, rfl⟩ : ∃ j, i = j + 1 := ⟨i - 1, by omega⟩
          have hj : (((j + 1 : Nat) : Int) - 1) = (j : Nat) := by omega
          obtain ⟨w, hw⟩ := get_ex (xs := f) (i := j) (by omega)
          rw [hj]
          simp (disch := first | omega | assumption | (simp only [List.length_cons, List.length_nil]; omega)) only [↓OP_len, ↓OP_len0, ↓OP_idx, ↓OP_drop, ↓OP_take, ↓OP_mid, ↓OP_all, ↓OP_isl, ↓OP_isl0, ↓OP_app, ↓OP_app0, ↓OP_appN, ↓OP_app00, ↓OP_rowI, ↓OP_rowI2, ↓OP_rowL, ↓OP_rowLL, ↓OP_rowI4, ↓OP_rowI8, ↓OP_lss, ↓OP_leq, ↓OP_gtr, ↓OP_geq, ↓OP_eql, ↓OP_neq, ↓OP_not, ↓OP_beq, ↓OP_bne, ↓OP_add, ↓OP_sub, ↓OP_mn, ↓OP_mx, ↓OP_sel, ↓OP_cu, ↓OP_remU, ↓OP_ci, ↓ITE_true, ↓ITE_false, ↓ITE_bool, decide_eq_true_eq, decide_eq_false_iff_not, Bool.not_eq_eq_eq_not, Bool.not_true, Bool.not_false, Bool.false_eq_true, Bool.true_eq_false, false_implies, true_implies, true_and, and_true, implies_true, not_true_eq_false, not_false_eq_true, app1, app2, app3, app4, cell0, look_z, look_s, rowI, rowB, rowL, ↓c_route_Ahead, ↓c_route_Fingers, ↓c_ref10_Nodes, ↓c_law11_wakes, ↓c_law11_Some, ↓c_ring_Node, ↓c_key_Between, ↓c_key_Back, ↓c_key_Behind, cell_L hx, cell_L hw]
          have hlt : w < x := by
            obtain ⟨q1, q2⟩ := List.getElem?_eq_some_iff.1 hx
            obtain ⟨q3, q4⟩ := List.getElem?_eq_some_iff.1 hw
            rw [← q2, ← q4]
            exact List.pairwise_iff_getElem.1 hpw j (j + 1) q3 q1 (by omega)
          refine ⟨fun h => by omega, fun _ => ⟨fun h => ⟨j + 2, ?_, by omega, by omega⟩, fun h => ⟨j + 2, ?_, by omega, by omega⟩⟩⟩
          · rw [hcn, ← Bool.or_assoc, h]; simp; omega
          · rw [hcn, ← Bool.or_assoc, h]; simp; omega
        · refine ⟨fun h => ⟨i + 1, ?_, by omega, by omega⟩, fun h => ⟨i + 1, ?_, by omega, by omega⟩⟩
          · rw [hcn, ← Bool.or_assoc, h]; simp
          · rw [hcn, ← Bool.or_assoc, h]; simp
      · rw [List.take_of_length_le (by omega), hmet]
        simp
theorem w_law12_PathRoute (t : Int) (bits : Int) (self : Int) (depth : Int) : S_law12_PathRoute ρ (I t) (I bits) (I self) (I depth) (· = [bb true]) := by
  unfold S_law12_PathRoute
  have ht := u64_bd t
  have hd := u64_bd depth
  simp (disch := first | omega | assumption | (simp only [List.length_cons, List.length_nil]; omega)) only [↓OP_len, ↓OP_len0, ↓OP_idx, ↓OP_drop, ↓OP_take, ↓OP_mid, ↓OP_all, ↓OP_isl, ↓OP_isl0, ↓OP_app, ↓OP_app0, ↓OP_appN, ↓OP_app00, ↓OP_rowI, ↓OP_rowI2, ↓OP_rowL, ↓OP_rowLL, ↓OP_rowI4, ↓OP_rowI8, ↓OP_lss, ↓OP_leq, ↓OP_gtr, ↓OP_geq, ↓OP_eql, ↓OP_neq, ↓OP_not, ↓OP_beq, ↓OP_bne, ↓OP_add, ↓OP_sub, ↓OP_mn, ↓OP_mx, ↓OP_sel, ↓OP_cu, ↓OP_remU, ↓OP_ci, ↓ITE_true, ↓ITE_false, ↓ITE_bool, decide_eq_true_eq, decide_eq_false_iff_not, Bool.not_eq_eq_eq_not, Bool.not_true, Bool.not_false, Bool.false_eq_true, Bool.true_eq_false, false_implies, true_implies, true_and, and_true, implies_true, not_true_eq_false, not_false_eq_true, app1, app2, app3, app4, cell0, look_z, look_s, rowI, rowB, rowL, ↓c_path_Add, ↓c_bkeep_Ints, ↓c_path_Check, ↓c_law12_wakes, ↓c_route_Way, ↓c_law11_Some]
  have hT : isT (u64 t % 4) = true := isT_iff.2 ⟨by omega, by omega⟩
  generalize u64 t % 4 = t' at hT ⊢
  have hs := someN_ok bits self
  generalize (someN bits self).1 = l at hs ⊢
  generalize (someN bits self).2 = n at hs ⊢
  have ha := asked_ok hT hs
  have hc := chkL_iff.1 hs
  have hne : l ≠ [] := by rintro rfl; simp at hc
  have h8 := way_len8 (t := t') (live := l) (n := n)
  have hm := way_mem (t := t') hne n
  have hdr := way_drop (t := t') (live := l) n
  have hri := fun x => way_rises (t := t') (live := l) x
  simp only [ha, if_true]
  refine ⟨fun h => absurd trivial h, fun _ => ?_⟩
  have hall : ∀ x, (way t' l x).all isN = true := by
    intro x; rw [List.all_eq_true]; intro y hy
    exact hc.1 y (way_mem hne x y hy).1
  have hchk : ∀ x c, isN x = true → 1 ≤ c → c ≤ 8 → chk t' x (way t' l x) c = if ((way t' l x).length : Int) > c then 12 else 0 := by
    intro x c h1 h2 h3
    unfold chk
    rw [if_pos (by simp only [hT, h1, hall, Bool.and_true, Bool.true_and, Bool.and_eq_true, decide_eq_true_eq]; exact ⟨h2, h3⟩), hri x, if_pos rfl]
  have hnN := hc.1 n hc.2.2
  refine SUB.v1 (I (if 1 + u64 depth % 8 < ((way t' l n).length : Int) then 12 else 0)) ?_ ?_
  · refine ⟨fun h => by simp [h], fun h => by simp [h]⟩
  refine SUB.v1 (bb false) ?_ ?_
  · rw [hchk n _ hnN (by omega) (by omega), hchk n 8 hnN (by omega) (by omega)]
    simp (disch := first | omega | assumption | (simp only [List.length_cons, List.length_nil]; omega)) only [↓OP_len, ↓OP_len0, ↓OP_idx, ↓OP_drop, ↓OP_take, ↓OP_mid, ↓OP_all, ↓OP_isl, ↓OP_isl0, ↓OP_app, ↓OP_app0, ↓OP_appN, ↓OP_app00, ↓OP_rowI, ↓OP_rowI2, ↓OP_rowL, ↓OP_rowLL, ↓OP_rowI4, ↓OP_rowI8, ↓OP_lss, ↓OP_leq, ↓OP_gtr, ↓OP_geq, ↓OP_eql, ↓OP_neq, ↓OP_not, ↓OP_beq, ↓OP_bne, ↓OP_add, ↓OP_sub, ↓OP_mn, ↓OP_mx, ↓OP_sel, ↓OP_cu, ↓OP_remU, ↓OP_ci, ↓ITE_true, ↓ITE_false, ↓ITE_bool, decide_eq_true_eq, decide_eq_false_iff_not, Bool.not_eq_eq_eq_not, Bool.not_true, Bool.not_false, Bool.false_eq_true, Bool.true_eq_false, false_implies, true_implies, true_and, and_true, implies_true, not_true_eq_false, not_false_eq_true, app1, app2, app3, app4, cell0, look_z, look_s, rowI, rowB, rowL, ↓c_path_Add, ↓c_bkeep_Ints, ↓c_path_Check, ↓c_law12_wakes, ↓c_route_Way, ↓c_law11_Some]
    simp; omega
  simp (disch := first | omega | assumption | (simp only [List.length_cons, List.length_nil]; omega)) only [↓OP_len, ↓OP_len0, ↓OP_idx, ↓OP_drop, ↓OP_take, ↓OP_mid, ↓OP_all, ↓OP_isl, ↓OP_isl0, ↓OP_app, ↓OP_app0, ↓OP_appN, ↓OP_app00, ↓OP_rowI, ↓OP_rowI2, ↓OP_rowL, ↓OP_rowLL, ↓OP_rowI4, ↓OP_rowI8, ↓OP_lss, ↓OP_leq, ↓OP_gtr, ↓OP_geq, ↓OP_eql, ↓OP_neq, ↓OP_not, ↓OP_beq, ↓OP_bne, ↓OP_add, ↓OP_sub, ↓OP_mn, ↓OP_mx, ↓OP_sel, ↓OP_cu, ↓OP_remU, ↓OP_ci, ↓ITE_true, ↓ITE_false, ↓ITE_bool, decide_eq_true_eq, decide_eq_false_iff_not, Bool.not_eq_eq_eq_not, Bool.not_true, Bool.not_false, Bool.false_eq_true, Bool.true_eq_false, false_implies, true_implies, true_and, and_true, implies_true, not_true_eq_false, not_false_eq_true, app1, app2, app3, app4, cell0, look_z, look_s, rowI, rowB, rowL, ↓c_path_Add, ↓c_bkeep_Ints, ↓c_path_Check, ↓c_law12_wakes, ↓c_route_Way, ↓c_law11_Some]
  refine LOOP.rule (α := Nat) (fun i => [I i]) (fun i => i ≤ (way t' l n).length) (fun i => (way t' l n).length - i) 0 rfl (by simp) (fun _ => rfl) ?_
  intro i h4
  simp only [app]
  simp (disch := first | omega | assumption | (simp only [List.length_cons, List.length_nil]; omega)) only [↓OP_len, ↓OP_len0, ↓OP_idx, ↓OP_drop, ↓OP_take, ↓OP_mid, ↓OP_all, ↓OP_isl, ↓OP_isl0, ↓OP_app, ↓OP_app0, ↓OP_appN, ↓OP_app00, ↓OP_rowI, ↓OP_rowI2, ↓OP_rowL, ↓OP_rowLL, ↓OP_rowI4, ↓OP_rowI8, ↓OP_lss, ↓OP_leq, ↓OP_gtr, ↓OP_geq, ↓OP_eql, ↓OP_neq, ↓OP_not, ↓OP_beq, ↓OP_bne, ↓OP_add, ↓OP_sub, ↓OP_mn, ↓OP_mx, ↓OP_sel, ↓OP_cu, ↓OP_remU, ↓OP_ci, ↓ITE_true, ↓ITE_false, ↓ITE_bool, decide_eq_true_eq, decide_eq_false_iff_not, Bool.not_eq_eq_eq_not, Bool.not_true, Bool.not_false, Bool.false_eq_true, Bool.true_eq_false, false_implies, true_implies, true_and, and_true, implies_true, not_true_eq_false, not_false_eq_true, app1, app2, app3, app4, cell0, look_z, look_s, rowI, rowB, rowL, ↓c_path_Add, ↓c_bkeep_Ints, ↓c_path_Check, ↓c_law12_wakes, ↓c_route_Way, ↓c_law11_Some]
  intro h5
  obtain ⟨x, hx⟩ := get_ex h5
  have hxm := hm x (List.mem_of_getElem? hx)
  have hxN := hc.1 x hxm.1
  have hd2 := hdr i x hx
  have hd3 := drop_eq hx
  have hl7 : (way t' l x).length < 8 := by rw [← hd2, List.length_drop]; omega
  have ec := hchk x 8 hxN (by omega) (by omega)
  rw [if_neg (by omega)] at ec
  have ea : addP t' x (way t' l x) = (x :: way t' l x, 0) := by
    unfold addP
    rw [if_pos ec, if_neg (by omega)]
  have en : near t' n x = false := by
    cases e : near t' n x with
    | false => rfl
    | true => exact absurd rfl (near_ne (near_trans e hxm.2))
  have e1 : chk t' x [n] 8 = 1 := by
    simp [chk, hT, hxN, hnN, rises, en]
  have e3 : ((i : Int) + 1).toNat = i + 1 := by omega
  simp (disch := first | omega | assumption | (simp only [List.length_cons, List.length_nil]; omega)) only [↓OP_len, ↓OP_len0, ↓OP_idx, ↓OP_drop, ↓OP_take, ↓OP_mid, ↓OP_all, ↓OP_isl, ↓OP_isl0, ↓OP_app, ↓OP_app0, ↓OP_appN, ↓OP_app00, ↓OP_rowI, ↓OP_rowI2, ↓OP_rowL, ↓OP_rowLL, ↓OP_rowI4, ↓OP_rowI8, ↓OP_lss, ↓OP_leq, ↓OP_gtr, ↓OP_geq, ↓OP_eql, ↓OP_neq, ↓OP_not, ↓OP_beq, ↓OP_bne, ↓OP_add, ↓OP_sub, ↓OP_mn, ↓OP_mx, ↓OP_sel, ↓OP_cu, ↓OP_remU, ↓OP_ci, ↓ITE_true, ↓ITE_false, ↓ITE_bool, decide_eq_true_eq, decide_eq_false_iff_not, Bool.not_eq_eq_eq_not, Bool.not_true, Bool.not_false, Bool.false_eq_true, Bool.true_eq_false, false_implies, true_implies, true_and, and_true, implies_true, not_true_eq_false, not_false_eq_true, app1, app2, app3, app4, cell0, look_z, look_s, rowI, rowB, rowL, ↓c_path_Add, ↓c_bkeep_Ints, ↓c_path_Check, ↓c_law12_wakes, ↓c_route_Way, ↓c_law11_Some, cell_L hx, e3, hd2, ec, ea, e1, Int.toNat_natCast, hd3]
  exact ⟨i + 1, by simp, by omega, by omega⟩
end Go.Xt
