/- Steps towards the statements of this seat; the conditions stand in each theorem. -/
import Derived.Test.YtfcihgjageeglaaW6
set_option linter.unusedSimpArgs false
set_option linter.unusedVariables false
set_option maxRecDepth 100000
namespace Go.Xt
theorem take_cont {xs : List Int} {i : Nat} {x n : Int} (h : xs[i]? = some x) : (xs.take (i + 1)).contains n = ((xs.take i).contains n || decide (x = n)) := by
  rw [← take_snoc h, Bool.eq_iff_iff]
  simp only [List.contains_eq_mem, decide_eq_true_eq, Bool.or_eq_true, List.mem_append, List.mem_singleton]
  exact or_congr Iff.rfl eq_comm
theorem w_ref10_Nodes (live : List Int) (self : Int) (hg : Goods [L live, I self]) : S_ref10_Nodes ρ (L live) (I self) (· = [bb (decide (chkL live self = 0))]) := by
  unfold S_ref10_Nodes
  simp only [Goods, good_L] at hg
  refine LOOP.rule (α := Nat) (fun i => [bb ((live.take i).contains self), I i]) (fun i => i ≤ live.length ∧ okFrom (((live.take i).getLastD (-1))) (live.drop i) = okFrom (-1) live) (fun i => live.length - i) 0 (by simp) ⟨by simp, by simp⟩ (fun _ => rfl) ?_
  rintro i ⟨h4, h5⟩
  simp only [app] at *
  simp (disch := first | omega | assumption | (simp only [List.length_cons, List.length_nil]; omega)) only [↓OP_len, ↓OP_len0, ↓OP_idx, ↓OP_drop, ↓OP_take, ↓OP_mid, ↓OP_all, ↓OP_isl, ↓OP_isl0, ↓OP_app, ↓OP_app0, ↓OP_appN, ↓OP_app00, ↓OP_rowI, ↓OP_rowI2, ↓OP_rowL, ↓OP_rowLL, ↓OP_rowI4, ↓OP_rowI8, ↓OP_lss, ↓OP_leq, ↓OP_gtr, ↓OP_geq, ↓OP_eql, ↓OP_neq, ↓OP_not, ↓OP_beq, ↓OP_bne, ↓OP_add, ↓OP_sub, ↓OP_mn, ↓OP_mx, ↓OP_sel, ↓OP_cu, ↓OP_remU, ↓OP_ci, ↓ITE_true, ↓ITE_false, ↓ITE_bool, decide_eq_true_eq, decide_eq_false_iff_not, Bool.not_eq_eq_eq_not, Bool.not_true, Bool.not_false, Bool.false_eq_true, Bool.true_eq_false, false_implies, true_implies, true_and, and_true, implies_true, not_true_eq_false, not_false_eq_true, app1, app2, app3, app4, cell0, look_z, look_s, rowI, rowB, rowL, ↓c_ref01_IsNode]
  have hc : okFrom (-1) live = false → decide (chkL live self = 0) = false := by
    intro h; simp [chkL, h]
  refine ⟨fun h6 => ?_, fun h6 => ?_⟩
  · obtain ⟨x, hx⟩ := get_ex h6
    rw [drop_eq hx, okFrom] at h5
    have ht := take_cont (n := self) hx
    simp (disch := first | omega | assumption | (simp only [List.length_cons, List.length_nil]; omega)) only [↓OP_len, ↓OP_len0, ↓OP_idx, ↓OP_drop, ↓OP_take, ↓OP_mid, ↓OP_all, ↓OP_isl, ↓OP_isl0, ↓OP_app, ↓OP_app0, ↓OP_appN, ↓OP_app00, ↓OP_rowI, ↓OP_rowI2, ↓OP_rowL, ↓OP_rowLL, ↓OP_rowI4, ↓OP_rowI8, ↓OP_lss, ↓OP_leq, ↓OP_gtr, ↓OP_geq, ↓OP_eql, ↓OP_neq, ↓OP_not, ↓OP_beq, ↓OP_bne, ↓OP_add, ↓OP_sub, ↓OP_mn, ↓OP_mx, ↓OP_sel, ↓OP_cu, ↓OP_remU, ↓OP_ci, ↓ITE_true, ↓ITE_false, ↓ITE_bool, decide_eq_true_eq, decide_eq_false_iff_not, Bool.not_eq_eq_eq_not, Bool.not_true, Bool.not_false, Bool.false_eq_true, Bool.true_eq_false, false_implies, true_implies, true_and, and_true, implies_true, not_true_eq_false, not_false_eq_true, app1, app2, app3, app4, cell0, look_z, look_s, rowI, rowB, rowL, ↓c_ref01_IsNode, cell_L hx]
    refine ⟨fun h7 => ?_, fun h7 => ⟨fun h8 => ?_, fun h8 => ?_⟩⟩
    · rw [hc]; rw [← h5]; simp [h7]
    · obtain ⟨j, rfl⟩ : ∃ j, i = j + 1 := ⟨i - 1, by omega⟩
      have hj : (((j + 1 : Nat) : Int) - 1) = (j : Nat) := by omega
      obtain ⟨y, hy⟩ := get_ex (xs := live) (i := j) (by omega)
      rw [take_lastD hy] at h5
      rw [hj]
      simp (disch := first | omega | assumption | (simp only [List.length_cons, List.length_nil]; omega)) only [↓OP_len, ↓OP_len0, ↓OP_idx, ↓OP_drop, ↓OP_take, ↓OP_mid, ↓OP_all, ↓OP_isl, ↓OP_isl0, ↓OP_app, ↓OP_app0, ↓OP_appN, ↓OP_app00, ↓OP_rowI, ↓OP_rowI2, ↓OP_rowL, ↓OP_rowLL, ↓OP_rowI4, ↓OP_rowI8, ↓OP_lss, ↓OP_leq, ↓OP_gtr, ↓OP_geq, ↓OP_eql, ↓OP_neq, ↓OP_not, ↓OP_beq, ↓OP_bne, ↓OP_add, ↓OP_sub, ↓OP_mn, ↓OP_mx, ↓OP_sel, ↓OP_cu, ↓OP_remU, ↓OP_ci, ↓ITE_true, ↓ITE_false, ↓ITE_bool, decide_eq_true_eq, decide_eq_false_iff_not, Bool.not_eq_eq_eq_not, Bool.not_true, Bool.not_false, Bool.false_eq_true, Bool.true_eq_false, false_implies, true_implies, true_and, and_true, implies_true, not_true_eq_false, not_false_eq_true, app1, app2, app3, app4, cell0, look_z, look_s, rowI, rowB, rowL, ↓c_ref01_IsNode, cell_L hx, cell_L hy]
      refine ⟨fun h9 => ?_, fun h9 => ?_⟩
      · have : ¬ y < x := by omega
        rw [hc]; rw [← h5]; simp [this]
      · have : okFrom x (live.drop (j + 1 + 1)) = okFrom (-1) live := by
          have : y < x := by omega
          rw [← h5]; simp [h7, this]
        refine ⟨fun h => ⟨j + 2, by rw [ht, h]; simp; omega, ⟨by omega, by rw [take_lastD hx, this]⟩, by omega⟩, fun h => ⟨j + 2, by rw [ht, h]; simp; omega, ⟨by omega, by rw [take_lastD hx, this]⟩, by omega⟩⟩
    · have : i = 0 := by omega
      subst this
      have := isN_iff.1 h7
      have h10 : (-1 : Int) < x := by omega
      have : okFrom x (live.drop 1) = okFrom (-1) live := by
        rw [← h5]; simp [h7, h10]
      refine ⟨fun h => ⟨1, by rw [ht, h]; simp, ⟨by omega, by rw [take_lastD hx, this]⟩, by omega⟩, fun h => ⟨1, by rw [ht, h]; simp, ⟨by omega, by rw [take_lastD hx, this]⟩, by omega⟩⟩
  · rw [drop_nil h6] at h5
    simp only [okFrom] at h5
    rw [List.take_of_length_le (by omega)]
    unfold chkL
    rw [← h5]
    cases live.contains self <;> simp
theorem w_ref10_behind (n : Int) (self : Int) (hp : isN n = true ∧ isN self = true) : S_ref10_behind ρ (I n) (I self) (· = [I (far (nn n) (nn self))]) := by
  unfold S_ref10_behind
  have h1 := nn_bd n
  have h2 := nn_bd self
  obtain ⟨h3, h4⟩ := hp
  simp (disch := first | omega | assumption | (simp only [List.length_cons, List.length_nil]; omega)) only [↓OP_len, ↓OP_len0, ↓OP_idx, ↓OP_drop, ↓OP_take, ↓OP_mid, ↓OP_all, ↓OP_isl, ↓OP_isl0, ↓OP_app, ↓OP_app0, ↓OP_appN, ↓OP_app00, ↓OP_rowI, ↓OP_rowI2, ↓OP_rowL, ↓OP_rowLL, ↓OP_rowI4, ↓OP_rowI8, ↓OP_lss, ↓OP_leq, ↓OP_gtr, ↓OP_geq, ↓OP_eql, ↓OP_neq, ↓OP_not, ↓OP_beq, ↓OP_bne, ↓OP_add, ↓OP_sub, ↓OP_mn, ↓OP_mx, ↓OP_sel, ↓OP_cu, ↓OP_remU, ↓OP_ci, ↓ITE_true, ↓ITE_false, ↓ITE_bool, decide_eq_true_eq, decide_eq_false_iff_not, Bool.not_eq_eq_eq_not, Bool.not_true, Bool.not_false, Bool.false_eq_true, Bool.true_eq_false, false_implies, true_implies, true_and, and_true, implies_true, not_true_eq_false, not_false_eq_true, app1, app2, app3, app4, cell0, look_z, look_s, rowI, rowB, rowL, ↓c_ref01_Node, ↓c_ref01_Behind]
theorem aheadGo_neg {self b d d' : Int} (h : b < 0) : ∀ l : List Int, aheadGo self b d l = aheadGo self b d' l
  | [] => rfl
  | x :: r => by
    unfold aheadGo
    simp only [h, true_or, and_true]
    rw [aheadGo_neg h r]
theorem w_ref10_Ahead (live : List Int) (self : Int) (hp : live.all isN = true ∧ isN self = true) (hg : Goods [L live, I self]) : S_ref10_Ahead ρ (L live) (I self) (· = [I (aheadN live self)]) := by
  unfold S_ref10_Ahead aheadN
  simp only [Goods, good_L] at hg
  obtain ⟨p1, p2⟩ := hp
  rw [List.all_eq_true] at p1
  refine LOOP.rule (α := Nat × Int) (fun a => [I a.2, I a.1]) (fun a => a.1 ≤ live.length ∧ (a.2 < 0 ∨ isN a.2 = true) ∧ aheadGo self a.2 (far (nn a.2) (nn self)) (live.drop a.1) = aheadGo self (-1) 0 live) (fun a => live.length - a.1) (0, -1) rfl ⟨by simp, by simp, aheadGo_neg (by omega) live⟩ (fun _ => rfl) ?_
  rintro ⟨i, b⟩ ⟨h4, hb, h5⟩
  simp only [app] at *
  simp (disch := first | omega | assumption | (simp only [List.length_cons, List.length_nil]; omega)) only [↓OP_len, ↓OP_len0, ↓OP_idx, ↓OP_drop, ↓OP_take, ↓OP_mid, ↓OP_all, ↓OP_isl, ↓OP_isl0, ↓OP_app, ↓OP_app0, ↓OP_appN, ↓OP_app00, ↓OP_rowI, ↓OP_rowI2, ↓OP_rowL, ↓OP_rowLL, ↓OP_rowI4, ↓OP_rowI8, ↓OP_lss, ↓OP_leq, ↓OP_gtr, ↓OP_geq, ↓OP_eql, ↓OP_neq, ↓OP_not, ↓OP_beq, ↓OP_bne, ↓OP_add, ↓OP_sub, ↓OP_mn, ↓OP_mx, ↓OP_sel, ↓OP_cu, ↓OP_remU, ↓OP_ci, ↓ITE_true, ↓ITE_false, ↓ITE_bool, decide_eq_true_eq, decide_eq_false_iff_not, Bool.not_eq_eq_eq_not, Bool.not_true, Bool.not_false, Bool.false_eq_true, Bool.true_eq_false, false_implies, true_implies, true_and, and_true, implies_true, not_true_eq_false, not_false_eq_true, app1, app2, app3, app4, cell0, look_z, look_s, rowI, rowB, rowL, ↓c_ref10_behind]
  refine ⟨fun h6 => ?_, fun h6 => ?_⟩
  · obtain ⟨x, hx⟩ := get_ex h6
    rw [drop_eq hx, aheadGo] at h5
    have hN := p1 x (List.mem_of_getElem? hx)
    have hp1 : isN x = true ∧ isN self = true := ⟨hN, p2⟩
    simp (disch := first | omega | assumption | (simp only [List.length_cons, List.length_nil]; omega)) only [↓OP_len, ↓OP_len0, ↓OP_idx, ↓OP_drop, ↓OP_take, ↓OP_mid, ↓OP_all, ↓OP_isl, ↓OP_isl0, ↓OP_app, ↓OP_app0, ↓OP_appN, ↓OP_app00, ↓OP_rowI, ↓OP_rowI2, ↓OP_rowL, ↓OP_rowLL, ↓OP_rowI4, ↓OP_rowI8, ↓OP_lss, ↓OP_leq, ↓OP_gtr, ↓OP_geq, ↓OP_eql, ↓OP_neq, ↓OP_not, ↓OP_beq, ↓OP_bne, ↓OP_add, ↓OP_sub, ↓OP_mn, ↓OP_mx, ↓OP_sel, ↓OP_cu, ↓OP_remU, ↓OP_ci, ↓ITE_true, ↓ITE_false, ↓ITE_bool, decide_eq_true_eq, decide_eq_false_iff_not, Bool.not_eq_eq_eq_not, Bool.not_true, Bool.not_false, Bool.false_eq_true, Bool.true_eq_false, false_implies, true_implies, true_and, and_true, implies_true, not_true_eq_false, not_false_eq_true, app1, app2, app3, app4, cell0, look_z, look_s, rowI, rowB, rowL, ↓c_ref10_behind, cell_L hx]
    refine ⟨fun h7 => ⟨fun h8 => ⟨(i + 1, x), by simp, ⟨by simp; omega, .inr hN, by simpa [h7, h8] using h5⟩, by simp; omega⟩, fun h8 => ?_⟩, fun h7 => ⟨(i + 1, b), by simp, ⟨by simp; omega, hb, by simpa [h7] using h5⟩, by simp; omega⟩⟩
    have hp2 : isN b = true ∧ isN self = true := ⟨hb.resolve_left h8, p2⟩
    simp (disch := first | omega | assumption | (simp only [List.length_cons, List.length_nil]; omega)) only [↓OP_len, ↓OP_len0, ↓OP_idx, ↓OP_drop, ↓OP_take, ↓OP_mid, ↓OP_all, ↓OP_isl, ↓OP_isl0, ↓OP_app, ↓OP_app0, ↓OP_appN, ↓OP_app00, ↓OP_rowI, ↓OP_rowI2, ↓OP_rowL, ↓OP_rowLL, ↓OP_rowI4, ↓OP_rowI8, ↓OP_lss, ↓OP_leq, ↓OP_gtr, ↓OP_geq, ↓OP_eql, ↓OP_neq, ↓OP_not, ↓OP_beq, ↓OP_bne, ↓OP_add, ↓OP_sub, ↓OP_mn, ↓OP_mx, ↓OP_sel, ↓OP_cu, ↓OP_remU, ↓OP_ci, ↓ITE_true, ↓ITE_false, ↓ITE_bool, decide_eq_true_eq, decide_eq_false_iff_not, Bool.not_eq_eq_eq_not, Bool.not_true, Bool.not_false, Bool.false_eq_true, Bool.true_eq_false, false_implies, true_implies, true_and, and_true, implies_true, not_true_eq_false, not_false_eq_true, app1, app2, app3, app4, cell0, look_z, look_s, rowI, rowB, rowL, ↓c_ref10_behind]
    refine ⟨fun h9 => ⟨(i + 1, x), by simp, ⟨by simp; omega, .inr hN, by simpa [h7, h8, h9] using h5⟩, by simp; omega⟩, fun h9 => ⟨(i + 1, b), by simp, ⟨by simp; omega, hb, by simpa [h7, h8, h9] using h5⟩, by simp; omega⟩⟩
  · rw [drop_nil h6, aheadGo] at h5
    simp [← h5]
theorem firstGo_neg {k b d d' : Int} (h : b < 0) : ∀ l : List Int, firstGo k b d l = firstGo k b d' l
  | [] => rfl
  | x :: r => by
    unfold firstGo
    simp only [h, true_or, if_true]
def mk (live : List Int) (self : Int) (i : Nat) : List Bool := (List.range 8).map fun (n : Nat) => ((List.range i).map fun j => firstN live (backN self j)).contains (n : Int)
theorem map_set {k m : Nat} {f g : Nat → Bool} (h : ∀ n, g n = (f n || decide (m = n))) : (List.range k).map g = ((List.range k).map f).set m true := by
  refine List.ext_getElem (by simp) fun n h1 h2 => ?_
  rw [List.getElem_set]
  simp only [List.getElem_map, List.getElem_range, h]
  by_cases e : m = n <;> simp [e]
theorem mk_succ {live : List Int} {self : Int} {i m : Nat} (h : firstN live (backN self i) = m) : mk live self (i + 1) = (mk live self i).set m true := by
  refine map_set fun n => ?_
  rw [Bool.eq_iff_iff]
  simp only [List.contains_eq_mem, decide_eq_true_eq, Bool.or_eq_true, List.range_succ, List.map_append, List.map_cons, List.map_nil, h, List.mem_append, List.mem_singleton]
  exact or_congr Iff.rfl (by omega)
theorem mk_len (live : List Int) (self : Int) (i : Nat) : (mk live self i).length = 8 := by simp [mk]
theorem OP_repl8 {k : PV → Prop} : OP (.repl 1 [(.bool false)]) [I 8] k = k (L (List.replicate 8 false)) := OP_of (by simp [ev, roomy, L, Row.row, Lit.pv])
theorem nodesL_range : nodesL = (List.range 8).map fun (n : Nat) => (n : Int) := by decide
def fgo (live : List Int) (self : Int) (n : Nat) : List Int := ((List.range n).map fun (k : Nat) => (k : Int)).filter fun n => (fingL live self 62).contains n
theorem filter_one (p : Int → Bool) (n : Nat) : (List.map (fun (k : Nat) => (k : Int)) [n]).filter p = if p (n : Int) then [(n : Int)] else [] := by
  cases h : p (n : Int) <;> simp [h]
theorem fgo_succ (live : List Int) (self : Int) (n : Nat) : fgo live self (n + 1) = fgo live self n ++ if (fingL live self 62).contains (n : Int) then [(n : Int)] else [] := by
  unfold fgo
  rw [List.range_succ, List.map_append, List.filter_append]
  congr 1
  exact filter_one _ n
theorem fing_mk {live : List Int} {self : Int} {n : Nat} {x : Bool} (h : (mk live self 62)[n]? = some x) : (fingL live self 62).contains (n : Int) = (x && !decide ((n : Int) = self)) := by
  obtain ⟨h1, h2⟩ := List.getElem?_eq_some_iff.1 h
  rw [← h2, Bool.eq_iff_iff]
  simp only [mk, fingL, List.getElem_map, List.getElem_range, List.contains_eq_mem, List.mem_filter, decide_eq_true_eq, Bool.and_eq_true, Bool.not_eq_true', decide_eq_false_iff_not]
theorem fgo_len (live : List Int) (self : Int) (n : Nat) : (fgo live self n).length ≤ n := by
  have := List.length_filter_le (fun n => (fingL live self 62).contains n) ((List.range n).map fun (k : Nat) => (k : Int))
  simpa [fgo] using this
theorem w_ref10_Fingers (live : List Int) (self : Int) (hp : live.all isN = true ∧ isN self = true ∧ live ≠ []) (hg : Goods [L live, I self]) : S_ref10_Fingers ρ (L live) (I self) (· = [L (fingers live self)]) := by
  unfold S_ref10_Fingers
  simp only [Goods, good_L] at hg
  obtain ⟨p1, p2, p3⟩ := hp
  have q1 := p1
  rw [List.all_eq_true] at q1
  rw [OP_repl8]
  simp (disch := first | omega | assumption | (simp only [List.length_cons, List.length_nil]; omega)) only [↓OP_len, ↓OP_len0, ↓OP_idx, ↓OP_drop, ↓OP_take, ↓OP_mid, ↓OP_all, ↓OP_isl, ↓OP_isl0, ↓OP_app, ↓OP_app0, ↓OP_appN, ↓OP_app00, ↓OP_rowI, ↓OP_rowI2, ↓OP_rowL, ↓OP_rowLL, ↓OP_rowI4, ↓OP_rowI8, ↓OP_lss, ↓OP_leq, ↓OP_gtr, ↓OP_geq, ↓OP_eql, ↓OP_neq, ↓OP_not, ↓OP_beq, ↓OP_bne, ↓OP_add, ↓OP_sub, ↓OP_mn, ↓OP_mx, ↓OP_sel, ↓OP_cu, ↓OP_remU, ↓OP_ci, ↓ITE_true, ↓ITE_false, ↓ITE_bool, decide_eq_true_eq, decide_eq_false_iff_not, Bool.not_eq_eq_eq_not, Bool.not_true, Bool.not_false, Bool.false_eq_true, Bool.true_eq_false, false_implies, true_implies, true_and, and_true, implies_true, not_true_eq_false, not_false_eq_true, app1, app2, app3, app4, cell0, look_z, look_s, rowI, rowB, rowL, ↓c_ref01_Node, ↓c_ref01_Behind]
  have hS := nn_bd self
  refine LOOP.rule (α := Nat) (fun i => [I i, L (mk live self i)]) (fun i => i ≤ 62) (fun i => 62 - i) 0 rfl (by simp) (fun _ => rfl) ?_
  intro i h4
  simp only [app] at *
  simp (disch := first | omega | assumption | (simp only [List.length_cons, List.length_nil]; omega)) only [↓OP_len, ↓OP_len0, ↓OP_idx, ↓OP_drop, ↓OP_take, ↓OP_mid, ↓OP_all, ↓OP_isl, ↓OP_isl0, ↓OP_app, ↓OP_app0, ↓OP_appN, ↓OP_app00, ↓OP_rowI, ↓OP_rowI2, ↓OP_rowL, ↓OP_rowLL, ↓OP_rowI4, ↓OP_rowI8, ↓OP_lss, ↓OP_leq, ↓OP_gtr, ↓OP_geq, ↓OP_eql, ↓OP_neq, ↓OP_not, ↓OP_beq, ↓OP_bne, ↓OP_add, ↓OP_sub, ↓OP_mn, ↓OP_mx, ↓OP_sel, ↓OP_cu, ↓OP_remU, ↓OP_ci, ↓ITE_true, ↓ITE_false, ↓ITE_bool, decide_eq_true_eq, decide_eq_false_iff_not, Bool.not_eq_eq_eq_not, Bool.not_true, Bool.not_false, Bool.false_eq_true, Bool.true_eq_false, false_implies, true_implies, true_and, and_true, implies_true, not_true_eq_false, not_false_eq_true, app1, app2, app3, app4, cell0, look_z, look_s, rowI, rowB, rowL, ↓c_ref01_Node, ↓c_ref01_Behind]
  refine ⟨fun h6 => ?_, fun h6 => ?_⟩
  · have hpw : (1 : Int) ≤ 2 ^ i ∧ (2 : Int) ^ i < 4611686018427387904 := pow_bd ⟨i, by omega⟩
    rw [OP_shl (by omega) (by omega)]
    simp (disch := first | omega | assumption | (simp only [List.length_cons, List.length_nil]; omega)) only [↓OP_len, ↓OP_len0, ↓OP_idx, ↓OP_drop, ↓OP_take, ↓OP_mid, ↓OP_all, ↓OP_isl, ↓OP_isl0, ↓OP_app, ↓OP_app0, ↓OP_appN, ↓OP_app00, ↓OP_rowI, ↓OP_rowI2, ↓OP_rowL, ↓OP_rowLL, ↓OP_rowI4, ↓OP_rowI8, ↓OP_lss, ↓OP_leq, ↓OP_gtr, ↓OP_geq, ↓OP_eql, ↓OP_neq, ↓OP_not, ↓OP_beq, ↓OP_bne, ↓OP_add, ↓OP_sub, ↓OP_mn, ↓OP_mx, ↓OP_sel, ↓OP_cu, ↓OP_remU, ↓OP_ci, ↓ITE_true, ↓ITE_false, ↓ITE_bool, decide_eq_true_eq, decide_eq_false_iff_not, Bool.not_eq_eq_eq_not, Bool.not_true, Bool.not_false, Bool.false_eq_true, Bool.true_eq_false, false_implies, true_implies, true_and, and_true, implies_true, not_true_eq_false, not_false_eq_true, app1, app2, app3, app4, cell0, look_z, look_s, rowI, rowB, rowL, ↓c_ref01_Node, ↓c_ref01_Behind, Int.toNat_natCast]
    refine SUB.v1 (I (backN self i)) ?_ ?_
    · simp (disch := first | omega | assumption | (simp only [List.length_cons, List.length_nil]; omega)) only [↓OP_len, ↓OP_len0, ↓OP_idx, ↓OP_drop, ↓OP_take, ↓OP_mid, ↓OP_all, ↓OP_isl, ↓OP_isl0, ↓OP_app, ↓OP_app0, ↓OP_appN, ↓OP_app00, ↓OP_rowI, ↓OP_rowI2, ↓OP_rowL, ↓OP_rowLL, ↓OP_rowI4, ↓OP_rowI8, ↓OP_lss, ↓OP_leq, ↓OP_gtr, ↓OP_geq, ↓OP_eql, ↓OP_neq, ↓OP_not, ↓OP_beq, ↓OP_bne, ↓OP_add, ↓OP_sub, ↓OP_mn, ↓OP_mx, ↓OP_sel, ↓OP_cu, ↓OP_remU, ↓OP_ci, ↓ITE_true, ↓ITE_false, ↓ITE_bool, decide_eq_true_eq, decide_eq_false_iff_not, Bool.not_eq_eq_eq_not, Bool.not_true, Bool.not_false, Bool.false_eq_true, Bool.true_eq_false, false_implies, true_implies, true_and, and_true, implies_true, not_true_eq_false, not_false_eq_true, app1, app2, app3, app4, cell0, look_z, look_s, rowI, rowB, rowL, ↓c_ref01_Node, ↓c_ref01_Behind]
      unfold backN far
      refine ⟨fun h => ?_, fun h => ?_⟩
      · rw [if_pos h]; simp; omega
      · rw [if_neg h]
    have hb := backN_bd self (i := i) (by omega)
    generalize hk : backN self i = k at hb ⊢
    refine LOOP.rule (α := Nat × Int) (fun a => [I a.2, I a.1]) (fun a => a.1 ≤ live.length ∧ (a.2 < 0 ∨ isN a.2 = true) ∧ firstGo k a.2 (far k (nn a.2)) (live.drop a.1) = firstGo k (-1) 0 live) (fun a => live.length - a.1) (0, -1) rfl ⟨by simp, by simp, firstGo_neg (by omega) live⟩ (fun _ => rfl) ?_
    rintro ⟨j, b⟩ ⟨g4, gb, g5⟩
    simp only [app] at *
    simp (disch := first | omega | assumption | (simp only [List.length_cons, List.length_nil]; omega)) only [↓OP_len, ↓OP_len0, ↓OP_idx, ↓OP_drop, ↓OP_take, ↓OP_mid, ↓OP_all, ↓OP_isl, ↓OP_isl0, ↓OP_app, ↓OP_app0, ↓OP_appN, ↓OP_app00, ↓OP_rowI, ↓OP_rowI2, ↓OP_rowL, ↓OP_rowLL, ↓OP_rowI4, ↓OP_rowI8, ↓OP_lss, ↓OP_leq, ↓OP_gtr, ↓OP_geq, ↓OP_eql, ↓OP_neq, ↓OP_not, ↓OP_beq, ↓OP_bne, ↓OP_add, ↓OP_sub, ↓OP_mn, ↓OP_mx, ↓OP_sel, ↓OP_cu, ↓OP_remU, ↓OP_ci, ↓ITE_true, ↓ITE_false, ↓ITE_bool, decide_eq_true_eq, decide_eq_false_iff_not, Bool.not_eq_eq_eq_not, Bool.not_true, Bool.not_false, Bool.false_eq_true, Bool.true_eq_false, false_implies, true_implies, true_and, and_true, implies_true, not_true_eq_false, not_false_eq_true, app1, app2, app3, app4, cell0, look_z, look_s, rowI, rowB, rowL, ↓c_ref01_Node, ↓c_ref01_Behind]
    refine ⟨fun g6 => ?_, fun g6 => ?_⟩
    · obtain ⟨x, hx⟩ := get_ex g6
      rw [drop_eq hx, firstGo] at g5
      have hN := q1 x (List.mem_of_getElem? hx)
      have hB := nn_bd x
      simp (disch := first | omega | assumption | (simp only [List.length_cons, List.length_nil]; omega)) only [↓OP_len, ↓OP_len0, ↓OP_idx, ↓OP_drop, ↓OP_take, ↓OP_mid, ↓OP_all, ↓OP_isl, ↓OP_isl0, ↓OP_app, ↓OP_app0, ↓OP_appN, ↓OP_app00, ↓OP_rowI, ↓OP_rowI2, ↓OP_rowL, ↓OP_rowLL, ↓OP_rowI4, ↓OP_rowI8, ↓OP_lss, ↓OP_leq, ↓OP_gtr, ↓OP_geq, ↓OP_eql, ↓OP_neq, ↓OP_not, ↓OP_beq, ↓OP_bne, ↓OP_add, ↓OP_sub, ↓OP_mn, ↓OP_mx, ↓OP_sel, ↓OP_cu, ↓OP_remU, ↓OP_ci, ↓ITE_true, ↓ITE_false, ↓ITE_bool, decide_eq_true_eq, decide_eq_false_iff_not, Bool.not_eq_eq_eq_not, Bool.not_true, Bool.not_false, Bool.false_eq_true, Bool.true_eq_false, false_implies, true_implies, true_and, and_true, implies_true, not_true_eq_false, not_false_eq_true, app1, app2, app3, app4, cell0, look_z, look_s, rowI, rowB, rowL, ↓c_ref01_Node, ↓c_ref01_Behind, cell_L hx]
      refine ⟨fun g8 => ⟨(j + 1, x), by simp, ⟨by simp; omega, .inr hN, by simpa [g8] using g5⟩, by simp; omega⟩, fun g8 => ?_⟩
      have hN2 := gb.resolve_left g8
      have hB2 := nn_bd b
      simp (disch := first | omega | assumption | (simp only [List.length_cons, List.length_nil]; omega)) only [↓OP_len, ↓OP_len0, ↓OP_idx, ↓OP_drop, ↓OP_take, ↓OP_mid, ↓OP_all, ↓OP_isl, ↓OP_isl0, ↓OP_app, ↓OP_app0, ↓OP_appN, ↓OP_app00, ↓OP_rowI, ↓OP_rowI2, ↓OP_rowL, ↓OP_rowLL, ↓OP_rowI4, ↓OP_rowI8, ↓OP_lss, ↓OP_leq, ↓OP_gtr, ↓OP_geq, ↓OP_eql, ↓OP_neq, ↓OP_not, ↓OP_beq, ↓OP_bne, ↓OP_add, ↓OP_sub, ↓OP_mn, ↓OP_mx, ↓OP_sel, ↓OP_cu, ↓OP_remU, ↓OP_ci, ↓ITE_true, ↓ITE_false, ↓ITE_bool, decide_eq_true_eq, decide_eq_false_iff_not, Bool.not_eq_eq_eq_not, Bool.not_true, Bool.not_false, Bool.false_eq_true, Bool.true_eq_false, false_implies, true_implies, true_and, and_true, implies_true, not_true_eq_false, not_false_eq_true, app1, app2, app3, app4, cell0, look_z, look_s, rowI, rowB, rowL, ↓c_ref01_Node, ↓c_ref01_Behind]
      refine ⟨fun g9 => ⟨(j + 1, x), by simp, ⟨by simp; omega, .inr hN, by simpa [g8, g9] using g5⟩, by simp; omega⟩, fun g9 => ⟨(j + 1, b), by simp, ⟨by simp; omega, gb, by simpa [g8, g9] using g5⟩, by simp; omega⟩⟩
    · rw [drop_nil g6, firstGo] at g5
      have g7 : b = firstN live (backN self i) := by rw [hk]; exact g5
      have g8 := isN_iff.1 (q1 _ (firstN_mem (k := backN self i) p3))
      rw [← g7] at g8
      obtain ⟨m, rfl⟩ := Int.eq_ofNat_of_zero_le g8.1
      have hl := mk_len live self i
      simp (disch := first | omega | assumption | (simp only [List.length_cons, List.length_nil]; omega)) only [↓OP_len, ↓OP_len0, ↓OP_idx, ↓OP_drop, ↓OP_take, ↓OP_mid, ↓OP_all, ↓OP_isl, ↓OP_isl0, ↓OP_app, ↓OP_app0, ↓OP_appN, ↓OP_app00, ↓OP_rowI, ↓OP_rowI2, ↓OP_rowL, ↓OP_rowLL, ↓OP_rowI4, ↓OP_rowI8, ↓OP_lss, ↓OP_leq, ↓OP_gtr, ↓OP_geq, ↓OP_eql, ↓OP_neq, ↓OP_not, ↓OP_beq, ↓OP_bne, ↓OP_add, ↓OP_sub, ↓OP_mn, ↓OP_mx, ↓OP_sel, ↓OP_cu, ↓OP_remU, ↓OP_ci, ↓ITE_true, ↓ITE_false, ↓ITE_bool, decide_eq_true_eq, decide_eq_false_iff_not, Bool.not_eq_eq_eq_not, Bool.not_true, Bool.not_false, Bool.false_eq_true, Bool.true_eq_false, false_implies, true_implies, true_and, and_true, implies_true, not_true_eq_false, not_false_eq_true, app1, app2, app3, app4, cell0, look_z, look_s, rowI, rowB, rowL, ↓c_ref01_Node, ↓c_ref01_Behind]
      obtain ⟨y, hy⟩ := get_ex (xs := mk live self i) (i := m) (by omega)
      rw [OP_set (y := true) hy rfl]
      exact ⟨i + 1, by rw [mk_succ g7.symm]; simp, by omega, by omega⟩
  · have e : i = 62 := by omega
    subst e
    have hl := mk_len live self 62
    refine LOOP.rule (α := Nat) (fun n => [I n, L (fgo live self n)]) (fun n => n ≤ 8) (fun n => 8 - n) 0 rfl (by simp) (fun _ => rfl) ?_
    intro n h7
    simp only [app]
    have hl2 := fgo_len live self n
    simp (disch := first | omega | assumption | (simp only [List.length_cons, List.length_nil]; omega)) only [↓OP_len, ↓OP_len0, ↓OP_idx, ↓OP_drop, ↓OP_take, ↓OP_mid, ↓OP_all, ↓OP_isl, ↓OP_isl0, ↓OP_app, ↓OP_app0, ↓OP_appN, ↓OP_app00, ↓OP_rowI, ↓OP_rowI2, ↓OP_rowL, ↓OP_rowLL, ↓OP_rowI4, ↓OP_rowI8, ↓OP_lss, ↓OP_leq, ↓OP_gtr, ↓OP_geq, ↓OP_eql, ↓OP_neq, ↓OP_not, ↓OP_beq, ↓OP_bne, ↓OP_add, ↓OP_sub, ↓OP_mn, ↓OP_mx, ↓OP_sel, ↓OP_cu, ↓OP_remU, ↓OP_ci, ↓ITE_true, ↓ITE_false, ↓ITE_bool, decide_eq_true_eq, decide_eq_false_iff_not, Bool.not_eq_eq_eq_not, Bool.not_true, Bool.not_false, Bool.false_eq_true, Bool.true_eq_false, false_implies, true_implies, true_and, and_true, implies_true, not_true_eq_false, not_false_eq_true, app1, app2, app3, app4, cell0, look_z, look_s, rowI, rowB, rowL, ↓c_ref01_Node, ↓c_ref01_Behind]
    refine ⟨fun h8 => ?_, fun h8 => ?_⟩
    · obtain ⟨y, hy⟩ := get_ex (xs := mk live self 62) (i := n) (by omega)
      have hf := fing_mk hy
      have hs := fgo_succ live self n
      rw [hf] at hs
      simp (disch := first | omega | assumption | (simp only [List.length_cons, List.length_nil]; omega)) only [↓OP_len, ↓OP_len0, ↓OP_idx, ↓OP_drop, ↓OP_take, ↓OP_mid, ↓OP_all, ↓OP_isl, ↓OP_isl0, ↓OP_app, ↓OP_app0, ↓OP_appN, ↓OP_app00, ↓OP_rowI, ↓OP_rowI2, ↓OP_rowL, ↓OP_rowLL, ↓OP_rowI4, ↓OP_rowI8, ↓OP_lss, ↓OP_leq, ↓OP_gtr, ↓OP_geq, ↓OP_eql, ↓OP_neq, ↓OP_not, ↓OP_beq, ↓OP_bne, ↓OP_add, ↓OP_sub, ↓OP_mn, ↓OP_mx, ↓OP_sel, ↓OP_cu, ↓OP_remU, ↓OP_ci, ↓ITE_true, ↓ITE_false, ↓ITE_bool, decide_eq_true_eq, decide_eq_false_iff_not, Bool.not_eq_eq_eq_not, Bool.not_true, Bool.not_false, Bool.false_eq_true, Bool.true_eq_false, false_implies, true_implies, true_and, and_true, implies_true, not_true_eq_false, not_false_eq_true, app1, app2, app3, app4, cell0, look_z, look_s, rowI, rowB, rowL, ↓c_ref01_Node, ↓c_ref01_Behind, cell_L hy]
      refine ⟨fun h9 => ⟨fun h10 => ⟨n + 1, by rw [hs]; simp [h9, h10], by omega, by omega⟩, fun h10 => ⟨n + 1, by rw [hs]; simp [h9, h10], by omega, by omega⟩⟩, fun h9 => ⟨n + 1, by rw [hs]; simp [h9], by omega, by omega⟩⟩
    · have : n = 8 := by omega
      subst this
      unfold fingers
      rw [nodesL_range]; rfl
theorem ownR_neg {t b b' : Int} (h : b < 0) (h' : b' < 0) {l : List Int} (hl : l ≠ []) : ownR t b l = ownR t b' l := by
  cases l with
  | nil => exact absurd rfl hl
  | cons x r => simp only [ownR, h, h', true_or, if_true]
theorem w_ref01_Owner (t : Int) (l : List Int) (hp : isT t = true ∧ l.all isN = true) (hg : Goods [I t, L l]) : S_ref01_Owner ρ (I t) (L l) (· = [I (ownerR t l)]) := by
  unfold S_ref01_Owner ownerR
  simp only [Goods, good_L] at hg
  obtain ⟨p1, p2⟩ := hp
  rw [List.all_eq_true] at p2
  refine LOOP.rule (α := Nat × Int) (fun a => [I a.2, I a.1]) (fun a => a.1 ≤ l.length ∧ (a.2 < 0 ∨ isN a.2 = true) ∧ ownR t a.2 (l.drop a.1) = ownR t (-1) l) (fun a => l.length - a.1) (0, -1) rfl ⟨by simp, by simp, rfl⟩ (fun _ => rfl) ?_
  rintro ⟨i, b⟩ ⟨h4, hb, h5⟩
  simp only [app] at *
  simp (disch := first | omega | assumption | (simp only [List.length_cons, List.length_nil]; omega)) only [↓OP_len, ↓OP_len0, ↓OP_idx, ↓OP_drop, ↓OP_take, ↓OP_mid, ↓OP_all, ↓OP_isl, ↓OP_isl0, ↓OP_app, ↓OP_app0, ↓OP_appN, ↓OP_app00, ↓OP_rowI, ↓OP_rowI2, ↓OP_rowL, ↓OP_rowLL, ↓OP_rowI4, ↓OP_rowI8, ↓OP_lss, ↓OP_leq, ↓OP_gtr, ↓OP_geq, ↓OP_eql, ↓OP_neq, ↓OP_not, ↓OP_beq, ↓OP_bne, ↓OP_add, ↓OP_sub, ↓OP_mn, ↓OP_mx, ↓OP_sel, ↓OP_cu, ↓OP_remU, ↓OP_ci, ↓ITE_true, ↓ITE_false, ↓ITE_bool, decide_eq_true_eq, decide_eq_false_iff_not, Bool.not_eq_eq_eq_not, Bool.not_true, Bool.not_false, Bool.false_eq_true, Bool.true_eq_false, false_implies, true_implies, true_and, and_true, implies_true, not_true_eq_false, not_false_eq_true, app1, app2, app3, app4, cell0, look_z, look_s, rowI, rowB, rowL, ↓c_ref01_Gap]
  refine ⟨fun h6 => ?_, fun h6 => ?_⟩
  · obtain ⟨x, hx⟩ := get_ex h6
    rw [drop_eq hx, ownR] at h5
    have hN := p2 x (List.mem_of_getElem? hx)
    have hp1 : isT t = true ∧ isN x = true := ⟨p1, hN⟩
    simp (disch := first | omega | assumption | (simp only [List.length_cons, List.length_nil]; omega)) only [↓OP_len, ↓OP_len0, ↓OP_idx, ↓OP_drop, ↓OP_take, ↓OP_mid, ↓OP_all, ↓OP_isl, ↓OP_isl0, ↓OP_app, ↓OP_app0, ↓OP_appN, ↓OP_app00, ↓OP_rowI, ↓OP_rowI2, ↓OP_rowL, ↓OP_rowLL, ↓OP_rowI4, ↓OP_rowI8, ↓OP_lss, ↓OP_leq, ↓OP_gtr, ↓OP_geq, ↓OP_eql, ↓OP_neq, ↓OP_not, ↓OP_beq, ↓OP_bne, ↓OP_add, ↓OP_sub, ↓OP_mn, ↓OP_mx, ↓OP_sel, ↓OP_cu, ↓OP_remU, ↓OP_ci, ↓ITE_true, ↓ITE_false, ↓ITE_bool, decide_eq_true_eq, decide_eq_false_iff_not, Bool.not_eq_eq_eq_not, Bool.not_true, Bool.not_false, Bool.false_eq_true, Bool.true_eq_false, false_implies, true_implies, true_and, and_true, implies_true, not_true_eq_false, not_false_eq_true, app1, app2, app3, app4, cell0, look_z, look_s, rowI, rowB, rowL, ↓c_ref01_Gap, cell_L hx]
    refine ⟨fun h8 => ⟨(i + 1, x), by simp, ⟨by simp; omega, .inr hN, by simpa [h8] using h5⟩, by simp; omega⟩, fun h8 => ?_⟩
    have hp2 : isT t = true ∧ isN b = true := ⟨p1, hb.resolve_left h8⟩
    simp (disch := first | omega | assumption | (simp only [List.length_cons, List.length_nil]; omega)) only [↓OP_len, ↓OP_len0, ↓OP_idx, ↓OP_drop, ↓OP_take, ↓OP_mid, ↓OP_all, ↓OP_isl, ↓OP_isl0, ↓OP_app, ↓OP_app0, ↓OP_appN, ↓OP_app00, ↓OP_rowI, ↓OP_rowI2, ↓OP_rowL, ↓OP_rowLL, ↓OP_rowI4, ↓OP_rowI8, ↓OP_lss, ↓OP_leq, ↓OP_gtr, ↓OP_geq, ↓OP_eql, ↓OP_neq, ↓OP_not, ↓OP_beq, ↓OP_bne, ↓OP_add, ↓OP_sub, ↓OP_mn, ↓OP_mx, ↓OP_sel, ↓OP_cu, ↓OP_remU, ↓OP_ci, ↓ITE_true, ↓ITE_false, ↓ITE_bool, decide_eq_true_eq, decide_eq_false_iff_not, Bool.not_eq_eq_eq_not, Bool.not_true, Bool.not_false, Bool.false_eq_true, Bool.true_eq_false, false_implies, true_implies, true_and, and_true, implies_true, not_true_eq_false, not_false_eq_true, app1, app2, app3, app4, cell0, look_z, look_s, rowI, rowB, rowL, ↓c_ref01_Gap]
    refine ⟨fun h9 => ⟨(i + 1, x), by simp, ⟨by simp; omega, .inr hN, by simpa [h8, h9] using h5⟩, by simp; omega⟩, fun h9 => ⟨(i + 1, b), by simp, ⟨by simp; omega, hb, by simpa [h8, h9] using h5⟩, by simp; omega⟩⟩
  · rw [drop_nil h6, ownR] at h5
    simp [← h5]
theorem ownR_ok {t : Int} : ∀ (l : List Int) (b : Int), (∀ x ∈ l, 0 ≤ x) → (ownR t b l = b ∧ (0 ≤ b ∨ l = []) ∨ ownR t b l ∈ l) ∧ (∀ x ∈ l, gap t (ownR t b l) ≤ gap t x) ∧ (0 ≤ b → gap t (ownR t b l) ≤ gap t b)
  | [], b, _ => ⟨.inl ⟨rfl, .inr rfl⟩, by simp, fun _ => Int.le_refl _⟩
  | x :: r, b, hl => by
    have hl2 : ∀ x ∈ r, 0 ≤ x := fun y hy => hl y (by simp [hy])
    have hx := hl x (by simp)
    unfold ownR
    split
    · rename_i hc
      obtain ⟨h1, h2, h3⟩ := ownR_ok r x hl2 (t := t)
      refine ⟨?_, ?_, fun hb => ?_⟩
      · rcases h1 with h | h
        · right; rw [h.1]; simp
        · right; simp [h]
      · intro y hy
        rcases List.mem_cons.1 hy with rfl | hy
        · exact h3 hx
        · exact h2 y hy
      · have := h3 hx; omega
    · rename_i hc
      obtain ⟨h1, h2, h3⟩ := ownR_ok r b hl2 (t := t)
      have hb : 0 ≤ b := by omega
      refine ⟨?_, ?_, h3⟩
      · rcases h1 with h | h
        · exact .inl ⟨h.1, .inl hb⟩
        · right; simp [h]
      · intro y hy
        rcases List.mem_cons.1 hy with rfl | hy
        · have := h3 hb; omega
        · exact h2 y hy
theorem ownerR_ok {t : Int} {l : List Int} (hl : l.all isN = true) (h : l ≠ []) : ownerR t l ∈ l ∧ ∀ x ∈ l, gap t (ownerR t l) ≤ gap t x := by
  rw [List.all_eq_true] at hl
  obtain ⟨h1, h2, _⟩ := ownR_ok l (-1) (fun x hx => (isN_iff.1 (hl x hx)).1) (t := t)
  refine ⟨?_, h2⟩
  rcases h1 with ⟨_, h3 | h3⟩ | h3
  · omega
  · exact absurd h3 h
  · exact h3
def refGo (t self : Int) : Int → List Int → Int
  | b, [] => b
  | b, x :: r => refGo t self (if 0 ≤ x ∧ near t x self = true ∧ (b < 0 ∨ near t x b = true) then x else b) r
theorem refGo_pos {t self : Int} : ∀ (l : List Int) (b : Int), near t b self = true → refGo t self b l = ownGo t b l
  | [], _, _ => rfl
  | x :: r, b, h => by
    have hb := (near_dom h).2.1.1
    unfold refGo ownGo
    by_cases e : near t x b = true
    · have e2 := near_trans e h
      have hx := (near_dom e).2.1.1
      rw [if_pos ⟨hx, e2, .inr e⟩, if_pos e, refGo_pos r x e2]
    · rw [if_neg, if_neg e, refGo_pos r b h]
      rintro ⟨_, _, h3 | h3⟩
      · omega
      · exact e h3
theorem refGo_neg {t self : Int} : ∀ (l : List Int), refGo t self (-1) l = if ownGo t self l = self then -1 else ownGo t self l
  | [] => by simp [refGo, ownGo]
  | x :: r => by
    unfold refGo ownGo
    by_cases e : near t x self = true
    · have hx := (near_dom e).2.1.1
      rw [if_pos ⟨hx, e, .inl (by omega)⟩, if_pos e, refGo_pos r x e, if_neg]
      rcases ownGo_near r x (t := t) with h | h
      · rw [h]; exact near_ne e
      · exact near_ne (near_trans h.1 e)
    · rw [if_neg (fun h => e h.2.1), if_neg e, refGo_neg r]
theorem known_live {live : List Int} {self x : Int} (h3 : live ≠ []) (h : x ∈ fingers live self ++ [aheadN live self]) : x = -1 ∨ (x ∈ live ∧ x ≠ self) := by
  rw [List.mem_append, List.mem_singleton] at h
  rcases h with h | h
  · right
    unfold fingers at h
    rw [List.mem_filter] at h
    exact fingL_mem h3 (by simpa using h.2)
  · rcases aheadN_mem live self with e | e
    · left; rw [h, e]
    · right; rw [h]; exact e
theorem ownGo_stay {t b : Int} : ∀ {l : List Int}, (∀ x ∈ l, near t x b = false) → ownGo t b l = b
  | [], _ => rfl
  | x :: r, h => by
    unfold ownGo
    rw [h x (by simp)]
    exact ownGo_stay fun y hy => h y (by simp [hy])
theorem next_owner {t : Int} {live : List Int} {self : Int} (h1 : live.all isN = true) (h3 : live ≠ []) (h : ownerR t live = self) : nextN t live self = -1 := by
  unfold nextN
  rw [ownGo_stay, if_pos rfl]
  intro x hx
  rcases known_live h3 hx with rfl | hx
  · simp [near, isN]
  · have := (ownerR_ok (t := t) h1 h3).2 x hx.1
    rw [h] at this
    simp only [near, Bool.and_eq_false_iff, decide_eq_false_iff_not]
    right; omega
theorem next_mem {t : Int} {live : List Int} {self : Int} (h3 : live ≠ []) (h : 0 ≤ nextN t live self) : nextN t live self ∈ live := by
  rcases next_cases t live self with e | e
  · omega
  · rcases known_live h3 e.2 with h1 | h1
    · omega
    · exact h1.1
theorem chkL_of {live : List Int} {n self : Int} (h : chkL live self = 0) (hn : n ∈ live) : chkL live n = 0 := by
  have := (chkL_zero h).2.2
  unfold chkL
  rw [this.1]; simp [hn]
theorem w_ref10_Next (t : Int) (live : List Int) (self : Int) (hp : isT t = true ∧ chkL live self = 0) (hg : Goods [I t, L live, I self]) : S_ref10_Next ρ (I t) (L live) (I self) (· = [I (nextN t live self)]) := by
  unfold S_ref10_Next
  obtain ⟨p1, p2⟩ := hp
  have hA := (chkL_zero p2).1
  have hB := (chkL_zero p2).2.1
  have hC : isT t = true ∧ live.all isN = true := ⟨p1, hA.1⟩
  have hB2 : live.all isN = true ∧ isN self = true ∧ live ≠ [] := hB
  have hl := fingers_len live self
  simp (disch := first | omega | assumption | (simp only [List.length_cons, List.length_nil]; omega)) only [↓OP_len, ↓OP_len0, ↓OP_idx, ↓OP_drop, ↓OP_take, ↓OP_mid, ↓OP_all, ↓OP_isl, ↓OP_isl0, ↓OP_app, ↓OP_app0, ↓OP_appN, ↓OP_app00, ↓OP_rowI, ↓OP_rowI2, ↓OP_rowL, ↓OP_rowLL, ↓OP_rowI4, ↓OP_rowI8, ↓OP_lss, ↓OP_leq, ↓OP_gtr, ↓OP_geq, ↓OP_eql, ↓OP_neq, ↓OP_not, ↓OP_beq, ↓OP_bne, ↓OP_add, ↓OP_sub, ↓OP_mn, ↓OP_mx, ↓OP_sel, ↓OP_cu, ↓OP_remU, ↓OP_ci, ↓ITE_true, ↓ITE_false, ↓ITE_bool, decide_eq_true_eq, decide_eq_false_iff_not, Bool.not_eq_eq_eq_not, Bool.not_true, Bool.not_false, Bool.false_eq_true, Bool.true_eq_false, false_implies, true_implies, true_and, and_true, implies_true, not_true_eq_false, not_false_eq_true, app1, app2, app3, app4, cell0, look_z, look_s, rowI, rowB, rowL, ↓c_ref10_Fingers, ↓c_ref10_Ahead, ↓c_ref01_Nearer, ↓c_ref01_Owner]
  refine ⟨fun h => ?_, fun h => ?_⟩
  · rw [next_owner hA.1 hB.2.2 h]
  have hl2 : (fingers live self ++ [aheadN live self]).length ≤ 9 := by simp; omega
  unfold nextN
  rw [← refGo_neg]
  generalize fingers live self ++ [aheadN live self] = l at hl2 ⊢
  refine LOOP.rule (α := Nat × Int) (fun a => [I a.2, I a.1]) (fun a => a.1 ≤ l.length ∧ refGo t self a.2 (l.drop a.1) = refGo t self (-1) l) (fun a => l.length - a.1) (0, -1) rfl ⟨by simp, by simp⟩ (fun _ => rfl) ?_
  rintro ⟨i, b⟩ ⟨h4, h5⟩
  simp only [app] at *
  simp (disch := first | omega | assumption | (simp only [List.length_cons, List.length_nil]; omega)) only [↓OP_len, ↓OP_len0, ↓OP_idx, ↓OP_drop, ↓OP_take, ↓OP_mid, ↓OP_all, ↓OP_isl, ↓OP_isl0, ↓OP_app, ↓OP_app0, ↓OP_appN, ↓OP_app00, ↓OP_rowI, ↓OP_rowI2, ↓OP_rowL, ↓OP_rowLL, ↓OP_rowI4, ↓OP_rowI8, ↓OP_lss, ↓OP_leq, ↓OP_gtr, ↓OP_geq, ↓OP_eql, ↓OP_neq, ↓OP_not, ↓OP_beq, ↓OP_bne, ↓OP_add, ↓OP_sub, ↓OP_mn, ↓OP_mx, ↓OP_sel, ↓OP_cu, ↓OP_remU, ↓OP_ci, ↓ITE_true, ↓ITE_false, ↓ITE_bool, decide_eq_true_eq, decide_eq_false_iff_not, Bool.not_eq_eq_eq_not, Bool.not_true, Bool.not_false, Bool.false_eq_true, Bool.true_eq_false, false_implies, true_implies, true_and, and_true, implies_true, not_true_eq_false, not_false_eq_true, app1, app2, app3, app4, cell0, look_z, look_s, rowI, rowB, rowL, ↓c_ref10_Fingers, ↓c_ref10_Ahead, ↓c_ref01_Nearer, ↓c_ref01_Owner]
  refine ⟨fun h6 => ?_, fun h6 => ?_⟩
  · obtain ⟨x, hx⟩ := get_ex h6
    rw [drop_eq hx, refGo] at h5
    simp (disch := first | omega | assumption | (simp only [List.length_cons, List.length_nil]; omega)) only [↓OP_len, ↓OP_len0, ↓OP_idx, ↓OP_drop, ↓OP_take, ↓OP_mid, ↓OP_all, ↓OP_isl, ↓OP_isl0, ↓OP_app, ↓OP_app0, ↓OP_appN, ↓OP_app00, ↓OP_rowI, ↓OP_rowI2, ↓OP_rowL, ↓OP_rowLL, ↓OP_rowI4, ↓OP_rowI8, ↓OP_lss, ↓OP_leq, ↓OP_gtr, ↓OP_geq, ↓OP_eql, ↓OP_neq, ↓OP_not, ↓OP_beq, ↓OP_bne, ↓OP_add, ↓OP_sub, ↓OP_mn, ↓OP_mx, ↓OP_sel, ↓OP_cu, ↓OP_remU, ↓OP_ci, ↓ITE_true, ↓ITE_false, ↓ITE_bool, decide_eq_true_eq, decide_eq_false_iff_not, Bool.not_eq_eq_eq_not, Bool.not_true, Bool.not_false, Bool.false_eq_true, Bool.true_eq_false, false_implies, true_implies, true_and, and_true, implies_true, not_true_eq_false, not_false_eq_true, app1, app2, app3, app4, cell0, look_z, look_s, rowI, rowB, rowL, ↓c_ref10_Fingers, ↓c_ref10_Ahead, ↓c_ref01_Nearer, ↓c_ref01_Owner, cell_L hx]
    refine ⟨fun h7 => ⟨fun h8 => ⟨fun h9 => ⟨(i + 1, x), by simp, ⟨by simp; omega, by simpa [h7, h8, h9] using h5⟩, by simp; omega⟩, fun h9 => ⟨fun h10 => ⟨(i + 1, x), by simp, ⟨by simp; omega, by simpa [h7, h8, h9, h10] using h5⟩, by simp; omega⟩, fun h10 => ⟨(i + 1, b), by simp, ⟨by simp; omega, by simpa [h7, h8, h9, h10] using h5⟩, by simp; omega⟩⟩⟩, fun h8 => ⟨(i + 1, b), by simp, ⟨by simp; omega, by simpa [h7, h8] using h5⟩, by simp; omega⟩⟩, fun h7 => ⟨(i + 1, b), by simp, ⟨by simp; omega, by simpa [h7] using h5⟩, by simp; omega⟩⟩
  · rw [drop_nil h6, refGo] at h5
    simp [← h5]
theorem w_ref10_Way (t : Int) (live : List Int) (self : Int) (hp : isT t = true ∧ chkL live self = 0) (hg : Goods [I t, L live, I self]) : S_ref10_Way ρ (I t) (L live) (I self) (· = [L (way t live self)]) := by
  unfold S_ref10_Way
  obtain ⟨p1, p2⟩ := hp
  have hA := chkL_zero p2
  have hq : isT t = true ∧ chkL live self = 0 := ⟨p1, p2⟩
  simp (disch := first | omega | assumption | (simp only [List.length_cons, List.length_nil]; omega)) only [↓OP_len, ↓OP_len0, ↓OP_idx, ↓OP_drop, ↓OP_take, ↓OP_mid, ↓OP_all, ↓OP_isl, ↓OP_isl0, ↓OP_app, ↓OP_app0, ↓OP_appN, ↓OP_app00, ↓OP_rowI, ↓OP_rowI2, ↓OP_rowL, ↓OP_rowLL, ↓OP_rowI4, ↓OP_rowI8, ↓OP_lss, ↓OP_leq, ↓OP_gtr, ↓OP_geq, ↓OP_eql, ↓OP_neq, ↓OP_not, ↓OP_beq, ↓OP_bne, ↓OP_add, ↓OP_sub, ↓OP_mn, ↓OP_mx, ↓OP_sel, ↓OP_cu, ↓OP_remU, ↓OP_ci, ↓ITE_true, ↓ITE_false, ↓ITE_bool, decide_eq_true_eq, decide_eq_false_iff_not, Bool.not_eq_eq_eq_not, Bool.not_true, Bool.not_false, Bool.false_eq_true, Bool.true_eq_false, false_implies, true_implies, true_and, and_true, implies_true, not_true_eq_false, not_false_eq_true, app1, app2, app3, app4, cell0, look_z, look_s, rowI, rowB, rowL, ↓c_ref10_Next]
  refine LOOP.rule (α := List Int × Int) (fun a => [I (nextN t live a.2), L a.1]) (fun a => ∃ k, rk t a.2 ≤ k ∧ a.1.length + k ≤ 8 ∧ a.1 ++ wayN t live k a.2 = way t live self) (fun a => rk t a.2) ([], self) rfl ⟨8, rk_le t self, by simp, rfl⟩ (fun _ => rfl) ?_
  rintro ⟨acc, n⟩ ⟨k, h2, h3, h4⟩
  simp only [app] at *
  simp (disch := first | omega | assumption | (simp only [List.length_cons, List.length_nil]; omega)) only [↓OP_len, ↓OP_len0, ↓OP_idx, ↓OP_drop, ↓OP_take, ↓OP_mid, ↓OP_all, ↓OP_isl, ↓OP_isl0, ↓OP_app, ↓OP_app0, ↓OP_appN, ↓OP_app00, ↓OP_rowI, ↓OP_rowI2, ↓OP_rowL, ↓OP_rowLL, ↓OP_rowI4, ↓OP_rowI8, ↓OP_lss, ↓OP_leq, ↓OP_gtr, ↓OP_geq, ↓OP_eql, ↓OP_neq, ↓OP_not, ↓OP_beq, ↓OP_bne, ↓OP_add, ↓OP_sub, ↓OP_mn, ↓OP_mx, ↓OP_sel, ↓OP_cu, ↓OP_remU, ↓OP_ci, ↓ITE_true, ↓ITE_false, ↓ITE_bool, decide_eq_true_eq, decide_eq_false_iff_not, Bool.not_eq_eq_eq_not, Bool.not_true, Bool.not_false, Bool.false_eq_true, Bool.true_eq_false, false_implies, true_implies, true_and, and_true, implies_true, not_true_eq_false, not_false_eq_true, app1, app2, app3, app4, cell0, look_z, look_s, rowI, rowB, rowL, ↓c_ref10_Next]
  refine ⟨fun h6 => ?_, fun h6 => ?_⟩
  · have hr := near_rk (next_near h6)
    have hp : isT t = true ∧ chkL live (nextN t live n) = 0 := ⟨p1, chkL_of p2 (next_mem hA.2.1.2.2 h6)⟩
    simp (disch := first | omega | assumption | (simp only [List.length_cons, List.length_nil]; omega)) only [↓OP_len, ↓OP_len0, ↓OP_idx, ↓OP_drop, ↓OP_take, ↓OP_mid, ↓OP_all, ↓OP_isl, ↓OP_isl0, ↓OP_app, ↓OP_app0, ↓OP_appN, ↓OP_app00, ↓OP_rowI, ↓OP_rowI2, ↓OP_rowL, ↓OP_rowLL, ↓OP_rowI4, ↓OP_rowI8, ↓OP_lss, ↓OP_leq, ↓OP_gtr, ↓OP_geq, ↓OP_eql, ↓OP_neq, ↓OP_not, ↓OP_beq, ↓OP_bne, ↓OP_add, ↓OP_sub, ↓OP_mn, ↓OP_mx, ↓OP_sel, ↓OP_cu, ↓OP_remU, ↓OP_ci, ↓ITE_true, ↓ITE_false, ↓ITE_bool, decide_eq_true_eq, decide_eq_false_iff_not, Bool.not_eq_eq_eq_not, Bool.not_true, Bool.not_false, Bool.false_eq_true, Bool.true_eq_false, false_implies, true_implies, true_and, and_true, implies_true, not_true_eq_false, not_false_eq_true, app1, app2, app3, app4, cell0, look_z, look_s, rowI, rowB, rowL, ↓c_ref10_Next]
    obtain ⟨k, rfl⟩ : ∃ j, k = j + 1 := ⟨k - 1, by omega⟩
    refine ⟨(acc ++ [nextN t live n], nextN t live n), by simp, ⟨k, by simp; omega, by simp; omega, ?_⟩, by simp; omega⟩
    have : ¬ nextN t live n < 0 := by omega
    rw [← h4]
    simp [wayN, this]
  · rw [wayN_nil (by omega)] at h4
    simp [← h4]
end Go.Xt
