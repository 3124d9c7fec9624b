/- Steps towards the statements of this seat; the conditions stand in each theorem. -/
import Derived.Test.YtfcihgjageeglaaW3
set_option linter.unusedSimpArgs false
set_option linter.unusedVariables false
set_option maxRecDepth 100000
namespace Go.Xt
def rk (t b : Int) : Nat := ((List.range 8).filter fun (a : Nat) => near t a b).length
theorem rk_fin : ∀ (t : Fin 4) (a b : Fin 8), near (t.val : Int) (a.val : Int) (b.val : Int) = true → rk (t.val : Int) (a.val : Int) < rk (t.val : Int) (b.val : Int) ∧ rk (t.val : Int) (b.val : Int) < 8 := by decide +kernel
theorem near_dom {t a b : Int} (h : near t a b = true) : (0 ≤ t ∧ t < 4) ∧ (0 ≤ a ∧ a < 8) ∧ (0 ≤ b ∧ b < 8) ∧ gap t a < gap t b := by
  simp only [near, Bool.and_eq_true, decide_eq_true_eq, isT_iff, isN_iff] at h
  exact ⟨h.1.1.1, h.1.1.2, h.1.2, h.2⟩
theorem near_rk {t a b : Int} (h : near t a b = true) : rk t a < rk t b ∧ rk t b < 8 := by
  obtain ⟨h1, h2, h3, _⟩ := near_dom h
  obtain ⟨t, rfl⟩ := Int.eq_ofNat_of_zero_le h1.1
  obtain ⟨a, rfl⟩ := Int.eq_ofNat_of_zero_le h2.1
  obtain ⟨b, rfl⟩ := Int.eq_ofNat_of_zero_le h3.1
  exact rk_fin ⟨t, by omega⟩ ⟨a, by omega⟩ ⟨b, by omega⟩ h
theorem near_ne {t a b : Int} (h : near t a b = true) : a ≠ b := by
  rintro rfl; have := (near_dom h).2.2.2; omega

theorem rises_snoc (t : Int) : ∀ (p : List Int) (a n : Int), rises t a (p ++ [n]) = (rises t a p && near t n (p.getLastD a))
  | [], a, n => by simp [rises]
  | x :: p, a, n => by
    simp only [List.cons_append, rises, rises_snoc t p x n, Bool.and_assoc, List.getLastD_cons]

theorem chk_zero {t n c : Int} {xs : List Int} (h : chk t n xs c = 0) : isT t = true ∧ isN n = true ∧ xs.all isN = true ∧ rises t n xs = true ∧ (xs.length : Int) ≤ c := by
  unfold chk at h
  split at h
  · rename_i h1
    simp only [Bool.and_eq_true, decide_eq_true_eq] at h1
    split at h
    · omega
    · split at h
      · exact ⟨h1.1.1.1.1, h1.1.1.1.2, h1.2, by assumption, by omega⟩
      · omega
  · omega

theorem par_near {t : Int} {l : List (List Int)} (h : ∀ (k : Nat) x, l[k]? = some x → chk t (k : Nat) x 8 = 0) {x : Int} (h0 : 0 ≤ x) (hp : 0 ≤ par l x) : near t (par l x) x = true := by
  obtain ⟨m, rfl⟩ := Int.eq_ofNat_of_zero_le h0
  have hl := par_alive h0 hp
  obtain ⟨r, hr⟩ := get_ex hl
  have := (chk_zero (h m r hr)).2.2.2.1
  unfold par at hp ⊢
  simp only [Int.toNat_natCast, hr] at hp ⊢
  cases r with
  | nil => simp at hp
  | cons z r => simp only [rises, Bool.and_eq_true] at this; exact this.1

theorem whole_of {t : Int} {l : List (List Int)} (hl : l.length ≤ 8) (h : ∀ (k : Nat) x, l[k]? = some x → chk t (k : Nat) x 8 = 0) : whole l = true := by
  unfold whole
  simp only [Bool.and_eq_true, decide_eq_true_eq, List.all_eq_true]
  refine ⟨⟨hl, fun x hx => ?_⟩, fun n hn => ?_⟩
  · obtain ⟨k, hk⟩ := List.mem_iff_getElem?.1 hx
    have := (chk_zero (h k x hk)).2.2.1
    rw [List.all_eq_true] at this; exact this
  · have key : ∀ k : Nat, 0 ≤ iterP l (k + 1) n → rk t (iterP l (k + 1) n) + (k + 1) ≤ rk t n ∧ rk t n < 8 := by
      intro k
      induction k with
      | zero =>
        intro hk
        have h1 : iterP l 1 (n : Int) = par l n := by simp [iterP]
        rw [h1] at hk ⊢
        have := near_rk (par_near h (by omega) hk)
        omega
      | succ k ih =>
        intro hk
        have ha := iter_alive l hk (m := k + 1) (by omega)
        have := ih ha
        rw [iter_succ l (k + 1) n ha] at hk ⊢
        have := near_rk (par_near h ha hk)
        omega
    rcases Int.lt_or_le (iterP l 9 n) 0 with h1 | h1
    · exact h1
    · have := key 8 h1; omega

theorem bent_not {t : Int} {l : List (List Int)} {i z : Nat} {r : List Int} (hi : l[i]? = some ((z : Int) :: r)) (hz : z < l.length) (hn : near t z i = true) : whole (l.set z [(i : Int)]) = false := by
  have hne : i ≠ z := by have := near_ne hn; omega
  have hil : i < l.length := (List.getElem?_eq_some_iff.1 hi).1
  have p1 : par (l.set z [(i : Int)]) z = i := by simp [par, hz]
  have p2 : par (l.set z [(i : Int)]) i = z := by
    have : (l.set z [(i : Int)])[i]? = some ((z : Int) :: r) := by rw [List.getElem?_set_ne (by omega)]; exact hi
    simp [par, this]
  have key : ∀ k, iterP (l.set z [(i : Int)]) k i = i ∨ iterP (l.set z [(i : Int)]) k i = z := by
    intro k
    induction k with
    | zero => left; rfl
    | succ k ih =>
      rcases ih with h | h
      · right; rw [iter_succ _ _ _ (by omega), h, p2]
      · left; rw [iter_succ _ _ _ (by omega), h, p1]
  unfold whole
  have : ((List.range (l.set z [(i : Int)]).length).all fun n => decide (iterP (l.set z [(i : Int)]) 9 n < 0)) = false := by
    rw [List.all_eq_false]
    refine ⟨i, by simpa using hil, ?_⟩
    have := key 9
    simp; omega
  rw [this, Bool.and_false]

theorem take_snoc {α : Type} {l : List α} {i : Nat} {x : α} (h : l[i]? = some x) : l.take i ++ [x] = l.take (i + 1) := by
  rw [List.take_add_one, h]; rfl

theorem w_law12_PathWhole (t : Int) (paths : List (List Int)) (hg : Goods [I t, L paths]) : S_law12_PathWhole ρ (I t) (L paths) (· = [bb true]) := by
  unfold S_law12_PathWhole
  simp only [Goods, good_L] at hg
  have ht := u64_bd t
  simp (disch := first | omega | assumption | (simp only [List.length_cons, List.length_nil]; omega)) only [↓OP_len, ↓OP_len0, ↓OP_idx, ↓OP_drop, ↓OP_take, ↓OP_mid, ↓OP_all, ↓OP_isl, ↓OP_isl0, ↓OP_app, ↓OP_app0, ↓OP_appN, ↓OP_app00, ↓OP_rowI, ↓OP_rowI2, ↓OP_rowL, ↓OP_rowLL, ↓OP_rowI4, ↓OP_rowI8, ↓OP_lss, ↓OP_leq, ↓OP_gtr, ↓OP_geq, ↓OP_eql, ↓OP_neq, ↓OP_not, ↓OP_beq, ↓OP_bne, ↓OP_add, ↓OP_sub, ↓OP_mn, ↓OP_mx, ↓OP_sel, ↓OP_cu, ↓OP_remU, ↓OP_ci, ↓ITE_true, ↓ITE_false, ↓ITE_bool, decide_eq_true_eq, decide_eq_false_iff_not, Bool.not_eq_eq_eq_not, Bool.not_true, Bool.not_false, Bool.false_eq_true, Bool.true_eq_false, false_implies, true_implies, true_and, and_true, implies_true, not_true_eq_false, not_false_eq_true, app1, app2, app3, app4, cell0, look_z, look_s, rowI, rowB, rowL, ↓c_path_Whole, ↓c_path_Check, ↓c_law12_wakes, ↓c_ring_Nearer]
  intro h8
  have hT : isT (u64 t % 4) = true := isT_iff.2 ⟨by omega, by omega⟩
  generalize u64 t % 4 = t' at hT
  refine LOOP.rule (α := List (List Int)) (fun l => [I l.length, L l]) (fun l => l.length ≤ paths.length ∧ ∀ (k : Nat) x, l[k]? = some x → chk t' k x 8 = 0) (fun l => paths.length - l.length) [] rfl ⟨by simp, by simp⟩ (fun _ => rfl) ?_
  rintro l ⟨h1, h2⟩
  simp only [app]
  simp (disch := first | omega | assumption | (simp only [List.length_cons, List.length_nil]; omega)) only [↓OP_len, ↓OP_len0, ↓OP_idx, ↓OP_drop, ↓OP_take, ↓OP_mid, ↓OP_all, ↓OP_isl, ↓OP_isl0, ↓OP_app, ↓OP_app0, ↓OP_appN, ↓OP_app00, ↓OP_rowI, ↓OP_rowI2, ↓OP_rowL, ↓OP_rowLL, ↓OP_rowI4, ↓OP_rowI8, ↓OP_lss, ↓OP_leq, ↓OP_gtr, ↓OP_geq, ↓OP_eql, ↓OP_neq, ↓OP_not, ↓OP_beq, ↓OP_bne, ↓OP_add, ↓OP_sub, ↓OP_mn, ↓OP_mx, ↓OP_sel, ↓OP_cu, ↓OP_remU, ↓OP_ci, ↓ITE_true, ↓ITE_false, ↓ITE_bool, decide_eq_true_eq, decide_eq_false_iff_not, Bool.not_eq_eq_eq_not, Bool.not_true, Bool.not_false, Bool.false_eq_true, Bool.true_eq_false, false_implies, true_implies, true_and, and_true, implies_true, not_true_eq_false, not_false_eq_true, app1, app2, app3, app4, cell0, look_z, look_s, rowI, rowB, rowL, ↓c_path_Whole, ↓c_path_Check, ↓c_law12_wakes, ↓c_ring_Nearer]
  refine ⟨fun h3 => ?_, fun h3 => ?_⟩
  · obtain ⟨x, hx⟩ := get_ex h3
    have hN : isN (l.length : Int) = true := isN_iff.2 ⟨by omega, by omega⟩
    refine LOOP.rule (α := Nat × List Int) (fun a => [I (a.2.getLastD l.length), I a.1, L a.2]) (fun a => a.1 ≤ 40 ∧ a.2.length ≤ 8 ∧ a.2.all isN = true ∧ rises t' l.length a.2 = true) (fun a => 40 - a.1) (0, []) rfl ⟨by simp, by simp, rfl, rfl⟩ (fun _ => rfl) ?_
    rintro ⟨k, p⟩ ⟨h4, h5, h6, h7⟩
    simp only [app] at *
    refine SUB.v1 (bb (decide ((k : Int) < x.length) && decide ((k : Int) < 40) && decide ((p.length : Int) < 8))) ?_ ?_
    · simp (disch := first | omega | assumption | (simp only [List.length_cons, List.length_nil]; omega)) only [↓OP_len, ↓OP_len0, ↓OP_idx, ↓OP_drop, ↓OP_take, ↓OP_mid, ↓OP_all, ↓OP_isl, ↓OP_isl0, ↓OP_app, ↓OP_app0, ↓OP_appN, ↓OP_app00, ↓OP_rowI, ↓OP_rowI2, ↓OP_rowL, ↓OP_rowLL, ↓OP_rowI4, ↓OP_rowI8, ↓OP_lss, ↓OP_leq, ↓OP_gtr, ↓OP_geq, ↓OP_eql, ↓OP_neq, ↓OP_not, ↓OP_beq, ↓OP_bne, ↓OP_add, ↓OP_sub, ↓OP_mn, ↓OP_mx, ↓OP_sel, ↓OP_cu, ↓OP_remU, ↓OP_ci, ↓ITE_true, ↓ITE_false, ↓ITE_bool, decide_eq_true_eq, decide_eq_false_iff_not, Bool.not_eq_eq_eq_not, Bool.not_true, Bool.not_false, Bool.false_eq_true, Bool.true_eq_false, false_implies, true_implies, true_and, and_true, implies_true, not_true_eq_false, not_false_eq_true, app1, app2, app3, app4, cell0, look_z, look_s, rowI, rowB, rowL, ↓c_path_Whole, ↓c_path_Check, ↓c_law12_wakes, ↓c_ring_Nearer, cell_L hx]
      by_cases a : (k : Int) < x.length <;> by_cases b : (k : Int) < 40 <;> simp [a, b] <;> omega
    simp (disch := first | omega | assumption | (simp only [List.length_cons, List.length_nil]; omega)) only [↓OP_len, ↓OP_len0, ↓OP_idx, ↓OP_drop, ↓OP_take, ↓OP_mid, ↓OP_all, ↓OP_isl, ↓OP_isl0, ↓OP_app, ↓OP_app0, ↓OP_appN, ↓OP_app00, ↓OP_rowI, ↓OP_rowI2, ↓OP_rowL, ↓OP_rowLL, ↓OP_rowI4, ↓OP_rowI8, ↓OP_lss, ↓OP_leq, ↓OP_gtr, ↓OP_geq, ↓OP_eql, ↓OP_neq, ↓OP_not, ↓OP_beq, ↓OP_bne, ↓OP_add, ↓OP_sub, ↓OP_mn, ↓OP_mx, ↓OP_sel, ↓OP_cu, ↓OP_remU, ↓OP_ci, ↓ITE_true, ↓ITE_false, ↓ITE_bool, decide_eq_true_eq, decide_eq_false_iff_not, Bool.not_eq_eq_eq_not, Bool.not_true, Bool.not_false, Bool.false_eq_true, Bool.true_eq_false, false_implies, true_implies, true_and, and_true, implies_true, not_true_eq_false, not_false_eq_true, app1, app2, app3, app4, cell0, look_z, look_s, rowI, rowB, rowL, ↓c_path_Whole, ↓c_path_Check, ↓c_law12_wakes, ↓c_ring_Nearer]
    refine ⟨fun h9 => ?_, fun h9 => ?_⟩
    · simp only [Bool.and_eq_true, decide_eq_true_eq] at h9
      obtain ⟨y, hy⟩ := get_ex h9.1.1
      have hb := u64_bd y
      have hN2 : isN (u64 y % 8) = true := isN_iff.2 ⟨by omega, by omega⟩
      simp (disch := first | omega | assumption | (simp only [List.length_cons, List.length_nil]; omega)) only [↓OP_len, ↓OP_len0, ↓OP_idx, ↓OP_drop, ↓OP_take, ↓OP_mid, ↓OP_all, ↓OP_isl, ↓OP_isl0, ↓OP_app, ↓OP_app0, ↓OP_appN, ↓OP_app00, ↓OP_rowI, ↓OP_rowI2, ↓OP_rowL, ↓OP_rowLL, ↓OP_rowI4, ↓OP_rowI8, ↓OP_lss, ↓OP_leq, ↓OP_gtr, ↓OP_geq, ↓OP_eql, ↓OP_neq, ↓OP_not, ↓OP_beq, ↓OP_bne, ↓OP_add, ↓OP_sub, ↓OP_mn, ↓OP_mx, ↓OP_sel, ↓OP_cu, ↓OP_remU, ↓OP_ci, ↓ITE_true, ↓ITE_false, ↓ITE_bool, decide_eq_true_eq, decide_eq_false_iff_not, Bool.not_eq_eq_eq_not, Bool.not_true, Bool.not_false, Bool.false_eq_true, Bool.true_eq_false, false_implies, true_implies, true_and, and_true, implies_true, not_true_eq_false, not_false_eq_true, app1, app2, app3, app4, cell0, look_z, look_s, rowI, rowB, rowL, ↓c_path_Whole, ↓c_path_Check, ↓c_law12_wakes, ↓c_ring_Nearer, cell_L hx, cell_L hy]
      generalize u64 y % 8 = n at hN2 ⊢
      refine ⟨fun h10 => ⟨(k + 1, p ++ [n]), by simp, ⟨by simp; omega, by simp; omega, by simp [hN2]; simpa using h6, by rw [rises_snoc, h7, h10]; rfl⟩, by simp; omega⟩, fun h10 => ⟨(k + 1, p), by simp, ⟨by simp; omega, h5, h6, h7⟩, by simp; omega⟩⟩
    · have hc : chk t' l.length p 8 = 0 := by
        unfold chk
        have : ¬ (p.length : Int) > 8 := by omega
        simp [hT, hN, h7, this]; simpa using h6
      simp (disch := first | omega | assumption | (simp only [List.length_cons, List.length_nil]; omega)) only [↓OP_len, ↓OP_len0, ↓OP_idx, ↓OP_drop, ↓OP_take, ↓OP_mid, ↓OP_all, ↓OP_isl, ↓OP_isl0, ↓OP_app, ↓OP_app0, ↓OP_appN, ↓OP_app00, ↓OP_rowI, ↓OP_rowI2, ↓OP_rowL, ↓OP_rowLL, ↓OP_rowI4, ↓OP_rowI8, ↓OP_lss, ↓OP_leq, ↓OP_gtr, ↓OP_geq, ↓OP_eql, ↓OP_neq, ↓OP_not, ↓OP_beq, ↓OP_bne, ↓OP_add, ↓OP_sub, ↓OP_mn, ↓OP_mx, ↓OP_sel, ↓OP_cu, ↓OP_remU, ↓OP_ci, ↓ITE_true, ↓ITE_false, ↓ITE_bool, decide_eq_true_eq, decide_eq_false_iff_not, Bool.not_eq_eq_eq_not, Bool.not_true, Bool.not_false, Bool.false_eq_true, Bool.true_eq_false, false_implies, true_implies, true_and, and_true, implies_true, not_true_eq_false, not_false_eq_true, app1, app2, app3, app4, cell0, look_z, look_s, rowI, rowB, rowL, ↓c_path_Whole, ↓c_path_Check, ↓c_law12_wakes, ↓c_ring_Nearer, hc]
      refine ⟨l ++ [p], by simp, ⟨by simp; omega, fun k x hk => ?_⟩, by simp; omega⟩
      by_cases e : k < l.length
      · rw [List.getElem?_append_left e] at hk; exact h2 k x hk
      · rw [List.getElem?_append_right (by omega)] at hk
        have e2 : k = l.length := by
          rcases Nat.lt_or_ge l.length k with h | h
          · rw [List.getElem?_eq_none (by simp; omega)] at hk; cases hk
          · omega
        subst e2
        simp at hk
        subst hk; exact hc
  · have hw := whole_of (t := t') (l := l) (by omega) h2
    simp (disch := first | omega | assumption | (simp only [List.length_cons, List.length_nil]; omega)) only [↓OP_len, ↓OP_len0, ↓OP_idx, ↓OP_drop, ↓OP_take, ↓OP_mid, ↓OP_all, ↓OP_isl, ↓OP_isl0, ↓OP_app, ↓OP_app0, ↓OP_appN, ↓OP_app00, ↓OP_rowI, ↓OP_rowI2, ↓OP_rowL, ↓OP_rowLL, ↓OP_rowI4, ↓OP_rowI8, ↓OP_lss, ↓OP_leq, ↓OP_gtr, ↓OP_geq, ↓OP_eql, ↓OP_neq, ↓OP_not, ↓OP_beq, ↓OP_bne, ↓OP_add, ↓OP_sub, ↓OP_mn, ↓OP_mx, ↓OP_sel, ↓OP_cu, ↓OP_remU, ↓OP_ci, ↓ITE_true, ↓ITE_false, ↓ITE_bool, decide_eq_true_eq, decide_eq_false_iff_not, Bool.not_eq_eq_eq_not, Bool.not_true, Bool.not_false, Bool.false_eq_true, Bool.true_eq_false, false_implies, true_implies, true_and, and_true, implies_true, not_true_eq_false, not_false_eq_true, app1, app2, app3, app4, cell0, look_z, look_s, rowI, rowB, rowL, ↓c_path_Whole, ↓c_path_Check, ↓c_law12_wakes, ↓c_ring_Nearer, hw]
    refine SUB.v1 (bb (decide ((l.length : Int) < 2) || (decide (((l.getD 1 []).length : Int) = 0) && decide (((l.getD 0 []).length : Int) = 0)))) ?_ ?_
    · simp (disch := first | omega | assumption | (simp only [List.length_cons, List.length_nil]; omega)) only [↓OP_len, ↓OP_len0, ↓OP_idx, ↓OP_drop, ↓OP_take, ↓OP_mid, ↓OP_all, ↓OP_isl, ↓OP_isl0, ↓OP_app, ↓OP_app0, ↓OP_appN, ↓OP_app00, ↓OP_rowI, ↓OP_rowI2, ↓OP_rowL, ↓OP_rowLL, ↓OP_rowI4, ↓OP_rowI8, ↓OP_lss, ↓OP_leq, ↓OP_gtr, ↓OP_geq, ↓OP_eql, ↓OP_neq, ↓OP_not, ↓OP_beq, ↓OP_bne, ↓OP_add, ↓OP_sub, ↓OP_mn, ↓OP_mx, ↓OP_sel, ↓OP_cu, ↓OP_remU, ↓OP_ci, ↓ITE_true, ↓ITE_false, ↓ITE_bool, decide_eq_true_eq, decide_eq_false_iff_not, Bool.not_eq_eq_eq_not, Bool.not_true, Bool.not_false, Bool.false_eq_true, Bool.true_eq_false, false_implies, true_implies, true_and, and_true, implies_true, not_true_eq_false, not_false_eq_true, app1, app2, app3, app4, cell0, look_z, look_s, rowI, rowB, rowL, ↓c_path_Whole, ↓c_path_Check, ↓c_law12_wakes, ↓c_ring_Nearer]
      refine ⟨fun h => by simp [h], fun h => ?_⟩
      obtain ⟨x0, hx0⟩ : ∃ x, l[(0 : Int).toNat]? = some x := ⟨l[0], by simp⟩
      obtain ⟨x1, hx1⟩ : ∃ x, l[(1 : Int).toNat]? = some x := ⟨l[1], by simp⟩
      simp (disch := first | omega | assumption | (simp only [List.length_cons, List.length_nil]; omega)) only [↓OP_len, ↓OP_len0, ↓OP_idx, ↓OP_drop, ↓OP_take, ↓OP_mid, ↓OP_all, ↓OP_isl, ↓OP_isl0, ↓OP_app, ↓OP_app0, ↓OP_appN, ↓OP_app00, ↓OP_rowI, ↓OP_rowI2, ↓OP_rowL, ↓OP_rowLL, ↓OP_rowI4, ↓OP_rowI8, ↓OP_lss, ↓OP_leq, ↓OP_gtr, ↓OP_geq, ↓OP_eql, ↓OP_neq, ↓OP_not, ↓OP_beq, ↓OP_bne, ↓OP_add, ↓OP_sub, ↓OP_mn, ↓OP_mx, ↓OP_sel, ↓OP_cu, ↓OP_remU, ↓OP_ci, ↓ITE_true, ↓ITE_false, ↓ITE_bool, decide_eq_true_eq, decide_eq_false_iff_not, Bool.not_eq_eq_eq_not, Bool.not_true, Bool.not_false, Bool.false_eq_true, Bool.true_eq_false, false_implies, true_implies, true_and, and_true, implies_true, not_true_eq_false, not_false_eq_true, app1, app2, app3, app4, cell0, look_z, look_s, rowI, rowB, rowL, ↓c_path_Whole, ↓c_path_Check, ↓c_law12_wakes, ↓c_ring_Nearer, cell_Lz (by omega : (0 : Int) ≤ 0) hx0, cell_Lz (by omega : (0 : Int) ≤ 1) hx1]
      have e0 : l.getD 0 [] = x0 := by simpa [List.getD_eq_getElem?_getD] using congrArg (·.getD []) hx0
      have e1 : l.getD 1 [] = x1 := by simpa [List.getD_eq_getElem?_getD] using congrArg (·.getD []) hx1
      rw [e0, e1]
      by_cases a : x1 = [] <;> simp [h, a]
    simp (disch := first | omega | assumption | (simp only [List.length_cons, List.length_nil]; omega)) only [↓OP_len, ↓OP_len0, ↓OP_idx, ↓OP_drop, ↓OP_take, ↓OP_mid, ↓OP_all, ↓OP_isl, ↓OP_isl0, ↓OP_app, ↓OP_app0, ↓OP_appN, ↓OP_app00, ↓OP_rowI, ↓OP_rowI2, ↓OP_rowL, ↓OP_rowLL, ↓OP_rowI4, ↓OP_rowI8, ↓OP_lss, ↓OP_leq, ↓OP_gtr, ↓OP_geq, ↓OP_eql, ↓OP_neq, ↓OP_not, ↓OP_beq, ↓OP_bne, ↓OP_add, ↓OP_sub, ↓OP_mn, ↓OP_mx, ↓OP_sel, ↓OP_cu, ↓OP_remU, ↓OP_ci, ↓ITE_true, ↓ITE_false, ↓ITE_bool, decide_eq_true_eq, decide_eq_false_iff_not, Bool.not_eq_eq_eq_not, Bool.not_true, Bool.not_false, Bool.false_eq_true, Bool.true_eq_false, false_implies, true_implies, true_and, and_true, implies_true, not_true_eq_false, not_false_eq_true, app1, app2, app3, app4, cell0, look_z, look_s, rowI, rowB, rowL, ↓c_path_Whole, ↓c_path_Check, ↓c_law12_wakes, ↓c_ring_Nearer]
    intro h
    refine LOOP.rule (α := Nat × List (List Int)) (fun a => [I a.1, L a.2]) (fun a => a.1 ≤ l.length ∧ (a.2 = [] ∨ (a.2.length = l.length ∧ whole a.2 = false))) (fun a => l.length - a.1) (0, []) rfl ⟨by simp, Or.inl rfl⟩ (fun _ => rfl) ?_
    rintro ⟨i, b⟩ ⟨h4, h5⟩
    simp only [app] at *
    simp (disch := first | omega | assumption | (simp only [List.length_cons, List.length_nil]; omega)) only [↓OP_len, ↓OP_len0, ↓OP_idx, ↓OP_drop, ↓OP_take, ↓OP_mid, ↓OP_all, ↓OP_isl, ↓OP_isl0, ↓OP_app, ↓OP_app0, ↓OP_appN, ↓OP_app00, ↓OP_rowI, ↓OP_rowI2, ↓OP_rowL, ↓OP_rowLL, ↓OP_rowI4, ↓OP_rowI8, ↓OP_lss, ↓OP_leq, ↓OP_gtr, ↓OP_geq, ↓OP_eql, ↓OP_neq, ↓OP_not, ↓OP_beq, ↓OP_bne, ↓OP_add, ↓OP_sub, ↓OP_mn, ↓OP_mx, ↓OP_sel, ↓OP_cu, ↓OP_remU, ↓OP_ci, ↓ITE_true, ↓ITE_false, ↓ITE_bool, decide_eq_true_eq, decide_eq_false_iff_not, Bool.not_eq_eq_eq_not, Bool.not_true, Bool.not_false, Bool.false_eq_true, Bool.true_eq_false, false_implies, true_implies, true_and, and_true, implies_true, not_true_eq_false, not_false_eq_true, app1, app2, app3, app4, cell0, look_z, look_s, rowI, rowB, rowL, ↓c_path_Whole, ↓c_path_Check, ↓c_law12_wakes, ↓c_ring_Nearer]
    refine ⟨fun h6 => ?_, fun h6 => ?_⟩
    · obtain ⟨x, hx⟩ := get_ex h6
      refine SUB.v1 (bb (decide (0 < (x.length : Int)) && decide (x.headD 0 < (l.length : Int)) && decide ((b.length : Int) = 0))) ?_ ?_
      · simp (disch := first | omega | assumption | (simp only [List.length_cons, List.length_nil]; omega)) only [↓OP_len, ↓OP_len0, ↓OP_idx, ↓OP_drop, ↓OP_take, ↓OP_mid, ↓OP_all, ↓OP_isl, ↓OP_isl0, ↓OP_app, ↓OP_app0, ↓OP_appN, ↓OP_app00, ↓OP_rowI, ↓OP_rowI2, ↓OP_rowL, ↓OP_rowLL, ↓OP_rowI4, ↓OP_rowI8, ↓OP_lss, ↓OP_leq, ↓OP_gtr, ↓OP_geq, ↓OP_eql, ↓OP_neq, ↓OP_not, ↓OP_beq, ↓OP_bne, ↓OP_add, ↓OP_sub, ↓OP_mn, ↓OP_mx, ↓OP_sel, ↓OP_cu, ↓OP_remU, ↓OP_ci, ↓ITE_true, ↓ITE_false, ↓ITE_bool, decide_eq_true_eq, decide_eq_false_iff_not, Bool.not_eq_eq_eq_not, Bool.not_true, Bool.not_false, Bool.false_eq_true, Bool.true_eq_false, false_implies, true_implies, true_and, and_true, implies_true, not_true_eq_false, not_false_eq_true, app1, app2, app3, app4, cell0, look_z, look_s, rowI, rowB, rowL, ↓c_path_Whole, ↓c_path_Check, ↓c_law12_wakes, ↓c_ring_Nearer, cell_L hx]
        cases x with
        | nil => simp
        | cons z r =>
          simp (disch := first | omega | assumption | (simp only [List.length_cons, List.length_nil]; omega)) only [↓OP_len, ↓OP_len0, ↓OP_idx, ↓OP_drop, ↓OP_take, ↓OP_mid, ↓OP_all, ↓OP_isl, ↓OP_isl0, ↓OP_app, ↓OP_app0, ↓OP_appN, ↓OP_app00, ↓OP_rowI, ↓OP_rowI2, ↓OP_rowL, ↓OP_rowLL, ↓OP_rowI4, ↓OP_rowI8, ↓OP_lss, ↓OP_leq, ↓OP_gtr, ↓OP_geq, ↓OP_eql, ↓OP_neq, ↓OP_not, ↓OP_beq, ↓OP_bne, ↓OP_add, ↓OP_sub, ↓OP_mn, ↓OP_mx, ↓OP_sel, ↓OP_cu, ↓OP_remU, ↓OP_ci, ↓ITE_true, ↓ITE_false, ↓ITE_bool, decide_eq_true_eq, decide_eq_false_iff_not, Bool.not_eq_eq_eq_not, Bool.not_true, Bool.not_false, Bool.false_eq_true, Bool.true_eq_false, false_implies, true_implies, true_and, and_true, implies_true, not_true_eq_false, not_false_eq_true, app1, app2, app3, app4, cell0, look_z, look_s, rowI, rowB, rowL, ↓c_path_Whole, ↓c_path_Check, ↓c_law12_wakes, ↓c_ring_Nearer]
          by_cases a : z < (l.length : Int) <;> simp [a] <;> omega
      simp (disch := first | omega | assumption | (simp only [List.length_cons, List.length_nil]; omega)) only [↓OP_len, ↓OP_len0, ↓OP_idx, ↓OP_drop, ↓OP_take, ↓OP_mid, ↓OP_all, ↓OP_isl, ↓OP_isl0, ↓OP_app, ↓OP_app0, ↓OP_appN, ↓OP_app00, ↓OP_rowI, ↓OP_rowI2, ↓OP_rowL, ↓OP_rowLL, ↓OP_rowI4, ↓OP_rowI8, ↓OP_lss, ↓OP_leq, ↓OP_gtr, ↓OP_geq, ↓OP_eql, ↓OP_neq, ↓OP_not, ↓OP_beq, ↓OP_bne, ↓OP_add, ↓OP_sub, ↓OP_mn, ↓OP_mx, ↓OP_sel, ↓OP_cu, ↓OP_remU, ↓OP_ci, ↓ITE_true, ↓ITE_false, ↓ITE_bool, decide_eq_true_eq, decide_eq_false_iff_not, Bool.not_eq_eq_eq_not, Bool.not_true, Bool.not_false, Bool.false_eq_true, Bool.true_eq_false, false_implies, true_implies, true_and, and_true, implies_true, not_true_eq_false, not_false_eq_true, app1, app2, app3, app4, cell0, look_z, look_s, rowI, rowB, rowL, ↓c_path_Whole, ↓c_path_Check, ↓c_law12_wakes, ↓c_ring_Nearer]
      refine ⟨fun h7 => ?_, fun h7 => ⟨(i + 1, b), by simp, ⟨by simp; omega, h5⟩, by simp; omega⟩⟩
      simp only [Bool.and_eq_true, decide_eq_true_eq] at h7
      obtain ⟨⟨h8, h9⟩, h10⟩ := h7
      have hb : b = [] := List.eq_nil_of_length_eq_zero (by omega)
      subst hb
      cases x with
      | nil => simp at h8
      | cons z r =>
        simp only [List.headD_cons] at h9
        have hc := chk_zero (h2 i _ hx)
        have hnr : near t' z i = true := by
          have := hc.2.2.2.1; simp only [rises, Bool.and_eq_true] at this; exact this.1
        have hz0 := (near_dom hnr).2.1.1
        obtain ⟨z, rfl⟩ := Int.eq_ofNat_of_zero_le hz0
        refine LOOP.rule (α := Nat) (fun k => [I k, L (l.take k)]) (fun k => k ≤ l.length) (fun k => l.length - k) 0 (by simp) (by omega) (fun _ => rfl) ?_
        intro k h11
        have htl : (l.take k).length = k := by simp; omega
        simp only [app]
        simp (disch := first | omega | assumption | (simp only [List.length_cons, List.length_nil]; omega)) only [↓OP_len, ↓OP_len0, ↓OP_idx, ↓OP_drop, ↓OP_take, ↓OP_mid, ↓OP_all, ↓OP_isl, ↓OP_isl0, ↓OP_app, ↓OP_app0, ↓OP_appN, ↓OP_app00, ↓OP_rowI, ↓OP_rowI2, ↓OP_rowL, ↓OP_rowLL, ↓OP_rowI4, ↓OP_rowI8, ↓OP_lss, ↓OP_leq, ↓OP_gtr, ↓OP_geq, ↓OP_eql, ↓OP_neq, ↓OP_not, ↓OP_beq, ↓OP_bne, ↓OP_add, ↓OP_sub, ↓OP_mn, ↓OP_mx, ↓OP_sel, ↓OP_cu, ↓OP_remU, ↓OP_ci, ↓ITE_true, ↓ITE_false, ↓ITE_bool, decide_eq_true_eq, decide_eq_false_iff_not, Bool.not_eq_eq_eq_not, Bool.not_true, Bool.not_false, Bool.false_eq_true, Bool.true_eq_false, false_implies, true_implies, true_and, and_true, implies_true, not_true_eq_false, not_false_eq_true, app1, app2, app3, app4, cell0, look_z, look_s, rowI, rowB, rowL, ↓c_path_Whole, ↓c_path_Check, ↓c_law12_wakes, ↓c_ring_Nearer]
        refine ⟨fun h12 => ?_, fun h12 => ?_⟩
        · obtain ⟨y, hy⟩ := get_ex h12
          simp (disch := first | omega | assumption | (simp only [List.length_cons, List.length_nil]; omega)) only [↓OP_len, ↓OP_len0, ↓OP_idx, ↓OP_drop, ↓OP_take, ↓OP_mid, ↓OP_all, ↓OP_isl, ↓OP_isl0, ↓OP_app, ↓OP_app0, ↓OP_appN, ↓OP_app00, ↓OP_rowI, ↓OP_rowI2, ↓OP_rowL, ↓OP_rowLL, ↓OP_rowI4, ↓OP_rowI8, ↓OP_lss, ↓OP_leq, ↓OP_gtr, ↓OP_geq, ↓OP_eql, ↓OP_neq, ↓OP_not, ↓OP_beq, ↓OP_bne, ↓OP_add, ↓OP_sub, ↓OP_mn, ↓OP_mx, ↓OP_sel, ↓OP_cu, ↓OP_remU, ↓OP_ci, ↓ITE_true, ↓ITE_false, ↓ITE_bool, decide_eq_true_eq, decide_eq_false_iff_not, Bool.not_eq_eq_eq_not, Bool.not_true, Bool.not_false, Bool.false_eq_true, Bool.true_eq_false, false_implies, true_implies, true_and, and_true, implies_true, not_true_eq_false, not_false_eq_true, app1, app2, app3, app4, cell0, look_z, look_s, rowI, rowB, rowL, ↓c_path_Whole, ↓c_path_Check, ↓c_law12_wakes, ↓c_ring_Nearer, cell_L hy]
          refine ⟨k + 1, ?_, by omega, by omega⟩
          rw [← take_snoc hy]; simp
        · rw [List.take_of_length_le (by omega)]
          obtain ⟨y, hy⟩ := get_ex (xs := l) (i := z) (by simpa using h9)
          simp (disch := first | omega | assumption | (simp only [List.length_cons, List.length_nil]; omega)) only [↓OP_len, ↓OP_len0, ↓OP_idx, ↓OP_drop, ↓OP_take, ↓OP_mid, ↓OP_all, ↓OP_isl, ↓OP_isl0, ↓OP_app, ↓OP_app0, ↓OP_appN, ↓OP_app00, ↓OP_rowI, ↓OP_rowI2, ↓OP_rowL, ↓OP_rowLL, ↓OP_rowI4, ↓OP_rowI8, ↓OP_lss, ↓OP_leq, ↓OP_gtr, ↓OP_geq, ↓OP_eql, ↓OP_neq, ↓OP_not, ↓OP_beq, ↓OP_bne, ↓OP_add, ↓OP_sub, ↓OP_mn, ↓OP_mx, ↓OP_sel, ↓OP_cu, ↓OP_remU, ↓OP_ci, ↓ITE_true, ↓ITE_false, ↓ITE_bool, decide_eq_true_eq, decide_eq_false_iff_not, Bool.not_eq_eq_eq_not, Bool.not_true, Bool.not_false, Bool.false_eq_true, Bool.true_eq_false, false_implies, true_implies, true_and, and_true, implies_true, not_true_eq_false, not_false_eq_true, app1, app2, app3, app4, cell0, look_z, look_s, rowI, rowB, rowL, ↓c_path_Whole, ↓c_path_Check, ↓c_law12_wakes, ↓c_ring_Nearer, cell_L hx]
          rw [OP_set (y := [(i : Int)]) hy rfl]
          refine ⟨(i + 1, l.set z [(i : Int)]), by simp, ⟨by simp; omega, Or.inr ⟨by simp, ?_⟩⟩, by simp; omega⟩
          exact bent_not hx (by omega) hnr
    · rcases h5 with rfl | ⟨h7, h8⟩
      · simp
      · simp [h8]
end Go.Xt
