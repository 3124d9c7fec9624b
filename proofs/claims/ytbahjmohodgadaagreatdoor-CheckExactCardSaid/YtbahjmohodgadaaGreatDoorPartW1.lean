/- Steps towards the statements of this seat; the conditions stand in each theorem. -/
import Derived.Test.YtbahjmohodgadaaGreatDoorRho
import Derived.Test.YtbahjmohodgadaaGreatDoorT
section
set_option linter.unusedSimpArgs false
set_option linter.unusedVariables false
set_option maxRecDepth 100000
namespace Go.Xt
theorem nn_bd (v : Int) : 0 ≤ nn v ∧ nn v < 4611686018427387904 := by
  unfold nn NN
  match v.toNat with
  | 0 => simp | 1 => simp | 2 => simp | 3 => simp | 4 => simp | 5 => simp | 6 => simp | 7 => simp
  | n + 8 => simp
theorem tt_bd (v : Int) : 0 ≤ tt v ∧ tt v < 4611686018427387904 := by
  unfold tt TT
  match v.toNat with
  | 0 => simp | 1 => simp | 2 => simp | 3 => simp
  | n + 4 => simp
theorem isN_iff {v : Int} : isN v = true ↔ 0 ≤ v ∧ v < 8 := by simp [isN]
theorem isT_iff {v : Int} : isT v = true ↔ 0 ≤ v ∧ v < 4 := by simp [isT]
theorem OP_nn {v : Int} {k : PV → Prop} (h0 : 0 ≤ v) (h1 : v < 8) : OP .pickA [I v, I 2342812313538366385, I 1863050908023769503, I 81111313352671826, I 2434324899588211290, I 2454816673080883147, I 1342378062264523301, I 820659310660760249, I 2006264061484817761] k = k (I (nn v)) := by
  obtain ⟨n, rfl⟩ := Int.eq_ofNat_of_zero_le h0
  have : n < 8 := by omega
  match n with
  | 0 => exact OP_of rfl | 1 => exact OP_of rfl | 2 => exact OP_of rfl | 3 => exact OP_of rfl | 4 => exact OP_of rfl | 5 => exact OP_of rfl | 6 => exact OP_of rfl | 7 => exact OP_of rfl
  | n + 8 => omega
theorem OP_tt {v : Int} {k : PV → Prop} (h0 : 0 ≤ v) (h1 : v < 4) : OP .pickA [I v, I 1462484242049070477, I 1775212608919665246, I 3535639072113518480, I 3725500155902745375] k = k (I (tt v)) := by
  obtain ⟨n, rfl⟩ := Int.eq_ofNat_of_zero_le h0
  have : n < 4 := by omega
  match n with
  | 0 => exact OP_of rfl | 1 => exact OP_of rfl | 2 => exact OP_of rfl | 3 => exact OP_of rfl
  | n + 4 => omega
theorem w_ring_Is (n : Int) : S_ring_Is ρ (I n) (· = [bb (isN n)]) := by
  unfold S_ring_Is
  simp (disch := first | omega | assumption | exact ⟨by first | assumption | omega, by first | assumption | omega⟩ | (simp only [List.length_cons, List.length_nil]; omega)) only [↓S0, ↓ITE_bool, S1, eq_self, if_true, if_false, true_implies, false_implies, implies_true]
  refine ⟨fun h => ?_, fun h => ?_⟩ <;> simp [isN, h]
  try omega
theorem w_ring_Node (n : Int) : S_ring_Node ρ (I n) (· = [I (if isN n = true then nn n else 0), I (if isN n = true then 0 else 1)]) := by
  unfold S_ring_Node
  simp (disch := first | omega | assumption | exact ⟨by first | assumption | omega, by first | assumption | omega⟩ | (simp only [List.length_cons, List.length_nil]; omega)) only [↓S0, ↓ITE_bool, S1, eq_self, if_true, if_false, true_implies, false_implies, implies_true, ↓c_ring_Is]
  refine ⟨fun h => ?_, fun h => ?_⟩ 
  · simp [h]
  · rw [isN_iff] at h
    rw [OP_nn h.1 h.2]; simp [isN_iff, h]
theorem w_ring_Topic (t : Int) : S_ring_Topic ρ (I t) (· = [I (if isT t = true then tt t else 0), I (if isT t = true then 0 else 1)]) := by
  unfold S_ring_Topic
  simp (disch := first | omega | assumption | exact ⟨by first | assumption | omega, by first | assumption | omega⟩ | (simp only [List.length_cons, List.length_nil]; omega)) only [↓S0, ↓ITE_bool, S1, eq_self, if_true, if_false, true_implies, false_implies, implies_true]
  refine ⟨fun h => ⟨fun h2 => ?_, fun h2 => ?_⟩, fun h => ?_⟩ 
  · simp [isT, h]; try omega
  · rw [OP_tt h (by omega)]; simp [isT_iff, h]; try omega
  · simp [isT, h]; try omega
theorem w_key_Far (k : Int) (n : Int) (hp : 0 ≤ k ∧ k < 4611686018427387904 ∧ 0 ≤ n ∧ n < 4611686018427387904) : S_key_Far ρ (I k) (I n) (· = [I (far k n)]) := by
  unfold S_key_Far far
  obtain ⟨h1, h2, h3, h4⟩ := hp
  simp (disch := first | omega | assumption | exact ⟨by first | assumption | omega, by first | assumption | omega⟩ | (simp only [List.length_cons, List.length_nil]; omega)) only [↓S0, ↓ITE_bool, S1, eq_self, if_true, if_false, true_implies, false_implies, implies_true]
  refine ⟨fun h => ?_, fun h => ?_⟩
  · simp [h]
  · simp [h]; try omega
theorem w_ref01_Node (n : Int) (hp : isN n = true) : S_ref01_Node ρ (I n) (· = [I (nn n)]) := by
  unfold S_ref01_Node
  rw [isN_iff] at hp
  simp (disch := first | omega | assumption | exact ⟨by first | assumption | omega, by first | assumption | omega⟩ | (simp only [List.length_cons, List.length_nil]; omega)) only [↓S0, ↓ITE_bool, S1, eq_self, if_true, if_false, true_implies, false_implies, implies_true]
  rw [cell_I hp.1 (by simp only [List.length_cons, List.length_nil]; omega)]; rfl
theorem w_ref01_Topic (t : Int) (hp : isT t = true) : S_ref01_Topic ρ (I t) (· = [I (tt t)]) := by
  unfold S_ref01_Topic
  rw [isT_iff] at hp
  simp (disch := first | omega | assumption | exact ⟨by first | assumption | omega, by first | assumption | omega⟩ | (simp only [List.length_cons, List.length_nil]; omega)) only [↓S0, ↓ITE_bool, S1, eq_self, if_true, if_false, true_implies, false_implies, implies_true]
  rw [cell_I hp.1 (by simp only [List.length_cons, List.length_nil]; omega)]; rfl
theorem w_ref01_Behind (k : Int) (n : Int) (hp : 0 ≤ k ∧ k < 4611686018427387904 ∧ 0 ≤ n ∧ n < 4611686018427387904) : S_ref01_Behind ρ (I k) (I n) (· = [I (far k n)]) := by
  unfold S_ref01_Behind far
  obtain ⟨h1, h2, h3, h4⟩ := hp
  simp (disch := first | omega | assumption | exact ⟨by first | assumption | omega, by first | assumption | omega⟩ | (simp only [List.length_cons, List.length_nil]; omega)) only [↓S0, ↓ITE_bool, S1, eq_self, if_true, if_false, true_implies, false_implies, implies_true]
  refine ⟨fun h => ?_, fun h => ?_⟩
  · simp; omega
  · simp; omega
theorem w_ref01_IsTopic (t : Int) : S_ref01_IsTopic ρ (I t) (· = [bb (isT t)]) := by
  unfold S_ref01_IsTopic
  simp (disch := first | omega | assumption | exact ⟨by first | assumption | omega, by first | assumption | omega⟩ | (simp only [List.length_cons, List.length_nil]; omega)) only [↓S0, ↓ITE_bool, S1, eq_self, if_true, if_false, true_implies, false_implies, implies_true, ↓c_ref01_In]
  first
  | (refine ⟨fun h => ?_, fun h => ?_⟩ <;> simp [isT, h] <;> omega)
  | (simp only [isT, List.cons.injEq, PV.bool.injEq, and_true]; rw [Bool.eq_iff_iff]; simp; omega)
theorem w_ref01_IsNode (n : Int) : S_ref01_IsNode ρ (I n) (· = [bb (isN n)]) := by
  unfold S_ref01_IsNode
  simp (disch := first | omega | assumption | exact ⟨by first | assumption | omega, by first | assumption | omega⟩ | (simp only [List.length_cons, List.length_nil]; omega)) only [↓S0, ↓ITE_bool, S1, eq_self, if_true, if_false, true_implies, false_implies, implies_true, ↓c_ref01_In]
  first
  | (refine ⟨fun h => ?_, fun h => ?_⟩ <;> simp [isN, h] <;> omega)
  | (simp only [isN, List.cons.injEq, PV.bool.injEq, and_true]; rw [Bool.eq_iff_iff]; simp; omega)
theorem w_ring_Gap (t : Int) (n : Int) : S_ring_Gap ρ (I t) (I n) (· = [I (if (isT t && isN n) = true then gap t n else 0), I (if (isT t && isN n) = true then 0 else 1)]) := by
  unfold S_ring_Gap gap
  have := tt_bd t; have := nn_bd n
  simp (disch := first | omega | assumption | exact ⟨by first | assumption | omega, by first | assumption | omega⟩ | (simp only [List.length_cons, List.length_nil]; omega)) only [↓S0, ↓ITE_bool, S1, eq_self, if_true, if_false, true_implies, false_implies, implies_true, ↓c_ring_Topic, ↓c_ring_Node, ↓c_key_Far]
  cases h1 : isT t <;> cases h2 : isN n <;> simp
theorem w_ring_Nearer (t : Int) (a : Int) (b : Int) : S_ring_Nearer ρ (I t) (I a) (I b) (· = [bb (near t a b)]) := by
  unfold S_ring_Nearer near
  simp (disch := first | omega | assumption | exact ⟨by first | assumption | omega, by first | assumption | omega⟩ | (simp only [List.length_cons, List.length_nil]; omega)) only [↓S0, ↓ITE_bool, S1, eq_self, if_true, if_false, true_implies, false_implies, implies_true, ↓c_ring_Gap]
  cases h1 : isT t <;> cases h2 : isN a <;> cases h3 : isN b <;> simp
theorem w_ref01_Gap (t : Int) (n : Int) (hp : isT t = true ∧ isN n = true) : S_ref01_Gap ρ (I t) (I n) (· = [I (gap t n)]) := by
  unfold S_ref01_Gap gap
  have := tt_bd t; have := nn_bd n
  obtain ⟨h1, h2⟩ := hp
  rw [c_ref01_Topic h1, c_ref01_Node h2, c_ref01_Behind (by omega)]
theorem w_ref01_Nearer (t : Int) (a : Int) (b : Int) : S_ref01_Nearer ρ (I t) (I a) (I b) (· = [bb (near t a b)]) := by
  unfold S_ref01_Nearer near
  simp (disch := first | omega | assumption | exact ⟨by first | assumption | omega, by first | assumption | omega⟩ | (simp only [List.length_cons, List.length_nil]; omega)) only [↓S0, ↓ITE_bool, S1, eq_self, if_true, if_false, true_implies, false_implies, implies_true, ↓c_ref01_IsNode, ↓c_ref01_IsTopic, ↓c_ref01_Gap]
  cases h1 : isT t <;> cases h2 : isN a <;> cases h3 : isN b <;> simp
  rw [c_ref01_Gap ⟨h1, h2⟩, c_ref01_Gap ⟨h1, h3⟩]
  simp (disch := first | omega | assumption | exact ⟨by first | assumption | omega, by first | assumption | omega⟩ | (simp only [List.length_cons, List.length_nil]; omega)) only [↓S0, ↓ITE_bool, S1, eq_self, if_true, if_false, true_implies, false_implies, implies_true, ↓c_ref01_IsNode, ↓c_ref01_IsTopic, ↓c_ref01_Gap]
theorem near_dom {t a b : Int} (h : near t a b = true) : (0 ≤ t ∧ t < 4) ∧ (0 ≤ a ∧ a < 8) ∧ (0 ≤ b ∧ b < 8) ∧ gap t a < gap t b := by
  simp only [near, Bool.and_eq_true, decide_eq_true_eq, isT_iff, isN_iff] at h
  exact ⟨h.1.1.1, h.1.1.2, h.1.2, h.2⟩
end Go.Xt
end
section
set_option linter.unusedSimpArgs false
set_option linter.unusedVariables false
set_option maxRecDepth 100000
namespace Go.Xt
theorem w_ring_All (l : List Int) (hg : Goods [L l]) : S_ring_All ρ (L l) (· = [bb (l.all isN)]) := by
  unfold S_ring_All
  simp only [Goods, good_L] at hg
  simp (disch := first | omega | assumption | exact ⟨by first | assumption | omega, by first | assumption | omega⟩ | (simp only [List.length_cons, List.length_nil]; omega)) only [↓S0, ↓ITE_bool, S1, eq_self, if_true, if_false, true_implies, false_implies, implies_true, ↓c_ring_Is]
  refine LOOP.rule (α := Nat) (fun i => [I i]) (fun i => i ≤ l.length ∧ (l.drop i).all isN = l.all isN) (fun i => l.length - i) 0 rfl ⟨by omega, rfl⟩ (fun _ => rfl) ?_
  rintro i ⟨h1, h2⟩
  simp only [app]
  simp (disch := first | omega | assumption | exact ⟨by first | assumption | omega, by first | assumption | omega⟩ | (simp only [List.length_cons, List.length_nil]; omega)) only [↓S0, ↓ITE_bool, S1, eq_self, if_true, if_false, true_implies, false_implies, implies_true, ↓c_ring_Is]
  refine ⟨fun h => ?_, fun h => ?_⟩
  · obtain ⟨x, hx⟩ := get_ex h
    rw [drop_eq hx, List.all_cons] at h2
    simp (disch := first | omega | assumption | exact ⟨by first | assumption | omega, by first | assumption | omega⟩ | (simp only [List.length_cons, List.length_nil]; omega)) only [↓S0, ↓ITE_bool, S1, eq_self, if_true, if_false, true_implies, false_implies, implies_true, ↓c_ring_Is, cell_L hx]
    refine ⟨fun h3 => ?_, fun h3 => ⟨i + 1, rfl, ⟨by omega, by simpa [h3] using h2⟩, by omega⟩⟩
    rw [h3] at h2; simp [← h2]
  · rw [drop_nil h] at h2
    simp [← h2]
theorem w_path_rises (t : Int) (self : Int) (l : List Int) (hg : Goods [I t, I self, L l]) : S_path_rises ρ (I t) (I self) (L l) (· = [bb (rises t self l)]) := by
  unfold S_path_rises
  simp only [Goods, good_L] at hg
  simp (disch := first | omega | assumption | exact ⟨by first | assumption | omega, by first | assumption | omega⟩ | (simp only [List.length_cons, List.length_nil]; omega)) only [↓S0, ↓ITE_bool, S1, eq_self, if_true, if_false, true_implies, false_implies, implies_true, ↓c_ring_Nearer]
  refine LOOP.rule (α := Nat × Int) (fun a => [I a.2, I a.1]) (fun a => a.1 ≤ l.length ∧ rises t a.2 (l.drop a.1) = rises t self l) (fun a => l.length - a.1) (0, self) rfl ⟨by simp, rfl⟩ (fun _ => rfl) ?_
  rintro ⟨i, s⟩ ⟨h1, h2⟩
  simp only [app] at *
  simp (disch := first | omega | assumption | exact ⟨by first | assumption | omega, by first | assumption | omega⟩ | (simp only [List.length_cons, List.length_nil]; omega)) only [↓S0, ↓ITE_bool, S1, eq_self, if_true, if_false, true_implies, false_implies, implies_true, ↓c_ring_Nearer]
  refine ⟨fun h => ?_, fun h => ?_⟩
  · obtain ⟨x, hx⟩ := get_ex h
    rw [drop_eq hx, rises] at h2
    simp (disch := first | omega | assumption | exact ⟨by first | assumption | omega, by first | assumption | omega⟩ | (simp only [List.length_cons, List.length_nil]; omega)) only [↓S0, ↓ITE_bool, S1, eq_self, if_true, if_false, true_implies, false_implies, implies_true, ↓c_ring_Nearer, cell_L hx]
    refine ⟨fun h3 => ?_, fun h3 => ⟨(i + 1, x), rfl, ⟨by simp; omega, by simpa [h3] using h2⟩, by simp; omega⟩⟩
    rw [h3] at h2; simp [← h2]
  · rw [drop_nil h] at h2
    simp [← h2, rises]
theorem w_path_Check (t : Int) (self : Int) (l : List Int) (depth : Int) (hg : Goods [I t, I self, L l, I depth]) : S_path_Check ρ (I t) (I self) (L l) (I depth) (· = [I (chk t self l depth)]) := by
  unfold S_path_Check chk
  rw [c_ring_Gap]
  refine SUB.v1 (bb (!(isT t && isN self && decide (1 ≤ depth) && decide (depth ≤ 8) && l.all isN))) ?_ ?_
  · simp (disch := first | omega | assumption | exact ⟨by first | assumption | omega, by first | assumption | omega⟩ | (simp only [List.length_cons, List.length_nil]; omega)) only [↓S0, ↓ITE_bool, S1, eq_self, if_true, if_false, true_implies, false_implies, implies_true, ↓c_ring_All, ↓c_ring_Gap, ↓c_path_rises]
    by_cases h3 : 1 ≤ depth <;> by_cases h4 : depth ≤ 8 <;> cases h1 : isT t <;> cases h2 : isN self <;> simp [h3, h4] <;> omega
  simp (disch := first | omega | assumption | exact ⟨by first | assumption | omega, by first | assumption | omega⟩ | (simp only [List.length_cons, List.length_nil]; omega)) only [↓S0, ↓ITE_bool, S1, eq_self, if_true, if_false, true_implies, false_implies, implies_true, ↓c_ring_All, ↓c_ring_Gap, ↓c_path_rises]
  by_cases h : (isT t && isN self && decide (1 ≤ depth) && decide (depth ≤ 8) && l.all isN) = true
  · rw [if_pos h]; simp only [h]
    cases h5 : rises t self l <;> simp <;> omega
  · rw [if_neg h]; simp [h]
theorem chk_cases (t n : Int) (xs : List Int) (c : Int) : chk t n xs c = 0 ∨ chk t n xs c = 1 ∨ chk t n xs c = 12 := by
  unfold chk; split <;> (try split) <;> (try split) <;> simp
theorem w_path_parent (paths : List (List Int)) (n : Int) (hp : 0 ≤ n) : S_path_parent ρ (L paths) (I n) (· = [I (par paths n)]) := by
  unfold S_path_parent par
  obtain ⟨m, rfl⟩ := Int.eq_ofNat_of_zero_le hp
  simp (disch := first | omega | assumption | exact ⟨by first | assumption | omega, by first | assumption | omega⟩ | (simp only [List.length_cons, List.length_nil]; omega)) only [↓S0, ↓ITE_bool, S1, eq_self, if_true, if_false, true_implies, false_implies, implies_true]
  refine ⟨fun h => ?_, fun h => ?_⟩
  · have : paths[m]? = none := by simp; omega
    simp [this]
  · obtain ⟨x, hx⟩ := get_ex (xs := paths) (i := m) (by omega)
    simp (disch := first | omega | assumption | exact ⟨by first | assumption | omega, by first | assumption | omega⟩ | (simp only [List.length_cons, List.length_nil]; omega)) only [↓S0, ↓ITE_bool, S1, eq_self, if_true, if_false, true_implies, false_implies, implies_true, cell_L hx]
    simp only [Int.toNat_natCast, hx]
    cases x with
    | nil => simp
    | cons a r =>
      refine ⟨fun h => absurd h (by simp; omega), fun h => ?_⟩
      simp (disch := first | omega | assumption | exact ⟨by first | assumption | omega, by first | assumption | omega⟩ | (simp only [List.length_cons, List.length_nil]; omega)) only [↓S0, ↓ITE_bool, S1, eq_self, if_true, if_false, true_implies, false_implies, implies_true]
theorem w_bkeep_TwinInts (l : List Int) (hp : l.length ≤ 1000000) : S_bkeep_TwinInts ρ (L l) (· = [L l]) := by
  unfold S_bkeep_TwinInts
  simp (disch := first | omega | assumption | exact ⟨by first | assumption | omega, by first | assumption | omega⟩ | (simp only [List.length_cons, List.length_nil]; omega)) only [↓S0, ↓ITE_bool, S1, eq_self, if_true, if_false, true_implies, false_implies, implies_true]
theorem w_bkeep_Ints (a : List Int) (b : List Int) (hg : Goods [L a, L b]) : S_bkeep_Ints ρ (L a) (L b) (· = [bb (decide (a = b))]) := by
  unfold S_bkeep_Ints
  simp only [Goods, good_L] at hg
  simp (disch := first | omega | assumption | exact ⟨by first | assumption | omega, by first | assumption | omega⟩ | (simp only [List.length_cons, List.length_nil]; omega)) only [↓S0, ↓ITE_bool, S1, eq_self, if_true, if_false, true_implies, false_implies, implies_true]
  refine ⟨fun h => ?_, fun h => ?_⟩
  · have : a ≠ b := by rintro rfl; simp at h
    simp [this]
  have hl : a.length = b.length := by omega
  refine LOOP.rule (α := Nat) (fun i => [I i]) (fun i => i ≤ a.length ∧ ((a = b) = (a.drop i = b.drop i))) (fun i => a.length - i) 0 rfl ⟨by omega, by simp⟩ (fun _ => rfl) ?_
  rintro i ⟨h1, h2⟩
  simp only [app]
  simp (disch := first | omega | assumption | exact ⟨by first | assumption | omega, by first | assumption | omega⟩ | (simp only [List.length_cons, List.length_nil]; omega)) only [↓S0, ↓ITE_bool, S1, eq_self, if_true, if_false, true_implies, false_implies, implies_true]
  refine ⟨fun h => ?_, fun h => ?_⟩
  · obtain ⟨x, hx⟩ := get_ex h
    obtain ⟨y, hy⟩ := get_ex (xs := b) (i := i) (by omega)
    simp (disch := first | omega | assumption | exact ⟨by first | assumption | omega, by first | assumption | omega⟩ | (simp only [List.length_cons, List.length_nil]; omega)) only [↓S0, ↓ITE_bool, S1, eq_self, if_true, if_false, true_implies, false_implies, implies_true, cell_L hx, cell_L hy]
    rw [drop_eq hx, drop_eq hy, List.cons.injEq] at h2
    refine ⟨fun h3 => ?_, fun h3 => ⟨i + 1, rfl, ⟨by omega, ?_⟩, by omega⟩⟩
    · simp [h2, h3]
    · simpa [h3] using h2
  · rw [drop_nil h, drop_nil (by omega)] at h2
    simp [h2]
theorem w_ref10_Path (t : Int) (self : Int) (l : List Int) (depth : Int) (hp : isT t = true ∧ isN self = true) (hg : Goods [I t, I self, L l, I depth]) : S_ref10_Path ρ (I t) (I self) (L l) (I depth) (· = [I (chkR t self l depth)]) := by
  unfold S_ref10_Path chkR
  simp only [Goods, good_L] at hg
  refine LOOP.rule (α := Nat) (fun i => [I i]) (fun i => i ≤ l.length ∧ (l.drop i).all isN = l.all isN) (fun i => l.length - i) 0 rfl ⟨by omega, by simp⟩ (fun _ => rfl) ?_
  rintro i ⟨h1, h2⟩
  simp only [app]
  simp (disch := first | omega | assumption | exact ⟨by first | assumption | omega, by first | assumption | omega⟩ | (simp only [List.length_cons, List.length_nil]; omega)) only [↓S0, ↓ITE_bool, S1, eq_self, if_true, if_false, true_implies, false_implies, implies_true, ↓c_ref01_IsNode, ↓c_ref01_Nearer]
  refine ⟨fun h => ?_, fun h => ?_⟩
  · obtain ⟨x, hx⟩ := get_ex h
    rw [drop_eq hx, List.all_cons] at h2
    simp (disch := first | omega | assumption | exact ⟨by first | assumption | omega, by first | assumption | omega⟩ | (simp only [List.length_cons, List.length_nil]; omega)) only [↓S0, ↓ITE_bool, S1, eq_self, if_true, if_false, true_implies, false_implies, implies_true, ↓c_ref01_IsNode, ↓c_ref01_Nearer, cell_L hx]
    refine ⟨fun h3 => ?_, fun h3 => ⟨i + 1, rfl, ⟨by omega, by simpa [h3] using h2⟩, by omega⟩⟩
    rw [h3] at h2; simp [← h2]
  · rw [drop_nil h] at h2
    simp only [← h2, List.all_nil, if_true]
    refine ⟨fun h3 => by simp [h3], fun h3 => ?_⟩
    rw [if_neg (by omega)]
    refine LOOP.rule (α := Nat × Int) (fun a => [I a.2, I a.1]) (fun a => a.1 ≤ l.length ∧ rises t a.2 (l.drop a.1) = rises t self l) (fun a => l.length - a.1) (0, self) rfl ⟨by simp, rfl⟩ (fun _ => rfl) ?_
    rintro ⟨i, s⟩ ⟨h1, h2⟩
    simp only [app] at *
    simp (disch := first | omega | assumption | exact ⟨by first | assumption | omega, by first | assumption | omega⟩ | (simp only [List.length_cons, List.length_nil]; omega)) only [↓S0, ↓ITE_bool, S1, eq_self, if_true, if_false, true_implies, false_implies, implies_true, ↓c_ref01_IsNode, ↓c_ref01_Nearer]
    refine ⟨fun h => ?_, fun h => ?_⟩
    · obtain ⟨x, hx⟩ := get_ex h
      rw [drop_eq hx, rises] at h2
      simp (disch := first | omega | assumption | exact ⟨by first | assumption | omega, by first | assumption | omega⟩ | (simp only [List.length_cons, List.length_nil]; omega)) only [↓S0, ↓ITE_bool, S1, eq_self, if_true, if_false, true_implies, false_implies, implies_true, ↓c_ref01_IsNode, ↓c_ref01_Nearer, cell_L hx]
      refine ⟨fun h3 => ?_, fun h3 => ⟨(i + 1, x), rfl, ⟨by simp; omega, by simpa [h3] using h2⟩, by simp; omega⟩⟩
      rw [h3] at h2; simp [← h2]
    · rw [drop_nil h] at h2
      simp [← h2, rises]
end Go.Xt
end
section
set_option linter.unusedSimpArgs false
set_option linter.unusedVariables false
set_option maxRecDepth 100000
namespace Go.Xt
theorem pigeon : ∀ (n : Nat) (f : Nat → Nat), (∀ i, i ≤ n → f i < n) → ∃ i j, i < j ∧ j ≤ n ∧ f i = f j
  | 0, f, h => absurd (h 0 (by omega)) (by omega)
  | n + 1, f, h => by
    by_cases hv : ∃ i, i ≤ n ∧ f i = f (n + 1)
    · obtain ⟨i, h1, h2⟩ := hv; exact ⟨i, n + 1, by omega, by omega, h2⟩
    · have hv' : ∀ i, i ≤ n → f i ≠ f (n + 1) := fun i hi e => hv ⟨i, hi, e⟩
      obtain ⟨i, j, h1, h2, h3⟩ := pigeon n (fun i => if f i > f (n + 1) then f i - 1 else f i) (fun i hi => by
        have := hv' i hi; have := h i (by omega); have := h (n + 1) (by omega)
        show (if f i > f (n + 1) then f i - 1 else f i) < n
        split <;> omega)
      refine ⟨i, j, h1, by omega, ?_⟩
      have a1 := hv' i (by omega); have a2 := hv' j (by omega)
      split at h3 <;> split at h3 <;> omega

theorem iter_add (rows : List (List Int)) : ∀ (k m : Nat) (x : Int), iterP rows (k + m) x = iterP rows m (iterP rows k x)
  | 0, m, x => by simp [iterP]
  | k + 1, m, x => by rw [Nat.add_right_comm]; simp only [iterP]; exact iter_add rows k m _
theorem iter_neg (rows : List (List Int)) : ∀ (k : Nat) (x : Int), x < 0 → iterP rows k x = x
  | 0, x, _ => rfl
  | k + 1, x, h => by simp only [iterP]; rw [if_neg (by omega)]; exact iter_neg rows k x h
theorem iter_succ (rows : List (List Int)) (k : Nat) (x : Int) (h : 0 ≤ iterP rows k x) : iterP rows (k + 1) x = par rows (iterP rows k x) := by
  rw [iter_add rows k 1]; simp [iterP, h]
theorem iter_alive (rows : List (List Int)) {k m : Nat} {x : Int} (h : 0 ≤ iterP rows k x) (hm : m ≤ k) : 0 ≤ iterP rows m x := by
  rcases Int.lt_or_le (iterP rows m x) 0 with h1 | h1
  · obtain ⟨d, rfl⟩ := Nat.exists_eq_add_of_le hm
    rw [iter_add, iter_neg _ _ _ h1] at h; omega
  · exact h1
theorem par_alive {rows : List (List Int)} {x : Int} (h0 : 0 ≤ x) (h : 0 ≤ par rows x) : x < rows.length := by
  unfold par at h
  rcases Nat.lt_or_ge x.toNat rows.length with h1 | h1
  · omega
  · rw [List.getElem?_eq_none (by omega)] at h; simp at h

theorem iter_forever {rows : List (List Int)} {x : Int} (h : 0 ≤ iterP rows (rows.length + 1) x) (k : Nat) : 0 ≤ iterP rows k x := by
  have hlt : ∀ i, i ≤ rows.length → (iterP rows i x).toNat < rows.length := by
    intro i hi
    have h1 := iter_alive rows h (m := i) (by omega)
    have h2 := iter_alive rows h (m := i + 1) (by omega)
    rw [iter_succ rows i x h1] at h2
    have := par_alive h1 h2
    omega
  obtain ⟨i, j, h1, h2, h3⟩ := pigeon rows.length (fun i => (iterP rows i x).toNat) hlt
  have hi := iter_alive rows h (m := i) (by omega)
  have hj := iter_alive rows h (m := j) (by omega)
  have he : iterP rows i x = iterP rows j x := by omega
  induction k using Nat.strongRecOn with
  | _ k ih =>
    by_cases hk : k ≤ rows.length
    · exact iter_alive rows h (by omega)
    · have := ih (k - j + i) (by omega)
      rw [Nat.add_comm, iter_add, he, ← iter_add, show j + (k - j) = k by omega] at this
      exact this
theorem w_path_Whole (t : Int) (paths : List (List Int)) (hg : Goods [I t, L paths]) : S_path_Whole ρ (I t) (L paths) (· = [bb (whole paths)]) := by
  unfold S_path_Whole
  simp only [Goods, good_L] at hg
  refine SUB.v1 (bb (!(decide (paths.length ≤ 8) && paths.all (·.all isN)))) ?_ ?_
  · simp (disch := first | omega | assumption | exact ⟨by first | assumption | omega, by first | assumption | omega⟩ | (simp only [List.length_cons, List.length_nil]; omega)) only [↓S0, ↓ITE_bool, S1, eq_self, if_true, if_false, true_implies, false_implies, implies_true, ↓c_ring_All, ↓c_path_parent]
    refine ⟨fun h => ?_, fun h => ?_⟩
    · have : ¬ paths.length ≤ 8 := by omega
      simp [this]
    refine LOOP.rule (α := Nat) (fun i => [I i]) (fun i => i ≤ paths.length ∧ (paths.drop i).all (·.all isN) = paths.all (·.all isN)) (fun i => paths.length - i) 0 rfl ⟨by omega, by simp⟩ (fun _ => rfl) ?_
    rintro i ⟨h1, h2⟩
    simp only [app]
    simp (disch := first | omega | assumption | exact ⟨by first | assumption | omega, by first | assumption | omega⟩ | (simp only [List.length_cons, List.length_nil]; omega)) only [↓S0, ↓ITE_bool, S1, eq_self, if_true, if_false, true_implies, false_implies, implies_true, ↓c_ring_All, ↓c_path_parent]
    refine ⟨fun h => ?_, fun h => ?_⟩
    · obtain ⟨x, hx⟩ := get_ex h
      rw [drop_eq hx, List.all_cons] at h2
      simp (disch := first | omega | assumption | exact ⟨by first | assumption | omega, by first | assumption | omega⟩ | (simp only [List.length_cons, List.length_nil]; omega)) only [↓S0, ↓ITE_bool, S1, eq_self, if_true, if_false, true_implies, false_implies, implies_true, ↓c_ring_All, ↓c_path_parent, cell_L hx]
      refine ⟨fun h3 => ?_, fun h3 => ⟨i + 1, rfl, ⟨by omega, by simpa [h3] using h2⟩, by omega⟩⟩
      rw [h3] at h2; simp only [← h2]; simp; try omega
    · rw [drop_nil h] at h2
      simp only [← h2]; split <;> simp <;> omega
  simp (disch := first | omega | assumption | exact ⟨by first | assumption | omega, by first | assumption | omega⟩ | (simp only [List.length_cons, List.length_nil]; omega)) only [↓S0, ↓ITE_bool, S1, eq_self, if_true, if_false, true_implies, false_implies, implies_true, ↓c_ring_All, ↓c_path_parent]
  unfold whole
  refine ⟨fun h => ?_, fun h => ?_⟩
  · simp only [h]; simp
  simp only [h, Bool.true_and]
  refine LOOP.rule (α := Nat) (fun i => [I i]) (fun i => i ≤ paths.length ∧ ∀ m, m < i → iterP paths 9 m < 0) (fun i => paths.length - i) 0 rfl ⟨by omega, by omega⟩ (fun _ => rfl) ?_
  rintro i ⟨h1, h2⟩
  simp only [app]
  simp (disch := first | omega | assumption | exact ⟨by first | assumption | omega, by first | assumption | omega⟩ | (simp only [List.length_cons, List.length_nil]; omega)) only [↓S0, ↓ITE_bool, S1, eq_self, if_true, if_false, true_implies, false_implies, implies_true, ↓c_ring_All, ↓c_path_parent]
  refine ⟨fun h3 => ?_, fun h3 => ?_⟩
  · refine LOOP.rule (α := Nat × Int) (fun a => [I a.2, I a.1]) (fun a => a.1 ≤ 8 ∧ iterP paths (8 - a.1) a.2 = iterP paths 9 i) (fun a => 8 - a.1) (0, par paths i) rfl ⟨by simp, by simp [iterP]⟩ (fun _ => rfl) ?_
    rintro ⟨k, x⟩ ⟨h4, h5⟩
    simp only [app] at *
    simp (disch := first | omega | assumption | exact ⟨by first | assumption | omega, by first | assumption | omega⟩ | (simp only [List.length_cons, List.length_nil]; omega)) only [↓S0, ↓ITE_bool, S1, eq_self, if_true, if_false, true_implies, false_implies, implies_true, ↓c_ring_All, ↓c_path_parent]
    refine ⟨fun h6 => ⟨fun h7 => ?_, fun h7 => ?_⟩, fun h6 => ⟨fun h7 => ?_, fun h7 => ?_⟩⟩
    · rw [show 8 - k = (8 - (k + 1)) + 1 by omega, iterP, if_pos h7] at h5
      simp (disch := first | omega | assumption | exact ⟨by first | assumption | omega, by first | assumption | omega⟩ | (simp only [List.length_cons, List.length_nil]; omega)) only [↓S0, ↓ITE_bool, S1, eq_self, if_true, if_false, true_implies, false_implies, implies_true, ↓c_ring_All, ↓c_path_parent]
      exact ⟨(k + 1, par paths x), rfl, ⟨by simp; omega, h5⟩, by simp; omega⟩
    · rw [show 8 - k = (8 - (k + 1)) + 1 by omega, iterP, if_neg h7] at h5
      exact ⟨(k + 1, x), rfl, ⟨by simp; omega, h5⟩, by simp; omega⟩
    · rw [show 8 - k = 0 by omega, iterP] at h5
      have : (List.range paths.length).all (fun n => decide (iterP paths 9 n < 0)) = false := by
        rw [List.all_eq_false]; exact ⟨i, by simp; omega, by simp; omega⟩
      rw [this]
    · rw [show 8 - k = 0 by omega, iterP] at h5
      refine ⟨i + 1, rfl, ⟨by omega, fun m hm => ?_⟩, by omega⟩
      by_cases e : m = i
      · subst e; omega
      · exact h2 m (by omega)
  · have : (List.range paths.length).all (fun n => decide (iterP paths 9 n < 0)) = true := by
      rw [List.all_eq_true]; intro m hm; simp at hm; simp; exact h2 m (by omega)
    rw [this]
theorem w_ref10_Whole (paths : List (List Int)) (hp : ∀ x ∈ paths, x.length ≤ 1000) (hg : Goods [L paths]) : S_ref10_Whole ρ (L paths) (· = [bb (whole paths)]) := by
  unfold S_ref10_Whole whole
  simp only [Goods, good_L] at hg
  simp (disch := first | omega | assumption | exact ⟨by first | assumption | omega, by first | assumption | omega⟩ | (simp only [List.length_cons, List.length_nil]; omega)) only [↓S0, ↓ITE_bool, S1, eq_self, if_true, if_false, true_implies, false_implies, implies_true, ↓c_ref01_IsNode]
  refine ⟨fun h => ?_, fun h => ?_⟩
  · simp; omega
  refine LOOP.rule (α := Nat) (fun i => [I i]) (fun i => i ≤ paths.length ∧ (paths.drop i).all (·.all isN) = paths.all (·.all isN)) (fun i => paths.length - i) 0 rfl ⟨by omega, by simp⟩ (fun _ => rfl) ?_
  rintro i ⟨h1, h2⟩
  simp only [app]
  simp (disch := first | omega | assumption | exact ⟨by first | assumption | omega, by first | assumption | omega⟩ | (simp only [List.length_cons, List.length_nil]; omega)) only [↓S0, ↓ITE_bool, S1, eq_self, if_true, if_false, true_implies, false_implies, implies_true, ↓c_ref01_IsNode]
  refine ⟨fun h3 => ?_, fun h3 => ?_⟩
  · obtain ⟨x, hx⟩ := get_ex h3
    rw [drop_eq hx, List.all_cons] at h2
    have hxl := hp x (List.mem_of_getElem? hx)
    refine LOOP.rule (α := Nat) (fun i => [I i]) (fun k => k ≤ x.length ∧ (x.drop k).all isN = x.all isN) (fun k => x.length - k) 0 rfl ⟨by omega, by simp⟩ (fun _ => rfl) ?_
    rintro k ⟨h4, h5⟩
    simp only [app]
    simp (disch := first | omega | assumption | exact ⟨by first | assumption | omega, by first | assumption | omega⟩ | (simp only [List.length_cons, List.length_nil]; omega)) only [↓S0, ↓ITE_bool, S1, eq_self, if_true, if_false, true_implies, false_implies, implies_true, ↓c_ref01_IsNode, cell_L hx]
    refine ⟨fun h6 => ?_, fun h6 => ?_⟩
    · obtain ⟨y, hy⟩ := get_ex h6
      rw [drop_eq hy, List.all_cons] at h5
      simp (disch := first | omega | assumption | exact ⟨by first | assumption | omega, by first | assumption | omega⟩ | (simp only [List.length_cons, List.length_nil]; omega)) only [↓S0, ↓ITE_bool, S1, eq_self, if_true, if_false, true_implies, false_implies, implies_true, ↓c_ref01_IsNode, cell_L hx, cell_L hy]
      refine ⟨fun h7 => ?_, fun h7 => ⟨k + 1, rfl, ⟨by omega, by simpa [h7] using h5⟩, by omega⟩⟩
      rw [h7] at h5; rw [← h2]; simp [← h5]
    · rw [drop_nil h6] at h5
      refine ⟨i + 1, rfl, ⟨by omega, by rw [← h2, ← h5]; simp⟩, by omega⟩
  rw [drop_nil h3] at h2
  have hall : (paths.all fun x => x.all isN) = true := by rw [← h2]; rfl
  rw [hall]
  have hpos : ∀ (x : Int) (y : List Int) (z : Int) r, paths[x.toNat]? = some (z :: r) → par paths x = z ∧ 0 ≤ z := by
    intro x y z r h
    refine ⟨by simp [par, h], ?_⟩
    have h4 := List.all_eq_true.1 hall _ (List.mem_of_getElem? h)
    have h5 := List.all_eq_true.1 h4 z (by simp)
    exact (isN_iff.1 h5).1
  have hle : decide (paths.length ≤ 8) = true := by simp; omega
  rw [hle]
  simp only [Bool.true_and]
  refine LOOP.rule (α := Nat) (fun i => [I i]) (fun i => i ≤ paths.length ∧ ∀ m, m < i → iterP paths 9 m < 0) (fun i => paths.length - i) 0 rfl ⟨by omega, by omega⟩ (fun _ => rfl) ?_
  rintro i ⟨h1, h2⟩
  simp only [app]
  simp (disch := first | omega | assumption | exact ⟨by first | assumption | omega, by first | assumption | omega⟩ | (simp only [List.length_cons, List.length_nil]; omega)) only [↓S0, ↓ITE_bool, S1, eq_self, if_true, if_false, true_implies, false_implies, implies_true, ↓c_ref01_IsNode]
  refine ⟨fun h3 => ?_, fun h3 => ?_⟩
  · refine LOOP.rule (α := Nat) (fun k => [I (iterP paths k i), I k]) (fun k => k ≤ paths.length + 1 ∧ 0 ≤ iterP paths k i) (fun k => paths.length + 1 - k) 0 rfl ⟨by omega, by simp [iterP]⟩ (fun _ => rfl) ?_
    rintro k ⟨h4, h5⟩
    simp only [app]
    have hs := iter_succ paths k i h5
    obtain ⟨m, hm⟩ := Int.eq_ofNat_of_zero_le h5
    refine SUB.v1 (bb (decide (0 ≤ iterP paths (k + 1) i))) ?_ ?_
    · rw [hs, hm]
      simp (disch := first | omega | assumption | exact ⟨by first | assumption | omega, by first | assumption | omega⟩ | (simp only [List.length_cons, List.length_nil]; omega)) only [↓S0, ↓ITE_bool, S1, eq_self, if_true, if_false, true_implies, false_implies, implies_true, ↓c_ref01_IsNode]
      refine ⟨fun h6 => ?_, fun h6 => ?_⟩
      · obtain ⟨x, hx⟩ := get_ex h6
        simp (disch := first | omega | assumption | exact ⟨by first | assumption | omega, by first | assumption | omega⟩ | (simp only [List.length_cons, List.length_nil]; omega)) only [↓S0, ↓ITE_bool, S1, eq_self, if_true, if_false, true_implies, false_implies, implies_true, ↓c_ref01_IsNode, cell_L hx]
        cases x with
        | nil => simp [par, hx]
        | cons z r =>
          have := hpos m [] z r hx
          rw [this.1]
          have h8 : 0 < r.length + 1 := by omega
          simp [this.2]; try omega
      · have : paths[m]? = none := by simp; omega
        simp [par, this]
    simp (disch := first | omega | assumption | exact ⟨by first | assumption | omega, by first | assumption | omega⟩ | (simp only [List.length_cons, List.length_nil]; omega)) only [↓S0, ↓ITE_bool, S1, eq_self, if_true, if_false, true_implies, false_implies, implies_true, ↓c_ref01_IsNode]
    refine ⟨fun h6 => ⟨fun h7 => ?_, fun h7 => ?_⟩, fun h6 => ?_⟩
    · have h8 := iter_forever (iter_alive paths h6 (m := paths.length + 1) (by omega)) 9
      have : (List.range paths.length).all (fun n => decide (iterP paths 9 n < 0)) = false := by
        rw [List.all_eq_false]; exact ⟨i, by simp; omega, by simp; omega⟩
      rw [this]
    · have h8 := par_alive h5 (by rw [← hs]; exact h6)
      rw [hm] at h8 ⊢
      obtain ⟨x, hx⟩ := get_ex h8
      simp (disch := first | omega | assumption | exact ⟨by first | assumption | omega, by first | assumption | omega⟩ | (simp only [List.length_cons, List.length_nil]; omega)) only [↓S0, ↓ITE_bool, S1, eq_self, if_true, if_false, true_implies, false_implies, implies_true, ↓c_ref01_IsNode, cell_L hx]
      cases x with
      | nil => rw [hs, hm] at h6; simp [par, hx] at h6
      | cons z r =>
        have h9 := hpos m [] z r hx
        simp (disch := first | omega | assumption | exact ⟨by first | assumption | omega, by first | assumption | omega⟩ | (simp only [List.length_cons, List.length_nil]; omega)) only [↓S0, ↓ITE_bool, S1, eq_self, if_true, if_false, true_implies, false_implies, implies_true, ↓c_ref01_IsNode]
        refine ⟨k + 1, ?_, ⟨by omega, h6⟩, by omega⟩
        rw [hs, hm, h9.1]; simp
    · refine ⟨i + 1, by simp, ⟨by omega, fun m hm => ?_⟩, by omega⟩
      by_cases e : m = i
      · subst e
        rcases Int.lt_or_le (iterP paths 9 m) 0 with h8 | h8
        · exact h8
        · have := iter_forever (iter_alive paths h8 (m := paths.length + 1) (by omega)) (k + 1)
          omega
      · exact h2 m (by omega)
  · have : (List.range paths.length).all (fun n => decide (iterP paths 9 n < 0)) = true := by
      rw [List.all_eq_true]; intro m hm; simp at hm; simp; exact h2 m (by omega)
    rw [this]
end Go.Xt
end
section
set_option linter.unusedSimpArgs false
set_option linter.unusedVariables false
set_option maxRecDepth 100000
namespace Go.Xt
theorem w_ref01_In (n : Int) (lo : Int) (hi : Int) : S_ref01_In ρ (I n) (I lo) (I hi) (· = [bb (decide (lo ≤ n) && decide (n ≤ hi))]) := by
  unfold S_ref01_In
  simp (disch := first | omega | assumption | exact ⟨by first | assumption | omega, by first | assumption | omega⟩ | (simp only [List.length_cons, List.length_nil]; omega)) only [↓S0, ITE_R, ITE_eq, ite_c, ite_bb, ite_I, ite_L, ite_L0, ite_0L, ite_self, SUB_r1, SUB_r2, SUB_r3, S1, eq_self, if_true, if_false, true_implies, false_implies, implies_true]
  simp
theorem w_ref01_Config (c : Config) : S_ref01_Config ρ (I c.nodes) (I c.topics) (I c.kids) (I c.depth) (I c.keep) (I c.window) (I c.queue) (· = [bb (cfgOk c)]) := by
  unfold S_ref01_Config
  simp (disch := first | omega | assumption | exact ⟨by first | assumption | omega, by first | assumption | omega⟩ | (simp only [List.length_cons, List.length_nil]; omega)) only [↓S0, ITE_R, ITE_eq, ite_c, ite_bb, ite_I, ite_L, ite_L0, ite_0L, ite_self, SUB_r1, SUB_r2, SUB_r3, S1, eq_self, if_true, if_false, true_implies, false_implies, implies_true, ↓c_ref01_In]
  simp [cfgOk, rng, Bool.and_assoc]
theorem w_script_config (c : Config) : S_script_config ρ (I c.nodes) (I c.topics) (I c.kids) (I c.depth) (I c.keep) (I c.window) (I c.queue) (· = [E ⟨true, cfgErrs c⟩]) := by
  unfold S_script_config
  simp (disch := first | omega | assumption | exact ⟨by first | assumption | omega, by first | assumption | omega⟩ | (simp only [List.length_cons, List.length_nil]; omega)) only [↓S0, ↓ITE_bool, S1, eq_self, if_true, if_false, true_implies, false_implies, implies_true, ↓c_errors_Join, ↓c_script_field]
  rw [c_errors_Join]
  · simp [cfgErrs, errOf]
  · simp
theorem errno13 : ∀ {l : List Int}, (∀ e ∈ l, e = 13) → errnoOf l = if l = [] then 0 else 13
  | [], _ => by simp [errnoOf]
  | e :: r, h => by
    have h9 : ¬ 9 ∈ e :: r := fun h' => absurd (h 9 h') (by decide)
    simp only [errnoOf, if_neg h9]
    simp [h e (by simp)]
theorem errOf_nil {n lo hi why : Int} : (errOf n lo hi why = []) = (rng n lo hi = true) := by
  unfold errOf rng
  by_cases h : n < lo ∨ hi < n
  · rw [if_pos h]; simp; omega
  · rw [if_neg h]; simp; omega
theorem errOf_mem {n lo hi why e : Int} (h : e ∈ errOf n lo hi why) : e = why := by
  unfold errOf at h; split at h <;> simp at h; exact h
theorem errOf_len {n lo hi why : Int} : (errOf n lo hi why).length ≤ 1 := by unfold errOf; split <;> simp
theorem cfg_errno (c : Config) : errnoOf (cfgErrs c) = if cfgOk c = true then 0 else 13 := by
  rw [errno13]
  · have : (cfgErrs c = []) = (cfgOk c = true) := by
      simp only [cfgErrs, List.append_eq_nil_iff, errOf_nil, cfgOk, Bool.and_eq_true]
    simp only [this]
  · intro e h
    simp only [cfgErrs, List.mem_append] at h
    rcases h with (((((h | h) | h) | h) | h) | h) | h <;> exact errOf_mem h
theorem w_script_Config (c : Config) : S_script_Config ρ (I c.nodes) (I c.topics) (I c.kids) (I c.depth) (I c.keep) (I c.window) (I c.queue) (· = [I (if cfgOk c = true then 0 else 13)]) := by
  unfold S_script_Config
  have h : (cfgErrs c).length ≤ 1000 := by
    have h1 := @errOf_len c.nodes 1 8 13; have h2 := @errOf_len c.topics 1 4 13; have h3 := @errOf_len c.kids 1 4 13; have h4 := @errOf_len c.depth 1 8 13
    have h5 := @errOf_len c.keep 1 16 13; have h6 := @errOf_len c.window 1 16 13; have h7 := @errOf_len c.queue 2 32 13
    simp only [cfgErrs, List.length_append]; omega
  simp (disch := first | omega | assumption | exact ⟨by first | assumption | omega, by first | assumption | omega⟩ | (simp only [List.length_cons, List.length_nil]; omega)) only [↓S0, ↓ITE_bool, S1, eq_self, if_true, if_false, true_implies, false_implies, implies_true, ↓c_script_errno, ↓c_script_config]
  exact congrArg (fun x => [I x]) (cfg_errno c)
end Go.Xt
end
section
set_option linter.unusedSimpArgs false
set_option linter.unusedVariables false
set_option maxRecDepth 100000
namespace Go.Xt
theorem w_msg_in (n : Int) (lo : Int) (hi : Int) : S_msg_in ρ (I n) (I lo) (I hi) (· = [bb (rng n lo hi)]) := by
  unfold S_msg_in rng
  simp (disch := first | omega | assumption | exact ⟨by first | assumption | omega, by first | assumption | omega⟩ | (simp only [List.length_cons, List.length_nil]; omega)) only [↓S0, ITE_R, ITE_eq, ite_c, ite_bb, ite_I, ite_L, ite_L0, ite_0L, ite_self, SUB_r1, SUB_r2, SUB_r3, S1, eq_self, if_true, if_false, true_implies, false_implies, implies_true]
  simp
theorem w_cast_in (n : Int) (lo : Int) (hi : Int) : S_cast_in ρ (I n) (I lo) (I hi) (· = [bb (rng n lo hi)]) := by
  unfold S_cast_in rng
  simp (disch := first | omega | assumption | exact ⟨by first | assumption | omega, by first | assumption | omega⟩ | (simp only [List.length_cons, List.length_nil]; omega)) only [↓S0, ITE_R, ITE_eq, ite_c, ite_bb, ite_I, ite_L, ite_L0, ite_0L, ite_self, SUB_r1, SUB_r2, SUB_r3, S1, eq_self, if_true, if_false, true_implies, false_implies, implies_true]
  simp
theorem w_ref19_in (n : Int) (lo : Int) (hi : Int) : S_ref19_in ρ (I n) (I lo) (I hi) (· = [bb (rng n lo hi)]) := by
  unfold S_ref19_in rng
  simp (disch := first | omega | assumption | exact ⟨by first | assumption | omega, by first | assumption | omega⟩ | (simp only [List.length_cons, List.length_nil]; omega)) only [↓S0, ITE_R, ITE_eq, ite_c, ite_bb, ite_I, ite_L, ite_L0, ite_0L, ite_self, SUB_r1, SUB_r2, SUB_r3, S1, eq_self, if_true, if_false, true_implies, false_implies, implies_true]
  simp
theorem w_ref10_in (n : Int) (lo : Int) (hi : Int) : S_ref10_in ρ (I n) (I lo) (I hi) (· = [bb (rng n lo hi)]) := by
  unfold S_ref10_in rng
  simp (disch := first | omega | assumption | exact ⟨by first | assumption | omega, by first | assumption | omega⟩ | (simp only [List.length_cons, List.length_nil]; omega)) only [↓S0, ITE_R, ITE_eq, ite_c, ite_bb, ite_I, ite_L, ite_L0, ite_0L, ite_self, SUB_r1, SUB_r2, SUB_r3, S1, eq_self, if_true, if_false, true_implies, false_implies, implies_true]
  simp
theorem w_msg_Counted (n : Int) : S_msg_Counted ρ (I n) (· = [bb (cnt n)]) := by
  unfold S_msg_Counted cnt
  simp (disch := first | omega | assumption | exact ⟨by first | assumption | omega, by first | assumption | omega⟩ | (simp only [List.length_cons, List.length_nil]; omega)) only [↓S0, ITE_R, ITE_eq, ite_c, ite_bb, ite_I, ite_L, ite_L0, ite_0L, ite_self, SUB_r1, SUB_r2, SUB_r3, S1, eq_self, if_true, if_false, true_implies, false_implies, implies_true, ↓c_msg_in]
theorem w_msg_Value (n : Int) : S_msg_Value ρ (I n) (· = [bb (val n)]) := by
  unfold S_msg_Value val
  simp (disch := first | omega | assumption | exact ⟨by first | assumption | omega, by first | assumption | omega⟩ | (simp only [List.length_cons, List.length_nil]; omega)) only [↓S0, ITE_R, ITE_eq, ite_c, ite_bb, ite_I, ite_L, ite_L0, ite_0L, ite_self, SUB_r1, SUB_r2, SUB_r3, S1, eq_self, if_true, if_false, true_implies, false_implies, implies_true, ↓c_msg_in]
theorem w_ref01_Value (n : Int) : S_ref01_Value ρ (I n) (· = [bb (val n)]) := by
  unfold S_ref01_Value val
  simp (disch := first | omega | assumption | exact ⟨by first | assumption | omega, by first | assumption | omega⟩ | (simp only [List.length_cons, List.length_nil]; omega)) only [↓S0, ITE_R, ITE_eq, ite_c, ite_bb, ite_I, ite_L, ite_L0, ite_0L, ite_self, SUB_r1, SUB_r2, SUB_r3, S1, eq_self, if_true, if_false, true_implies, false_implies, implies_true, ↓c_ref01_In]
  try simp [rng]
theorem w_ref10_count (n : Int) : S_ref10_count ρ (I n) (· = [bb (cnt n)]) := by
  unfold S_ref10_count cnt
  simp (disch := first | omega | assumption | exact ⟨by first | assumption | omega, by first | assumption | omega⟩ | (simp only [List.length_cons, List.length_nil]; omega)) only [↓S0, ITE_R, ITE_eq, ite_c, ite_bb, ite_I, ite_L, ite_L0, ite_0L, ite_self, SUB_r1, SUB_r2, SUB_r3, S1, eq_self, if_true, if_false, true_implies, false_implies, implies_true, ↓c_ref10_in]
theorem w_epoch_Check (e : Int) : S_epoch_Check ρ (I e) (· = [I (if ep e = true then 0 else 1)]) := by
  unfold S_epoch_Check
  repeat' (first | apply And.intro | intro _ | simp (disch := first | omega | assumption | exact ⟨by first | assumption | omega, by first | assumption | omega⟩ | (simp only [List.length_cons, List.length_nil]; omega)) only [↓S0, ↓ITE_bool, S1, eq_self, if_true, if_false, true_implies, false_implies, implies_true, ↓c_ring_Is])
  all_goals (simp_all [ep, rng]; try omega)
theorem w_epoch_Who (e : Int) : S_epoch_Who ρ (I e) (· = [I (if ep e = true then e % 16 else 0), I (if ep e = true then 0 else 1)]) := by
  unfold S_epoch_Who
  cases he : ep e
  · simp (disch := first | omega | assumption | exact ⟨by first | assumption | omega, by first | assumption | omega⟩ | (simp only [List.length_cons, List.length_nil]; omega)) only [↓S0, ↓ITE_bool, S1, eq_self, if_true, if_false, true_implies, false_implies, implies_true, ↓c_epoch_Check]
    simp [he]
  · have h0 : 0 ≤ e := by simp only [ep, rng, Bool.and_eq_true, decide_eq_true_eq] at he; omega
    simp (disch := first | omega | assumption | exact ⟨by first | assumption | omega, by first | assumption | omega⟩ | (simp only [List.length_cons, List.length_nil]; omega)) only [↓S0, ↓ITE_bool, S1, eq_self, if_true, if_false, true_implies, false_implies, implies_true, ↓c_epoch_Check]
    simp [he]
theorem w_ref10_Epoch (e : Int) : S_ref10_Epoch ρ (I e) (· = [bb (ep e)]) := by
  unfold S_ref10_Epoch
  cases he : rng e 1 1073741824
  · simp (disch := first | omega | assumption | exact ⟨by first | assumption | omega, by first | assumption | omega⟩ | (simp only [List.length_cons, List.length_nil]; omega)) only [↓S0, ↓ITE_bool, S1, eq_self, if_true, if_false, true_implies, false_implies, implies_true, ↓c_ref10_in]
    simp [he, ep]
  · have h0 : 0 ≤ e := by simp only [rng, Bool.and_eq_true, decide_eq_true_eq] at he; omega
    simp (disch := first | omega | assumption | exact ⟨by first | assumption | omega, by first | assumption | omega⟩ | (simp only [List.length_cons, List.length_nil]; omega)) only [↓S0, ↓ITE_bool, S1, eq_self, if_true, if_false, true_implies, false_implies, implies_true, ↓c_ref10_in]
    simp [he, ep, isN]; omega
theorem w_view_right (p : Peer) : S_view_right ρ (I p.inc) (I p.age) (· = [bb (peerOk p)]) := by
  unfold S_view_right
  simp (disch := first | omega | assumption | exact ⟨by first | assumption | omega, by first | assumption | omega⟩ | (simp only [List.length_cons, List.length_nil]; omega)) only [↓S0, ITE_R, ITE_eq, ite_c, ite_bb, ite_I, ite_L, ite_L0, ite_0L, ite_self, SUB_r1, SUB_r2, SUB_r3, S1, eq_self, if_true, if_false, true_implies, false_implies, implies_true]
  simp [peerOk, rng, Bool.and_assoc]
theorem w_kids_right (t : Int) (self : Int) (k : Kid) : S_kids_right ρ (I t) (I self) (I k.node) (I k.inc) (I k.age) (· = [bb (near t self k.node && cnt k.inc && rng k.age 0 6)]) := by
  unfold S_kids_right
  simp (disch := first | omega | assumption | exact ⟨by first | assumption | omega, by first | assumption | omega⟩ | (simp only [List.length_cons, List.length_nil]; omega)) only [↓S0, ITE_R, ITE_eq, ite_c, ite_bb, ite_I, ite_L, ite_L0, ite_0L, ite_self, SUB_r1, SUB_r2, SUB_r3, S1, eq_self, if_true, if_false, true_implies, false_implies, implies_true, ↓c_msg_Counted, ↓c_ring_Nearer]
  simp [rng, Bool.and_assoc]
theorem w_ahead_fits (seq : Int) (want : Int) (window : Int) (hp : cnt want = true ∧ rng window 1 16 = true) : S_ahead_fits ρ (I seq) (I want) (I window) (· = [bb (decide (want < seq) && decide (seq < want + window) && decide (seq < 1073741824))]) := by
  unfold S_ahead_fits
  obtain ⟨h1, h2⟩ := hp
  simp only [cnt, rng, Bool.and_eq_true, decide_eq_true_eq] at h1 h2
  simp (disch := first | omega | assumption | exact ⟨by first | assumption | omega, by first | assumption | omega⟩ | (simp only [List.length_cons, List.length_nil]; omega)) only [↓S0, ITE_R, ITE_eq, ite_c, ite_bb, ite_I, ite_L, ite_L0, ite_0L, ite_self, SUB_r1, SUB_r2, SUB_r3, S1, eq_self, if_true, if_false, true_implies, false_implies, implies_true]
  simp [Bool.and_assoc]
theorem w_graft_link (t : Int) (self : Int) (n : Int) (hg : Goods [I t, I self, I n]) : S_graft_link ρ (I t) (I self) (I n) (· = [bb (link t self n)]) := by
  unfold S_graft_link
  simp only [Goods, good_I] at hg
  repeat' (first | apply And.intro | intro _ | simp (disch := first | omega | assumption | exact ⟨by first | assumption | omega, by first | assumption | omega⟩ | (simp only [List.length_cons, List.length_nil]; omega)) only [↓S0, ↓ITE_bool, S1, eq_self, if_true, if_false, true_implies, false_implies, implies_true, ↓c_ring_Nearer])
  all_goals (simp_all [link]; try omega)
theorem w_ref10_near (t : Int) (self : Int) (n : Int) (hg : Goods [I t, I self, I n]) : S_ref10_near ρ (I t) (I self) (I n) (· = [bb (link t self n)]) := by
  unfold S_ref10_near
  simp only [Goods, good_I] at hg
  cases h2 : rng n 1 8
  · simp (disch := first | omega | assumption | exact ⟨by first | assumption | omega, by first | assumption | omega⟩ | (simp only [List.length_cons, List.length_nil]; omega)) only [↓S0, ↓ITE_bool, S1, eq_self, if_true, if_false, true_implies, false_implies, implies_true, ↓c_ref10_in, ↓c_ref01_Nearer, h2]
    refine ⟨fun h1 => by simp [link, h1], fun h1 => ?_⟩
    have h9 : ¬ (0 < n ∧ near t (n - 1) self = true) := by
      rintro ⟨h3, h4⟩
      have := (near_dom h4).2.1
      simp [rng] at h2; omega
    simp only [link, h1]
    cases h3 : decide (0 < n) <;> cases h4 : near t (n - 1) self <;> simp_all <;> omega
  · have h3 : 1 ≤ n ∧ n ≤ 8 := by simpa [rng] using h2
    simp (disch := first | omega | assumption | exact ⟨by first | assumption | omega, by first | assumption | omega⟩ | (simp only [List.length_cons, List.length_nil]; omega)) only [↓S0, ↓ITE_bool, S1, eq_self, if_true, if_false, true_implies, false_implies, implies_true, ↓c_ref10_in, ↓c_ref01_Nearer, h2]
    refine ⟨fun h1 => by omega, fun h1 => ?_⟩
    simp [link, h1]; omega
theorem w_graft_rooted (self : Int) (x : Topic) : S_graft_rooted ρ (I self) (bb x.made) (bb x.sub) (I x.top) (I x.root) (I x.parent) (I x.asked) (I x.other) (I x.age) (L x.path) (L x.kids) (I x.stream.epoch) (I x.stream.want) (I x.stream.known) (L x.stream.kept) (L x.stream.ahead) (L x.queue) (· = [bb (rootOk self x)]) := by
  unfold S_graft_rooted
  simp (disch := first | omega | assumption | exact ⟨by first | assumption | omega, by first | assumption | omega⟩ | (simp only [List.length_cons, List.length_nil]; omega)) only [↓S0, ITE_R, ITE_eq, ite_c, ite_bb, ite_I, ite_L, ite_L0, ite_0L, ite_self, SUB_r1, SUB_r2, SUB_r3, S1, eq_self, if_true, if_false, true_implies, false_implies, implies_true, ↓c_epoch_Who]
  cases h0 : decide (x.root = 0) <;> cases h1 : ep x.root <;> simp_all [rootOk, Bool.and_assoc]
theorem w_graft_placed (x : Topic) (hp : 0 ≤ x.parent ∧ x.parent ≤ 8) (hg : Goods [bb x.made, bb x.sub, I x.top, I x.root, I x.parent, I x.asked, I x.other, I x.age, L x.path, L x.kids, I x.stream.epoch, I x.stream.want, I x.stream.known, L x.stream.kept, L x.stream.ahead, L x.queue]) : S_graft_placed ρ (bb x.made) (bb x.sub) (I x.top) (I x.root) (I x.parent) (I x.asked) (I x.other) (I x.age) (L x.path) (L x.kids) (I x.stream.epoch) (I x.stream.want) (I x.stream.known) (L x.stream.kept) (L x.stream.ahead) (L x.queue) (· = [bb (placedOk x)]) := by
  unfold S_graft_placed placedOk
  simp only [Goods, good_I, good_L] at hg
  cases hx : x.path with
  | nil => simp (disch := first | omega | assumption | exact ⟨by first | assumption | omega, by first | assumption | omega⟩ | (simp only [List.length_cons, List.length_nil]; omega)) only [↓S0, ↓ITE_bool, S1, eq_self, if_true, if_false, true_implies, false_implies, implies_true]; simp
  | cons p r =>
    have h1 : ¬ ((r.length : Int) + 1 = 0) := by omega
    simp (disch := first | omega | assumption | exact ⟨by first | assumption | omega, by first | assumption | omega⟩ | (simp only [List.length_cons, List.length_nil]; omega)) only [↓S0, ↓ITE_bool, S1, eq_self, if_true, if_false, true_implies, false_implies, implies_true, OP_addW, List.length_cons, Int.natCast_add, Int.cast_ofNat_Int, h1]
theorem w_flow_zero (s : Stream) : S_flow_zero ρ (I s.epoch) (I s.want) (I s.known) (L s.kept) (L s.ahead) (· = [bb (streamZ s)]) := by
  unfold S_flow_zero streamZ
  simp (disch := first | omega | assumption | exact ⟨by first | assumption | omega, by first | assumption | omega⟩ | (simp only [List.length_cons, List.length_nil]; omega)) only [↓S0, ITE_R, ITE_eq, ite_c, ite_bb, ite_I, ite_L, ite_L0, ite_0L, ite_self, SUB_r1, SUB_r2, SUB_r3, S1, eq_self, if_true, if_false, true_implies, false_implies, implies_true]
  simp [Bool.and_assoc]
end Go.Xt
end
section
set_option linter.unusedSimpArgs false
set_option linter.unusedVariables false
set_option maxRecDepth 100000
namespace Go.Xt
theorem w_view_Check (l : List Peer) (hg : Goods [L l]) : S_view_Check ρ (L l) (· = [I (if peersOk l = true then 0 else 1)]) := by
  unfold S_view_Check peersOk
  simp only [Goods, good_L] at hg
  simp (disch := first | omega | assumption | exact ⟨by first | assumption | omega, by first | assumption | omega⟩ | (simp only [List.length_cons, List.length_nil]; omega)) only [↓S0, ↓ITE_bool, S1, eq_self, if_true, if_false, true_implies, false_implies, implies_true, ↓c_view_right]
  refine ⟨fun h => ?_, fun h => ⟨fun h2 => ?_, fun h2 => ?_⟩⟩
  · simp [show ¬ 1 ≤ l.length by omega]
  · simp [show ¬ l.length ≤ 8 by omega]
  have e1 : decide (1 ≤ l.length) = true := by simp; omega
  have e2 : decide (l.length ≤ 8) = true := by simp; omega
  have e3 : decide ((8 : Int) < l.length) = false := by simp; omega
  simp only [e1, e2, e3, Bool.true_and]
  refine LOOP.rule (α := Nat) (fun i => [I i]) (fun i => i ≤ l.length ∧ (l.drop i).all (peerOk) = l.all (peerOk)) (fun i => l.length - i) 0 rfl ⟨by omega, by simp⟩ (fun _ => rfl) ?_
  rintro i ⟨hl_i, hs_i⟩
  simp only [app]
  simp (disch := first | omega | assumption | exact ⟨by first | assumption | omega, by first | assumption | omega⟩ | (simp only [List.length_cons, List.length_nil]; omega)) only [↓S0, ↓ITE_bool, S1, eq_self, if_true, if_false, true_implies, false_implies, implies_true, ↓c_view_right]
  refine ⟨fun hc_i => ?_, fun hc_i => ?_⟩
  · obtain ⟨x, hx⟩ := get_ex hc_i
    rw [drop_eq hx, List.all_cons] at hs_i
    simp (disch := first | omega | assumption | exact ⟨by first | assumption | omega, by first | assumption | omega⟩ | (simp only [List.length_cons, List.length_nil]; omega)) only [↓S0, ↓ITE_bool, S1, eq_self, if_true, if_false, true_implies, false_implies, implies_true, ↓c_view_right, cell_L hx]
    refine ⟨fun h3 => ?_, fun h3 => ⟨i + 1, rfl, ⟨by omega, by simpa [h3] using hs_i⟩, by omega⟩⟩
    rw [h3, Bool.false_and] at hs_i; simp [← hs_i, ITE_true]
  · rw [drop_nil hc_i] at hs_i
    simp only [← hs_i]; simp [h2, ITE_false]
theorem w_ref10_Peers (l : List Peer) (hg : Goods [L l]) : S_ref10_Peers ρ (L l) (· = [bb (peersOk l)]) := by
  unfold S_ref10_Peers peersOk
  simp only [Goods, good_L] at hg
  simp (disch := first | omega | assumption | exact ⟨by first | assumption | omega, by first | assumption | omega⟩ | (simp only [List.length_cons, List.length_nil]; omega)) only [↓S0, ↓ITE_bool, S1, eq_self, if_true, if_false, true_implies, false_implies, implies_true, ↓c_ref10_in]
  refine ⟨fun h => ?_, fun h => ?_⟩
  · simp only [rng, Bool.and_eq_false_iff, decide_eq_false_iff_not] at h
    by_cases h1 : 1 ≤ l.length <;> by_cases h2 : l.length ≤ 8 <;> simp [h1, h2] <;> omega
  simp only [rng, Bool.and_eq_true, decide_eq_true_eq] at h
  have e1 : decide (1 ≤ l.length) = true := by simp; omega
  have e2 : decide (l.length ≤ 8) = true := by simp; omega
  simp only [e1, e2, Bool.true_and]
  refine LOOP.rule (α := Nat) (fun i => [I i]) (fun i => i ≤ l.length ∧ (l.drop i).all (peerOk) = l.all (peerOk)) (fun i => l.length - i) 0 rfl ⟨by omega, by simp⟩ (fun _ => rfl) ?_
  rintro i ⟨hl_i, hs_i⟩
  simp only [app]
  simp (disch := first | omega | assumption | exact ⟨by first | assumption | omega, by first | assumption | omega⟩ | (simp only [List.length_cons, List.length_nil]; omega)) only [↓S0, ↓ITE_bool, S1, eq_self, if_true, if_false, true_implies, false_implies, implies_true, ↓c_ref10_in]
  refine ⟨fun hc_i => ?_, fun hc_i => ?_⟩
  · obtain ⟨x, hx⟩ := get_ex hc_i
    rw [drop_eq hx, List.all_cons] at hs_i
    simp (disch := first | omega | assumption | exact ⟨by first | assumption | omega, by first | assumption | omega⟩ | (simp only [List.length_cons, List.length_nil]; omega)) only [↓S0, ↓ITE_bool, S1, eq_self, if_true, if_false, true_implies, false_implies, implies_true, ↓c_ref10_in, cell_L hx]
    refine ⟨fun h3 => ?_, fun h3 => ⟨fun h4 => ?_, fun h4 => ⟨i + 1, rfl, ⟨by omega, by simpa [peerOk, h3, h4] using hs_i⟩, by omega⟩⟩⟩
    · rw [← hs_i]; simp [peerOk, h3]
    · rw [← hs_i]; simp [peerOk, h4]
  · rw [drop_nil hc_i] at hs_i
    simp only [← hs_i]; simp
theorem dlt (a b : Int) : decide (a < b) = !decide (b ≤ a) := by rw [Bool.eq_iff_iff]; simp
theorem near_trans {t a b c : Int} (h1 : near t a b = true) (h2 : near t b c = true) : near t a c = true := by
  obtain ⟨a1, a2, a3, a4⟩ := near_dom h1
  obtain ⟨b1, b2, b3, b4⟩ := near_dom h2
  simp only [near, Bool.and_eq_true, decide_eq_true_eq, isT_iff, isN_iff]
  exact ⟨⟨⟨a1, a2⟩, b3⟩, by omega⟩
theorem kidsGo_cons {t a : Int} {k : Kid} {r : List Kid} : kidsGo t a (k :: r) = (near t a k.node && cnt k.inc && rng k.age 0 6 && kidsGo t k.node r) := rfl
theorem w_kids_Check (t : Int) (self : Int) (limit : Int) (l : List Kid) (hg : Goods [I t, I self, I limit, L l]) : S_kids_Check ρ (I t) (I self) (I limit) (L l) (· = [I (if kidsOk t self limit l = true then 0 else 1)]) := by
  unfold S_kids_Check kidsOk
  simp only [Goods, good_I, good_L] at hg
  rw [c_ring_Gap]
  refine SUB.v1 (bb (!(isT t && isN self && rng limit 1 4 && decide ((l.length : Int) ≤ limit)))) ?_ ?_
  · cases h1 : (isT t && isN self)
    · simp (disch := first | omega | assumption | exact ⟨by first | assumption | omega, by first | assumption | omega⟩ | (simp only [List.length_cons, List.length_nil]; omega)) only [↓S0, ↓ITE_bool, S1, eq_self, if_true, if_false, true_implies, false_implies, implies_true, ↓c_ring_Nearer, ↓c_ring_Gap, ↓c_kids_right, h1]
      simp
    · repeat' (first | apply And.intro | intro _ | simp (disch := first | omega | assumption | exact ⟨by first | assumption | omega, by first | assumption | omega⟩ | (simp only [List.length_cons, List.length_nil]; omega)) only [↓S0, ↓ITE_bool, S1, eq_self, if_true, if_false, true_implies, false_implies, implies_true, ↓c_ring_Nearer, ↓c_ring_Gap, ↓c_kids_right])
      all_goals (simp_all [rng]; try (first | omega | exact dlt _ _))
  simp (disch := first | omega | assumption | exact ⟨by first | assumption | omega, by first | assumption | omega⟩ | (simp only [List.length_cons, List.length_nil]; omega)) only [↓S0, ↓ITE_bool, S1, eq_self, if_true, if_false, true_implies, false_implies, implies_true, ↓c_ring_Nearer, ↓c_ring_Gap, ↓c_kids_right]
  refine ⟨fun h => by simp [h], fun h => ?_⟩
  simp only [h, Bool.true_and]
  refine LOOP.rule (α := Nat) (fun i => [I i]) (fun i => i ≤ l.length ∧ ∃ p, (i = 0 → p = self) ∧ (0 < i → ∃ k, l[i - 1]? = some k ∧ p = k.node ∧ near t self p = true) ∧ kidsGo t p (l.drop i) = kidsGo t self l) (fun i => l.length - i) 0 rfl ⟨by omega, self, by simp⟩ (fun _ => rfl) ?_
  rintro i ⟨hl, p, hp0, hp1, hs⟩
  simp only [app]
  simp (disch := first | omega | assumption | exact ⟨by first | assumption | omega, by first | assumption | omega⟩ | (simp only [List.length_cons, List.length_nil]; omega)) only [↓S0, ↓ITE_bool, S1, eq_self, if_true, if_false, true_implies, false_implies, implies_true, ↓c_ring_Nearer, ↓c_ring_Gap, ↓c_kids_right]
  refine ⟨fun hc => ?_, fun hc => ?_⟩
  · obtain ⟨x, hx⟩ := get_ex hc
    rw [drop_eq hx, kidsGo_cons] at hs
    simp (disch := first | omega | assumption | exact ⟨by first | assumption | omega, by first | assumption | omega⟩ | (simp only [List.length_cons, List.length_nil]; omega)) only [↓S0, ↓ITE_bool, S1, eq_self, if_true, if_false, true_implies, false_implies, implies_true, ↓c_ring_Nearer, ↓c_ring_Gap, ↓c_kids_right, cell_L hx]
    refine ⟨fun h3 => ?_, fun h3 => ⟨fun h4 => ?_, fun h4 => ?_⟩⟩
    · have hf : kidsGo t self l = false := by
        rw [← hs]
        cases hn : near t p x.node with
        | false => simp
        | true =>
          have hns : near t self x.node = true := by
            rcases Nat.eq_zero_or_pos i with h0 | h0
            · rw [← hp0 h0]; exact hn
            · obtain ⟨k, _, _, hk⟩ := hp1 h0; exact near_trans hk hn
          rw [hns] at h3
          cases h5 : cnt x.inc <;> cases h6 : rng x.age 0 6 <;> simp_all
      rw [hf]; simp
    · simp only [Bool.and_eq_true] at h3
      obtain ⟨⟨h5, h6⟩, h7⟩ := h3
      obtain ⟨k, hk, rfl, hnk⟩ := hp1 (by omega)
      have e1 : ((i : Int) - 1) = ((i - 1 : Nat) : Int) := by omega
      simp (disch := first | omega | assumption | exact ⟨by first | assumption | omega, by first | assumption | omega⟩ | (simp only [List.length_cons, List.length_nil]; omega)) only [↓S0, ↓ITE_bool, S1, eq_self, if_true, if_false, true_implies, false_implies, implies_true, ↓c_ring_Nearer, ↓c_ring_Gap, ↓c_kids_right, e1, cell_L hk]
      refine ⟨fun h8 => ?_, fun h8 => ⟨i + 1, by simp, ⟨by omega, x.node, by simp, fun _ => ⟨x, by simpa using hx, rfl, h5⟩, ?_⟩, by omega⟩⟩
      · rw [← hs, h8]; simp
      · rw [← hs, h8, h6, h7]; simp
    · simp only [Bool.and_eq_true] at h3
      obtain ⟨⟨h5, h6⟩, h7⟩ := h3
      have h0 : i = 0 := by omega
      rw [hp0 h0] at hs
      refine ⟨i + 1, by simp, ⟨by omega, x.node, by simp, fun _ => ⟨x, by simpa using hx, rfl, h5⟩, ?_⟩, by omega⟩
      rw [← hs, h5, h6, h7]; simp
  · rw [drop_nil hc] at hs
    simp [← hs, kidsGo]
theorem w_ref10_Kids (t : Int) (self : Int) (limit : Int) (l : List Kid) (hg : Goods [I t, I self, I limit, L l]) : S_ref10_Kids ρ (I t) (I self) (I limit) (L l) (· = [bb (kidsOk t self limit l)]) := by
  unfold S_ref10_Kids kidsOk
  simp only [Goods, good_I, good_L] at hg
  refine SUB.v1 (bb (!(isT t && isN self && rng limit 1 4 && decide ((l.length : Int) ≤ limit)))) ?_ ?_
  · repeat' (first | apply And.intro | intro _ | simp (disch := first | omega | assumption | exact ⟨by first | assumption | omega, by first | assumption | omega⟩ | (simp only [List.length_cons, List.length_nil]; omega)) only [↓S0, ↓ITE_bool, S1, eq_self, if_true, if_false, true_implies, false_implies, implies_true, ↓c_ref01_IsNode, ↓c_ref10_in, ↓c_ref01_Nearer, ↓c_ref01_IsTopic])
    all_goals (simp_all; try (first | omega | exact dlt _ _))
  simp (disch := first | omega | assumption | exact ⟨by first | assumption | omega, by first | assumption | omega⟩ | (simp only [List.length_cons, List.length_nil]; omega)) only [↓S0, ↓ITE_bool, S1, eq_self, if_true, if_false, true_implies, false_implies, implies_true, ↓c_ref01_IsNode, ↓c_ref10_in, ↓c_ref01_Nearer, ↓c_ref01_IsTopic]
  refine ⟨fun h => by simp [h], fun h => ?_⟩
  simp only [h, Bool.true_and]
  refine LOOP.rule (α := Nat × Int) (fun a => [I a.2, I a.1]) (fun a => a.1 ≤ l.length ∧ kidsGo t a.2 (l.drop a.1) = kidsGo t self l) (fun a => l.length - a.1) (0, self) rfl ⟨by simp, by simp⟩ (fun _ => rfl) ?_
  rintro ⟨i, p⟩ ⟨hl, hs⟩
  simp only [app] at *
  simp (disch := first | omega | assumption | exact ⟨by first | assumption | omega, by first | assumption | omega⟩ | (simp only [List.length_cons, List.length_nil]; omega)) only [↓S0, ↓ITE_bool, S1, eq_self, if_true, if_false, true_implies, false_implies, implies_true, ↓c_ref01_IsNode, ↓c_ref10_in, ↓c_ref01_Nearer, ↓c_ref01_IsTopic]
  refine ⟨fun hc => ?_, fun hc => ?_⟩
  · obtain ⟨x, hx⟩ := get_ex hc
    rw [drop_eq hx, kidsGo_cons] at hs
    simp (disch := first | omega | assumption | exact ⟨by first | assumption | omega, by first | assumption | omega⟩ | (simp only [List.length_cons, List.length_nil]; omega)) only [↓S0, ↓ITE_bool, S1, eq_self, if_true, if_false, true_implies, false_implies, implies_true, ↓c_ref01_IsNode, ↓c_ref10_in, ↓c_ref01_Nearer, ↓c_ref01_IsTopic, cell_L hx]
    refine ⟨fun h3 => ?_, fun h3 => ⟨fun h4 => ?_, fun h4 => ⟨fun h5 => ?_, fun h5 => ⟨fun h6 => ?_, fun h6 => ⟨(i + 1, x.node), by simp, ⟨by omega, ?_⟩, by simp; omega⟩⟩⟩⟩⟩
    · have : near t p x.node = false := by
        cases hn : near t p x.node with
        | false => rfl
        | true => have := (near_dom hn).2.2.1; rw [isN_iff.2 this] at h3; cases h3
      rw [← hs, this]; simp
    · rw [← hs, h4]; simp
    · rw [← hs]; simp [cnt, h5]
    · rw [← hs, h6]; simp
    · rw [← hs, h4, h6]; simp [cnt, h5]
  · rw [drop_nil hc] at hs
    simp [← hs, kidsGo]
end Go.Xt
end
section
set_option linter.unusedSimpArgs false
set_option linter.unusedVariables false
set_option maxRecDepth 100000
namespace Go.Xt
theorem keptGo_cons {n : Int} {x : Item} {r : List Item} : keptGo n (x :: r) = (decide (x.seq = n) && val x.value && keptGo (n + 1) r) := rfl
theorem ahdGo_cons {m p : Int} {x : Item} {r : List Item} : ahdGo m p (x :: r) = (decide (p < x.seq) && decide (x.seq < m) && decide (x.seq < 1073741824) && val x.value && ahdGo m x.seq r) := rfl
theorem cnt_bd {n : Int} (h : cnt n = true) : 1 ≤ n ∧ n ≤ 1073741824 := by simpa [cnt, rng] using h
theorem rng_bd {n a b : Int} (h : rng n a b = true) : a ≤ n ∧ n ≤ b := by simpa [rng] using h
theorem w_keep_right (l : List Item) (want : Int) (hp : cnt want = true ∧ l.length ≤ 16) (hg : Goods [L l, I want]) : S_keep_right ρ (L l) (I want) (· = [bb (decide (l.length < want) && keptGo (want - l.length) l)]) := by
  unfold S_keep_right
  obtain ⟨hw, hl16⟩ := hp
  have hw := cnt_bd hw
  simp (disch := first | omega | assumption | exact ⟨by first | assumption | omega, by first | assumption | omega⟩ | (simp only [List.length_cons, List.length_nil]; omega)) only [↓S0, ↓ITE_bool, S1, eq_self, if_true, if_false, true_implies, false_implies, implies_true, ↓c_msg_Value]
  refine LOOP.rule (α := Nat) (fun i => [I i]) (fun i => i ≤ l.length ∧ (0 < i → (l.length : Int) < want) ∧ keptGo (want - l.length + i) (l.drop i) = keptGo (want - l.length) l) (fun i => l.length - i) 0 rfl ⟨by omega, by omega, by simp⟩ (fun _ => rfl) ?_
  rintro i ⟨hl, hpos, hs⟩
  simp only [app]
  simp (disch := first | omega | assumption | exact ⟨by first | assumption | omega, by first | assumption | omega⟩ | (simp only [List.length_cons, List.length_nil]; omega)) only [↓S0, ↓ITE_bool, S1, eq_self, if_true, if_false, true_implies, false_implies, implies_true, ↓c_msg_Value]
  refine ⟨fun hc => ?_, fun hc => ?_⟩
  · obtain ⟨x, hx⟩ := get_ex hc
    rw [drop_eq hx, keptGo_cons] at hs
    simp (disch := first | omega | assumption | exact ⟨by first | assumption | omega, by first | assumption | omega⟩ | (simp only [List.length_cons, List.length_nil]; omega)) only [↓S0, ↓ITE_bool, S1, eq_self, if_true, if_false, true_implies, false_implies, implies_true, ↓c_msg_Value, cell_L hx]
    refine ⟨fun h1 => ?_, fun h1 => ⟨fun h2 => ?_, fun h2 => ⟨fun h3 => ?_, fun h3 => ⟨i + 1, by simp, ⟨by omega, fun _ => ?_, ?_⟩, by omega⟩⟩⟩⟩
    · rw [← hs]
      by_cases h2 : x.seq = want - l.length + i
      · have : ¬ (l.length : Int) < want := fun h => by omega
        simp [this]
      · simp [h2]
    · rw [← hs]; simp [h2]
    · rw [← hs]; simp [h3]
    · rcases Nat.eq_zero_or_pos i with h0 | h0
      · subst h0; omega
      · exact hpos h0
    · rw [← hs, h3]; simp [h2, Int.add_assoc]
  · rw [drop_nil hc] at hs
    rw [← hs]
    have : (l.length : Int) < want := by
      rcases Nat.eq_zero_or_pos i with h0 | h0
      · omega
      · exact hpos h0
    simp [this, keptGo]
theorem w_keep_Check (l : List Item) (want : Int) (limit : Int) (hg : Goods [L l, I want, I limit]) : S_keep_Check ρ (L l) (I want) (I limit) (· = [I (if keptOk l want limit = true then 0 else 1)]) := by
  unfold S_keep_Check keptOk
  simp only [Goods, good_I, good_L] at hg
  cases h1 : cnt want
  · simp (disch := first | omega | assumption | exact ⟨by first | assumption | omega, by first | assumption | omega⟩ | (simp only [List.length_cons, List.length_nil]; omega)) only [↓S0, ↓ITE_bool, S1, eq_self, if_true, if_false, true_implies, false_implies, implies_true, ↓c_msg_Counted, ↓c_keep_right, h1]
    simp
  cases h2 : (rng limit 1 16 && decide ((l.length : Int) ≤ limit))
  · repeat' (first | apply And.intro | intro _ | simp (disch := first | omega | assumption | exact ⟨by first | assumption | omega, by first | assumption | omega⟩ | (simp only [List.length_cons, List.length_nil]; omega)) only [↓S0, ↓ITE_bool, S1, eq_self, if_true, if_false, true_implies, false_implies, implies_true, ↓c_msg_Counted, ↓c_keep_right])
    all_goals (simp_all [rng]; try omega)
  · simp only [Bool.and_eq_true, decide_eq_true_eq] at h2
    have h3 := rng_bd h2.1
    rw [h2.1]
    simp (disch := first | omega | assumption | exact ⟨by first | assumption | omega, by first | assumption | omega⟩ | (simp only [List.length_cons, List.length_nil]; omega)) only [↓S0, ↓ITE_bool, S1, eq_self, if_true, if_false, true_implies, false_implies, implies_true, ↓c_msg_Counted, ↓c_keep_right, h1]
    have e1 : ¬ limit < 1 := by omega
    have e2 : ¬ 16 < limit := by omega
    have e3 : ¬ limit < (l.length : Int) := by omega
    have e4 : decide ((l.length : Int) ≤ limit) = true := by simp; omega
    refine ⟨fun h => absurd h e1, fun _ => ⟨fun h => absurd h e2, fun _ => ⟨fun h => absurd h e3, fun _ => ?_⟩⟩⟩
    cases h5 : (decide ((l.length : Int) < want) && keptGo (want - l.length) l) <;> simp_all
theorem w_ref10_Kept (l : List Item) (want : Int) (limit : Int) (hg : Goods [L l, I want, I limit]) : S_ref10_Kept ρ (L l) (I want) (I limit) (· = [bb (keptOk l want limit)]) := by
  unfold S_ref10_Kept keptOk
  simp only [Goods, good_I, good_L] at hg
  refine SUB.v1 (bb (!(cnt want && rng limit 1 16 && decide ((l.length : Int) ≤ limit) && decide ((l.length : Int) < want)))) ?_ ?_
  · repeat' (first | apply And.intro | intro _ | simp (disch := first | omega | assumption | exact ⟨by first | assumption | omega, by first | assumption | omega⟩ | (simp only [List.length_cons, List.length_nil]; omega)) only [↓S0, ↓ITE_bool, S1, eq_self, if_true, if_false, true_implies, false_implies, implies_true, ↓c_ref01_Value, ↓c_ref10_in])
    all_goals (simp_all [cnt]; try (first | omega | exact dlt _ _))
    all_goals (rw [Bool.eq_iff_iff]; simp)
  simp (disch := first | omega | assumption | exact ⟨by first | assumption | omega, by first | assumption | omega⟩ | (simp only [List.length_cons, List.length_nil]; omega)) only [↓S0, ↓ITE_bool, S1, eq_self, if_true, if_false, true_implies, false_implies, implies_true, ↓c_ref01_Value, ↓c_ref10_in]
  refine ⟨fun h => by simp [h], fun h => ?_⟩
  simp only [h, Bool.true_and]
  simp only [Bool.and_eq_true, decide_eq_true_eq] at h
  obtain ⟨⟨⟨h1, h2⟩, h3⟩, h4⟩ := h
  have h1 := cnt_bd h1
  have h2 := rng_bd h2
  refine LOOP.rule (α := Nat) (fun i => [I i]) (fun i => i ≤ l.length ∧ keptGo (want - l.length + i) (l.drop i) = keptGo (want - l.length) l) (fun i => l.length - i) 0 rfl ⟨by omega, by simp⟩ (fun _ => rfl) ?_
  rintro i ⟨hl, hs⟩
  simp only [app]
  simp (disch := first | omega | assumption | exact ⟨by first | assumption | omega, by first | assumption | omega⟩ | (simp only [List.length_cons, List.length_nil]; omega)) only [↓S0, ↓ITE_bool, S1, eq_self, if_true, if_false, true_implies, false_implies, implies_true, ↓c_ref01_Value, ↓c_ref10_in]
  refine ⟨fun hc => ?_, fun hc => ?_⟩
  · obtain ⟨x, hx⟩ := get_ex hc
    rw [drop_eq hx, keptGo_cons] at hs
    simp (disch := first | omega | assumption | exact ⟨by first | assumption | omega, by first | assumption | omega⟩ | (simp only [List.length_cons, List.length_nil]; omega)) only [↓S0, ↓ITE_bool, S1, eq_self, if_true, if_false, true_implies, false_implies, implies_true, ↓c_ref01_Value, ↓c_ref10_in, cell_L hx]
    refine ⟨fun h2 => ?_, fun h2 => ⟨fun h3 => ?_, fun h3 => ⟨i + 1, by simp, ⟨by omega, ?_⟩, by omega⟩⟩⟩
    · rw [← hs]; simp [h2]
    · rw [← hs]; simp [h3]
    · rw [← hs, h3]; simp [h2, Int.add_assoc]
  · rw [drop_nil hc] at hs
    rw [← hs]; simp [keptGo]
theorem w_ahead_Check (l : List Item) (want : Int) (window : Int) (hg : Goods [L l, I want, I window]) : S_ahead_Check ρ (L l) (I want) (I window) (· = [I (if aheadOk l want window = true then 0 else 1)]) := by
  unfold S_ahead_Check aheadOk
  simp only [Goods, good_I, good_L] at hg
  refine SUB.v1 (bb (!(cnt want && rng window 1 16))) ?_ ?_
  · repeat' (first | apply And.intro | intro _ | simp (disch := first | omega | assumption | exact ⟨by first | assumption | omega, by first | assumption | omega⟩ | (simp only [List.length_cons, List.length_nil]; omega)) only [↓S0, ↓ITE_bool, S1, eq_self, if_true, if_false, true_implies, false_implies, implies_true, ↓c_msg_Counted, ↓c_msg_Value, ↓c_ahead_fits])
    all_goals (simp_all [rng]; try (first | omega | exact dlt _ _))
  simp (disch := first | omega | assumption | exact ⟨by first | assumption | omega, by first | assumption | omega⟩ | (simp only [List.length_cons, List.length_nil]; omega)) only [↓S0, ↓ITE_bool, S1, eq_self, if_true, if_false, true_implies, false_implies, implies_true, ↓c_msg_Counted, ↓c_msg_Value, ↓c_ahead_fits]
  refine ⟨fun h => by simp [h], fun h => ?_⟩
  simp only [h, Bool.true_and]
  simp only [Bool.and_eq_true, decide_eq_true_eq] at h
  obtain ⟨h1', h2'⟩ := h
  have h1 := cnt_bd h1'
  have h2 := rng_bd h2'
  refine LOOP.rule (α := Nat) (fun i => [I i]) (fun i => i ≤ l.length ∧ ∃ p, (i = 0 → p = want) ∧ (0 < i → ∃ k, l[i - 1]? = some k ∧ p = k.seq) ∧ want ≤ p ∧ ahdGo (want + window) p (l.drop i) = ahdGo (want + window) want l) (fun i => l.length - i) 0 rfl ⟨by omega, want, by simp⟩ (fun _ => rfl) ?_
  rintro i ⟨hl, p, hp0, hp1, hwp, hs⟩
  simp only [app]
  simp (disch := first | omega | assumption | exact ⟨by first | assumption | omega, by first | assumption | omega⟩ | (simp only [List.length_cons, List.length_nil]; omega)) only [↓S0, ↓ITE_bool, S1, eq_self, if_true, if_false, true_implies, false_implies, implies_true, ↓c_msg_Counted, ↓c_msg_Value, ↓c_ahead_fits]
  refine ⟨fun hc => ?_, fun hc => ?_⟩
  · obtain ⟨x, hx⟩ := get_ex hc
    rw [drop_eq hx, ahdGo_cons] at hs
    simp (disch := first | omega | assumption | exact ⟨by first | assumption | omega, by first | assumption | omega⟩ | (simp only [List.length_cons, List.length_nil]; omega)) only [↓S0, ↓ITE_bool, S1, eq_self, if_true, if_false, true_implies, false_implies, implies_true, ↓c_msg_Counted, ↓c_msg_Value, ↓c_ahead_fits, cell_L hx]
    refine ⟨fun h3 => ?_, fun h3 => ⟨fun h4 => ?_, fun h4 => ⟨fun h5 => ?_, fun h5 => ?_⟩⟩⟩
    · have : (decide (p < x.seq) && decide (x.seq < want + window) && decide (x.seq < 1073741824)) = false := by
        rw [Bool.eq_false_iff] at h3 ⊢
        intro h6; apply h3
        simp only [Bool.and_eq_true, decide_eq_true_eq] at h6 ⊢
        omega
      rw [← hs, this]; simp
    · rw [← hs, h4]; simp
    · obtain ⟨k, hk, rfl⟩ := hp1 (by omega)
      have e1 : ((i : Int) - 1) = ((i - 1 : Nat) : Int) := by omega
      simp (disch := first | omega | assumption | exact ⟨by first | assumption | omega, by first | assumption | omega⟩ | (simp only [List.length_cons, List.length_nil]; omega)) only [↓S0, ↓ITE_bool, S1, eq_self, if_true, if_false, true_implies, false_implies, implies_true, ↓c_msg_Counted, ↓c_msg_Value, ↓c_ahead_fits, e1, cell_L hk]
      simp only [Bool.and_eq_true, decide_eq_true_eq] at h3
      refine ⟨fun h8 => ?_, fun h8 => ⟨i + 1, by simp, ⟨by omega, x.seq, by simp, fun _ => ⟨x, by simpa using hx, rfl⟩, by omega, ?_⟩, by omega⟩⟩
      · rw [← hs]; simp [show ¬ k.seq < x.seq by omega]
      · rw [← hs, h4]; simp [show k.seq < x.seq by omega, h3]
    · have h0 : i = 0 := by omega
      rw [hp0 h0] at hs
      simp only [Bool.and_eq_true, decide_eq_true_eq] at h3
      refine ⟨i + 1, by simp, ⟨by omega, x.seq, by simp, fun _ => ⟨x, by simpa using hx, rfl⟩, by omega, ?_⟩, by omega⟩
      rw [← hs, h4]; simp [h3]
  · rw [drop_nil hc] at hs
    simp [← hs, ahdGo]
theorem w_ref10_Ahead2 (l : List Item) (want : Int) (window : Int) (hg : Goods [L l, I want, I window]) : S_ref10_Ahead2 ρ (L l) (I want) (I window) (· = [bb (aheadOk l want window)]) := by
  unfold S_ref10_Ahead2 aheadOk
  simp only [Goods, good_I, good_L] at hg
  refine SUB.v1 (bb (!(cnt want && rng window 1 16))) ?_ ?_
  · repeat' (first | apply And.intro | intro _ | simp (disch := first | omega | assumption | exact ⟨by first | assumption | omega, by first | assumption | omega⟩ | (simp only [List.length_cons, List.length_nil]; omega)) only [↓S0, ↓ITE_bool, S1, eq_self, if_true, if_false, true_implies, false_implies, implies_true, ↓c_ref01_Value, ↓c_ref10_in])
    all_goals (simp_all [cnt]; try (first | omega | exact dlt _ _))
  simp (disch := first | omega | assumption | exact ⟨by first | assumption | omega, by first | assumption | omega⟩ | (simp only [List.length_cons, List.length_nil]; omega)) only [↓S0, ↓ITE_bool, S1, eq_self, if_true, if_false, true_implies, false_implies, implies_true, ↓c_ref01_Value, ↓c_ref10_in]
  refine ⟨fun h => by simp [h], fun h => ?_⟩
  simp only [h, Bool.true_and]
  simp only [Bool.and_eq_true, decide_eq_true_eq] at h
  obtain ⟨h1', h2'⟩ := h
  have h1 := cnt_bd h1'
  have h2 := rng_bd h2'
  refine LOOP.rule (α := Nat) (fun i => [I i]) (fun i => i ≤ l.length ∧ ∃ p, (i = 0 → p = want) ∧ (0 < i → ∃ k, l[i - 1]? = some k ∧ p = k.seq) ∧ want ≤ p ∧ ahdGo (want + window) p (l.drop i) = ahdGo (want + window) want l) (fun i => l.length - i) 0 rfl ⟨by omega, want, by simp⟩ (fun _ => rfl) ?_
  rintro i ⟨hl, p, hp0, hp1, hwp, hs⟩
  simp only [app]
  simp (disch := first | omega | assumption | exact ⟨by first | assumption | omega, by first | assumption | omega⟩ | (simp only [List.length_cons, List.length_nil]; omega)) only [↓S0, ↓ITE_bool, S1, eq_self, if_true, if_false, true_implies, false_implies, implies_true, ↓c_ref01_Value, ↓c_ref10_in]
  refine ⟨fun hc => ?_, fun hc => ?_⟩
  · obtain ⟨x, hx⟩ := get_ex hc
    rw [drop_eq hx, ahdGo_cons] at hs
    simp (disch := first | omega | assumption | exact ⟨by first | assumption | omega, by first | assumption | omega⟩ | (simp only [List.length_cons, List.length_nil]; omega)) only [↓S0, ↓ITE_bool, S1, eq_self, if_true, if_false, true_implies, false_implies, implies_true, ↓c_ref01_Value, ↓c_ref10_in, cell_L hx]
    refine ⟨fun h3 => ?_, fun h3 => ⟨fun h4 => ?_, fun h4 => ⟨fun h5 => ?_, fun h5 => ⟨fun h6 => ?_, fun h6 => ?_⟩⟩⟩⟩
    · rw [← hs]; simp [show ¬ p < x.seq by omega]
    · rw [← hs]; simp [show ¬ x.seq < want + window by omega]
    · rw [← hs]; simp [show ¬ x.seq < 1073741824 by omega]
    · obtain ⟨k, hk, rfl⟩ := hp1 (by omega)
      have e1 : ((i : Int) - 1) = ((i - 1 : Nat) : Int) := by omega
      simp (disch := first | omega | assumption | exact ⟨by first | assumption | omega, by first | assumption | omega⟩ | (simp only [List.length_cons, List.length_nil]; omega)) only [↓S0, ↓ITE_bool, S1, eq_self, if_true, if_false, true_implies, false_implies, implies_true, ↓c_ref01_Value, ↓c_ref10_in, e1, cell_L hk]
      refine ⟨fun h8 => ?_, fun h8 => ⟨fun h9 => ?_, fun h9 => ⟨i + 1, by simp, ⟨by omega, x.seq, by simp, fun _ => ⟨x, by simpa using hx, rfl⟩, by omega, ?_⟩, by omega⟩⟩⟩
      · rw [← hs]; simp [show ¬ k.seq < x.seq by omega]
      · rw [← hs, h9]; simp
      · rw [← hs, h9]; simp [show k.seq < x.seq by omega, show x.seq < want + window by omega, show x.seq < 1073741824 by omega]
    · have h0 : i = 0 := by omega
      rw [hp0 h0] at hs
      refine ⟨fun h9 => ?_, fun h9 => ⟨i + 1, by simp, ⟨by omega, x.seq, by simp, fun _ => ⟨x, by simpa using hx, rfl⟩, by omega, ?_⟩, by omega⟩⟩
      · rw [← hs, h9]; simp
      · rw [← hs, h9]; simp [show want < x.seq by omega, show x.seq < want + window by omega, show x.seq < 1073741824 by omega]
  · rw [drop_nil hc] at hs
    simp [← hs, ahdGo]
end Go.Xt
end
section
set_option linter.unusedSimpArgs false
set_option linter.unusedVariables false
set_option maxRecDepth 100000
namespace Go.Xt
theorem ite_not01 {c : Bool} : (if (!c) = true then (1 : Int) else 0) = if c = true then 0 else 1 := by cases c <;> rfl
theorem w_queue_Event (x : Event) : S_queue_Event ρ (I x.kind) (I x.epoch) (I x.seq) (I x.last) (I x.value) (I x.count) (· = [I (if evOk x = true then 0 else 1)]) := by
  unfold S_queue_Event
  generalize hE : evOk x = q
  unfold evOk at hE
  by_cases k1 : x.kind = 1
  · rw [OP_eql, decide_eq_true k1, ITE_true]
    simp (disch := first | omega | assumption | exact ⟨by first | assumption | omega, by first | assumption | omega⟩ | (simp only [List.length_cons, List.length_nil]; omega)) only [↓S0, ITE_R, ITE_eq, ite_c, ite_bb, ite_I, ite_L, ite_L0, ite_0L, ite_self, SUB_r1, SUB_r2, SUB_r3, S1, eq_self, if_true, if_false, true_implies, false_implies, implies_true, ↓c_msg_Counted, ↓c_epoch_Check, ↓c_ring_Is, ↓c_msg_Value, k1]
    simp only [k1, if_true] at hE
    subst hE
    cases ep x.epoch <;> cases cnt x.seq <;> cases val x.value <;> by_cases h1 : x.last = 0 <;> by_cases h2 : x.count = 0 <;> simp [h1, h2]
  by_cases k2 : x.kind = 2
  · rw [OP_eql, decide_eq_false k1, ITE_false, OP_eql, decide_eq_true k2, ITE_true]
    simp (disch := first | omega | assumption | exact ⟨by first | assumption | omega, by first | assumption | omega⟩ | (simp only [List.length_cons, List.length_nil]; omega)) only [↓S0, ITE_R, ITE_eq, ite_c, ite_bb, ite_I, ite_L, ite_L0, ite_0L, ite_self, SUB_r1, SUB_r2, SUB_r3, S1, eq_self, if_true, if_false, true_implies, false_implies, implies_true, ↓c_msg_Counted, ↓c_epoch_Check, ↓c_ring_Is, ↓c_msg_Value, k2]
    simp only [k2, if_true] at hE
    simp at hE
    subst hE
    cases ep x.epoch <;> cases cnt x.seq <;> by_cases h3 : x.seq ≤ x.last <;> by_cases h4 : x.last ≤ 1073741824 <;> by_cases h1 : x.value = 0 <;> by_cases h2 : x.count = 0 <;> simp [h1, h2, h3, h4, rng]
  by_cases k3 : x.kind = 3
  · rw [OP_eql, decide_eq_false k1, ITE_false, OP_eql, decide_eq_false k2, ITE_false, OP_eql, decide_eq_true k3, ITE_true]
    simp (disch := first | omega | assumption | exact ⟨by first | assumption | omega, by first | assumption | omega⟩ | (simp only [List.length_cons, List.length_nil]; omega)) only [↓S0, ITE_R, ITE_eq, ite_c, ite_bb, ite_I, ite_L, ite_L0, ite_0L, ite_self, SUB_r1, SUB_r2, SUB_r3, S1, eq_self, if_true, if_false, true_implies, false_implies, implies_true, ↓c_msg_Counted, ↓c_epoch_Check, ↓c_ring_Is, ↓c_msg_Value, k3]
    simp [k3] at hE
    subst hE
    cases isN x.value <;> by_cases h3 : 1 ≤ x.count <;> by_cases h4 : x.count ≤ 40 <;> by_cases h1 : x.epoch = 0 <;> by_cases h2 : x.seq = 0 <;> by_cases h5 : x.last = 0 <;> simp [h1, h2, h3, h4, h5, rng]
  by_cases k4 : x.kind = 4
  · rw [OP_eql, decide_eq_false k1, ITE_false, OP_eql, decide_eq_false k2, ITE_false, OP_eql, decide_eq_false k3, ITE_false, OP_eql, decide_eq_true k4, ITE_true]
    simp (disch := first | omega | assumption | exact ⟨by first | assumption | omega, by first | assumption | omega⟩ | (simp only [List.length_cons, List.length_nil]; omega)) only [↓S0, ITE_R, ITE_eq, ite_c, ite_bb, ite_I, ite_L, ite_L0, ite_0L, ite_self, SUB_r1, SUB_r2, SUB_r3, S1, eq_self, if_true, if_false, true_implies, false_implies, implies_true, ↓c_msg_Counted, ↓c_epoch_Check, ↓c_ring_Is, ↓c_msg_Value, k4]
    simp [k4] at hE
    subst hE
    by_cases h3 : 1 ≤ x.count <;> by_cases h4 : x.count ≤ 40 <;> by_cases h1 : x.epoch = 0 <;> by_cases h2 : x.seq = 0 <;> by_cases h5 : x.last = 0 <;> by_cases h6 : x.value = 0 <;> simp [h1, h2, h3, h4, h5, h6, rng]
  by_cases k5 : x.kind = 5
  · rw [OP_eql, decide_eq_false k1, ITE_false, OP_eql, decide_eq_false k2, ITE_false, OP_eql, decide_eq_false k3, ITE_false, OP_eql, decide_eq_false k4, ITE_false, OP_eql, decide_eq_true k5, ITE_true]
    simp (disch := first | omega | assumption | exact ⟨by first | assumption | omega, by first | assumption | omega⟩ | (simp only [List.length_cons, List.length_nil]; omega)) only [↓S0, ITE_R, ITE_eq, ite_c, ite_bb, ite_I, ite_L, ite_L0, ite_0L, ite_self, SUB_r1, SUB_r2, SUB_r3, S1, eq_self, if_true, if_false, true_implies, false_implies, implies_true, ↓c_msg_Counted, ↓c_epoch_Check, ↓c_ring_Is, ↓c_msg_Value, k5]
    simp [k5] at hE
    subst hE
    by_cases h3 : x.count = 0 <;> by_cases h1 : x.epoch = 0 <;> by_cases h2 : x.seq = 0 <;> by_cases h5 : x.last = 0 <;> by_cases h6 : x.value = 0 <;> simp [h1, h2, h3, h5, h6]
  · rw [OP_eql, decide_eq_false k1, ITE_false, OP_eql, decide_eq_false k2, ITE_false, OP_eql, decide_eq_false k3, ITE_false, OP_eql, decide_eq_false k4, ITE_false, OP_eql, decide_eq_false k5, ITE_false]
    simp (disch := first | omega | assumption | exact ⟨by first | assumption | omega, by first | assumption | omega⟩ | (simp only [List.length_cons, List.length_nil]; omega)) only [↓S0, ITE_R, ITE_eq, ite_c, ite_bb, ite_I, ite_L, ite_L0, ite_0L, ite_self, SUB_r1, SUB_r2, SUB_r3, S1, eq_self, if_true, if_false, true_implies, false_implies, implies_true, ↓c_msg_Counted, ↓c_epoch_Check, ↓c_ring_Is, ↓c_msg_Value]
    simp [k1, k2, k3, k4, k5] at hE
    subst hE
    simp
theorem w_ref10_Event (x : Event) : S_ref10_Event ρ (I x.kind) (I x.epoch) (I x.seq) (I x.last) (I x.value) (I x.count) (· = [bb (evOk x)]) := by
  unfold S_ref10_Event
  generalize hE : evOk x = q
  unfold evOk at hE
  by_cases k1 : x.kind = 1
  · simp (disch := first | omega | assumption | exact ⟨by first | assumption | omega, by first | assumption | omega⟩ | (simp only [List.length_cons, List.length_nil]; omega)) only [↓S0, ITE_R, ITE_eq, ite_c, ite_bb, ite_I, ite_L, ite_L0, ite_0L, ite_self, SUB_r1, SUB_r2, SUB_r3, S1, eq_self, if_true, if_false, true_implies, false_implies, implies_true, ↓c_ref01_IsNode, ↓c_ref01_Value, ↓c_ref10_in, ↓c_ref10_Epoch, ↓c_ref10_count, k1]
    simp only [k1, if_true] at hE
    subst hE
    cases ep x.epoch <;> cases cnt x.seq <;> cases val x.value <;> simp
  by_cases k2 : x.kind = 2
  · simp (disch := first | omega | assumption | exact ⟨by first | assumption | omega, by first | assumption | omega⟩ | (simp only [List.length_cons, List.length_nil]; omega)) only [↓S0, ITE_R, ITE_eq, ite_c, ite_bb, ite_I, ite_L, ite_L0, ite_0L, ite_self, SUB_r1, SUB_r2, SUB_r3, S1, eq_self, if_true, if_false, true_implies, false_implies, implies_true, ↓c_ref01_IsNode, ↓c_ref01_Value, ↓c_ref10_in, ↓c_ref10_Epoch, ↓c_ref10_count, k2]
    simp [k2] at hE
    subst hE
    cases ep x.epoch <;> cases cnt x.seq <;> cases rng x.last x.seq 1073741824 <;> simp
  by_cases k3 : x.kind = 3
  · simp (disch := first | omega | assumption | exact ⟨by first | assumption | omega, by first | assumption | omega⟩ | (simp only [List.length_cons, List.length_nil]; omega)) only [↓S0, ITE_R, ITE_eq, ite_c, ite_bb, ite_I, ite_L, ite_L0, ite_0L, ite_self, SUB_r1, SUB_r2, SUB_r3, S1, eq_self, if_true, if_false, true_implies, false_implies, implies_true, ↓c_ref01_IsNode, ↓c_ref01_Value, ↓c_ref10_in, ↓c_ref10_Epoch, ↓c_ref10_count, k3]
    simp [k3] at hE
    subst hE
    cases isN x.value <;> cases rng x.count 1 40 <;> simp [Bool.and_assoc]
  by_cases k4 : x.kind = 4
  · simp (disch := first | omega | assumption | exact ⟨by first | assumption | omega, by first | assumption | omega⟩ | (simp only [List.length_cons, List.length_nil]; omega)) only [↓S0, ITE_R, ITE_eq, ite_c, ite_bb, ite_I, ite_L, ite_L0, ite_0L, ite_self, SUB_r1, SUB_r2, SUB_r3, S1, eq_self, if_true, if_false, true_implies, false_implies, implies_true, ↓c_ref01_IsNode, ↓c_ref01_Value, ↓c_ref10_in, ↓c_ref10_Epoch, ↓c_ref10_count, k4]
    simp [k4] at hE
    subst hE
    cases rng x.count 1 40 <;> simp [Bool.and_assoc]
  by_cases k5 : x.kind = 5
  · simp (disch := first | omega | assumption | exact ⟨by first | assumption | omega, by first | assumption | omega⟩ | (simp only [List.length_cons, List.length_nil]; omega)) only [↓S0, ITE_R, ITE_eq, ite_c, ite_bb, ite_I, ite_L, ite_L0, ite_0L, ite_self, SUB_r1, SUB_r2, SUB_r3, S1, eq_self, if_true, if_false, true_implies, false_implies, implies_true, ↓c_ref01_IsNode, ↓c_ref01_Value, ↓c_ref10_in, ↓c_ref10_Epoch, ↓c_ref10_count, k5]
    simp [k5] at hE
    subst hE
    simp [Bool.and_assoc]
  · simp (disch := first | omega | assumption | exact ⟨by first | assumption | omega, by first | assumption | omega⟩ | (simp only [List.length_cons, List.length_nil]; omega)) only [↓S0, ITE_R, ITE_eq, ite_c, ite_bb, ite_I, ite_L, ite_L0, ite_0L, ite_self, SUB_r1, SUB_r2, SUB_r3, S1, eq_self, if_true, if_false, true_implies, false_implies, implies_true, ↓c_ref01_IsNode, ↓c_ref01_Value, ↓c_ref10_in, ↓c_ref10_Epoch, ↓c_ref10_count, k1, k2, k3, k4, k5]
    simp [k1, k2, k3, k4, k5] at hE
    subst hE
    simp
end Go.Xt
end
section
set_option linter.unusedSimpArgs false
set_option linter.unusedVariables false
set_option maxRecDepth 100000
namespace Go.Xt
theorem lastGap_get {l : List Event} {x : Event} (h : l[l.length - 1]? = some x) : lastGap l = decide (x.kind = 2) := by
  unfold lastGap
  rw [List.getLast?_eq_getElem?, h]
theorem get_last {α : Type} {l : List α} (h : 0 < l.length) : ∃ x, l[l.length - 1]? = some x := ⟨l[l.length - 1]'(by omega), by simp [show l.length - 1 < l.length by omega]⟩
theorem w_queue_Check (l : List Event) (limit : Int) (hg : Goods [L l, I limit]) : S_queue_Check ρ (L l) (I limit) (· = [I (if queueOk l limit = true then 0 else 1)]) := by
  unfold S_queue_Check
  simp only [Goods, good_I, good_L] at hg
  refine SUB.v1 (bb (!(rng limit 2 32 && decide ((l.length : Int) ≤ limit)))) ?_ ?_
  · repeat' (first | apply And.intro | intro _ | simp (disch := first | omega | assumption | exact ⟨by first | assumption | omega, by first | assumption | omega⟩ | (simp only [List.length_cons, List.length_nil]; omega)) only [↓S0, ↓ITE_bool, S1, eq_self, if_true, if_false, true_implies, false_implies, implies_true, ↓c_queue_Event])
    all_goals (simp_all [rng]; try (first | omega | exact dlt _ _))
  cases hr : (rng limit 2 32 && decide ((l.length : Int) ≤ limit))
  · refine SUB.v1 (bb true) (by simp (disch := first | omega | assumption | exact ⟨by first | assumption | omega, by first | assumption | omega⟩ | (simp only [List.length_cons, List.length_nil]; omega)) only [↓S0, ↓ITE_bool, S1, eq_self, if_true, if_false, true_implies, false_implies, implies_true, ↓c_queue_Event]) ?_
    simp (disch := first | omega | assumption | exact ⟨by first | assumption | omega, by first | assumption | omega⟩ | (simp only [List.length_cons, List.length_nil]; omega)) only [↓S0, ↓ITE_bool, S1, eq_self, if_true, if_false, true_implies, false_implies, implies_true, ↓c_queue_Event]
    simp [queueOk, hr]
  simp only [Bool.and_eq_true, decide_eq_true_eq] at hr
  have hb := rng_bd hr.1
  refine SUB.v1 (bb (!(l.all evOk))) ?_ ?_
  · simp (disch := first | omega | assumption | exact ⟨by first | assumption | omega, by first | assumption | omega⟩ | (simp only [List.length_cons, List.length_nil]; omega)) only [↓S0, ↓ITE_bool, S1, eq_self, if_true, if_false, true_implies, false_implies, implies_true, ↓c_queue_Event]
    refine LOOP.rule (α := Nat) (fun i => [I i]) (fun i => i ≤ l.length ∧ (l.drop i).all (evOk) = l.all (evOk)) (fun i => l.length - i) 0 rfl ⟨by omega, by simp⟩ (fun _ => rfl) ?_
    rintro i ⟨hl_i, hs_i⟩
    simp only [app]
    simp (disch := first | omega | assumption | exact ⟨by first | assumption | omega, by first | assumption | omega⟩ | (simp only [List.length_cons, List.length_nil]; omega)) only [↓S0, ↓ITE_bool, S1, eq_self, if_true, if_false, true_implies, false_implies, implies_true, ↓c_queue_Event]
    refine ⟨fun hc_i => ?_, fun hc_i => ?_⟩
    · obtain ⟨x, hx⟩ := get_ex hc_i
      rw [drop_eq hx, List.all_cons] at hs_i
      simp (disch := first | omega | assumption | exact ⟨by first | assumption | omega, by first | assumption | omega⟩ | (simp only [List.length_cons, List.length_nil]; omega)) only [↓S0, ↓ITE_bool, S1, eq_self, if_true, if_false, true_implies, false_implies, implies_true, ↓c_queue_Event, cell_L hx]
      refine ⟨fun h3 => ?_, fun h3 => ⟨i + 1, rfl, ⟨by omega, by rw [← hs_i]; cases he : evOk x <;> simp_all⟩, by omega⟩⟩
      have : evOk x = false := by cases he : evOk x <;> simp_all
      rw [← hs_i, this]; simp
    · rw [drop_nil hc_i] at hs_i
      rw [← hs_i]; simp
  simp (disch := first | omega | assumption | exact ⟨by first | assumption | omega, by first | assumption | omega⟩ | (simp only [List.length_cons, List.length_nil]; omega)) only [↓S0, ↓ITE_bool, S1, eq_self, if_true, if_false, true_implies, false_implies, implies_true, ↓c_queue_Event]
  unfold queueOk
  refine ⟨fun h => by simp [h], fun h => ⟨fun h2 => ?_, fun h2 => ?_⟩⟩
  · have h0 : 0 < l.length := by omega
    obtain ⟨x, hx⟩ := get_last h0
    have e1 : limit - 1 = ((l.length - 1 : Nat) : Int) := by omega
    simp (disch := first | omega | assumption | exact ⟨by first | assumption | omega, by first | assumption | omega⟩ | (simp only [List.length_cons, List.length_nil]; omega)) only [↓S0, ↓ITE_bool, S1, eq_self, if_true, if_false, true_implies, false_implies, implies_true, ↓c_queue_Event, e1, cell_L hx]
    have e2 : decide ((l.length : Int) < limit) = false := by simp; omega
    rw [lastGap_get hx, hr.1, e2, h]
    by_cases hk : x.kind = 2 <;> simp [hk] <;> omega
  · have e2 : decide ((l.length : Int) < limit) = true := by simp; omega
    have e3 : decide ((l.length : Int) ≤ limit) = true := by simp; omega
    rw [hr.1, e2, e3, h]; simp
theorem w_ref10_Queue (l : List Event) (limit : Int) (hg : Goods [L l, I limit]) : S_ref10_Queue ρ (L l) (I limit) (· = [bb (queueOk l limit)]) := by
  unfold S_ref10_Queue
  simp only [Goods, good_I, good_L] at hg
  refine SUB.v1 (bb (!(rng limit 2 32 && decide ((l.length : Int) ≤ limit)))) ?_ ?_
  · repeat' (first | apply And.intro | intro _ | simp (disch := first | omega | assumption | exact ⟨by first | assumption | omega, by first | assumption | omega⟩ | (simp only [List.length_cons, List.length_nil]; omega)) only [↓S0, ↓ITE_bool, S1, eq_self, if_true, if_false, true_implies, false_implies, implies_true, ↓c_ref10_in, ↓c_ref10_Event])
    all_goals (simp_all; try (first | omega | exact dlt _ _))
  cases hr : (rng limit 2 32 && decide ((l.length : Int) ≤ limit))
  · simp (disch := first | omega | assumption | exact ⟨by first | assumption | omega, by first | assumption | omega⟩ | (simp only [List.length_cons, List.length_nil]; omega)) only [↓S0, ↓ITE_bool, S1, eq_self, if_true, if_false, true_implies, false_implies, implies_true, ↓c_ref10_in, ↓c_ref10_Event]
    simp [queueOk, hr]
  simp only [Bool.and_eq_true, decide_eq_true_eq] at hr
  have hb := rng_bd hr.1
  have e3 : decide ((l.length : Int) ≤ limit) = true := by simp; omega
  unfold queueOk
  rw [hr.1, e3]
  simp (disch := first | omega | assumption | exact ⟨by first | assumption | omega, by first | assumption | omega⟩ | (simp only [List.length_cons, List.length_nil]; omega)) only [↓S0, ↓ITE_bool, S1, eq_self, if_true, if_false, true_implies, false_implies, implies_true, ↓c_ref10_in, ↓c_ref10_Event]
  refine LOOP.rule (α := Nat) (fun i => [I i]) (fun i => i ≤ l.length ∧ (l.drop i).all (evOk) = l.all (evOk)) (fun i => l.length - i) 0 rfl ⟨by omega, by simp⟩ (fun _ => rfl) ?_
  rintro i ⟨hl_i, hs_i⟩
  simp only [app]
  simp (disch := first | omega | assumption | exact ⟨by first | assumption | omega, by first | assumption | omega⟩ | (simp only [List.length_cons, List.length_nil]; omega)) only [↓S0, ↓ITE_bool, S1, eq_self, if_true, if_false, true_implies, false_implies, implies_true, ↓c_ref10_in, ↓c_ref10_Event]
  refine ⟨fun hc_i => ?_, fun hc_i => ?_⟩
  · obtain ⟨x, hx⟩ := get_ex hc_i
    rw [drop_eq hx, List.all_cons] at hs_i
    simp (disch := first | omega | assumption | exact ⟨by first | assumption | omega, by first | assumption | omega⟩ | (simp only [List.length_cons, List.length_nil]; omega)) only [↓S0, ↓ITE_bool, S1, eq_self, if_true, if_false, true_implies, false_implies, implies_true, ↓c_ref10_in, ↓c_ref10_Event, cell_L hx]
    refine ⟨fun h3 => ?_, fun h3 => ⟨i + 1, rfl, ⟨by omega, by rw [← hs_i, h3]; simp⟩, by omega⟩⟩
    rw [← hs_i, h3]; simp
  · rw [drop_nil hc_i] at hs_i
    rw [← hs_i]
    refine ⟨fun h => by simp [h], fun h => ?_⟩
    have h0 : 0 < l.length := by omega
    obtain ⟨x, hx⟩ := get_last h0
    have e1 : (l.length : Int) - 1 = ((l.length - 1 : Nat) : Int) := by omega
    have e2 : decide ((l.length : Int) < limit) = false := by simp; omega
    simp (disch := first | omega | assumption | exact ⟨by first | assumption | omega, by first | assumption | omega⟩ | (simp only [List.length_cons, List.length_nil]; omega)) only [↓S0, ↓ITE_bool, S1, eq_self, if_true, if_false, true_implies, false_implies, implies_true, ↓c_ref10_in, ↓c_ref10_Event, e1, cell_L hx]
    rw [lastGap_get hx, e2]; simp
theorem w_flow_right (c : Config) (s : Stream) (hg : Goods [I c.nodes, I c.topics, I c.kids, I c.depth, I c.keep, I c.window, I c.queue, I s.epoch, I s.want, I s.known, L s.kept, L s.ahead]) : S_flow_right ρ (I c.nodes) (I c.topics) (I c.kids) (I c.depth) (I c.keep) (I c.window) (I c.queue) (I s.epoch) (I s.want) (I s.known) (L s.kept) (L s.ahead) (· = [bb (streamOk c s)]) := by
  unfold S_flow_right
  simp (disch := first | omega | assumption | exact ⟨by first | assumption | omega, by first | assumption | omega⟩ | (simp only [List.length_cons, List.length_nil]; omega)) only [↓S0, ITE_R, ITE_eq, ite_c, ite_bb, ite_I, ite_L, ite_L0, ite_0L, ite_self, SUB_r1, SUB_r2, SUB_r3, S1, eq_self, if_true, if_false, true_implies, false_implies, implies_true, ↓c_msg_Counted, ↓c_epoch_Check, ↓c_flow_zero, ↓c_keep_Check, ↓c_ahead_Check]
  unfold streamOk
  cases streamZ s <;> cases ep s.epoch <;> cases cnt s.want <;> cases keptOk s.kept s.want c.keep <;> cases aheadOk s.ahead s.want c.window <;> simp [rng]
theorem w_flow_Check (c : Config) (s : Stream) (q : List Event) (hg : Goods [I c.nodes, I c.topics, I c.kids, I c.depth, I c.keep, I c.window, I c.queue, I s.epoch, I s.want, I s.known, L s.kept, L s.ahead, L q]) : S_flow_Check ρ (I c.nodes) (I c.topics) (I c.kids) (I c.depth) (I c.keep) (I c.window) (I c.queue) (I s.epoch) (I s.want) (I s.known) (L s.kept) (L s.ahead) (L q) (· = [I (if cfgOk c = true then (if flowOk c s q = true then 0 else 1) else 13)]) := by
  unfold S_flow_Check
  simp (disch := first | omega | assumption | exact ⟨by first | assumption | omega, by first | assumption | omega⟩ | (simp only [List.length_cons, List.length_nil]; omega)) only [↓S0, ITE_R, ITE_eq, ite_c, ite_bb, ite_I, ite_L, ite_L0, ite_0L, ite_self, SUB_r1, SUB_r2, SUB_r3, S1, eq_self, if_true, if_false, true_implies, false_implies, implies_true, ↓c_script_Config, ↓c_flow_right, ↓c_queue_Check]
  unfold flowOk
  cases cfgOk c <;> cases streamOk c s <;> cases queueOk q c.queue <;> simp
theorem streamZ_eq (s : Stream) : decide (s = ⟨0, 0, 0, [], []⟩) = streamZ s := by
  rw [Bool.eq_iff_iff]; simp [streamZ, Stream.eq_iff, and_assoc]
theorem w_ref10_Stream (c : Config) (s : Stream) (hg : Goods [I c.nodes, I c.topics, I c.kids, I c.depth, I c.keep, I c.window, I c.queue, I s.epoch, I s.want, I s.known, L s.kept, L s.ahead]) : S_ref10_Stream ρ (I c.nodes) (I c.topics) (I c.kids) (I c.depth) (I c.keep) (I c.window) (I c.queue) (I s.epoch) (I s.want) (I s.known) (L s.kept) (L s.ahead) (· = [bb (streamOk c s)]) := by
  unfold S_ref10_Stream
  simp (disch := first | omega | assumption | exact ⟨by first | assumption | omega, by first | assumption | omega⟩ | (simp only [List.length_cons, List.length_nil]; omega)) only [↓S0, ITE_R, ITE_eq, ite_c, ite_bb, ite_I, ite_L, ite_L0, ite_0L, ite_self, SUB_r1, SUB_r2, SUB_r3, S1, eq_self, if_true, if_false, true_implies, false_implies, implies_true, ↓c_bkeep_Stream, ↓c_ref10_in, ↓c_ref10_Epoch, ↓c_ref10_count, ↓c_ref10_Kept, ↓c_ref10_Ahead2, streamZ_eq]
  unfold streamOk
  cases streamZ s <;> simp [Bool.and_assoc]
theorem w_ref10_Flow (c : Config) (s : Stream) (q : List Event) (hg : Goods [I c.nodes, I c.topics, I c.kids, I c.depth, I c.keep, I c.window, I c.queue, I s.epoch, I s.want, I s.known, L s.kept, L s.ahead, L q]) : S_ref10_Flow ρ (I c.nodes) (I c.topics) (I c.kids) (I c.depth) (I c.keep) (I c.window) (I c.queue) (I s.epoch) (I s.want) (I s.known) (L s.kept) (L s.ahead) (L q) (· = [bb (flowOk c s q)]) := by
  unfold S_ref10_Flow
  simp (disch := first | omega | assumption | exact ⟨by first | assumption | omega, by first | assumption | omega⟩ | (simp only [List.length_cons, List.length_nil]; omega)) only [↓S0, ITE_R, ITE_eq, ite_c, ite_bb, ite_I, ite_L, ite_L0, ite_0L, ite_self, SUB_r1, SUB_r2, SUB_r3, S1, eq_self, if_true, if_false, true_implies, false_implies, implies_true, ↓c_ref10_Stream, ↓c_ref10_Queue]
  unfold flowOk
  try simp
theorem w_graft_right (c : Config) (t : Int) (self : Int) (x : Topic) (hp : cfgOk c = true) (hg : Goods [I c.nodes, I c.topics, I c.kids, I c.depth, I c.keep, I c.window, I c.queue, I t, I self, bb x.made, bb x.sub, I x.top, I x.root, I x.parent, I x.asked, I x.other, I x.age, L x.path, L x.kids, I x.stream.epoch, I x.stream.want, I x.stream.known, L x.stream.kept, L x.stream.ahead, L x.queue]) : S_graft_right ρ (I c.nodes) (I c.topics) (I c.kids) (I c.depth) (I c.keep) (I c.window) (I c.queue) (I t) (I self) (bb x.made) (bb x.sub) (I x.top) (I x.root) (I x.parent) (I x.asked) (I x.other) (I x.age) (L x.path) (L x.kids) (I x.stream.epoch) (I x.stream.want) (I x.stream.known) (L x.stream.kept) (L x.stream.ahead) (L x.queue) (· = [bb (topicOk c t self x)]) := by
  unfold S_graft_right
  generalize hE : topicOk c t self x = q
  refine SUB.v1 (bb (!(rng x.top 0 1073741824 && rng x.age 0 1000))) ?_ ?_
  · repeat' (first | apply And.intro | intro _ | simp (disch := first | omega | assumption | exact ⟨by first | assumption | omega, by first | assumption | omega⟩ | (simp only [List.length_cons, List.length_nil]; omega)) only [↓S0, ↓ITE_bool, S1, eq_self, if_true, if_false, true_implies, false_implies, implies_true, ↓c_graft_link, ↓c_graft_rooted, ↓c_graft_placed, ↓c_path_Check, ↓c_kids_Check, ↓c_flow_Check])
    all_goals (simp_all [rng]; try (first | omega | exact dlt _ _))
  unfold topicOk at hE
  cases h1 : (rng x.top 0 1073741824 && rng x.age 0 1000)
  · rw [h1] at hE
    simp (disch := first | omega | assumption | exact ⟨by first | assumption | omega, by first | assumption | omega⟩ | (simp only [List.length_cons, List.length_nil]; omega)) only [↓S0, ↓ITE_bool, S1, eq_self, if_true, if_false, true_implies, false_implies, implies_true, ↓c_graft_link, ↓c_graft_rooted, ↓c_graft_placed, ↓c_path_Check, ↓c_kids_Check, ↓c_flow_Check]
    simp [← hE]
  rw [Bool.not_true, ITE_false]
  refine SUB.v1 (bb (link t self x.parent && link t self x.asked && link t self x.other)) ?_ ?_
  · simp (disch := first | omega | assumption | exact ⟨by first | assumption | omega, by first | assumption | omega⟩ | (simp only [List.length_cons, List.length_nil]; omega)) only [↓S0, ITE_R, ITE_eq, ite_c, ite_bb, ite_I, ite_L, ite_L0, ite_0L, ite_self, SUB_r1, SUB_r2, SUB_r3, S1, eq_self, if_true, if_false, true_implies, false_implies, implies_true, ↓c_graft_link, ↓c_graft_rooted, ↓c_graft_placed, ↓c_path_Check, ↓c_kids_Check, ↓c_flow_Check]
    simp [Bool.and_assoc]
  cases h2 : (link t self x.parent && link t self x.asked && link t self x.other)
  · simp (disch := first | omega | assumption | exact ⟨by first | assumption | omega, by first | assumption | omega⟩ | (simp only [List.length_cons, List.length_nil]; omega)) only [↓S0, ↓ITE_bool, S1, eq_self, if_true, if_false, true_implies, false_implies, implies_true, ↓c_graft_link, ↓c_graft_rooted, ↓c_graft_placed, ↓c_path_Check, ↓c_kids_Check, ↓c_flow_Check]
    rw [← hE]
    cases h3 : link t self x.parent <;> cases h4 : link t self x.asked <;> cases h5 : link t self x.other <;> simp_all
  simp only [Bool.and_eq_true] at h2
  have hpar : 0 ≤ x.parent ∧ x.parent ≤ 8 := by
    have := h2.1.1
    simp only [link, Bool.or_eq_true, Bool.and_eq_true, decide_eq_true_eq] at this
    rcases this with h | ⟨h, h'⟩
    · omega
    · have := (near_dom h').2.1; omega
  rw [h1] at hE
  rw [h2.1.1, h2.1.2, h2.2] at hE
  simp (disch := first | omega | assumption | exact ⟨by first | assumption | omega, by first | assumption | omega⟩ | (simp only [List.length_cons, List.length_nil]; omega)) only [↓S0, ITE_R, ITE_eq, ite_c, ite_bb, ite_I, ite_L, ite_L0, ite_0L, ite_self, SUB_r1, SUB_r2, SUB_r3, S1, eq_self, if_true, if_false, true_implies, false_implies, implies_true, ↓c_graft_link, ↓c_graft_rooted, ↓c_graft_placed, ↓c_path_Check, ↓c_kids_Check, ↓c_flow_Check, hp]
  rw [← hE]
  cases rootOk self x <;> cases placedOk x <;> cases kidsOk t self c.kids x.kids <;> cases flowOk c x.stream x.queue <;> by_cases h9 : chk t self x.path c.depth = 0 <;> simp [h9]
theorem w_graft_Check (c : Config) (t : Int) (self : Int) (x : Topic) (hg : Goods [I c.nodes, I c.topics, I c.kids, I c.depth, I c.keep, I c.window, I c.queue, I t, I self, bb x.made, bb x.sub, I x.top, I x.root, I x.parent, I x.asked, I x.other, I x.age, L x.path, L x.kids, I x.stream.epoch, I x.stream.want, I x.stream.known, L x.stream.kept, L x.stream.ahead, L x.queue]) : S_graft_Check ρ (I c.nodes) (I c.topics) (I c.kids) (I c.depth) (I c.keep) (I c.window) (I c.queue) (I t) (I self) (bb x.made) (bb x.sub) (I x.top) (I x.root) (I x.parent) (I x.asked) (I x.other) (I x.age) (L x.path) (L x.kids) (I x.stream.epoch) (I x.stream.want) (I x.stream.known) (L x.stream.kept) (L x.stream.ahead) (L x.queue) (· = [I (if cfgOk c = true then (if (place c t self && topicOk c t self x) = true then 0 else 1) else 13)]) := by
  unfold S_graft_Check
  cases hc : cfgOk c
  · simp (disch := first | omega | assumption | exact ⟨by first | assumption | omega, by first | assumption | omega⟩ | (simp only [List.length_cons, List.length_nil]; omega)) only [↓S0, ↓ITE_bool, S1, eq_self, if_true, if_false, true_implies, false_implies, implies_true, ↓c_script_Config, ↓c_graft_right, hc]
    simp
  · simp (disch := first | omega | assumption | exact ⟨by first | assumption | omega, by first | assumption | omega⟩ | (simp only [List.length_cons, List.length_nil]; omega)) only [↓S0, ↓ITE_bool, S1, eq_self, if_true, if_false, true_implies, false_implies, implies_true, ↓c_script_Config, ↓c_graft_right, hc]
    unfold place
    refine ⟨fun h => ?_, fun h => ⟨fun h1 => ?_, fun h1 => ⟨fun h2 => ?_, fun h2 => ⟨fun h3 => ?_, fun h3 => ?_⟩⟩⟩⟩
    · simp [rng, show ¬ 0 ≤ t by omega]
    · simp [rng, show ¬ t ≤ c.topics - 1 by omega]
    · simp [rng, show ¬ 0 ≤ self by omega]
    · simp [rng, show ¬ self ≤ c.nodes - 1 by omega]
    · have e1 : rng t 0 (c.topics - 1) = true := by simp [rng]; omega
      have e2 : rng self 0 (c.nodes - 1) = true := by simp [rng]; omega
      rw [e1, e2]
      cases topicOk c t self x <;> simp
end Go.Xt
end
section
set_option linter.unusedSimpArgs false
set_option linter.unusedVariables false
set_option maxRecDepth 100000
namespace Go.Xt
theorem cfg_bd {c : Config} (h : cfgOk c = true) : (1 ≤ c.nodes ∧ c.nodes ≤ 8) ∧ (1 ≤ c.topics ∧ c.topics ≤ 4) ∧ (1 ≤ c.kids ∧ c.kids ≤ 4) ∧ (1 ≤ c.depth ∧ c.depth ≤ 8) ∧ (1 ≤ c.keep ∧ c.keep ≤ 16) ∧ (1 ≤ c.window ∧ c.window ≤ 16) ∧ (2 ≤ c.queue ∧ c.queue ≤ 32) := by
  simp only [cfgOk, rng, Bool.and_eq_true, decide_eq_true_eq] at h
  obtain ⟨⟨⟨⟨⟨⟨a, b⟩, d⟩, e⟩, f⟩, g⟩, i⟩ := h
  exact ⟨a, b, d, e, f, g, i⟩
theorem place_bd {c : Config} {t self : Int} (hc : cfgOk c = true) (h : place c t self = true) : isT t = true ∧ isN self = true ∧ (0 ≤ t ∧ t < c.topics) ∧ (0 ≤ self ∧ self < c.nodes) := by
  have hb := cfg_bd hc
  simp only [place, Bool.and_eq_true] at h
  have h1 := rng_bd h.1; have h2 := rng_bd h.2
  exact ⟨isT_iff.2 (by omega), isN_iff.2 (by omega), by omega, by omega⟩
theorem chk_chkR {t self c : Int} {l : List Int} (ht : isT t = true) (hs : isN self = true) (h1 : 1 ≤ c) (h2 : c ≤ 8) : chk t self l c = chkR t self l c := by
  simp [chk, chkR, ht, hs, h1, h2]
theorem chkR_all {t self c : Int} {l : List Int} (h : chkR t self l c = 0) : l.all isN = true := by
  unfold chkR at h
  by_cases e : l.all isN = true
  · exact e
  · rw [if_neg e] at h; omega
theorem link_bd {t self n : Int} (h : link t self n = true) : 0 ≤ n ∧ n ≤ 8 := by
  simp only [link, Bool.or_eq_true, Bool.and_eq_true, decide_eq_true_eq] at h
  rcases h with h | ⟨h, h'⟩
  · omega
  · have := (near_dom h').2.1; omega
theorem wrap_small {n : Int} (h0 : 0 ≤ n) (h1 : n ≤ 8) : IntKind.i64.wrap n = n := wr (by omega) (by omega)
def placed2 (x : Topic) : Bool := (decide (0 < x.path.length) == decide (0 < x.parent)) && match x.path with | [] => true | p :: _ => decide (p = x.parent - 1)
theorem placed2_eq {t self : Int} {x : Topic} (hl : link t self x.parent = true) (hp : x.path.all isN = true) : placedOk x = placed2 x := by
  have hb := link_bd hl
  unfold placedOk placed2
  cases hx : x.path with
  | nil =>
    rw [Bool.eq_iff_iff]; simp; omega
  | cons p r =>
    rw [hx, List.all_cons, Bool.and_eq_true] at hp
    have := isN_iff.1 hp.1
    have hw : IntKind.i64.wrap (p + 1) = p + 1 := wr (by omega) (by omega)
    simp only [hw]
    rw [Bool.eq_iff_iff]; simp; omega
theorem w_ref10_Topic (c : Config) (t : Int) (self : Int) (x : Topic) (hp : cfgOk c = true ∧ place c t self = true) (hg : Goods [I c.nodes, I c.topics, I c.kids, I c.depth, I c.keep, I c.window, I c.queue, I t, I self, bb x.made, bb x.sub, I x.top, I x.root, I x.parent, I x.asked, I x.other, I x.age, L x.path, L x.kids, I x.stream.epoch, I x.stream.want, I x.stream.known, L x.stream.kept, L x.stream.ahead, L x.queue]) : S_ref10_Topic ρ (I c.nodes) (I c.topics) (I c.kids) (I c.depth) (I c.keep) (I c.window) (I c.queue) (I t) (I self) (bb x.made) (bb x.sub) (I x.top) (I x.root) (I x.parent) (I x.asked) (I x.other) (I x.age) (L x.path) (L x.kids) (I x.stream.epoch) (I x.stream.want) (I x.stream.known) (L x.stream.kept) (L x.stream.ahead) (L x.queue) (· = [bb (topicOk c t self x)]) := by
  unfold S_ref10_Topic
  generalize hE : topicOk c t self x = q
  obtain ⟨hc, hpl⟩ := hp
  have hb := cfg_bd hc
  obtain ⟨ht, hs, ht2, hs2⟩ := place_bd hc hpl
  simp only [Goods, good_I, good_L] at hg
  unfold topicOk at hE
  rw [chk_chkR ht hs hb.2.2.2.1.1 hb.2.2.2.1.2] at hE
  have hroot : rootOk self x = ((decide (x.root = 0) || (ep x.root && decide (x.root % 16 = self) && decide (x.root ≤ x.top))) && (decide (x.root = 0) || (decide (x.parent = 0) && decide (x.stream.epoch = x.root)))) := by
    unfold rootOk
    cases h : decide (x.root = 0) <;> simp [Bool.and_assoc]
  rw [hroot] at hE
  refine SUB.v1 (bb (!(rng x.top 0 1073741824 && (decide (x.root = 0) || (ep x.root && decide (x.root % 16 = self) && decide (x.root ≤ x.top))) && link t self x.parent && link t self x.asked && link t self x.other && rng x.age 0 1000))) ?_ ?_
  · cases he : ep x.root
    · repeat' (first | apply And.intro | intro _ | simp (disch := first | omega | assumption | exact ⟨by first | assumption | omega, by first | assumption | omega⟩ | (simp only [List.length_cons, List.length_nil]; omega)) only [↓S0, ↓ITE_bool, S1, eq_self, if_true, if_false, true_implies, false_implies, implies_true, ↓c_ref10_in, ↓c_ref10_Epoch, ↓c_ref10_near, ↓c_ref10_Path, ↓c_ref10_Kids, ↓c_ref10_Flow])
      all_goals simp_all
    · have h0 : 0 ≤ x.root := by simp only [ep, rng, Bool.and_eq_true, decide_eq_true_eq] at he; omega
      repeat' (first | apply And.intro | intro _ | simp (disch := first | omega | assumption | exact ⟨by first | assumption | omega, by first | assumption | omega⟩ | (simp only [List.length_cons, List.length_nil]; omega)) only [↓S0, ↓ITE_bool, S1, eq_self, if_true, if_false, true_implies, false_implies, implies_true, ↓c_ref10_in, ↓c_ref10_Epoch, ↓c_ref10_near, ↓c_ref10_Path, ↓c_ref10_Kids, ↓c_ref10_Flow])
      all_goals simp_all
      all_goals omega
  cases hA : (rng x.top 0 1073741824 && (decide (x.root = 0) || (ep x.root && decide (x.root % 16 = self) && decide (x.root ≤ x.top))) && link t self x.parent && link t self x.asked && link t self x.other && rng x.age 0 1000)
  · simp (disch := first | omega | assumption | exact ⟨by first | assumption | omega, by first | assumption | omega⟩ | (simp only [List.length_cons, List.length_nil]; omega)) only [↓S0, ↓ITE_bool, S1, eq_self, if_true, if_false, true_implies, false_implies, implies_true, ↓c_ref10_in, ↓c_ref10_Epoch, ↓c_ref10_near, ↓c_ref10_Path, ↓c_ref10_Kids, ↓c_ref10_Flow]
    rw [← hE]
    clear hE hroot
    revert hA
    cases rng x.top 0 1073741824 <;> cases rng x.age 0 1000 <;> cases link t self x.parent <;> cases link t self x.asked <;> cases link t self x.other <;> cases (decide (x.root = 0) || (ep x.root && decide (x.root % 16 = self) && decide (x.root ≤ x.top))) <;> simp
  simp only [Bool.and_eq_true] at hA
  obtain ⟨⟨⟨⟨⟨A1, A2⟩, A3⟩, A4⟩, A5⟩, A6⟩ := hA
  rw [A1, A2, A3, A4, A5, A6] at hE
  simp only [Bool.true_and] at hE
  have hlb := link_bd A3
  simp (disch := first | omega | assumption | exact ⟨by first | assumption | omega, by first | assumption | omega⟩ | (simp only [List.length_cons, List.length_nil]; omega)) only [↓S0, ↓ITE_bool, S1, eq_self, if_true, if_false, true_implies, false_implies, implies_true, ↓c_ref10_in, ↓c_ref10_Epoch, ↓c_ref10_near, ↓c_ref10_Path, ↓c_ref10_Kids, ↓c_ref10_Flow]
  refine ⟨fun h => ?_, fun h => ?_⟩
  · rw [← hE]; simp [h]
  have h0 := chkR_all h
  rw [placed2_eq A3 h0] at hE
  simp only [h, eq_self, decide_true, Bool.and_true] at hE
  refine ⟨fun h1 => ?_, fun h1 => ?_⟩
  · rw [← hE]
    have : placed2 x = false := by
      unfold placed2
      rw [Bool.and_eq_false_iff]; left
      revert h1
      by_cases a : 0 < x.path.length <;> by_cases b : 0 < x.parent <;> simp [a, b]
    rw [this]; simp
  have fin : placed2 x = true → (¬ x.root = 0 → (¬ x.parent = 0 → [bb false] = [bb q]) ∧ (x.parent = 0 → (¬ x.stream.epoch = x.root → [bb false] = [bb q]) ∧ (x.stream.epoch = x.root →
      (kidsOk t self c.kids x.kids = true → [bb (flowOk c x.stream x.queue)] = [bb q]) ∧ (kidsOk t self c.kids x.kids = false → [bb false] = [bb q])))) ∧
      (x.root = 0 → (kidsOk t self c.kids x.kids = true → [bb (flowOk c x.stream x.queue)] = [bb q]) ∧ (kidsOk t self c.kids x.kids = false → [bb false] = [bb q])) := by
    intro hp2
    rw [← hE, hp2]
    by_cases r0 : x.root = 0 <;> by_cases p0 : x.parent = 0 <;> by_cases e0 : x.stream.epoch = x.root <;> cases kidsOk t self c.kids x.kids <;> simp [r0, p0, e0]
  refine ⟨fun h2 => ?_, fun h2 => fin ?_⟩
  · cases hx : x.path with
    | nil => rw [hx] at h2; simp at h2
    | cons p r =>
      have h3 : (0 : Int) < ((p :: r).length : Nat) := by simp
      have hp3 : 0 < x.parent := by
        revert h1; rw [hx]
        by_cases b : 0 < x.parent <;> simp [b]
      simp (disch := first | omega | assumption | exact ⟨by first | assumption | omega, by first | assumption | omega⟩ | (simp only [List.length_cons, List.length_nil]; omega)) only [↓S0, ↓ITE_bool, S1, eq_self, if_true, if_false, true_implies, false_implies, implies_true, ↓c_ref10_in, ↓c_ref10_Epoch, ↓c_ref10_near, ↓c_ref10_Path, ↓c_ref10_Kids, ↓c_ref10_Flow]
      refine ⟨fun h4 => ?_, fun h4 => fin ?_⟩
      · rw [← hE]
        have : placed2 x = false := by unfold placed2; rw [hx]; simp [h4]
        rw [this]; simp
      · unfold placed2; rw [hx]; simp [hp3, h4]
  · unfold placed2
    cases hx : x.path with
    | nil =>
      revert h1; rw [hx]
      by_cases b : 0 < x.parent <;> simp [b]
    | cons p r => rw [hx] at h2; simp at h2
theorem w_cast_mark (m : Mark) : S_cast_mark ρ (I m.inc) (I m.pubs) (I m.met) (· = [bb (markOk m)]) := by
  unfold S_cast_mark
  simp (disch := first | omega | assumption | exact ⟨by first | assumption | omega, by first | assumption | omega⟩ | (simp only [List.length_cons, List.length_nil]; omega)) only [↓S0, ITE_R, ITE_eq, ite_c, ite_bb, ite_I, ite_L, ite_L0, ite_0L, ite_self, SUB_r1, SUB_r2, SUB_r3, S1, eq_self, if_true, if_false, true_implies, false_implies, implies_true, ↓c_cast_in]
  simp [markOk, Bool.and_assoc]
theorem w_cast_taken (c : Config) (x : Mark2) (hp : cfgOk c = true) : S_cast_taken ρ (I c.nodes) (I c.topics) (I c.kids) (I c.depth) (I c.keep) (I c.window) (I c.queue) (I x.node) (I x.inc) (I x.count) (I x.topic) (I x.value) (· = [bb (takenOk c x)]) := by
  unfold S_cast_taken
  have hb := cfg_bd hp
  simp (disch := first | omega | assumption | exact ⟨by first | assumption | omega, by first | assumption | omega⟩ | (simp only [List.length_cons, List.length_nil]; omega)) only [↓S0, ITE_R, ITE_eq, ite_c, ite_bb, ite_I, ite_L, ite_L0, ite_0L, ite_self, SUB_r1, SUB_r2, SUB_r3, S1, eq_self, if_true, if_false, true_implies, false_implies, implies_true, ↓c_cast_in, ↓c_msg_Counted, ↓c_msg_Value]
  simp [takenOk, Bool.and_assoc]
theorem callsGo_cons {c : Config} {asks p : Int} {x : Call} {r : List Call} : callsGo c asks p (x :: r) = (decide (p < x.count) && decide (x.count ≤ asks) && rng x.topic 0 (c.topics - 1) && rng x.age 0 20 && callsGo c asks x.count r) := rfl
theorem w_cast_calls (c : Config) (n : Node) (hp : cfgOk c = true) (hg : Goods [I c.nodes, I c.topics, I c.kids, I c.depth, I c.keep, I c.window, I c.queue, bb n.up, I n.inc, L n.peers, L n.topics, L n.calls, I n.pubs, I n.asks, L n.marks, L n.taken]) : S_cast_calls ρ (I c.nodes) (I c.topics) (I c.kids) (I c.depth) (I c.keep) (I c.window) (I c.queue) (bb n.up) (I n.inc) (L n.peers) (L n.topics) (L n.calls) (I n.pubs) (I n.asks) (L n.marks) (L n.taken) (· = [bb (callsGo c n.asks 0 n.calls && decide (n.calls.length ≤ 40))]) := by
  unfold S_cast_calls
  have hb := cfg_bd hp
  simp only [Goods, good_I, good_L] at hg
  simp (disch := first | omega | assumption | exact ⟨by first | assumption | omega, by first | assumption | omega⟩ | (simp only [List.length_cons, List.length_nil]; omega)) only [↓S0, ↓ITE_bool, S1, eq_self, if_true, if_false, true_implies, false_implies, implies_true, ↓c_cast_in]
  refine LOOP.rule (α := Nat × Int) (fun a => [I a.2, I a.1]) (fun a => a.1 ≤ n.calls.length ∧ callsGo c n.asks a.2 (n.calls.drop a.1) = callsGo c n.asks 0 n.calls) (fun a => n.calls.length - a.1) (0, 0) rfl ⟨by simp, by simp⟩ (fun _ => rfl) ?_
  rintro ⟨i, p⟩ ⟨hl, hs⟩
  simp only [app] at *
  simp (disch := first | omega | assumption | exact ⟨by first | assumption | omega, by first | assumption | omega⟩ | (simp only [List.length_cons, List.length_nil]; omega)) only [↓S0, ↓ITE_bool, S1, eq_self, if_true, if_false, true_implies, false_implies, implies_true, ↓c_cast_in]
  refine ⟨fun h => ?_, fun h => ?_⟩
  · obtain ⟨x, hx⟩ := get_ex h
    rw [drop_eq hx, callsGo_cons] at hs
    simp (disch := first | omega | assumption | exact ⟨by first | assumption | omega, by first | assumption | omega⟩ | (simp only [List.length_cons, List.length_nil]; omega)) only [↓S0, ↓ITE_bool, S1, eq_self, if_true, if_false, true_implies, false_implies, implies_true, ↓c_cast_in, cell_L hx]
    refine ⟨fun h1 => ?_, fun h1 => ⟨fun h2 => ?_, fun h2 => ⟨fun h3 => ?_, fun h3 => ⟨fun h4 => ?_, fun h4 => ⟨(i + 1, x.count), by simp, ⟨by omega, ?_⟩, by simp; omega⟩⟩⟩⟩⟩
    · rw [← hs]; simp [show ¬ p < x.count by omega]
    · rw [← hs]; simp [show ¬ x.count ≤ n.asks by omega]
    · rw [← hs, h3]; simp
    · rw [← hs, h4]; simp
    · rw [← hs, h3, h4]; simp [show p < x.count by omega, show x.count ≤ n.asks by omega]
  · rw [drop_nil h] at hs
    rw [← hs]
    simp [callsGo]; omega
end Go.Xt
end
section
set_option linter.unusedSimpArgs false
set_option linter.unusedVariables false
set_option maxRecDepth 100000
namespace Go.Xt
theorem topicsGo_cons {c : Config} {self t : Int} {x : Topic} {r : List Topic} : topicsGo c self t (x :: r) = (topicOk c t self x && topicsGo c self (t + 1) r) := rfl
theorem place_of {c : Config} {t self : Int} (h0 : 0 ≤ t) (h1 : t < c.topics) (hs : rng self 0 (c.nodes - 1) = true) : place c t self = true := by
  simp only [place, hs, Bool.and_true]; simp [rng]; omega
theorem w_cast_right (c : Config) (self : Int) (n : Node) (hp : cfgOk c = true ∧ rng self 0 (c.nodes - 1) = true) (hg : Goods [I c.nodes, I c.topics, I c.kids, I c.depth, I c.keep, I c.window, I c.queue, I self, bb n.up, I n.inc, L n.peers, L n.topics, L n.calls, I n.pubs, I n.asks, L n.marks, L n.taken]) : S_cast_right ρ (I c.nodes) (I c.topics) (I c.kids) (I c.depth) (I c.keep) (I c.window) (I c.queue) (I self) (bb n.up) (I n.inc) (L n.peers) (L n.topics) (L n.calls) (I n.pubs) (I n.asks) (L n.marks) (L n.taken) (· = [bb (nodeOk c self n)]) := by
  unfold S_cast_right
  generalize hE : nodeOk c self n = q
  obtain ⟨hc, hself⟩ := hp
  have hb := cfg_bd hc
  simp only [Goods, good_I, good_L] at hg
  unfold nodeOk at hE
  refine SUB.v1 (bb (!(cnt n.inc && rng n.pubs 0 1073741824 && rng n.asks 0 40 && (callsGo c n.asks 0 n.calls && decide (n.calls.length ≤ 40))))) ?_ ?_
  · simp (disch := first | omega | assumption | exact ⟨by first | assumption | omega, by first | assumption | omega⟩ | (simp only [List.length_cons, List.length_nil]; omega)) only [↓S0, ITE_R, ITE_eq, ite_c, ite_bb, ite_I, ite_L, ite_L0, ite_0L, ite_self, SUB_r1, SUB_r2, SUB_r3, S1, eq_self, if_true, if_false, true_implies, false_implies, implies_true, ↓c_cast_in, ↓c_msg_Counted, ↓c_cast_calls, ↓c_graft_Check, ↓c_cast_mark, ↓c_view_Check, ↓c_cast_taken]
    simp [Bool.and_assoc]
  cases hA : (cnt n.inc && rng n.pubs 0 1073741824 && rng n.asks 0 40 && (callsGo c n.asks 0 n.calls && decide (n.calls.length ≤ 40)))
  · simp (disch := first | omega | assumption | exact ⟨by first | assumption | omega, by first | assumption | omega⟩ | (simp only [List.length_cons, List.length_nil]; omega)) only [↓S0, ↓ITE_bool, S1, eq_self, if_true, if_false, true_implies, false_implies, implies_true, ↓c_cast_in, ↓c_msg_Counted, ↓c_cast_calls, ↓c_graft_Check, ↓c_cast_mark, ↓c_view_Check, ↓c_cast_taken]
    rw [← hE]
    simp only [← Bool.and_assoc] at hA
    rw [hA]; simp
  simp only [← Bool.and_assoc] at hA
  rw [hA] at hE
  rw [Bool.not_true, ITE_false]
  refine SUB.v1 (bb (!(decide ((n.peers.length : Int) = c.nodes) && decide ((n.topics.length : Int) = c.topics) && decide ((n.marks.length : Int) = c.nodes) && decide (n.taken.length ≤ 64)))) ?_ ?_
  · simp (disch := first | omega | assumption | exact ⟨by first | assumption | omega, by first | assumption | omega⟩ | (simp only [List.length_cons, List.length_nil]; omega)) only [↓S0, ITE_R, ITE_eq, ite_c, ite_bb, ite_I, ite_L, ite_L0, ite_0L, ite_self, SUB_r1, SUB_r2, SUB_r3, S1, eq_self, if_true, if_false, true_implies, false_implies, implies_true, ↓c_cast_in, ↓c_msg_Counted, ↓c_cast_calls, ↓c_graft_Check, ↓c_cast_mark, ↓c_view_Check, ↓c_cast_taken]
    by_cases h1 : (n.peers.length : Int) = c.nodes <;> by_cases h2 : (n.topics.length : Int) = c.topics <;> by_cases h3 : (n.marks.length : Int) = c.nodes <;> by_cases h4 : n.taken.length ≤ 64 <;> simp [h1, h2, h3, h4] <;> omega
  cases hB : (decide ((n.peers.length : Int) = c.nodes) && decide ((n.topics.length : Int) = c.topics) && decide ((n.marks.length : Int) = c.nodes) && decide (n.taken.length ≤ 64))
  · simp (disch := first | omega | assumption | exact ⟨by first | assumption | omega, by first | assumption | omega⟩ | (simp only [List.length_cons, List.length_nil]; omega)) only [↓S0, ↓ITE_bool, S1, eq_self, if_true, if_false, true_implies, false_implies, implies_true, ↓c_cast_in, ↓c_msg_Counted, ↓c_cast_calls, ↓c_graft_Check, ↓c_cast_mark, ↓c_view_Check, ↓c_cast_taken]
    rw [← hE]
    revert hB
    by_cases h1 : (n.peers.length : Int) = c.nodes <;> by_cases h2 : (n.topics.length : Int) = c.topics <;> by_cases h3 : (n.marks.length : Int) = c.nodes <;> by_cases h4 : n.taken.length ≤ 64 <;> simp [h1, h2, h3, h4]
  simp only [Bool.and_eq_true, decide_eq_true_eq] at hB
  obtain ⟨⟨⟨B1, B2⟩, B3⟩, B4⟩ := hB
  have e1 : decide ((n.peers.length : Int) = c.nodes) = true := by simp [B1]
  have e2 : decide ((n.topics.length : Int) = c.topics) = true := by simp [B2]
  have e3 : decide ((n.marks.length : Int) = c.nodes) = true := by simp [B3]
  have e4 : decide (n.taken.length ≤ 64) = true := by simp [B4]
  rw [e1, e2, e3, e4] at hE
  simp only [Bool.true_and] at hE
  simp (disch := first | omega | assumption | exact ⟨by first | assumption | omega, by first | assumption | omega⟩ | (simp only [List.length_cons, List.length_nil]; omega)) only [↓S0, ↓ITE_bool, S1, eq_self, if_true, if_false, true_implies, false_implies, implies_true, ↓c_cast_in, ↓c_msg_Counted, ↓c_cast_calls, ↓c_graft_Check, ↓c_cast_mark, ↓c_view_Check, ↓c_cast_taken]
  refine LOOP.rule (α := Nat) (fun i => [I i]) (fun i => i ≤ n.topics.length ∧ topicsGo c self i (n.topics.drop i) = topicsGo c self 0 n.topics) (fun i => n.topics.length - i) 0 rfl ⟨by omega, by simp⟩ (fun _ => rfl) ?_
  rintro i ⟨hl, hs⟩
  simp only [app]
  simp (disch := first | omega | assumption | exact ⟨by first | assumption | omega, by first | assumption | omega⟩ | (simp only [List.length_cons, List.length_nil]; omega)) only [↓S0, ↓ITE_bool, S1, eq_self, if_true, if_false, true_implies, false_implies, implies_true, ↓c_cast_in, ↓c_msg_Counted, ↓c_cast_calls, ↓c_graft_Check, ↓c_cast_mark, ↓c_view_Check, ↓c_cast_taken]
  refine ⟨fun h => ?_, fun h => ?_⟩
  · obtain ⟨x, hx⟩ := get_ex h
    rw [drop_eq hx, topicsGo_cons] at hs
    have hpl := place_of (c := c) (t := i) (by omega) (by omega) hself
    simp (disch := first | omega | assumption | exact ⟨by first | assumption | omega, by first | assumption | omega⟩ | (simp only [List.length_cons, List.length_nil]; omega)) only [↓S0, ↓ITE_bool, S1, eq_self, if_true, if_false, true_implies, false_implies, implies_true, ↓c_cast_in, ↓c_msg_Counted, ↓c_cast_calls, ↓c_graft_Check, ↓c_cast_mark, ↓c_view_Check, ↓c_cast_taken, cell_L hx, hc, hpl]
    cases ht : topicOk c i self x
    · simp
      rw [← hE, ← hs, ht]; simp
    · simp
      exact ⟨i + 1, by simp, ⟨by omega, by rw [← hs, ht]; simp⟩, by omega⟩
  rw [drop_nil h] at hs
  have hT : topicsGo c self 0 n.topics = true := by rw [← hs]; rfl
  rw [hT] at hE
  simp only [Bool.true_and] at hE
  refine LOOP.rule (α := Nat) (fun i => [I i]) (fun i => i ≤ n.marks.length ∧ (n.marks.drop i).all (markOk) = n.marks.all (markOk)) (fun i => n.marks.length - i) 0 rfl ⟨by omega, by simp⟩ (fun _ => rfl) ?_
  rintro i ⟨hl_i, hs_i⟩
  simp only [app]
  simp (disch := first | omega | assumption | exact ⟨by first | assumption | omega, by first | assumption | omega⟩ | (simp only [List.length_cons, List.length_nil]; omega)) only [↓S0, ↓ITE_bool, S1, eq_self, if_true, if_false, true_implies, false_implies, implies_true, ↓c_cast_in, ↓c_msg_Counted, ↓c_cast_calls, ↓c_graft_Check, ↓c_cast_mark, ↓c_view_Check, ↓c_cast_taken]
  refine ⟨fun hc_i => ?_, fun hc_i => ?_⟩
  · obtain ⟨m, hm⟩ := get_ex hc_i
    rw [drop_eq hm, List.all_cons] at hs_i
    simp (disch := first | omega | assumption | exact ⟨by first | assumption | omega, by first | assumption | omega⟩ | (simp only [List.length_cons, List.length_nil]; omega)) only [↓S0, ↓ITE_bool, S1, eq_self, if_true, if_false, true_implies, false_implies, implies_true, ↓c_cast_in, ↓c_msg_Counted, ↓c_cast_calls, ↓c_graft_Check, ↓c_cast_mark, ↓c_view_Check, ↓c_cast_taken, cell_L hm]
    refine ⟨fun h3 => ?_, fun h3 => ⟨i + 1, rfl, ⟨by omega, by simpa [h3] using hs_i⟩, by omega⟩⟩
    rw [h3, Bool.false_and] at hs_i
    simp only [Int.natCast_nonneg, decide_true, Bool.not_true, ITE_false]
    simp (disch := first | omega | assumption | exact ⟨by first | assumption | omega, by first | assumption | omega⟩ | (simp only [List.length_cons, List.length_nil]; omega)) only [↓S0, ↓ITE_bool, S1, eq_self, if_true, if_false, true_implies, false_implies, implies_true, ↓c_cast_in, ↓c_msg_Counted, ↓c_cast_calls, ↓c_graft_Check, ↓c_cast_mark, ↓c_view_Check, ↓c_cast_taken]
    rw [← hE, ← hs_i]
    simp
  rw [drop_nil hc_i] at hs_i
  have hM : n.marks.all markOk = true := by rw [← hs_i]; rfl
  rw [hM] at hE
  refine ⟨fun h5 => ?_, fun h5 => ?_⟩
  · cases hp5 : peersOk n.peers
    · rw [hp5] at h5; simp at h5
    rw [hp5] at hE
    simp only [Bool.true_and] at hE
    clear hs_i
    simp only [show ¬ (0 : Int) ≤ -1 by decide, not_false_eq_true, true_implies, false_implies, and_true]
    refine LOOP.rule (α := Nat) (fun i => [I i]) (fun i => i ≤ n.taken.length ∧ (n.taken.drop i).all (takenOk c) = n.taken.all (takenOk c)) (fun i => n.taken.length - i) 0 rfl ⟨by omega, by simp⟩ (fun _ => rfl) ?_
    rintro i ⟨hl_i, hs_i⟩
    simp only [app]
    simp (disch := first | omega | assumption | exact ⟨by first | assumption | omega, by first | assumption | omega⟩ | (simp only [List.length_cons, List.length_nil]; omega)) only [↓S0, ↓ITE_bool, S1, eq_self, if_true, if_false, true_implies, false_implies, implies_true, ↓c_cast_in, ↓c_msg_Counted, ↓c_cast_calls, ↓c_graft_Check, ↓c_cast_mark, ↓c_view_Check, ↓c_cast_taken]
    refine ⟨fun hc_i => ?_, fun hc_i => ?_⟩
    · obtain ⟨m, hm⟩ := get_ex hc_i
      rw [drop_eq hm, List.all_cons] at hs_i
      simp (disch := first | omega | assumption | exact ⟨by first | assumption | omega, by first | assumption | omega⟩ | (simp only [List.length_cons, List.length_nil]; omega)) only [↓S0, ↓ITE_bool, S1, eq_self, if_true, if_false, true_implies, false_implies, implies_true, ↓c_cast_in, ↓c_msg_Counted, ↓c_cast_calls, ↓c_graft_Check, ↓c_cast_mark, ↓c_view_Check, ↓c_cast_taken, cell_L hm]
      refine ⟨fun h3 => ?_, fun h3 => ⟨i + 1, rfl, ⟨by omega, by simpa [h3] using hs_i⟩, by omega⟩⟩
      rw [h3, Bool.false_and] at hs_i
      rw [← hE, ← hs_i]
      simp
    · rw [drop_nil hc_i] at hs_i
      rw [← hE, ← hs_i]; simp
  · cases hp5 : peersOk n.peers
    · rw [← hE, hp5]; simp
    · rw [hp5] at h5; simp at h5
theorem w_cast_Check (c : Config) (self : Int) (n : Node) (hg : Goods [I c.nodes, I c.topics, I c.kids, I c.depth, I c.keep, I c.window, I c.queue, I self, bb n.up, I n.inc, L n.peers, L n.topics, L n.calls, I n.pubs, I n.asks, L n.marks, L n.taken]) : S_cast_Check ρ (I c.nodes) (I c.topics) (I c.kids) (I c.depth) (I c.keep) (I c.window) (I c.queue) (I self) (bb n.up) (I n.inc) (L n.peers) (L n.topics) (L n.calls) (I n.pubs) (I n.asks) (L n.marks) (L n.taken) (· = [I (nodeWhy c self n)]) := by
  unfold S_cast_Check nodeWhy
  cases hc : cfgOk c
  · simp (disch := first | omega | assumption | exact ⟨by first | assumption | omega, by first | assumption | omega⟩ | (simp only [List.length_cons, List.length_nil]; omega)) only [↓S0, ↓ITE_bool, S1, eq_self, if_true, if_false, true_implies, false_implies, implies_true, ↓c_script_Config, ↓c_cast_in, ↓c_cast_right, hc]
    simp
  have hb := cfg_bd hc
  simp (disch := first | omega | assumption | exact ⟨by first | assumption | omega, by first | assumption | omega⟩ | (simp only [List.length_cons, List.length_nil]; omega)) only [↓S0, ↓ITE_bool, S1, eq_self, if_true, if_false, true_implies, false_implies, implies_true, ↓c_script_Config, ↓c_cast_in, ↓c_cast_right, hc]
  cases hs : rng self 0 (c.nodes - 1)
  · simp (disch := first | omega | assumption | exact ⟨by first | assumption | omega, by first | assumption | omega⟩ | (simp only [List.length_cons, List.length_nil]; omega)) only [↓S0, ↓ITE_bool, S1, eq_self, if_true, if_false, true_implies, false_implies, implies_true, ↓c_script_Config, ↓c_cast_in, ↓c_cast_right, hs]
    simp
  · simp (disch := first | omega | assumption | exact ⟨by first | assumption | omega, by first | assumption | omega⟩ | (simp only [List.length_cons, List.length_nil]; omega)) only [↓S0, ↓ITE_bool, S1, eq_self, if_true, if_false, true_implies, false_implies, implies_true, ↓c_script_Config, ↓c_cast_in, ↓c_cast_right, hs]
    cases hu : n.up
    · simp (disch := first | omega | assumption | exact ⟨by first | assumption | omega, by first | assumption | omega⟩ | (simp only [List.length_cons, List.length_nil]; omega)) only [↓S0, ↓ITE_bool, S1, eq_self, if_true, if_false, true_implies, false_implies, implies_true, ↓c_script_Config, ↓c_cast_in, ↓c_cast_right]
      simp
    · simp (disch := first | omega | assumption | exact ⟨by first | assumption | omega, by first | assumption | omega⟩ | (simp only [List.length_cons, List.length_nil]; omega)) only [↓S0, ↓ITE_bool, S1, eq_self, if_true, if_false, true_implies, false_implies, implies_true, ↓c_script_Config, ↓c_cast_in, ↓c_cast_right]
      cases nodeOk c self n <;> simp
end Go.Xt
end
section
set_option linter.unusedSimpArgs false
set_option linter.unusedVariables false
set_option maxRecDepth 100000
namespace Go.Xt
theorem w_ref19_Node (c : Config) (self : Int) (n : Node) (hp : cfgOk c = true ∧ rng self 0 (c.nodes - 1) = true) (hg : Goods [I c.nodes, I c.topics, I c.kids, I c.depth, I c.keep, I c.window, I c.queue, I self, bb n.up, I n.inc, L n.peers, L n.topics, L n.calls, I n.pubs, I n.asks, L n.marks, L n.taken]) : S_ref19_Node ρ (I c.nodes) (I c.topics) (I c.kids) (I c.depth) (I c.keep) (I c.window) (I c.queue) (I self) (bb n.up) (I n.inc) (L n.peers) (L n.topics) (L n.calls) (I n.pubs) (I n.asks) (L n.marks) (L n.taken) (· = [bb (nodeOk c self n)]) := by
  unfold S_ref19_Node
  generalize hE : nodeOk c self n = q
  obtain ⟨hc, hself⟩ := hp
  have hb := cfg_bd hc
  simp only [Goods, good_I, good_L] at hg
  unfold nodeOk at hE
  refine SUB.v1 (bb (!(cnt n.inc && decide ((n.peers.length : Int) = c.nodes) && peersOk n.peers && decide ((n.topics.length : Int) = c.topics) && decide (n.calls.length ≤ 40) && rng n.pubs 0 1073741824 && rng n.asks 0 40 && decide ((n.marks.length : Int) = c.nodes) && decide (n.taken.length ≤ 64)))) ?_ ?_
  · simp (disch := first | omega | assumption | exact ⟨by first | assumption | omega, by first | assumption | omega⟩ | (simp only [List.length_cons, List.length_nil]; omega)) only [↓S0, ITE_R, ITE_eq, ite_c, ite_bb, ite_I, ite_L, ite_L0, ite_0L, ite_self, SUB_r1, SUB_r2, SUB_r3, S1, eq_self, if_true, if_false, true_implies, false_implies, implies_true, ↓c_ref19_in, ↓c_ref10_Peers, ↓c_ref10_Topic, ↓c_ref01_Value]
    by_cases h1 : (n.peers.length : Int) = c.nodes <;> by_cases h2 : (n.topics.length : Int) = c.topics <;> by_cases h3 : (n.marks.length : Int) = c.nodes <;> by_cases h4 : n.taken.length ≤ 64 <;> by_cases h5 : n.calls.length ≤ 40 <;> cases peersOk n.peers <;> cases rng n.asks 0 40 <;> cases rng n.pubs 0 1073741824 <;> simp [h1, h2, h3, h4, h5, cnt] <;> omega
  cases hA : (cnt n.inc && decide ((n.peers.length : Int) = c.nodes) && peersOk n.peers && decide ((n.topics.length : Int) = c.topics) && decide (n.calls.length ≤ 40) && rng n.pubs 0 1073741824 && rng n.asks 0 40 && decide ((n.marks.length : Int) = c.nodes) && decide (n.taken.length ≤ 64))
  · simp (disch := first | omega | assumption | exact ⟨by first | assumption | omega, by first | assumption | omega⟩ | (simp only [List.length_cons, List.length_nil]; omega)) only [↓S0, ↓ITE_bool, S1, eq_self, if_true, if_false, true_implies, false_implies, implies_true, ↓c_ref19_in, ↓c_ref10_Peers, ↓c_ref10_Topic, ↓c_ref01_Value]
    rw [← hE]
    revert hA
    by_cases h1 : (n.peers.length : Int) = c.nodes <;> by_cases h2 : (n.topics.length : Int) = c.topics <;> by_cases h3 : (n.marks.length : Int) = c.nodes <;> by_cases h4 : n.taken.length ≤ 64 <;> by_cases h5 : n.calls.length ≤ 40 <;> cases peersOk n.peers <;> cases rng n.asks 0 40 <;> cases rng n.pubs 0 1073741824 <;> cases cnt n.inc <;> simp [h1, h2, h3, h4, h5]
  simp only [Bool.and_eq_true, decide_eq_true_eq] at hA
  obtain ⟨⟨⟨⟨⟨⟨⟨⟨A1, A2⟩, A3⟩, A4⟩, A5⟩, A6⟩, A7⟩, A8⟩, A9⟩ := hA
  have e1 : decide ((n.peers.length : Int) = c.nodes) = true := by simp [A2]
  have e2 : decide ((n.topics.length : Int) = c.topics) = true := by simp [A4]
  have e3 : decide ((n.marks.length : Int) = c.nodes) = true := by simp [A8]
  have e4 : decide (n.taken.length ≤ 64) = true := by simp [A9]
  have e5 : decide (n.calls.length ≤ 40) = true := by simp [A5]
  rw [A1, A3, A6, A7, e1, e2, e3, e4, e5] at hE
  simp only [Bool.true_and, Bool.and_true] at hE
  rw [Bool.not_true, ITE_false]
  refine LOOP.rule (α := Nat) (fun i => [I i]) (fun i => i ≤ n.topics.length ∧ topicsGo c self i (n.topics.drop i) = topicsGo c self 0 n.topics) (fun i => n.topics.length - i) 0 rfl ⟨by omega, by simp⟩ (fun _ => rfl) ?_
  rintro i ⟨hl, hs⟩
  simp only [app]
  simp (disch := first | omega | assumption | exact ⟨by first | assumption | omega, by first | assumption | omega⟩ | (simp only [List.length_cons, List.length_nil]; omega)) only [↓S0, ↓ITE_bool, S1, eq_self, if_true, if_false, true_implies, false_implies, implies_true, ↓c_ref19_in, ↓c_ref10_Peers, ↓c_ref10_Topic, ↓c_ref01_Value]
  refine ⟨fun h => ?_, fun h => ?_⟩
  · have h' : (i : Int) < n.topics.length := by omega
    obtain ⟨x, hx⟩ := get_ex h'
    rw [drop_eq hx, topicsGo_cons] at hs
    have hpl := place_of (c := c) (t := i) (by omega) (by omega) hself
    simp (disch := first | omega | assumption | exact ⟨by first | assumption | omega, by first | assumption | omega⟩ | (simp only [List.length_cons, List.length_nil]; omega)) only [↓S0, ↓ITE_bool, S1, eq_self, if_true, if_false, true_implies, false_implies, implies_true, ↓c_ref19_in, ↓c_ref10_Peers, ↓c_ref10_Topic, ↓c_ref01_Value, cell_L hx]
    refine ⟨fun ht => ?_, fun ht => ⟨i + 1, by simp, ⟨by omega, by rw [← hs, ht]; simp⟩, by omega⟩⟩
    rw [← hE, ← hs, ht]; simp
  rw [drop_nil (by omega)] at hs
  have hT : topicsGo c self 0 n.topics = true := by rw [← hs]; rfl
  rw [hT] at hE
  simp only [Bool.true_and, Bool.and_true] at hE
  refine LOOP.rule (α := Nat) (fun i => [I i]) (fun i => i ≤ n.calls.length ∧ ∃ p, (i = 0 → p = 0) ∧ (0 < i → ∃ k, n.calls[i - 1]? = some k ∧ p = k.count) ∧ 0 ≤ p ∧ callsGo c n.asks p (n.calls.drop i) = callsGo c n.asks 0 n.calls) (fun i => n.calls.length - i) 0 rfl ⟨by omega, 0, by simp⟩ (fun _ => rfl) ?_
  rintro i ⟨hl, p, hp0, hp1, hp2, hs⟩
  simp only [app]
  simp (disch := first | omega | assumption | exact ⟨by first | assumption | omega, by first | assumption | omega⟩ | (simp only [List.length_cons, List.length_nil]; omega)) only [↓S0, ↓ITE_bool, S1, eq_self, if_true, if_false, true_implies, false_implies, implies_true, ↓c_ref19_in, ↓c_ref10_Peers, ↓c_ref10_Topic, ↓c_ref01_Value]
  refine ⟨fun h => ?_, fun h => ?_⟩
  · obtain ⟨x, hx⟩ := get_ex h
    rw [drop_eq hx, callsGo_cons] at hs
    simp (disch := first | omega | assumption | exact ⟨by first | assumption | omega, by first | assumption | omega⟩ | (simp only [List.length_cons, List.length_nil]; omega)) only [↓S0, ↓ITE_bool, S1, eq_self, if_true, if_false, true_implies, false_implies, implies_true, ↓c_ref19_in, ↓c_ref10_Peers, ↓c_ref10_Topic, ↓c_ref01_Value, cell_L hx]
    refine ⟨fun h1 => ?_, fun h1 => ⟨fun h2 => ?_, fun h2 => ?_⟩⟩
    · rw [← hE, ← hs]
      have : (decide (p < x.count) && decide (x.count ≤ n.asks)) = false := by
        rw [Bool.eq_false_iff] at h1 ⊢
        simp only [rng, Bool.and_eq_true, decide_eq_true_eq, ne_eq] at h1 ⊢
        omega
      rw [this]; simp
    · have h1 := rng_bd h1
      obtain ⟨k, hk, rfl⟩ := hp1 (by omega)
      have e1 : ((i : Int) - 1) = ((i - 1 : Nat) : Int) := by omega
      simp (disch := first | omega | assumption | exact ⟨by first | assumption | omega, by first | assumption | omega⟩ | (simp only [List.length_cons, List.length_nil]; omega)) only [↓S0, ↓ITE_bool, S1, eq_self, if_true, if_false, true_implies, false_implies, implies_true, ↓c_ref19_in, ↓c_ref10_Peers, ↓c_ref10_Topic, ↓c_ref01_Value, e1, cell_L hk]
      refine ⟨fun h8 => ?_, fun h8 => ⟨fun h9 => ?_, fun h9 => ⟨fun h10 => ?_, fun h10 => ⟨i + 1, by simp, ⟨by omega, x.count, by simp, fun _ => ⟨x, by simpa using hx, rfl⟩, by omega, ?_⟩, by omega⟩⟩⟩⟩
      · rw [← hE, ← hs]; simp [show ¬ k.count < x.count by omega]
      · rw [← hE, ← hs, h9]; simp
      · rw [← hE, ← hs, h10]; simp
      · rw [← hs, h9, h10]; simp [show k.count < x.count by omega, h1]
    · have h1 := rng_bd h1
      have h0 : i = 0 := by omega
      rw [hp0 h0] at hs
      refine ⟨fun h9 => ?_, fun h9 => ⟨fun h10 => ?_, fun h10 => ⟨i + 1, by simp, ⟨by omega, x.count, by simp, fun _ => ⟨x, by simpa using hx, rfl⟩, by omega, ?_⟩, by omega⟩⟩⟩
      · rw [← hE, ← hs, h9]; simp
      · rw [← hE, ← hs, h10]; simp
      · rw [← hs, h9, h10]; simp [show 0 < x.count by omega, h1]
  rw [drop_nil h] at hs
  have hC : callsGo c n.asks 0 n.calls = true := by rw [← hs]; rfl
  rw [hC] at hE
  simp only [Bool.true_and, Bool.and_true] at hE
  refine LOOP.rule (α := Nat) (fun i => [I i]) (fun i => i ≤ n.marks.length ∧ (n.marks.drop i).all (markOk) = n.marks.all (markOk)) (fun i => n.marks.length - i) 0 rfl ⟨by omega, by simp⟩ (fun _ => rfl) ?_
  rintro i ⟨hl_i, hs_i⟩
  simp only [app]
  simp (disch := first | omega | assumption | exact ⟨by first | assumption | omega, by first | assumption | omega⟩ | (simp only [List.length_cons, List.length_nil]; omega)) only [↓S0, ↓ITE_bool, S1, eq_self, if_true, if_false, true_implies, false_implies, implies_true, ↓c_ref19_in, ↓c_ref10_Peers, ↓c_ref10_Topic, ↓c_ref01_Value]
  refine ⟨fun hc_i => ?_, fun hc_i => ?_⟩
  · obtain ⟨m, hm⟩ := get_ex hc_i
    rw [drop_eq hm, List.all_cons] at hs_i
    simp (disch := first | omega | assumption | exact ⟨by first | assumption | omega, by first | assumption | omega⟩ | (simp only [List.length_cons, List.length_nil]; omega)) only [↓S0, ↓ITE_bool, S1, eq_self, if_true, if_false, true_implies, false_implies, implies_true, ↓c_ref19_in, ↓c_ref10_Peers, ↓c_ref10_Topic, ↓c_ref01_Value, cell_L hm]
    have hm : markOk m = (rng m.inc 0 1073741824 && rng m.pubs 0 1073741824 && rng m.met 0 2199023255551) := rfl
    refine ⟨fun h1 => ?_, fun h1 => ⟨fun h2 => ?_, fun h2 => ⟨fun h3 => ?_, fun h3 => ⟨i + 1, rfl, ⟨by omega, by rw [← hs_i, hm, h1, h2, h3]; simp⟩, by omega⟩⟩⟩⟩
    · rw [← hE, ← hs_i, hm, h1]; simp
    · rw [← hE, ← hs_i, hm, h2]; simp
    · rw [← hE, ← hs_i, hm, h3]; simp
  rw [drop_nil hc_i] at hs_i
  have hM : n.marks.all markOk = true := by rw [← hs_i]; rfl
  rw [hM] at hE
  simp only [Bool.true_and, Bool.and_true] at hE
  clear hs_i
  refine LOOP.rule (α := Nat) (fun i => [I i]) (fun i => i ≤ n.taken.length ∧ (n.taken.drop i).all (takenOk c) = n.taken.all (takenOk c)) (fun i => n.taken.length - i) 0 rfl ⟨by omega, by simp⟩ (fun _ => rfl) ?_
  rintro i ⟨hl_i, hs_i⟩
  simp only [app]
  simp (disch := first | omega | assumption | exact ⟨by first | assumption | omega, by first | assumption | omega⟩ | (simp only [List.length_cons, List.length_nil]; omega)) only [↓S0, ↓ITE_bool, S1, eq_self, if_true, if_false, true_implies, false_implies, implies_true, ↓c_ref19_in, ↓c_ref10_Peers, ↓c_ref10_Topic, ↓c_ref01_Value]
  refine ⟨fun hc_i => ?_, fun hc_i => ?_⟩
  · obtain ⟨m, hm⟩ := get_ex hc_i
    rw [drop_eq hm, List.all_cons] at hs_i
    simp (disch := first | omega | assumption | exact ⟨by first | assumption | omega, by first | assumption | omega⟩ | (simp only [List.length_cons, List.length_nil]; omega)) only [↓S0, ↓ITE_bool, S1, eq_self, if_true, if_false, true_implies, false_implies, implies_true, ↓c_ref19_in, ↓c_ref10_Peers, ↓c_ref10_Topic, ↓c_ref01_Value, cell_L hm]
    have hm : takenOk c m = (rng m.node 0 (c.nodes - 1) && rng m.topic 0 (c.topics - 1) && cnt m.inc && cnt m.count && val m.value) := rfl
    refine ⟨fun h1 => ?_, fun h1 => ⟨fun h2 => ?_, fun h2 => ⟨fun h3 => ?_, fun h3 => ⟨fun h4 => ?_, fun h4 => ⟨fun h5 => ?_, fun h5 => ⟨i + 1, rfl, ⟨by omega, by rw [← hs_i, hm, h1, h4, h5]; simp [cnt, h2, h3]⟩, by omega⟩⟩⟩⟩⟩⟩
    · rw [← hE, ← hs_i, hm, h1]; simp
    · rw [← hE, ← hs_i, hm]; simp [cnt, h2]
    · rw [← hE, ← hs_i, hm]; simp [cnt, h3]
    · rw [← hE, ← hs_i, hm, h4]; simp
    · rw [← hE, ← hs_i, hm, h5]; simp
  · rw [drop_nil hc_i] at hs_i
    rw [← hE, ← hs_i]; simp
end Go.Xt
end
section
set_option linter.unusedSimpArgs false
set_option linter.unusedVariables false
set_option maxRecDepth 100000
namespace Go.Xt
theorem len_ne {α : Type} {a b : List α} (h : ¬ (a.length : Int) = b.length) : ¬ a = b := by rintro rfl; exact h rfl
theorem w_bkeep_Peers (a : List Peer) (b : List Peer) (hg : Goods [L a, L b]) : S_bkeep_Peers ρ (L a) (L b) (· = [bb (decide (a = b))]) := by
  unfold S_bkeep_Peers
  simp only [Goods, good_L] at hg
  simp (disch := first | omega | assumption | exact ⟨by first | assumption | omega, by first | assumption | omega⟩ | (simp only [List.length_cons, List.length_nil]; omega)) only [↓S0, ↓ITE_bool, S1, eq_self, if_true, if_false, true_implies, false_implies, implies_true]
  refine ⟨fun h => by simp [len_ne h], fun h => ?_⟩
  have hl : a.length = b.length := by omega
  refine LOOP.rule (α := Nat) (fun i => [I i]) (fun i => i ≤ a.length ∧ ((a = b) = (a.drop i = b.drop i))) (fun i => a.length - i) 0 rfl ⟨by omega, by simp⟩ (fun _ => rfl) ?_
  rintro i ⟨hl_i, hs_i⟩
  simp only [app]
  simp (disch := first | omega | assumption | exact ⟨by first | assumption | omega, by first | assumption | omega⟩ | (simp only [List.length_cons, List.length_nil]; omega)) only [↓S0, ↓ITE_bool, S1, eq_self, if_true, if_false, true_implies, false_implies, implies_true]
  refine ⟨fun hc_i => ?_, fun hc_i => ?_⟩
  · obtain ⟨x, hx⟩ := get_ex hc_i
    obtain ⟨y, hy⟩ := get_ex (xs := b) (i := i) (by omega)
    rw [drop_eq hx, drop_eq hy, List.cons.injEq] at hs_i
    simp (disch := first | omega | assumption | exact ⟨by first | assumption | omega, by first | assumption | omega⟩ | (simp only [List.length_cons, List.length_nil]; omega)) only [↓S0, ↓ITE_bool, S1, eq_self, if_true, if_false, true_implies, false_implies, implies_true, cell_L hx, cell_L hy, Peer.deq]
    refine ⟨fun h3 => ?_, fun h3 => ⟨i + 1, rfl, ⟨by omega, by simpa [h3] using hs_i⟩, by omega⟩⟩
    have hn : ¬ a = b := fun e => h3 (hs_i.mp e).1
    simp [hn]
  · rw [drop_nil hc_i, drop_nil (by omega)] at hs_i
    simp [hs_i]
theorem w_bkeep_Kids (a : List Kid) (b : List Kid) (hg : Goods [L a, L b]) : S_bkeep_Kids ρ (L a) (L b) (· = [bb (decide (a = b))]) := by
  unfold S_bkeep_Kids
  simp only [Goods, good_L] at hg
  simp (disch := first | omega | assumption | exact ⟨by first | assumption | omega, by first | assumption | omega⟩ | (simp only [List.length_cons, List.length_nil]; omega)) only [↓S0, ↓ITE_bool, S1, eq_self, if_true, if_false, true_implies, false_implies, implies_true]
  refine ⟨fun h => by simp [len_ne h], fun h => ?_⟩
  have hl : a.length = b.length := by omega
  refine LOOP.rule (α := Nat) (fun i => [I i]) (fun i => i ≤ a.length ∧ ((a = b) = (a.drop i = b.drop i))) (fun i => a.length - i) 0 rfl ⟨by omega, by simp⟩ (fun _ => rfl) ?_
  rintro i ⟨hl_i, hs_i⟩
  simp only [app]
  simp (disch := first | omega | assumption | exact ⟨by first | assumption | omega, by first | assumption | omega⟩ | (simp only [List.length_cons, List.length_nil]; omega)) only [↓S0, ↓ITE_bool, S1, eq_self, if_true, if_false, true_implies, false_implies, implies_true]
  refine ⟨fun hc_i => ?_, fun hc_i => ?_⟩
  · obtain ⟨x, hx⟩ := get_ex hc_i
    obtain ⟨y, hy⟩ := get_ex (xs := b) (i := i) (by omega)
    rw [drop_eq hx, drop_eq hy, List.cons.injEq] at hs_i
    simp (disch := first | omega | assumption | exact ⟨by first | assumption | omega, by first | assumption | omega⟩ | (simp only [List.length_cons, List.length_nil]; omega)) only [↓S0, ↓ITE_bool, S1, eq_self, if_true, if_false, true_implies, false_implies, implies_true, cell_L hx, cell_L hy, Kid.deq]
    refine ⟨fun h3 => ?_, fun h3 => ⟨i + 1, rfl, ⟨by omega, by simpa [h3] using hs_i⟩, by omega⟩⟩
    have hn : ¬ a = b := fun e => h3 (hs_i.mp e).1
    simp [hn]
  · rw [drop_nil hc_i, drop_nil (by omega)] at hs_i
    simp [hs_i]
theorem w_bkeep_Items (a : List Item) (b : List Item) (hg : Goods [L a, L b]) : S_bkeep_Items ρ (L a) (L b) (· = [bb (decide (a = b))]) := by
  unfold S_bkeep_Items
  simp only [Goods, good_L] at hg
  simp (disch := first | omega | assumption | exact ⟨by first | assumption | omega, by first | assumption | omega⟩ | (simp only [List.length_cons, List.length_nil]; omega)) only [↓S0, ↓ITE_bool, S1, eq_self, if_true, if_false, true_implies, false_implies, implies_true]
  refine ⟨fun h => by simp [len_ne h], fun h => ?_⟩
  have hl : a.length = b.length := by omega
  refine LOOP.rule (α := Nat) (fun i => [I i]) (fun i => i ≤ a.length ∧ ((a = b) = (a.drop i = b.drop i))) (fun i => a.length - i) 0 rfl ⟨by omega, by simp⟩ (fun _ => rfl) ?_
  rintro i ⟨hl_i, hs_i⟩
  simp only [app]
  simp (disch := first | omega | assumption | exact ⟨by first | assumption | omega, by first | assumption | omega⟩ | (simp only [List.length_cons, List.length_nil]; omega)) only [↓S0, ↓ITE_bool, S1, eq_self, if_true, if_false, true_implies, false_implies, implies_true]
  refine ⟨fun hc_i => ?_, fun hc_i => ?_⟩
  · obtain ⟨x, hx⟩ := get_ex hc_i
    obtain ⟨y, hy⟩ := get_ex (xs := b) (i := i) (by omega)
    rw [drop_eq hx, drop_eq hy, List.cons.injEq] at hs_i
    simp (disch := first | omega | assumption | exact ⟨by first | assumption | omega, by first | assumption | omega⟩ | (simp only [List.length_cons, List.length_nil]; omega)) only [↓S0, ↓ITE_bool, S1, eq_self, if_true, if_false, true_implies, false_implies, implies_true, cell_L hx, cell_L hy, Item.deq]
    refine ⟨fun h3 => ?_, fun h3 => ⟨i + 1, rfl, ⟨by omega, by simpa [h3] using hs_i⟩, by omega⟩⟩
    have hn : ¬ a = b := fun e => h3 (hs_i.mp e).1
    simp [hn]
  · rw [drop_nil hc_i, drop_nil (by omega)] at hs_i
    simp [hs_i]
theorem w_bkeep_Events (a : List Event) (b : List Event) (hg : Goods [L a, L b]) : S_bkeep_Events ρ (L a) (L b) (· = [bb (decide (a = b))]) := by
  unfold S_bkeep_Events
  simp only [Goods, good_L] at hg
  simp (disch := first | omega | assumption | exact ⟨by first | assumption | omega, by first | assumption | omega⟩ | (simp only [List.length_cons, List.length_nil]; omega)) only [↓S0, ↓ITE_bool, S1, eq_self, if_true, if_false, true_implies, false_implies, implies_true]
  refine ⟨fun h => by simp [len_ne h], fun h => ?_⟩
  have hl : a.length = b.length := by omega
  refine LOOP.rule (α := Nat) (fun i => [I i]) (fun i => i ≤ a.length ∧ ((a = b) = (a.drop i = b.drop i))) (fun i => a.length - i) 0 rfl ⟨by omega, by simp⟩ (fun _ => rfl) ?_
  rintro i ⟨hl_i, hs_i⟩
  simp only [app]
  simp (disch := first | omega | assumption | exact ⟨by first | assumption | omega, by first | assumption | omega⟩ | (simp only [List.length_cons, List.length_nil]; omega)) only [↓S0, ↓ITE_bool, S1, eq_self, if_true, if_false, true_implies, false_implies, implies_true]
  refine ⟨fun hc_i => ?_, fun hc_i => ?_⟩
  · obtain ⟨x, hx⟩ := get_ex hc_i
    obtain ⟨y, hy⟩ := get_ex (xs := b) (i := i) (by omega)
    rw [drop_eq hx, drop_eq hy, List.cons.injEq] at hs_i
    simp (disch := first | omega | assumption | exact ⟨by first | assumption | omega, by first | assumption | omega⟩ | (simp only [List.length_cons, List.length_nil]; omega)) only [↓S0, ↓ITE_bool, S1, eq_self, if_true, if_false, true_implies, false_implies, implies_true, cell_L hx, cell_L hy, Event.deq]
    refine ⟨fun h3 => ?_, fun h3 => ⟨i + 1, rfl, ⟨by omega, by simpa [h3] using hs_i⟩, by omega⟩⟩
    have hn : ¬ a = b := fun e => h3 (hs_i.mp e).1
    simp [hn]
  · rw [drop_nil hc_i, drop_nil (by omega)] at hs_i
    simp [hs_i]
theorem w_bkeep_Bytes (a : List By) (b : List By) (hg : Goods [L a, L b]) : S_bkeep_Bytes ρ (L a) (L b) (· = [bb (decide (a = b))]) := by
  unfold S_bkeep_Bytes
  simp only [Goods, good_L] at hg
  simp (disch := first | omega | assumption | exact ⟨by first | assumption | omega, by first | assumption | omega⟩ | (simp only [List.length_cons, List.length_nil]; omega)) only [↓S0, ↓ITE_bool, S1, eq_self, if_true, if_false, true_implies, false_implies, implies_true]
  refine ⟨fun h => by simp [len_ne h], fun h => ?_⟩
  have hl : a.length = b.length := by omega
  refine LOOP.rule (α := Nat) (fun i => [I i]) (fun i => i ≤ a.length ∧ ((a = b) = (a.drop i = b.drop i))) (fun i => a.length - i) 0 rfl ⟨by omega, by simp⟩ (fun _ => rfl) ?_
  rintro i ⟨hl_i, hs_i⟩
  simp only [app]
  simp (disch := first | omega | assumption | exact ⟨by first | assumption | omega, by first | assumption | omega⟩ | (simp only [List.length_cons, List.length_nil]; omega)) only [↓S0, ↓ITE_bool, S1, eq_self, if_true, if_false, true_implies, false_implies, implies_true]
  refine ⟨fun hc_i => ?_, fun hc_i => ?_⟩
  · obtain ⟨x, hx⟩ := get_ex hc_i
    obtain ⟨y, hy⟩ := get_ex (xs := b) (i := i) (by omega)
    rw [drop_eq hx, drop_eq hy, List.cons.injEq] at hs_i
    simp (disch := first | omega | assumption | exact ⟨by first | assumption | omega, by first | assumption | omega⟩ | (simp only [List.length_cons, List.length_nil]; omega)) only [↓S0, ↓ITE_bool, S1, eq_self, if_true, if_false, true_implies, false_implies, implies_true, cell_L hx, cell_L hy, By.deq]
    refine ⟨fun h3 => ?_, fun h3 => ⟨i + 1, rfl, ⟨by omega, by simpa [h3] using hs_i⟩, by omega⟩⟩
    have hn : ¬ a = b := fun e => h3 (hs_i.mp e).1
    simp [hn]
  · rw [drop_nil hc_i, drop_nil (by omega)] at hs_i
    simp [hs_i]
theorem w_bkeep_Frame (a : Frame) (b : Frame) (hg : Goods [I a.to, L a.bytes, I b.to, L b.bytes]) : S_bkeep_Frame ρ (I a.to) (L a.bytes) (I b.to) (L b.bytes) (· = [bb (decide (a = b))]) := by
  unfold S_bkeep_Frame
  generalize hE : decide (a = b) = q
  simp (disch := first | omega | assumption | exact ⟨by first | assumption | omega, by first | assumption | omega⟩ | (simp only [List.length_cons, List.length_nil]; omega)) only [↓S0, ITE_R, ITE_eq, ite_c, ite_bb, ite_I, ite_L, ite_L0, ite_0L, ite_self, SUB_r1, SUB_r2, SUB_r3, S1, eq_self, if_true, if_false, true_implies, false_implies, implies_true, ↓c_bkeep_Bytes]
  rw [← hE]
  by_cases h : a.to = b.to <;> simp [h, Frame.eq_iff]
theorem w_bkeep_Frames (a : List Frame) (b : List Frame) (hg : Goods [L a, L b]) : S_bkeep_Frames ρ (L a) (L b) (· = [bb (decide (a = b))]) := by
  unfold S_bkeep_Frames
  simp only [Goods, good_L] at hg
  simp (disch := first | omega | assumption | exact ⟨by first | assumption | omega, by first | assumption | omega⟩ | (simp only [List.length_cons, List.length_nil]; omega)) only [↓S0, ↓ITE_bool, S1, eq_self, if_true, if_false, true_implies, false_implies, implies_true, ↓c_bkeep_Frame]
  refine ⟨fun h => by simp [len_ne h], fun h => ?_⟩
  have hl : a.length = b.length := by omega
  refine LOOP.rule (α := Nat) (fun i => [I i]) (fun i => i ≤ a.length ∧ ((a = b) = (a.drop i = b.drop i))) (fun i => a.length - i) 0 rfl ⟨by omega, by simp⟩ (fun _ => rfl) ?_
  rintro i ⟨hl_i, hs_i⟩
  simp only [app]
  simp (disch := first | omega | assumption | exact ⟨by first | assumption | omega, by first | assumption | omega⟩ | (simp only [List.length_cons, List.length_nil]; omega)) only [↓S0, ↓ITE_bool, S1, eq_self, if_true, if_false, true_implies, false_implies, implies_true, ↓c_bkeep_Frame]
  refine ⟨fun hc_i => ?_, fun hc_i => ?_⟩
  · obtain ⟨x, hx⟩ := get_ex hc_i
    obtain ⟨y, hy⟩ := get_ex (xs := b) (i := i) (by omega)
    rw [drop_eq hx, drop_eq hy, List.cons.injEq] at hs_i
    simp (disch := first | omega | assumption | exact ⟨by first | assumption | omega, by first | assumption | omega⟩ | (simp only [List.length_cons, List.length_nil]; omega)) only [↓S0, ↓ITE_bool, S1, eq_self, if_true, if_false, true_implies, false_implies, implies_true, ↓c_bkeep_Frame, cell_L hx, cell_L hy]
    refine ⟨fun h3 => ?_, fun h3 => ⟨i + 1, rfl, ⟨by omega, by simpa [h3] using hs_i⟩, by omega⟩⟩
    have hn : ¬ a = b := fun e => h3 (hs_i.mp e).1
    simp [hn]
  · rw [drop_nil hc_i, drop_nil (by omega)] at hs_i
    simp [hs_i]
theorem w_bkeep_Stream (a : Stream) (b : Stream) (hg : Goods [I a.epoch, I a.want, I a.known, L a.kept, L a.ahead, I b.epoch, I b.want, I b.known, L b.kept, L b.ahead]) : S_bkeep_Stream ρ (I a.epoch) (I a.want) (I a.known) (L a.kept) (L a.ahead) (I b.epoch) (I b.want) (I b.known) (L b.kept) (L b.ahead) (· = [bb (decide (a = b))]) := by
  unfold S_bkeep_Stream
  simp (disch := first | omega | assumption | exact ⟨by first | assumption | omega, by first | assumption | omega⟩ | (simp only [List.length_cons, List.length_nil]; omega)) only [↓S0, ITE_R, ITE_eq, ite_c, ite_bb, ite_I, ite_L, ite_L0, ite_0L, ite_self, SUB_r1, SUB_r2, SUB_r3, S1, eq_self, if_true, if_false, true_implies, false_implies, implies_true, ↓c_bkeep_Items]
  simp [Stream.eq_iff, Bool.decide_and]
theorem w_bkeep_Topic (a : Topic) (b : Topic) (hg : Goods [bb a.made, bb a.sub, I a.top, I a.root, I a.parent, I a.asked, I a.other, I a.age, L a.path, L a.kids, I a.stream.epoch, I a.stream.want, I a.stream.known, L a.stream.kept, L a.stream.ahead, L a.queue, bb b.made, bb b.sub, I b.top, I b.root, I b.parent, I b.asked, I b.other, I b.age, L b.path, L b.kids, I b.stream.epoch, I b.stream.want, I b.stream.known, L b.stream.kept, L b.stream.ahead, L b.queue]) : S_bkeep_Topic ρ (bb a.made) (bb a.sub) (I a.top) (I a.root) (I a.parent) (I a.asked) (I a.other) (I a.age) (L a.path) (L a.kids) (I a.stream.epoch) (I a.stream.want) (I a.stream.known) (L a.stream.kept) (L a.stream.ahead) (L a.queue) (bb b.made) (bb b.sub) (I b.top) (I b.root) (I b.parent) (I b.asked) (I b.other) (I b.age) (L b.path) (L b.kids) (I b.stream.epoch) (I b.stream.want) (I b.stream.known) (L b.stream.kept) (L b.stream.ahead) (L b.queue) (· = [bb (decide (a = b))]) := by
  unfold S_bkeep_Topic
  generalize hE : decide (a = b) = q
  repeat' (first | apply And.intro | intro _ | simp (disch := first | omega | assumption | exact ⟨by first | assumption | omega, by first | assumption | omega⟩ | (simp only [List.length_cons, List.length_nil]; omega)) only [↓S0, ↓ITE_bool, S1, eq_self, if_true, if_false, true_implies, false_implies, implies_true, ↓c_bkeep_Ints, ↓c_bkeep_Kids, ↓c_bkeep_Stream, ↓c_bkeep_Events])
  all_goals (rw [← hE]; clear hE; simp_all [Topic.eq_iff])
theorem any_false_mem {α : Type} {p : α → Bool} {l : List α} (h : l.any p = false) {x : α} (hx : x ∈ l) : p x = false := by
  rw [List.any_eq_false] at h; simpa using h x hx
theorem w_bkeep_Node (a : Node) (b : Node) (hg : Goods [bb a.up, I a.inc, L a.peers, L a.topics, L a.calls, I a.pubs, I a.asks, L a.marks, L a.taken, bb b.up, I b.inc, L b.peers, L b.topics, L b.calls, I b.pubs, I b.asks, L b.marks, L b.taken]) : S_bkeep_Node ρ (bb a.up) (I a.inc) (L a.peers) (L a.topics) (L a.calls) (I a.pubs) (I a.asks) (L a.marks) (L a.taken) (bb b.up) (I b.inc) (L b.peers) (L b.topics) (L b.calls) (I b.pubs) (I b.asks) (L b.marks) (L b.taken) (· = [bb (decide (a = b))]) := by
  unfold S_bkeep_Node
  simp only [Goods, good_L] at hg
  generalize hE : decide (a = b) = q
  refine SUB.v1 (bb (!((a.up == b.up) && decide (a.inc = b.inc) && decide (a.peers = b.peers) && decide (a.topics.length = b.topics.length) && decide (a.calls.length = b.calls.length) && decide (a.pubs = b.pubs) && decide (a.asks = b.asks) && decide (a.marks.length = b.marks.length) && decide (a.taken.length = b.taken.length)))) ?_ ?_
  · repeat' (first | apply And.intro | intro _ | simp (disch := first | omega | assumption | exact ⟨by first | assumption | omega, by first | assumption | omega⟩ | (simp only [List.length_cons, List.length_nil]; omega)) only [↓S0, ↓ITE_bool, S1, eq_self, if_true, if_false, true_implies, false_implies, implies_true, ↓c_bkeep_Peers, ↓c_bkeep_Topic])
    all_goals (simp_all; try omega)
    all_goals (rw [Bool.eq_iff_iff]; simp; omega)
  cases hA : ((a.up == b.up) && decide (a.inc = b.inc) && decide (a.peers = b.peers) && decide (a.topics.length = b.topics.length) && decide (a.calls.length = b.calls.length) && decide (a.pubs = b.pubs) && decide (a.asks = b.asks) && decide (a.marks.length = b.marks.length) && decide (a.taken.length = b.taken.length))
  · simp (disch := first | omega | assumption | exact ⟨by first | assumption | omega, by first | assumption | omega⟩ | (simp only [List.length_cons, List.length_nil]; omega)) only [↓S0, ↓ITE_bool, S1, eq_self, if_true, if_false, true_implies, false_implies, implies_true, ↓c_bkeep_Peers, ↓c_bkeep_Topic]
    have : ¬ a = b := by rintro rfl; simp at hA
    rw [← hE]; simp [this]
  simp only [Bool.and_eq_true, decide_eq_true_eq, beq_iff_eq] at hA
  obtain ⟨⟨⟨⟨⟨⟨⟨⟨A1, A2⟩, A3⟩, A4⟩, A5⟩, A6⟩, A7⟩, A8⟩, A9⟩ := hA
  have hN : (a = b) = (a.topics = b.topics ∧ a.calls = b.calls ∧ a.marks = b.marks ∧ a.taken = b.taken) := by
    rw [Node.eq_iff]; simp [A1, A2, A3, A6, A7]
  rw [Bool.not_true, ITE_false]
  refine LOOP.rule (α := Nat) (fun i => [I i]) (fun i => i ≤ a.topics.length ∧ ((a.topics = b.topics) = (a.topics.drop i = b.topics.drop i))) (fun i => a.topics.length - i) 0 rfl ⟨by omega, by simp⟩ (fun _ => rfl) ?_
  rintro i ⟨hl_i, hs_i⟩
  simp only [app]
  simp (disch := first | omega | assumption | exact ⟨by first | assumption | omega, by first | assumption | omega⟩ | (simp only [List.length_cons, List.length_nil]; omega)) only [↓S0, ↓ITE_bool, S1, eq_self, if_true, if_false, true_implies, false_implies, implies_true, ↓c_bkeep_Peers, ↓c_bkeep_Topic]
  refine ⟨fun hc_i => ?_, fun hc_i => ?_⟩
  · obtain ⟨x, hx⟩ := get_ex hc_i
    obtain ⟨y, hy⟩ := get_ex (xs := b.topics) (i := i) (by omega)
    rw [drop_eq hx, drop_eq hy, List.cons.injEq] at hs_i
    simp (disch := first | omega | assumption | exact ⟨by first | assumption | omega, by first | assumption | omega⟩ | (simp only [List.length_cons, List.length_nil]; omega)) only [↓S0, ↓ITE_bool, S1, eq_self, if_true, if_false, true_implies, false_implies, implies_true, ↓c_bkeep_Peers, ↓c_bkeep_Topic, cell_L hx, cell_L hy]
    refine ⟨fun h3 => ?_, fun h3 => ⟨i + 1, rfl, ⟨by omega, by simpa [h3] using hs_i⟩, by omega⟩⟩
    have hn : ¬ a.topics = b.topics := fun e => h3 (hs_i.mp e).1
    have : ¬ a = b := by rw [hN]; exact fun h => hn h.1
    rw [← hE]; simp [this]
  rw [drop_nil hc_i, drop_nil (by omega)] at hs_i
  have E1 : a.topics = b.topics := by rw [hs_i]
  clear hs_i hl_i hc_i i
  refine LOOP.rule (α := Nat) (fun i => [I i]) (fun i => i ≤ a.calls.length ∧ ((a.calls = b.calls) = (a.calls.drop i = b.calls.drop i))) (fun i => a.calls.length - i) 0 rfl ⟨by omega, by simp⟩ (fun _ => rfl) ?_
  rintro i ⟨hl_i, hs_i⟩
  simp only [app]
  simp (disch := first | omega | assumption | exact ⟨by first | assumption | omega, by first | assumption | omega⟩ | (simp only [List.length_cons, List.length_nil]; omega)) only [↓S0, ↓ITE_bool, S1, eq_self, if_true, if_false, true_implies, false_implies, implies_true, ↓c_bkeep_Peers, ↓c_bkeep_Topic]
  refine ⟨fun hc_i => ?_, fun hc_i => ?_⟩
  · obtain ⟨x, hx⟩ := get_ex hc_i
    obtain ⟨y, hy⟩ := get_ex (xs := b.calls) (i := i) (by omega)
    rw [drop_eq hx, drop_eq hy, List.cons.injEq] at hs_i
    simp (disch := first | omega | assumption | exact ⟨by first | assumption | omega, by first | assumption | omega⟩ | (simp only [List.length_cons, List.length_nil]; omega)) only [↓S0, ↓ITE_bool, S1, eq_self, if_true, if_false, true_implies, false_implies, implies_true, ↓c_bkeep_Peers, ↓c_bkeep_Topic, cell_L hx, cell_L hy, Call.deq]
    refine ⟨fun h3 => ?_, fun h3 => ⟨i + 1, rfl, ⟨by omega, by simpa [h3] using hs_i⟩, by omega⟩⟩
    have hn : ¬ a.calls = b.calls := fun e => h3 (hs_i.mp e).1
    have : ¬ a = b := by rw [hN]; exact fun h => hn h.2.1
    rw [← hE]; simp [this]
  rw [drop_nil hc_i, drop_nil (by omega)] at hs_i
  have E2 : a.calls = b.calls := by rw [hs_i]
  clear hs_i hl_i hc_i i
  refine LOOP.rule (α := Nat) (fun i => [I i]) (fun i => i ≤ a.marks.length ∧ ((a.marks = b.marks) = (a.marks.drop i = b.marks.drop i))) (fun i => a.marks.length - i) 0 rfl ⟨by omega, by simp⟩ (fun _ => rfl) ?_
  rintro i ⟨hl_i, hs_i⟩
  simp only [app]
  simp (disch := first | omega | assumption | exact ⟨by first | assumption | omega, by first | assumption | omega⟩ | (simp only [List.length_cons, List.length_nil]; omega)) only [↓S0, ↓ITE_bool, S1, eq_self, if_true, if_false, true_implies, false_implies, implies_true, ↓c_bkeep_Peers, ↓c_bkeep_Topic]
  refine ⟨fun hc_i => ?_, fun hc_i => ?_⟩
  · obtain ⟨x, hx⟩ := get_ex hc_i
    obtain ⟨y, hy⟩ := get_ex (xs := b.marks) (i := i) (by omega)
    rw [drop_eq hx, drop_eq hy, List.cons.injEq] at hs_i
    simp (disch := first | omega | assumption | exact ⟨by first | assumption | omega, by first | assumption | omega⟩ | (simp only [List.length_cons, List.length_nil]; omega)) only [↓S0, ↓ITE_bool, S1, eq_self, if_true, if_false, true_implies, false_implies, implies_true, ↓c_bkeep_Peers, ↓c_bkeep_Topic, cell_L hx, cell_L hy, Mark.deq]
    refine ⟨fun h3 => ?_, fun h3 => ⟨i + 1, rfl, ⟨by omega, by simpa [h3] using hs_i⟩, by omega⟩⟩
    have hn : ¬ a.marks = b.marks := fun e => h3 (hs_i.mp e).1
    have : ¬ a = b := by rw [hN]; exact fun h => hn h.2.2.1
    rw [← hE]; simp [this]
  rw [drop_nil hc_i, drop_nil (by omega)] at hs_i
  have E3 : a.marks = b.marks := by rw [hs_i]
  clear hs_i hl_i hc_i i
  refine LOOP.rule (α := Nat) (fun i => [I i]) (fun i => i ≤ a.taken.length ∧ ((a.taken = b.taken) = (a.taken.drop i = b.taken.drop i))) (fun i => a.taken.length - i) 0 rfl ⟨by omega, by simp⟩ (fun _ => rfl) ?_
  rintro i ⟨hl_i, hs_i⟩
  simp only [app]
  simp (disch := first | omega | assumption | exact ⟨by first | assumption | omega, by first | assumption | omega⟩ | (simp only [List.length_cons, List.length_nil]; omega)) only [↓S0, ↓ITE_bool, S1, eq_self, if_true, if_false, true_implies, false_implies, implies_true, ↓c_bkeep_Peers, ↓c_bkeep_Topic]
  refine ⟨fun hc_i => ?_, fun hc_i => ?_⟩
  · obtain ⟨x, hx⟩ := get_ex hc_i
    obtain ⟨y, hy⟩ := get_ex (xs := b.taken) (i := i) (by omega)
    rw [drop_eq hx, drop_eq hy, List.cons.injEq] at hs_i
    simp (disch := first | omega | assumption | exact ⟨by first | assumption | omega, by first | assumption | omega⟩ | (simp only [List.length_cons, List.length_nil]; omega)) only [↓S0, ↓ITE_bool, S1, eq_self, if_true, if_false, true_implies, false_implies, implies_true, ↓c_bkeep_Peers, ↓c_bkeep_Topic, cell_L hx, cell_L hy, Mark2.deq]
    refine ⟨fun h3 => ?_, fun h3 => ⟨i + 1, rfl, ⟨by omega, by simpa [h3] using hs_i⟩, by omega⟩⟩
    have hn : ¬ a.taken = b.taken := fun e => h3 (hs_i.mp e).1
    have : ¬ a = b := by rw [hN]; exact fun h => hn h.2.2.2
    rw [← hE]; simp [this]
  · rw [drop_nil hc_i, drop_nil (by omega)] at hs_i
    have E4 : a.taken = b.taken := by rw [hs_i]
    have : a = b := by rw [hN]; exact ⟨E1, E2, E3, E4⟩
    rw [← hE]; simp [this]
theorem w_bkeep_World (a : World) (b : World) (hg : Goods [L a.nodes, L a.bag, L b.nodes, L b.bag]) : S_bkeep_World ρ (L a.nodes) (L a.bag) (L b.nodes) (L b.bag) (· = [bb (decide (a = b))]) := by
  unfold S_bkeep_World
  simp only [Goods, good_L] at hg
  generalize hE : decide (a = b) = q
  refine SUB.v1 (bb (!(decide (a.nodes.length = b.nodes.length) && decide (a.bag = b.bag)))) ?_ ?_
  · repeat' (first | apply And.intro | intro _ | simp (disch := first | omega | assumption | exact ⟨by first | assumption | omega, by first | assumption | omega⟩ | (simp only [List.length_cons, List.length_nil]; omega)) only [↓S0, ↓ITE_bool, S1, eq_self, if_true, if_false, true_implies, false_implies, implies_true, ↓c_bkeep_Frames, ↓c_bkeep_Node])
    all_goals (simp_all; try omega)
  cases hA : (decide (a.nodes.length = b.nodes.length) && decide (a.bag = b.bag))
  · simp (disch := first | omega | assumption | exact ⟨by first | assumption | omega, by first | assumption | omega⟩ | (simp only [List.length_cons, List.length_nil]; omega)) only [↓S0, ↓ITE_bool, S1, eq_self, if_true, if_false, true_implies, false_implies, implies_true, ↓c_bkeep_Frames, ↓c_bkeep_Node]
    have : ¬ a = b := by rintro rfl; simp at hA
    rw [← hE]; simp [this]
  simp only [Bool.and_eq_true, decide_eq_true_eq] at hA
  obtain ⟨A1, A2⟩ := hA
  have hN : (a = b) = (a.nodes = b.nodes) := by rw [World.eq_iff]; simp [A2]
  rw [Bool.not_true, ITE_false]
  refine LOOP.rule (α := Nat) (fun i => [I i]) (fun i => i ≤ a.nodes.length ∧ ((a.nodes = b.nodes) = (a.nodes.drop i = b.nodes.drop i))) (fun i => a.nodes.length - i) 0 rfl ⟨by omega, by simp⟩ (fun _ => rfl) ?_
  rintro i ⟨hl_i, hs_i⟩
  simp only [app]
  simp (disch := first | omega | assumption | exact ⟨by first | assumption | omega, by first | assumption | omega⟩ | (simp only [List.length_cons, List.length_nil]; omega)) only [↓S0, ↓ITE_bool, S1, eq_self, if_true, if_false, true_implies, false_implies, implies_true, ↓c_bkeep_Frames, ↓c_bkeep_Node]
  refine ⟨fun hc_i => ?_, fun hc_i => ?_⟩
  · obtain ⟨x, hx⟩ := get_ex hc_i
    obtain ⟨y, hy⟩ := get_ex (xs := b.nodes) (i := i) (by omega)
    rw [drop_eq hx, drop_eq hy, List.cons.injEq] at hs_i
    simp (disch := first | omega | assumption | exact ⟨by first | assumption | omega, by first | assumption | omega⟩ | (simp only [List.length_cons, List.length_nil]; omega)) only [↓S0, ↓ITE_bool, S1, eq_self, if_true, if_false, true_implies, false_implies, implies_true, ↓c_bkeep_Frames, ↓c_bkeep_Node, cell_L hx, cell_L hy]
    refine ⟨fun h3 => ?_, fun h3 => ⟨i + 1, rfl, ⟨by omega, by simpa [h3] using hs_i⟩, by omega⟩⟩
    have hn : ¬ a.nodes = b.nodes := fun e => h3 (hs_i.mp e).1
    have : ¬ a = b := by rw [hN]; exact hn
    rw [← hE]; simp [this]
  · rw [drop_nil hc_i, drop_nil (by omega)] at hs_i
    have : a = b := by rw [hN, hs_i]
    rw [← hE]; simp [this]
end Go.Xt
end
section
set_option linter.unusedSimpArgs false
set_option linter.unusedVariables false
set_option maxRecDepth 100000
namespace Go.Xt
instance : FlatRow Kid := ⟨fun a q hq => by simp [Row.row] at hq; rcases hq with rfl | rfl | rfl <;> rfl⟩
instance : FlatRow Item := ⟨fun a q hq => by simp [Row.row] at hq; rcases hq with rfl | rfl <;> rfl⟩
instance : FlatRow Event := ⟨fun a q hq => by simp [Row.row] at hq; rcases hq with rfl | rfl | rfl | rfl | rfl | rfl <;> rfl⟩
instance : FlatRow Peer := ⟨fun a q hq => by simp [Row.row] at hq; rcases hq with rfl | rfl <;> rfl⟩
instance : FlatRow By := ⟨fun a q hq => by simp [Row.row] at hq; subst hq; rfl⟩
theorem take_one {α : Type} {xs : List α} {i : Nat} {x : α} (h : xs[i]? = some x) : xs.take (i + 1) = xs.take i ++ [x] := by rw [List.take_add_one, h]; rfl
theorem w_law18_Heavy (s : Stream) (q : List Event) (hg : Goods [I s.epoch, I s.want, I s.known, L s.kept, L s.ahead, L q]) : S_law18_Heavy ρ (I s.epoch) (I s.want) (I s.known) (L s.kept) (L s.ahead) (L q) (· = [bb (heavy18 s q)]) := by
  unfold S_law18_Heavy heavy18
  simp (disch := first | omega | assumption | exact ⟨by first | assumption | omega, by first | assumption | omega⟩ | (simp only [List.length_cons, List.length_nil]; omega)) only [↓S0, ITE_R, ITE_eq, ite_c, ite_bb, ite_I, ite_L, ite_L0, ite_0L, ite_self, SUB_r1, SUB_r2, SUB_r3, S1, eq_self, if_true, if_false, true_implies, false_implies, implies_true]
  simp only [List.cons.injEq, PV.bool.injEq, and_true]
  rw [Bool.eq_iff_iff]; simp; omega
theorem w_law19_Heavy (x : Topic) (hg : Goods [bb x.made, bb x.sub, I x.top, I x.root, I x.parent, I x.asked, I x.other, I x.age, L x.path, L x.kids, I x.stream.epoch, I x.stream.want, I x.stream.known, L x.stream.kept, L x.stream.ahead, L x.queue]) : S_law19_Heavy ρ (bb x.made) (bb x.sub) (I x.top) (I x.root) (I x.parent) (I x.asked) (I x.other) (I x.age) (L x.path) (L x.kids) (I x.stream.epoch) (I x.stream.want) (I x.stream.known) (L x.stream.kept) (L x.stream.ahead) (L x.queue) (· = [bb (heavy19 x)]) := by
  unfold S_law19_Heavy heavy19
  repeat' (first | apply And.intro | intro _ | simp (disch := first | omega | assumption | exact ⟨by first | assumption | omega, by first | assumption | omega⟩ | (simp only [List.length_cons, List.length_nil]; omega)) only [↓S0, ↓ITE_bool, S1, eq_self, if_true, if_false, true_implies, false_implies, implies_true, ↓c_law18_Heavy])
  all_goals (simp_all; try omega)
theorem w_law21_Heavy (n : Node) (hg : Goods [bb n.up, I n.inc, L n.peers, L n.topics, L n.calls, I n.pubs, I n.asks, L n.marks, L n.taken]) : S_law21_Heavy ρ (bb n.up) (I n.inc) (L n.peers) (L n.topics) (L n.calls) (I n.pubs) (I n.asks) (L n.marks) (L n.taken) (· = [bb (heavy21 n)]) := by
  unfold S_law21_Heavy
  simp only [Goods, good_L] at hg
  generalize hE : heavy21 n = q
  unfold heavy21 at hE
  refine SUB.v1 (bb (decide (n.peers.length > 12) || decide (n.topics.length > 8) || decide (n.calls.length > 60) || decide (n.marks.length > 12) || decide (n.taken.length > 80))) ?_ ?_
  · repeat' (first | apply And.intro | intro _ | simp (disch := first | omega | assumption | exact ⟨by first | assumption | omega, by first | assumption | omega⟩ | (simp only [List.length_cons, List.length_nil]; omega)) only [↓S0, ↓ITE_bool, S1, eq_self, if_true, if_false, true_implies, false_implies, implies_true, ↓c_law19_Heavy])
    all_goals (simp_all; try omega)
    all_goals (rw [Bool.eq_iff_iff]; simp; omega)
  cases hA : (decide (n.peers.length > 12) || decide (n.topics.length > 8) || decide (n.calls.length > 60) || decide (n.marks.length > 12) || decide (n.taken.length > 80))
  · rw [hA] at hE
    simp only [Bool.false_or] at hE
    simp (disch := first | omega | assumption | exact ⟨by first | assumption | omega, by first | assumption | omega⟩ | (simp only [List.length_cons, List.length_nil]; omega)) only [↓S0, ↓ITE_bool, S1, eq_self, if_true, if_false, true_implies, false_implies, implies_true, ↓c_law19_Heavy]
    refine LOOP.rule (α := Nat) (fun i => [I i]) (fun i => i ≤ n.topics.length ∧ (n.topics.drop i).any (heavy19) = n.topics.any (heavy19)) (fun i => n.topics.length - i) 0 rfl ⟨by omega, by simp⟩ (fun _ => rfl) ?_
    rintro i ⟨hl_i, hs_i⟩
    simp only [app]
    simp (disch := first | omega | assumption | exact ⟨by first | assumption | omega, by first | assumption | omega⟩ | (simp only [List.length_cons, List.length_nil]; omega)) only [↓S0, ↓ITE_bool, S1, eq_self, if_true, if_false, true_implies, false_implies, implies_true, ↓c_law19_Heavy]
    refine ⟨fun hc_i => ?_, fun hc_i => ?_⟩
    · obtain ⟨x, hx⟩ := get_ex hc_i
      rw [drop_eq hx, List.any_cons] at hs_i
      simp (disch := first | omega | assumption | exact ⟨by first | assumption | omega, by first | assumption | omega⟩ | (simp only [List.length_cons, List.length_nil]; omega)) only [↓S0, ↓ITE_bool, S1, eq_self, if_true, if_false, true_implies, false_implies, implies_true, ↓c_law19_Heavy, cell_L hx]
      refine ⟨fun h3 => ?_, fun h3 => ⟨i + 1, rfl, ⟨by omega, by simpa [h3] using hs_i⟩, by omega⟩⟩
      rw [← hE, ← hs_i, h3]; simp
    · rw [drop_nil hc_i] at hs_i
      rw [← hE, ← hs_i]; simp
  · rw [hA] at hE
    simp (disch := first | omega | assumption | exact ⟨by first | assumption | omega, by first | assumption | omega⟩ | (simp only [List.length_cons, List.length_nil]; omega)) only [↓S0, ↓ITE_bool, S1, eq_self, if_true, if_false, true_implies, false_implies, implies_true, ↓c_law19_Heavy]
    rw [← hE]; simp
theorem w_law08_Heavy (l : List Frame) (hg : Goods [L l]) : S_law08_Heavy ρ (L l) (· = [bb (heavy08 l)]) := by
  unfold S_law08_Heavy
  simp only [Goods, good_L] at hg
  generalize hE : heavy08 l = q
  unfold heavy08 at hE
  refine SUB.v1 (bb ((decide (l.length > 60) && decide (l.length < 300)) || decide (l.length > 303))) ?_ ?_
  · repeat' (first | apply And.intro | intro _ | simp (disch := first | omega | assumption | exact ⟨by first | assumption | omega, by first | assumption | omega⟩ | (simp only [List.length_cons, List.length_nil]; omega)) only [↓S0, ↓ITE_bool, S1, eq_self, if_true, if_false, true_implies, false_implies, implies_true])
    all_goals (simp_all; try omega)
    all_goals (rw [Bool.eq_iff_iff]; simp; omega)
  cases hA : ((decide (l.length > 60) && decide (l.length < 300)) || decide (l.length > 303))
  · rw [hA] at hE
    simp only [Bool.false_or] at hE
    simp (disch := first | omega | assumption | exact ⟨by first | assumption | omega, by first | assumption | omega⟩ | (simp only [List.length_cons, List.length_nil]; omega)) only [↓S0, ↓ITE_bool, S1, eq_self, if_true, if_false, true_implies, false_implies, implies_true]
    refine LOOP.rule (α := Nat) (fun i => [I i]) (fun i => i ≤ l.length ∧ (l.drop i).any ((fun f => decide (f.bytes.length > 200))) = l.any ((fun f => decide (f.bytes.length > 200)))) (fun i => l.length - i) 0 rfl ⟨by omega, by simp⟩ (fun _ => rfl) ?_
    rintro i ⟨hl_i, hs_i⟩
    simp only [app]
    simp (disch := first | omega | assumption | exact ⟨by first | assumption | omega, by first | assumption | omega⟩ | (simp only [List.length_cons, List.length_nil]; omega)) only [↓S0, ↓ITE_bool, S1, eq_self, if_true, if_false, true_implies, false_implies, implies_true]
    refine ⟨fun hc_i => ?_, fun hc_i => ?_⟩
    · obtain ⟨x, hx⟩ := get_ex hc_i
      rw [drop_eq hx, List.any_cons] at hs_i
      simp (disch := first | omega | assumption | exact ⟨by first | assumption | omega, by first | assumption | omega⟩ | (simp only [List.length_cons, List.length_nil]; omega)) only [↓S0, ↓ITE_bool, S1, eq_self, if_true, if_false, true_implies, false_implies, implies_true, cell_L hx]
      refine ⟨fun h3 => ?_, fun h3 => ⟨i + 1, rfl, ⟨by omega, ?_⟩, by omega⟩⟩
      · rw [← hE, ← hs_i]; simp [show 200 < x.bytes.length by omega]
      · rw [← hs_i]; simp [show ¬ 200 < x.bytes.length by omega]
    · rw [drop_nil hc_i] at hs_i
      rw [← hE, ← hs_i]; simp
  · rw [hA] at hE
    simp (disch := first | omega | assumption | exact ⟨by first | assumption | omega, by first | assumption | omega⟩ | (simp only [List.length_cons, List.length_nil]; omega)) only [↓S0, ↓ITE_bool, S1, eq_self, if_true, if_false, true_implies, false_implies, implies_true]
    rw [← hE]; simp
theorem w_law25_Heavy (w : World) (hg : Goods [L w.nodes, L w.bag]) : S_law25_Heavy ρ (L w.nodes) (L w.bag) (· = [bb (heavy25 w)]) := by
  unfold S_law25_Heavy
  simp only [Goods, good_L] at hg
  generalize hE : heavy25 w = q
  unfold heavy25 at hE
  refine SUB.v1 (bb (decide (w.nodes.length > 10) || decide (w.bag.length > 303))) ?_ ?_
  · repeat' (first | apply And.intro | intro _ | simp (disch := first | omega | assumption | exact ⟨by first | assumption | omega, by first | assumption | omega⟩ | (simp only [List.length_cons, List.length_nil]; omega)) only [↓S0, ↓ITE_bool, S1, eq_self, if_true, if_false, true_implies, false_implies, implies_true, ↓c_law21_Heavy, ↓c_law08_Heavy])
    all_goals (simp_all; try omega)
    all_goals (rw [Bool.eq_iff_iff]; simp; omega)
  cases hA : (decide (w.nodes.length > 10) || decide (w.bag.length > 303))
  · rw [hA] at hE
    simp only [Bool.false_or] at hE
    simp (disch := first | omega | assumption | exact ⟨by first | assumption | omega, by first | assumption | omega⟩ | (simp only [List.length_cons, List.length_nil]; omega)) only [↓S0, ↓ITE_bool, S1, eq_self, if_true, if_false, true_implies, false_implies, implies_true, ↓c_law21_Heavy, ↓c_law08_Heavy]
    refine LOOP.rule (α := Nat) (fun i => [I i]) (fun i => i ≤ w.nodes.length ∧ (w.nodes.drop i).any (heavy21) = w.nodes.any (heavy21)) (fun i => w.nodes.length - i) 0 rfl ⟨by omega, by simp⟩ (fun _ => rfl) ?_
    rintro i ⟨hl_i, hs_i⟩
    simp only [app]
    simp (disch := first | omega | assumption | exact ⟨by first | assumption | omega, by first | assumption | omega⟩ | (simp only [List.length_cons, List.length_nil]; omega)) only [↓S0, ↓ITE_bool, S1, eq_self, if_true, if_false, true_implies, false_implies, implies_true, ↓c_law21_Heavy, ↓c_law08_Heavy]
    refine ⟨fun hc_i => ?_, fun hc_i => ?_⟩
    · obtain ⟨x, hx⟩ := get_ex hc_i
      rw [drop_eq hx, List.any_cons] at hs_i
      simp (disch := first | omega | assumption | exact ⟨by first | assumption | omega, by first | assumption | omega⟩ | (simp only [List.length_cons, List.length_nil]; omega)) only [↓S0, ↓ITE_bool, S1, eq_self, if_true, if_false, true_implies, false_implies, implies_true, ↓c_law21_Heavy, ↓c_law08_Heavy, cell_L hx]
      refine ⟨fun h3 => ?_, fun h3 => ⟨i + 1, rfl, ⟨by omega, by simpa [h3] using hs_i⟩, by omega⟩⟩
      rw [← hE, ← hs_i, h3]; simp
    · rw [drop_nil hc_i] at hs_i
      rw [← hs_i] at hE
      refine ⟨fun h => ?_, fun h => ?_⟩
      · rw [← hE]; simp [show w.bag.length ≤ 60 by omega]
      · rw [← hE]; simp [show ¬ w.bag.length ≤ 60 by omega]
  · rw [hA] at hE
    simp (disch := first | omega | assumption | exact ⟨by first | assumption | omega, by first | assumption | omega⟩ | (simp only [List.length_cons, List.length_nil]; omega)) only [↓S0, ↓ITE_bool, S1, eq_self, if_true, if_false, true_implies, false_implies, implies_true, ↓c_law21_Heavy, ↓c_law08_Heavy]
    rw [← hE]; simp
theorem w_bkeep_TwinKids (l : List Kid) (hp : l.length ≤ 1000000) : S_bkeep_TwinKids ρ (L l) (· = [L l]) := by
  unfold S_bkeep_TwinKids
  simp (disch := first | omega | assumption | exact ⟨by first | assumption | omega, by first | assumption | omega⟩ | (simp only [List.length_cons, List.length_nil]; omega)) only [↓S0, ↓ITE_bool, S1, eq_self, if_true, if_false, true_implies, false_implies, implies_true]
theorem w_bkeep_TwinItems (l : List Item) (hp : l.length ≤ 1000000) : S_bkeep_TwinItems ρ (L l) (· = [L l]) := by
  unfold S_bkeep_TwinItems
  simp (disch := first | omega | assumption | exact ⟨by first | assumption | omega, by first | assumption | omega⟩ | (simp only [List.length_cons, List.length_nil]; omega)) only [↓S0, ↓ITE_bool, S1, eq_self, if_true, if_false, true_implies, false_implies, implies_true]
theorem w_bkeep_TwinEvents (l : List Event) (hp : l.length ≤ 1000000) : S_bkeep_TwinEvents ρ (L l) (· = [L l]) := by
  unfold S_bkeep_TwinEvents
  simp (disch := first | omega | assumption | exact ⟨by first | assumption | omega, by first | assumption | omega⟩ | (simp only [List.length_cons, List.length_nil]; omega)) only [↓S0, ↓ITE_bool, S1, eq_self, if_true, if_false, true_implies, false_implies, implies_true]
theorem w_bkeep_TwinPeers (l : List Peer) (hp : l.length ≤ 1000000) : S_bkeep_TwinPeers ρ (L l) (· = [L l]) := by
  unfold S_bkeep_TwinPeers
  simp (disch := first | omega | assumption | exact ⟨by first | assumption | omega, by first | assumption | omega⟩ | (simp only [List.length_cons, List.length_nil]; omega)) only [↓S0, ↓ITE_bool, S1, eq_self, if_true, if_false, true_implies, false_implies, implies_true]
theorem w_bkeep_Twin (l : List By) (hp : l.length ≤ 140737488355328) : S_bkeep_Twin ρ (L l) (· = [L l]) := by
  unfold S_bkeep_Twin
  simp (disch := first | omega | assumption | exact ⟨by first | assumption | omega, by first | assumption | omega⟩ | (simp only [List.length_cons, List.length_nil]; omega)) only [↓S0, ↓ITE_bool, S1, eq_self, if_true, if_false, true_implies, false_implies, implies_true]
theorem w_bkeep_TwinStream (s : Stream) (hp : s.kept.length ≤ 1000000 ∧ s.ahead.length ≤ 1000000) : S_bkeep_TwinStream ρ (I s.epoch) (I s.want) (I s.known) (L s.kept) (L s.ahead) (· = [I s.epoch, I s.want, I s.known, L s.kept, L s.ahead]) := by
  unfold S_bkeep_TwinStream
  simp (disch := first | omega | assumption | exact ⟨by first | assumption | omega, by first | assumption | omega⟩ | (simp only [List.length_cons, List.length_nil]; omega)) only [↓S0, ↓ITE_bool, S1, eq_self, if_true, if_false, true_implies, false_implies, implies_true, ↓c_bkeep_TwinItems]
theorem heavy19_bd {x : Topic} (h : heavy19 x = false) : x.path.length ≤ 20 ∧ x.kids.length ≤ 20 ∧ x.stream.kept.length ≤ 30 ∧ x.stream.ahead.length ≤ 30 ∧ x.queue.length ≤ 50 := by
  simp [heavy19, heavy18] at h; omega
theorem heavy21_bd {n : Node} (h : heavy21 n = false) : n.peers.length ≤ 12 ∧ n.topics.length ≤ 8 ∧ n.calls.length ≤ 60 ∧ n.marks.length ≤ 12 ∧ n.taken.length ≤ 80 ∧ n.topics.any heavy19 = false := by
  simp only [heavy21, Bool.or_eq_false_iff, decide_eq_false_iff_not] at h
  obtain ⟨⟨⟨⟨⟨a, b⟩, d⟩, e⟩, f⟩, g⟩ := h
  exact ⟨by omega, by omega, by omega, by omega, by omega, g⟩
theorem w_bkeep_TwinTopic (x : Topic) (hp : heavy19 x = false) : S_bkeep_TwinTopic ρ (bb x.made) (bb x.sub) (I x.top) (I x.root) (I x.parent) (I x.asked) (I x.other) (I x.age) (L x.path) (L x.kids) (I x.stream.epoch) (I x.stream.want) (I x.stream.known) (L x.stream.kept) (L x.stream.ahead) (L x.queue) (· = [bb x.made, bb x.sub, I x.top, I x.root, I x.parent, I x.asked, I x.other, I x.age, L x.path, L x.kids, I x.stream.epoch, I x.stream.want, I x.stream.known, L x.stream.kept, L x.stream.ahead, L x.queue]) := by
  unfold S_bkeep_TwinTopic
  have hb := heavy19_bd hp
  simp (disch := first | omega | assumption | exact ⟨by first | assumption | omega, by first | assumption | omega⟩ | (simp only [List.length_cons, List.length_nil]; omega)) only [↓S0, ↓ITE_bool, S1, eq_self, if_true, if_false, true_implies, false_implies, implies_true, ↓c_bkeep_TwinInts, ↓c_bkeep_TwinKids, ↓c_bkeep_TwinStream, ↓c_bkeep_TwinEvents]
theorem w_bkeep_TwinNode (n : Node) (hp : heavy21 n = false) (hg : Goods [bb n.up, I n.inc, L n.peers, L n.topics, L n.calls, I n.pubs, I n.asks, L n.marks, L n.taken]) : S_bkeep_TwinNode ρ (bb n.up) (I n.inc) (L n.peers) (L n.topics) (L n.calls) (I n.pubs) (I n.asks) (L n.marks) (L n.taken) (· = [bb n.up, I n.inc, L n.peers, L n.topics, L n.calls, I n.pubs, I n.asks, L n.marks, L n.taken]) := by
  unfold S_bkeep_TwinNode
  simp only [Goods, good_L] at hg
  have hb := heavy21_bd hp
  simp (disch := first | omega | assumption | exact ⟨by first | assumption | omega, by first | assumption | omega⟩ | (simp only [List.length_cons, List.length_nil]; omega)) only [↓S0, ↓ITE_bool, S1, eq_self, if_true, if_false, true_implies, false_implies, implies_true, ↓c_bkeep_TwinPeers, ↓c_bkeep_TwinTopic]
  refine LOOP.rule (α := Nat) (fun i => [I i, L (n.topics.take i)]) (fun i => i ≤ n.topics.length) (fun i => n.topics.length - i) 0 rfl (by omega) (fun _ => rfl) ?_
  intro i hl
  simp only [app]
  simp (disch := first | omega | assumption | exact ⟨by first | assumption | omega, by first | assumption | omega⟩ | (simp only [List.length_cons, List.length_nil]; omega)) only [↓S0, ↓ITE_bool, S1, eq_self, if_true, if_false, true_implies, false_implies, implies_true, ↓c_bkeep_TwinPeers, ↓c_bkeep_TwinTopic]
  refine ⟨fun hc => ?_, fun hc => ?_⟩
  · obtain ⟨x, hx⟩ := get_ex hc
    have hx9 := any_false_mem hb.2.2.2.2.2 (List.mem_of_getElem? hx)
    have hlt : (n.topics.take i).length = i := by simp; omega
    simp (disch := first | omega | assumption | exact ⟨by first | assumption | omega, by first | assumption | omega⟩ | (simp only [List.length_cons, List.length_nil]; omega)) only [↓S0, ↓ITE_bool, S1, eq_self, if_true, if_false, true_implies, false_implies, implies_true, ↓c_bkeep_TwinPeers, ↓c_bkeep_TwinTopic, cell_L hx]
    exact ⟨i + 1, by simp [take_one hx], by omega, by omega⟩
  · rw [List.take_of_length_le (by omega)]
theorem w_bkeep_TwinFrames (l : List Frame) (hp : l.length ≤ 1000 ∧ ∀ f ∈ l, f.bytes.length ≤ 140737488355328) (hg : Goods [L l]) : S_bkeep_TwinFrames ρ (L l) (· = [L l]) := by
  unfold S_bkeep_TwinFrames
  simp only [Goods, good_L] at hg
  refine LOOP.rule (α := Nat) (fun i => [I i, L (l.take i)]) (fun i => i ≤ l.length) (fun i => l.length - i) 0 rfl (by omega) (fun _ => rfl) ?_
  intro i hl
  simp only [app]
  simp (disch := first | omega | assumption | exact ⟨by first | assumption | omega, by first | assumption | omega⟩ | (simp only [List.length_cons, List.length_nil]; omega)) only [↓S0, ↓ITE_bool, S1, eq_self, if_true, if_false, true_implies, false_implies, implies_true, ↓c_bkeep_Twin]
  refine ⟨fun hc => ?_, fun hc => ?_⟩
  · obtain ⟨x, hx⟩ := get_ex hc
    have hx9 := hp.2 x (List.mem_of_getElem? hx)
    have hlt : (l.take i).length = i := by simp; omega
    simp (disch := first | omega | assumption | exact ⟨by first | assumption | omega, by first | assumption | omega⟩ | (simp only [List.length_cons, List.length_nil]; omega)) only [↓S0, ↓ITE_bool, S1, eq_self, if_true, if_false, true_implies, false_implies, implies_true, ↓c_bkeep_Twin, cell_L hx]
    exact ⟨i + 1, by simp [take_one hx], by omega, by omega⟩
  · rw [List.take_of_length_le (by omega)]
theorem w_bkeep_TwinWorld (w : World) (hp : w.nodes.length ≤ 10 ∧ w.nodes.any heavy21 = false ∧ w.bag.length ≤ 1000 ∧ ∀ f ∈ w.bag, f.bytes.length ≤ 140737488355328) (hg : Goods [L w.nodes, L w.bag]) : S_bkeep_TwinWorld ρ (L w.nodes) (L w.bag) (· = [L w.nodes, L w.bag]) := by
  unfold S_bkeep_TwinWorld
  simp only [Goods, good_L] at hg
  obtain ⟨p1, p2, p3, p4⟩ := hp
  refine LOOP.rule (α := Nat) (fun i => [I i, L (w.nodes.take i)]) (fun i => i ≤ w.nodes.length) (fun i => w.nodes.length - i) 0 rfl (by omega) (fun _ => rfl) ?_
  intro i hl
  simp only [app]
  simp (disch := first | omega | assumption | exact ⟨by first | assumption | omega, by first | assumption | omega⟩ | (simp only [List.length_cons, List.length_nil]; omega)) only [↓S0, ↓ITE_bool, S1, eq_self, if_true, if_false, true_implies, false_implies, implies_true, ↓c_bkeep_TwinNode, ↓c_bkeep_TwinFrames]
  refine ⟨fun hc => ?_, fun hc => ?_⟩
  · obtain ⟨x, hx⟩ := get_ex hc
    have hx9 := any_false_mem p2 (List.mem_of_getElem? hx)
    have hlt : (w.nodes.take i).length = i := by simp; omega
    simp (disch := first | omega | assumption | exact ⟨by first | assumption | omega, by first | assumption | omega⟩ | (simp only [List.length_cons, List.length_nil]; omega)) only [↓S0, ↓ITE_bool, S1, eq_self, if_true, if_false, true_implies, false_implies, implies_true, ↓c_bkeep_TwinNode, ↓c_bkeep_TwinFrames, cell_L hx]
    exact ⟨i + 1, by simp [take_one hx], by omega, by omega⟩
  · rw [List.take_of_length_le (by omega)]
theorem w_bag_right (f : Frame) (hg : Goods [I f.to, L f.bytes]) : S_bag_right ρ (I f.to) (L f.bytes) (· = [bb (frameOk f)]) := by
  unfold S_bag_right frameOk
  simp (disch := first | omega | assumption | exact ⟨by first | assumption | omega, by first | assumption | omega⟩ | (simp only [List.length_cons, List.length_nil]; omega)) only [↓S0, ITE_R, ITE_eq, ite_c, ite_bb, ite_I, ite_L, ite_L0, ite_0L, ite_self, SUB_r1, SUB_r2, SUB_r3, S1, eq_self, if_true, if_false, true_implies, false_implies, implies_true, ↓c_ring_Is]
  simp only [List.cons.injEq, PV.bool.injEq, and_true]
  cases isN f.to
  · simp
  · rw [Bool.eq_iff_iff]; simp; omega
theorem w_ref01_Frame (f : Frame) (hg : Goods [I f.to, L f.bytes]) : S_ref01_Frame ρ (I f.to) (L f.bytes) (· = [bb (frameOk f)]) := by
  unfold S_ref01_Frame frameOk
  simp (disch := first | omega | assumption | exact ⟨by first | assumption | omega, by first | assumption | omega⟩ | (simp only [List.length_cons, List.length_nil]; omega)) only [↓S0, ITE_R, ITE_eq, ite_c, ite_bb, ite_I, ite_L, ite_L0, ite_0L, ite_self, SUB_r1, SUB_r2, SUB_r3, S1, eq_self, if_true, if_false, true_implies, false_implies, implies_true, ↓c_ref01_IsNode]
  simp only [List.cons.injEq, PV.bool.injEq, and_true]
  cases isN f.to
  · simp
  · rw [Bool.eq_iff_iff]; simp; omega
theorem w_bag_Check (l : List Frame) (hg : Goods [L l]) : S_bag_Check ρ (L l) (· = [I (bagWhy l)]) := by
  unfold S_bag_Check bagWhy
  simp only [Goods, good_L] at hg
  simp (disch := first | omega | assumption | exact ⟨by first | assumption | omega, by first | assumption | omega⟩ | (simp only [List.length_cons, List.length_nil]; omega)) only [↓S0, ↓ITE_bool, S1, eq_self, if_true, if_false, true_implies, false_implies, implies_true, ↓c_bag_right]
  refine ⟨fun h => by simp [show l.length > 300 by omega], fun h => ?_⟩
  rw [if_neg (by omega)]
  refine LOOP.rule (α := Nat) (fun i => [I i]) (fun i => i ≤ l.length ∧ (l.drop i).all (frameOk) = l.all (frameOk)) (fun i => l.length - i) 0 rfl ⟨by omega, by simp⟩ (fun _ => rfl) ?_
  rintro i ⟨hl_i, hs_i⟩
  simp only [app]
  simp (disch := first | omega | assumption | exact ⟨by first | assumption | omega, by first | assumption | omega⟩ | (simp only [List.length_cons, List.length_nil]; omega)) only [↓S0, ↓ITE_bool, S1, eq_self, if_true, if_false, true_implies, false_implies, implies_true, ↓c_bag_right]
  refine ⟨fun hc_i => ?_, fun hc_i => ?_⟩
  · obtain ⟨x, hx⟩ := get_ex hc_i
    rw [drop_eq hx, List.all_cons] at hs_i
    simp (disch := first | omega | assumption | exact ⟨by first | assumption | omega, by first | assumption | omega⟩ | (simp only [List.length_cons, List.length_nil]; omega)) only [↓S0, ↓ITE_bool, S1, eq_self, if_true, if_false, true_implies, false_implies, implies_true, ↓c_bag_right, cell_L hx]
    refine ⟨fun h3 => ?_, fun h3 => ⟨i + 1, rfl, ⟨by omega, by simpa [h3] using hs_i⟩, by omega⟩⟩
    rw [h3, Bool.false_and] at hs_i
    simp [← hs_i]
  · rw [drop_nil hc_i] at hs_i
    simp [← hs_i]
theorem w_ref01_Bag (l : List Frame) (hg : Goods [L l]) : S_ref01_Bag ρ (L l) (· = [I (bagWhy l)]) := by
  unfold S_ref01_Bag bagWhy
  simp only [Goods, good_L] at hg
  simp (disch := first | omega | assumption | exact ⟨by first | assumption | omega, by first | assumption | omega⟩ | (simp only [List.length_cons, List.length_nil]; omega)) only [↓S0, ↓ITE_bool, S1, eq_self, if_true, if_false, true_implies, false_implies, implies_true, ↓c_ref01_Frame]
  refine ⟨fun h => by simp [show l.length > 300 by omega], fun h => ?_⟩
  rw [if_neg (by omega)]
  refine LOOP.rule (α := Nat) (fun i => [I i]) (fun i => i ≤ l.length ∧ (l.drop i).all (frameOk) = l.all (frameOk)) (fun i => l.length - i) 0 rfl ⟨by omega, by simp⟩ (fun _ => rfl) ?_
  rintro i ⟨hl_i, hs_i⟩
  simp only [app]
  simp (disch := first | omega | assumption | exact ⟨by first | assumption | omega, by first | assumption | omega⟩ | (simp only [List.length_cons, List.length_nil]; omega)) only [↓S0, ↓ITE_bool, S1, eq_self, if_true, if_false, true_implies, false_implies, implies_true, ↓c_ref01_Frame]
  refine ⟨fun hc_i => ?_, fun hc_i => ?_⟩
  · obtain ⟨x, hx⟩ := get_ex hc_i
    rw [drop_eq hx, List.all_cons] at hs_i
    simp (disch := first | omega | assumption | exact ⟨by first | assumption | omega, by first | assumption | omega⟩ | (simp only [List.length_cons, List.length_nil]; omega)) only [↓S0, ↓ITE_bool, S1, eq_self, if_true, if_false, true_implies, false_implies, implies_true, ↓c_ref01_Frame, cell_L hx]
    refine ⟨fun h3 => ?_, fun h3 => ⟨i + 1, rfl, ⟨by omega, by simpa [h3] using hs_i⟩, by omega⟩⟩
    rw [h3, Bool.false_and] at hs_i
    simp [← hs_i]
  · rw [drop_nil hc_i] at hs_i
    simp [← hs_i]
end Go.Xt
end
section
set_option linter.unusedSimpArgs false
set_option linter.unusedVariables false
set_option maxRecDepth 100000
namespace Go.Xt
theorem Peer.deq0 (x : Peer) : (decide (x.inc = 0) && decide (x.age = 0)) = decide (x = ⟨0, 0⟩) := by rw [Bool.eq_iff_iff]; simp [Peer.eq_iff]
theorem Mark.deq0 (x : Mark) : (decide (x.inc = 0) && (decide (x.pubs = 0) && decide (x.met = 0))) = decide (x = ⟨0, 0, 0⟩) := by rw [Bool.eq_iff_iff]; simp [Mark.eq_iff]
theorem w_world_bare (x : Topic) (hg : Goods [bb x.made, bb x.sub, I x.top, I x.root, I x.parent, I x.asked, I x.other, I x.age, L x.path, L x.kids, I x.stream.epoch, I x.stream.want, I x.stream.known, L x.stream.kept, L x.stream.ahead, L x.queue]) : S_world_bare ρ (bb x.made) (bb x.sub) (I x.top) (I x.root) (I x.parent) (I x.asked) (I x.other) (I x.age) (L x.path) (L x.kids) (I x.stream.epoch) (I x.stream.want) (I x.stream.known) (L x.stream.kept) (L x.stream.ahead) (L x.queue) (· = [bb (topZ x)]) := by
  unfold S_world_bare
  generalize hE : topZ x = q
  unfold topZ at hE
  refine SUB.v1 (bb (decide (x.root = 0) && decide (x.parent = 0) && decide (x.asked = 0) && decide (x.other = 0) && decide (x.age = 0))) ?_ ?_
  · repeat' (first | apply And.intro | intro _ | simp (disch := first | omega | assumption | exact ⟨by first | assumption | omega, by first | assumption | omega⟩ | (simp only [List.length_cons, List.length_nil]; omega)) only [↓S0, ↓ITE_bool, S1, eq_self, if_true, if_false, true_implies, false_implies, implies_true])
    all_goals simp_all
  refine SUB.v1 (bb (decide (x.path = []) && decide (x.kids = []) && decide (x.queue = []) && decide (x.stream.kept = []) && decide (x.stream.ahead = []))) ?_ ?_
  · repeat' (first | apply And.intro | intro _ | simp (disch := first | omega | assumption | exact ⟨by first | assumption | omega, by first | assumption | omega⟩ | (simp only [List.length_cons, List.length_nil]; omega)) only [↓S0, ↓ITE_bool, S1, eq_self, if_true, if_false, true_implies, false_implies, implies_true])
    all_goals simp_all
  repeat' (first | apply And.intro | intro _ | simp (disch := first | omega | assumption | exact ⟨by first | assumption | omega, by first | assumption | omega⟩ | (simp only [List.length_cons, List.length_nil]; omega)) only [↓S0, ↓ITE_bool, S1, eq_self, if_true, if_false, true_implies, false_implies, implies_true])
  all_goals (rw [← hE]; clear hE)
  all_goals (simp_all [Topic.eq_iff, Stream.eq_iff, topic0, rng])
  all_goals (intros; first | omega | (simp_all; done) | (simp_all; omega) | trace_state)
theorem w_world_down (c : Config) (n : Node) (hp : cfgOk c = true) (hg : Goods [I c.nodes, I c.topics, I c.kids, I c.depth, I c.keep, I c.window, I c.queue, bb n.up, I n.inc, L n.peers, L n.topics, L n.calls, I n.pubs, I n.asks, L n.marks, L n.taken]) : S_world_down ρ (I c.nodes) (I c.topics) (I c.kids) (I c.depth) (I c.keep) (I c.window) (I c.queue) (bb n.up) (I n.inc) (L n.peers) (L n.topics) (L n.calls) (I n.pubs) (I n.asks) (L n.marks) (L n.taken) (· = [bb (downOk c n)]) := by
  unfold S_world_down
  simp only [Goods, good_L, good_I] at hg
  have hb := cfg_bd hp
  generalize hE : downOk c n = q
  have e01 : ¬ (0 : Int) ≤ -1 := by decide
  have dn1 : (decide ((n.peers.length : Int) = c.nodes) && decide ((n.topics.length : Int) = c.topics) && decide ((n.marks.length : Int) = c.nodes) && decide (n.calls = []) && decide (n.taken = []) && decide (n.pubs = 0) && decide (n.asks = 0)) =
    ((decide ((n.peers.length : Int) = c.nodes) && decide ((n.topics.length : Int) = c.topics) && decide ((n.marks.length : Int) = c.nodes)) && (decide (n.calls = []) && decide (n.taken = []) && decide (n.pubs = 0) && decide (n.asks = 0))) := by simp [Bool.and_assoc]
  unfold downOk at hE
  refine SUB.v1 (bb (decide ((n.peers.length : Int) = c.nodes) && decide ((n.topics.length : Int) = c.topics) && decide ((n.marks.length : Int) = c.nodes))) ?_ ?_
  · repeat' (first | apply And.intro | intro _ | simp (disch := first | omega | assumption | exact ⟨by first | assumption | omega, by first | assumption | omega⟩ | (simp only [List.length_cons, List.length_nil]; omega)) only [↓S0, ↓ITE_bool, S1, eq_self, if_true, if_false, true_implies, false_implies, implies_true, ↓c_world_bare, ↓c_msg_Counted])
    all_goals simp_all
  refine SUB.v1 (bb (decide (n.calls = []) && decide (n.taken = []) && decide (n.pubs = 0) && decide (n.asks = 0))) ?_ ?_
  · repeat' (first | apply And.intro | intro _ | simp (disch := first | omega | assumption | exact ⟨by first | assumption | omega, by first | assumption | omega⟩ | (simp only [List.length_cons, List.length_nil]; omega)) only [↓S0, ↓ITE_bool, S1, eq_self, if_true, if_false, true_implies, false_implies, implies_true, ↓c_world_bare, ↓c_msg_Counted])
    all_goals simp_all
  simp (disch := first | omega | assumption | exact ⟨by first | assumption | omega, by first | assumption | omega⟩ | (simp only [List.length_cons, List.length_nil]; omega)) only [↓S0, ↓ITE_bool, S1, eq_self, if_true, if_false, true_implies, false_implies, implies_true, ↓c_world_bare, ↓c_msg_Counted]
  refine LOOP.rule (α := Nat) (fun i0 => [I i0]) (fun i0 => i0 ≤ n.peers.length ∧ (n.peers.drop i0).all (fun p => decide (p = ⟨0, 0⟩)) = n.peers.all (fun p => decide (p = ⟨0, 0⟩))) (fun i0 => n.peers.length - i0) 0 rfl ⟨by omega, by simp⟩ (fun _ => rfl) ?_
  rintro i0 ⟨hl_i0, hs_i0⟩
  simp only [app]
  simp (disch := first | omega | assumption | exact ⟨by first | assumption | omega, by first | assumption | omega⟩ | (simp only [List.length_cons, List.length_nil]; omega)) only [↓S0, ↓ITE_bool, S1, eq_self, if_true, if_false, true_implies, false_implies, implies_true, ↓c_world_bare, ↓c_msg_Counted]
  refine ⟨fun hc_i0 => ?_, fun hc_i0 => ?_⟩
  · obtain ⟨x0, hx0⟩ := get_ex hc_i0
    rw [drop_eq hx0, List.all_cons] at hs_i0
    simp (disch := first | omega | assumption | exact ⟨by first | assumption | omega, by first | assumption | omega⟩ | (simp only [List.length_cons, List.length_nil]; omega)) only [↓S0, ↓ITE_bool, S1, eq_self, if_true, if_false, true_implies, false_implies, implies_true, ↓c_world_bare, ↓c_msg_Counted, cell_L hx0, Peer.deq0]
    refine ⟨fun h3 => ?_, fun h3 => ⟨i0 + 1, rfl, ⟨by omega, by rw [← hs_i0]; simp [h3]⟩, by omega⟩⟩
    have hF0 : n.peers.all (fun p => decide (p = ⟨0, 0⟩)) = false := by rw [← hs_i0]; simp [h3]
    clear hs_i0
    refine LOOP.rule (α := Nat) (fun i1 => [I i1]) (fun i1 => i1 ≤ n.marks.length ∧ (n.marks.drop i1).all (fun m => decide (m = ⟨0, 0, 0⟩)) = n.marks.all (fun m => decide (m = ⟨0, 0, 0⟩))) (fun i1 => n.marks.length - i1) 0 rfl ⟨by omega, by simp⟩ (fun _ => rfl) ?_
    rintro i1 ⟨hl_i1, hs_i1⟩
    simp only [app]
    simp (disch := first | omega | assumption | exact ⟨by first | assumption | omega, by first | assumption | omega⟩ | (simp only [List.length_cons, List.length_nil]; omega)) only [↓S0, ↓ITE_bool, S1, eq_self, if_true, if_false, true_implies, false_implies, implies_true, ↓c_world_bare, ↓c_msg_Counted]
    refine ⟨fun hc_i1 => ?_, fun hc_i1 => ?_⟩
    · obtain ⟨x1, hx1⟩ := get_ex hc_i1
      rw [drop_eq hx1, List.all_cons] at hs_i1
      simp (disch := first | omega | assumption | exact ⟨by first | assumption | omega, by first | assumption | omega⟩ | (simp only [List.length_cons, List.length_nil]; omega)) only [↓S0, ↓ITE_bool, S1, eq_self, if_true, if_false, true_implies, false_implies, implies_true, ↓c_world_bare, ↓c_msg_Counted, cell_L hx1, Mark.deq0]
      refine ⟨fun h3 => ?_, fun h3 => ⟨i1 + 1, rfl, ⟨by omega, by rw [← hs_i1]; simp [h3]⟩, by omega⟩⟩
      have hF1 : n.marks.all (fun m => decide (m = ⟨0, 0, 0⟩)) = false := by rw [← hs_i1]; simp [h3]
      clear hs_i1
      refine LOOP.rule (α := Nat) (fun i2 => [I i2]) (fun i2 => i2 ≤ n.topics.length ∧ (n.topics.drop i2).all topZ = n.topics.all topZ) (fun i2 => n.topics.length - i2) 0 rfl ⟨by omega, by simp⟩ (fun _ => rfl) ?_
      rintro i2 ⟨hl_i2, hs_i2⟩
      simp only [app]
      simp (disch := first | omega | assumption | exact ⟨by first | assumption | omega, by first | assumption | omega⟩ | (simp only [List.length_cons, List.length_nil]; omega)) only [↓S0, ↓ITE_bool, S1, eq_self, if_true, if_false, true_implies, false_implies, implies_true, ↓c_world_bare, ↓c_msg_Counted]
      refine ⟨fun hc_i2 => ?_, fun hc_i2 => ?_⟩
      · obtain ⟨x2, hx2⟩ := get_ex hc_i2
        rw [drop_eq hx2, List.all_cons] at hs_i2
        simp (disch := first | omega | assumption | exact ⟨by first | assumption | omega, by first | assumption | omega⟩ | (simp only [List.length_cons, List.length_nil]; omega)) only [↓S0, ↓ITE_bool, S1, eq_self, if_true, if_false, true_implies, false_implies, implies_true, ↓c_world_bare, ↓c_msg_Counted, cell_L hx2]
        refine ⟨fun h3 => ?_, fun h3 => ⟨i2 + 1, rfl, ⟨by omega, by rw [← hs_i2]; simp [h3]⟩, by omega⟩⟩
        have hF2 : n.topics.all topZ = false := by rw [← hs_i2]; simp [h3]
        clear hs_i2
        cases hq1 : (decide ((n.peers.length : Int) = c.nodes) && decide ((n.topics.length : Int) = c.topics) && decide ((n.marks.length : Int) = c.nodes)) <;> cases hq2 : (decide (n.calls = []) && decide (n.taken = []) && decide (n.pubs = 0) && decide (n.asks = 0))
        all_goals (try (simp (disch := first | omega | assumption | exact ⟨by first | assumption | omega, by first | assumption | omega⟩ | (simp only [List.length_cons, List.length_nil]; omega)) only [↓S0, ↓ITE_bool, S1, eq_self, if_true, if_false, true_implies, false_implies, implies_true, ↓c_world_bare, ↓c_msg_Counted, hq1, hq2, Int.natCast_nonneg, e01]))
        all_goals (rw [← hE, hF0, hF1, hF2, dn1, hq1, hq2])
        all_goals simp
      · rw [drop_nil hc_i2] at hs_i2
        have hF2 : n.topics.all topZ = true := by rw [← hs_i2]; rfl
        clear hs_i2
        cases hq1 : (decide ((n.peers.length : Int) = c.nodes) && decide ((n.topics.length : Int) = c.topics) && decide ((n.marks.length : Int) = c.nodes)) <;> cases hq2 : (decide (n.calls = []) && decide (n.taken = []) && decide (n.pubs = 0) && decide (n.asks = 0))
        all_goals (try (simp (disch := first | omega | assumption | exact ⟨by first | assumption | omega, by first | assumption | omega⟩ | (simp only [List.length_cons, List.length_nil]; omega)) only [↓S0, ↓ITE_bool, S1, eq_self, if_true, if_false, true_implies, false_implies, implies_true, ↓c_world_bare, ↓c_msg_Counted, hq1, hq2, Int.natCast_nonneg, e01]))
        all_goals (rw [← hE, hF0, hF1, hF2, dn1, hq1, hq2])
        all_goals simp
    · rw [drop_nil hc_i1] at hs_i1
      have hF1 : n.marks.all (fun m => decide (m = ⟨0, 0, 0⟩)) = true := by rw [← hs_i1]; rfl
      clear hs_i1
      refine LOOP.rule (α := Nat) (fun i2 => [I i2]) (fun i2 => i2 ≤ n.topics.length ∧ (n.topics.drop i2).all topZ = n.topics.all topZ) (fun i2 => n.topics.length - i2) 0 rfl ⟨by omega, by simp⟩ (fun _ => rfl) ?_
      rintro i2 ⟨hl_i2, hs_i2⟩
      simp only [app]
      simp (disch := first | omega | assumption | exact ⟨by first | assumption | omega, by first | assumption | omega⟩ | (simp only [List.length_cons, List.length_nil]; omega)) only [↓S0, ↓ITE_bool, S1, eq_self, if_true, if_false, true_implies, false_implies, implies_true, ↓c_world_bare, ↓c_msg_Counted]
      refine ⟨fun hc_i2 => ?_, fun hc_i2 => ?_⟩
      · obtain ⟨x2, hx2⟩ := get_ex hc_i2
        rw [drop_eq hx2, List.all_cons] at hs_i2
        simp (disch := first | omega | assumption | exact ⟨by first | assumption | omega, by first | assumption | omega⟩ | (simp only [List.length_cons, List.length_nil]; omega)) only [↓S0, ↓ITE_bool, S1, eq_self, if_true, if_false, true_implies, false_implies, implies_true, ↓c_world_bare, ↓c_msg_Counted, cell_L hx2]
        refine ⟨fun h3 => ?_, fun h3 => ⟨i2 + 1, rfl, ⟨by omega, by rw [← hs_i2]; simp [h3]⟩, by omega⟩⟩
        have hF2 : n.topics.all topZ = false := by rw [← hs_i2]; simp [h3]
        clear hs_i2
        cases hq1 : (decide ((n.peers.length : Int) = c.nodes) && decide ((n.topics.length : Int) = c.topics) && decide ((n.marks.length : Int) = c.nodes)) <;> cases hq2 : (decide (n.calls = []) && decide (n.taken = []) && decide (n.pubs = 0) && decide (n.asks = 0))
        all_goals (try (simp (disch := first | omega | assumption | exact ⟨by first | assumption | omega, by first | assumption | omega⟩ | (simp only [List.length_cons, List.length_nil]; omega)) only [↓S0, ↓ITE_bool, S1, eq_self, if_true, if_false, true_implies, false_implies, implies_true, ↓c_world_bare, ↓c_msg_Counted, hq1, hq2, Int.natCast_nonneg, e01]))
        all_goals (rw [← hE, hF0, hF1, hF2, dn1, hq1, hq2])
        all_goals simp
      · rw [drop_nil hc_i2] at hs_i2
        have hF2 : n.topics.all topZ = true := by rw [← hs_i2]; rfl
        clear hs_i2
        cases hq1 : (decide ((n.peers.length : Int) = c.nodes) && decide ((n.topics.length : Int) = c.topics) && decide ((n.marks.length : Int) = c.nodes)) <;> cases hq2 : (decide (n.calls = []) && decide (n.taken = []) && decide (n.pubs = 0) && decide (n.asks = 0))
        all_goals (try (simp (disch := first | omega | assumption | exact ⟨by first | assumption | omega, by first | assumption | omega⟩ | (simp only [List.length_cons, List.length_nil]; omega)) only [↓S0, ↓ITE_bool, S1, eq_self, if_true, if_false, true_implies, false_implies, implies_true, ↓c_world_bare, ↓c_msg_Counted, hq1, hq2, Int.natCast_nonneg, e01]))
        all_goals (rw [← hE, hF0, hF1, hF2, dn1, hq1, hq2])
        all_goals simp
  · rw [drop_nil hc_i0] at hs_i0
    have hF0 : n.peers.all (fun p => decide (p = ⟨0, 0⟩)) = true := by rw [← hs_i0]; rfl
    clear hs_i0
    refine LOOP.rule (α := Nat) (fun i1 => [I i1]) (fun i1 => i1 ≤ n.marks.length ∧ (n.marks.drop i1).all (fun m => decide (m = ⟨0, 0, 0⟩)) = n.marks.all (fun m => decide (m = ⟨0, 0, 0⟩))) (fun i1 => n.marks.length - i1) 0 rfl ⟨by omega, by simp⟩ (fun _ => rfl) ?_
    rintro i1 ⟨hl_i1, hs_i1⟩
    simp only [app]
    simp (disch := first | omega | assumption | exact ⟨by first | assumption | omega, by first | assumption | omega⟩ | (simp only [List.length_cons, List.length_nil]; omega)) only [↓S0, ↓ITE_bool, S1, eq_self, if_true, if_false, true_implies, false_implies, implies_true, ↓c_world_bare, ↓c_msg_Counted]
    refine ⟨fun hc_i1 => ?_, fun hc_i1 => ?_⟩
    · obtain ⟨x1, hx1⟩ := get_ex hc_i1
      rw [drop_eq hx1, List.all_cons] at hs_i1
      simp (disch := first | omega | assumption | exact ⟨by first | assumption | omega, by first | assumption | omega⟩ | (simp only [List.length_cons, List.length_nil]; omega)) only [↓S0, ↓ITE_bool, S1, eq_self, if_true, if_false, true_implies, false_implies, implies_true, ↓c_world_bare, ↓c_msg_Counted, cell_L hx1, Mark.deq0]
      refine ⟨fun h3 => ?_, fun h3 => ⟨i1 + 1, rfl, ⟨by omega, by rw [← hs_i1]; simp [h3]⟩, by omega⟩⟩
      have hF1 : n.marks.all (fun m => decide (m = ⟨0, 0, 0⟩)) = false := by rw [← hs_i1]; simp [h3]
      clear hs_i1
      refine LOOP.rule (α := Nat) (fun i2 => [I i2]) (fun i2 => i2 ≤ n.topics.length ∧ (n.topics.drop i2).all topZ = n.topics.all topZ) (fun i2 => n.topics.length - i2) 0 rfl ⟨by omega, by simp⟩ (fun _ => rfl) ?_
      rintro i2 ⟨hl_i2, hs_i2⟩
      simp only [app]
      simp (disch := first | omega | assumption | exact ⟨by first | assumption | omega, by first | assumption | omega⟩ | (simp only [List.length_cons, List.length_nil]; omega)) only [↓S0, ↓ITE_bool, S1, eq_self, if_true, if_false, true_implies, false_implies, implies_true, ↓c_world_bare, ↓c_msg_Counted]
      refine ⟨fun hc_i2 => ?_, fun hc_i2 => ?_⟩
      · obtain ⟨x2, hx2⟩ := get_ex hc_i2
        rw [drop_eq hx2, List.all_cons] at hs_i2
        simp (disch := first | omega | assumption | exact ⟨by first | assumption | omega, by first | assumption | omega⟩ | (simp only [List.length_cons, List.length_nil]; omega)) only [↓S0, ↓ITE_bool, S1, eq_self, if_true, if_false, true_implies, false_implies, implies_true, ↓c_world_bare, ↓c_msg_Counted, cell_L hx2]
        refine ⟨fun h3 => ?_, fun h3 => ⟨i2 + 1, rfl, ⟨by omega, by rw [← hs_i2]; simp [h3]⟩, by omega⟩⟩
        have hF2 : n.topics.all topZ = false := by rw [← hs_i2]; simp [h3]
        clear hs_i2
        cases hq1 : (decide ((n.peers.length : Int) = c.nodes) && decide ((n.topics.length : Int) = c.topics) && decide ((n.marks.length : Int) = c.nodes)) <;> cases hq2 : (decide (n.calls = []) && decide (n.taken = []) && decide (n.pubs = 0) && decide (n.asks = 0))
        all_goals (try (simp (disch := first | omega | assumption | exact ⟨by first | assumption | omega, by first | assumption | omega⟩ | (simp only [List.length_cons, List.length_nil]; omega)) only [↓S0, ↓ITE_bool, S1, eq_self, if_true, if_false, true_implies, false_implies, implies_true, ↓c_world_bare, ↓c_msg_Counted, hq1, hq2, Int.natCast_nonneg, e01]))
        all_goals (rw [← hE, hF0, hF1, hF2, dn1, hq1, hq2])
        all_goals simp
      · rw [drop_nil hc_i2] at hs_i2
        have hF2 : n.topics.all topZ = true := by rw [← hs_i2]; rfl
        clear hs_i2
        cases hq1 : (decide ((n.peers.length : Int) = c.nodes) && decide ((n.topics.length : Int) = c.topics) && decide ((n.marks.length : Int) = c.nodes)) <;> cases hq2 : (decide (n.calls = []) && decide (n.taken = []) && decide (n.pubs = 0) && decide (n.asks = 0))
        all_goals (try (simp (disch := first | omega | assumption | exact ⟨by first | assumption | omega, by first | assumption | omega⟩ | (simp only [List.length_cons, List.length_nil]; omega)) only [↓S0, ↓ITE_bool, S1, eq_self, if_true, if_false, true_implies, false_implies, implies_true, ↓c_world_bare, ↓c_msg_Counted, hq1, hq2, Int.natCast_nonneg, e01]))
        all_goals (rw [← hE, hF0, hF1, hF2, dn1, hq1, hq2])
        all_goals simp
    · rw [drop_nil hc_i1] at hs_i1
      have hF1 : n.marks.all (fun m => decide (m = ⟨0, 0, 0⟩)) = true := by rw [← hs_i1]; rfl
      clear hs_i1
      refine LOOP.rule (α := Nat) (fun i2 => [I i2]) (fun i2 => i2 ≤ n.topics.length ∧ (n.topics.drop i2).all topZ = n.topics.all topZ) (fun i2 => n.topics.length - i2) 0 rfl ⟨by omega, by simp⟩ (fun _ => rfl) ?_
      rintro i2 ⟨hl_i2, hs_i2⟩
      simp only [app]
      simp (disch := first | omega | assumption | exact ⟨by first | assumption | omega, by first | assumption | omega⟩ | (simp only [List.length_cons, List.length_nil]; omega)) only [↓S0, ↓ITE_bool, S1, eq_self, if_true, if_false, true_implies, false_implies, implies_true, ↓c_world_bare, ↓c_msg_Counted]
      refine ⟨fun hc_i2 => ?_, fun hc_i2 => ?_⟩
      · obtain ⟨x2, hx2⟩ := get_ex hc_i2
        rw [drop_eq hx2, List.all_cons] at hs_i2
        simp (disch := first | omega | assumption | exact ⟨by first | assumption | omega, by first | assumption | omega⟩ | (simp only [List.length_cons, List.length_nil]; omega)) only [↓S0, ↓ITE_bool, S1, eq_self, if_true, if_false, true_implies, false_implies, implies_true, ↓c_world_bare, ↓c_msg_Counted, cell_L hx2]
        refine ⟨fun h3 => ?_, fun h3 => ⟨i2 + 1, rfl, ⟨by omega, by rw [← hs_i2]; simp [h3]⟩, by omega⟩⟩
        have hF2 : n.topics.all topZ = false := by rw [← hs_i2]; simp [h3]
        clear hs_i2
        cases hq1 : (decide ((n.peers.length : Int) = c.nodes) && decide ((n.topics.length : Int) = c.topics) && decide ((n.marks.length : Int) = c.nodes)) <;> cases hq2 : (decide (n.calls = []) && decide (n.taken = []) && decide (n.pubs = 0) && decide (n.asks = 0))
        all_goals (try (simp (disch := first | omega | assumption | exact ⟨by first | assumption | omega, by first | assumption | omega⟩ | (simp only [List.length_cons, List.length_nil]; omega)) only [↓S0, ↓ITE_bool, S1, eq_self, if_true, if_false, true_implies, false_implies, implies_true, ↓c_world_bare, ↓c_msg_Counted, hq1, hq2, Int.natCast_nonneg, e01]))
        all_goals (rw [← hE, hF0, hF1, hF2, dn1, hq1, hq2])
        all_goals simp
      · rw [drop_nil hc_i2] at hs_i2
        have hF2 : n.topics.all topZ = true := by rw [← hs_i2]; rfl
        clear hs_i2
        cases hq1 : (decide ((n.peers.length : Int) = c.nodes) && decide ((n.topics.length : Int) = c.topics) && decide ((n.marks.length : Int) = c.nodes)) <;> cases hq2 : (decide (n.calls = []) && decide (n.taken = []) && decide (n.pubs = 0) && decide (n.asks = 0))
        all_goals (try (simp (disch := first | omega | assumption | exact ⟨by first | assumption | omega, by first | assumption | omega⟩ | (simp only [List.length_cons, List.length_nil]; omega)) only [↓S0, ↓ITE_bool, S1, eq_self, if_true, if_false, true_implies, false_implies, implies_true, ↓c_world_bare, ↓c_msg_Counted, hq1, hq2, Int.natCast_nonneg, e01]))
        all_goals (rw [← hE, hF0, hF1, hF2, dn1, hq1, hq2])
        all_goals simp
end Go.Xt
end
section
set_option linter.unusedSimpArgs false
set_option linter.unusedVariables false
set_option maxRecDepth 100000
namespace Go.Xt
/-! ### a node that is blank -/
def topsN (k : Nat) (old : List Topic) (i : Nat) : List Topic := (List.range k).map fun j => { topic0 with top := if j < i then (old.getD j topic0).top else 0 }
theorem topsN_len {k i : Nat} {old : List Topic} : (topsN k old i).length = k := by simp [topsN]
theorem topsN_get {k i j : Nat} {old : List Topic} (h : j < k) : (topsN k old i)[j]? = some { topic0 with top := if j < i then (old.getD j topic0).top else 0 } := by simp [topsN, h]
theorem topsN_zero (k : Nat) (old : List Topic) : topsN k old 0 = List.replicate k topic0 := by
  refine List.ext_getElem? fun j => ?_
  by_cases h : j < k
  · rw [topsN_get h]; simp [h, topic0]
  · simp [topsN, h]
theorem topsN_set {k i : Nat} {old : List Topic} (h : i < k) : (topsN k old i).set i { topic0 with top := (old.getD i topic0).top } = topsN k old (i + 1) := by
  refine List.ext_getElem? fun j => ?_
  rw [List.getElem?_set]
  by_cases e : i = j
  · subst e
    rw [if_pos rfl, topsN_len, if_pos h, topsN_get h]; simp
  · rw [if_neg e]
    by_cases hj : j < k
    · rw [topsN_get hj, topsN_get hj]
      by_cases h1 : j < i
      · rw [if_pos h1, if_pos (by omega)]
      · rw [if_neg h1, if_neg (by omega)]
    · simp [topsN, hj]
theorem topsN_end {k i : Nat} {old : List Topic} (h : old.length ≤ i ∨ k ≤ i) : topsN k old i = (List.range k).map fun j => { topic0 with top := (old.getD j topic0).top } := by
  unfold topsN
  refine List.map_congr_left fun j hj => ?_
  rw [List.mem_range] at hj
  by_cases h1 : j < i
  · rw [if_pos h1]
  · rw [if_neg h1]
    have : old.getD j topic0 = topic0 := by
      rw [List.getD_eq_getElem?_getD, List.getElem?_eq_none (by omega)]; rfl
    rw [this]; rfl
theorem set_top {x : Topic} {v : Int} : (Row.row x).set 2 (I v) = Row.row { x with top := v } := rfl
theorem w_world_up (n : Node) : S_world_up ρ (bb n.up) (I n.inc) (L n.peers) (L n.topics) (L n.calls) (I n.pubs) (I n.asks) (L n.marks) (L n.taken) (· = [bb true, I n.inc, L n.peers, L n.topics, L n.calls, I n.pubs, I n.asks, L n.marks, L n.taken]) := by
  unfold S_world_up
  rfl
theorem w_world_blank (c : Config) (inc : Int) (old : List Topic) (hp : cfgOk c = true ∧ old.length ≤ c.topics) (hg : Goods [I c.nodes, I c.topics, I c.kids, I c.depth, I c.keep, I c.window, I c.queue, I inc, L old]) : S_world_blank ρ (I c.nodes) (I c.topics) (I c.kids) (I c.depth) (I c.keep) (I c.window) (I c.queue) (I inc) (L old) (· = [bb false, I inc, L (blankN c inc old).peers, L (blankN c inc old).topics, L (blankN c inc old).calls, I 0, I 0, L (blankN c inc old).marks, L (blankN c inc old).taken]) := by
  unfold S_world_blank
  obtain ⟨hc, ho⟩ := hp
  have hb := cfg_bd hc
  refine SUB.v3 (L (List.replicate c.nodes.toNat (⟨0, 0, 0⟩ : Mark))) (L (List.replicate c.topics.toNat topic0)) (L (List.replicate c.nodes.toNat (⟨0, 0⟩ : Peer))) ?_ ?_
  · simp (disch := first | omega | assumption | exact ⟨by first | assumption | omega, by first | assumption | omega⟩ | (simp only [List.length_cons, List.length_nil]; omega)) only [↓S0, ↓ITE_bool, S1, eq_self, if_true, if_false, true_implies, false_implies, implies_true]
  simp (disch := first | omega | assumption | exact ⟨by first | assumption | omega, by first | assumption | omega⟩ | (simp only [List.length_cons, List.length_nil]; omega)) only [↓S0, ↓ITE_bool, S1, eq_self, if_true, if_false, true_implies, false_implies, implies_true]
  refine LOOP.rule (α := Nat) (fun i => [I i, L (topsN c.topics.toNat old i)]) (fun i => i ≤ old.length) (fun i => old.length - i) 0 (by rw [topsN_zero]; rfl) (by omega) (fun _ => rfl) ?_
  intro i hl
  simp only [app]
  simp (disch := first | omega | assumption | exact ⟨by first | assumption | omega, by first | assumption | omega⟩ | (simp only [List.length_cons, List.length_nil]; omega)) only [↓S0, ↓ITE_bool, S1, eq_self, if_true, if_false, true_implies, false_implies, implies_true, topsN_len]
  refine ⟨fun h => ?_, fun h => ?_⟩
  · obtain ⟨x, hx⟩ := get_ex h
    have hik : i < c.topics.toNat := by omega
    have ht := topsN_get (old := old) (i := i) hik
    simp (disch := first | omega | assumption | exact ⟨by first | assumption | omega, by first | assumption | omega⟩ | (simp only [List.length_cons, List.length_nil]; omega)) only [↓S0, ↓ITE_bool, S1, eq_self, if_true, if_false, true_implies, false_implies, implies_true, cell_L hx, topsN_len]
    rw [OP_idx (by omega) (by rw [topsN_len]; omega)]
    rw [OP_set ht set_top]
    simp (disch := first | omega | assumption | exact ⟨by first | assumption | omega, by first | assumption | omega⟩ | (simp only [List.length_cons, List.length_nil]; omega)) only [↓S0, ↓ITE_bool, S1, eq_self, if_true, if_false, true_implies, false_implies, implies_true]
    refine ⟨i + 1, ?_, by omega, by omega⟩
    have e : (old.getD i topic0).top = x.top := by rw [List.getD_eq_getElem?_getD, hx]; rfl
    rw [← topsN_set hik, e]; simp
  · rw [topsN_end (.inl (by omega))]
    rfl
theorem w_ref19_down (c : Config) (n : Node) (hp : cfgOk c = true ∧ c.topics ≤ n.topics.length) (hg : Goods [I c.nodes, I c.topics, I c.kids, I c.depth, I c.keep, I c.window, I c.queue, bb n.up, I n.inc, L n.peers, L n.topics, L n.calls, I n.pubs, I n.asks, L n.marks, L n.taken]) : S_ref19_down ρ (I c.nodes) (I c.topics) (I c.kids) (I c.depth) (I c.keep) (I c.window) (I c.queue) (bb n.up) (I n.inc) (L n.peers) (L n.topics) (L n.calls) (I n.pubs) (I n.asks) (L n.marks) (L n.taken) (· = [bb false, I n.inc, L (blankN c n.inc n.topics).peers, L (blankN c n.inc n.topics).topics, L (blankN c n.inc n.topics).calls, I 0, I 0, L (blankN c n.inc n.topics).marks, L (blankN c n.inc n.topics).taken]) := by
  unfold S_ref19_down
  obtain ⟨hc, ho⟩ := hp
  have hb := cfg_bd hc
  refine SUB.v3 (L (List.replicate c.nodes.toNat (⟨0, 0, 0⟩ : Mark))) (L (List.replicate c.topics.toNat topic0)) (L (List.replicate c.nodes.toNat (⟨0, 0⟩ : Peer))) ?_ ?_
  · simp (disch := first | omega | assumption | exact ⟨by first | assumption | omega, by first | assumption | omega⟩ | (simp only [List.length_cons, List.length_nil]; omega)) only [↓S0, ↓ITE_bool, S1, eq_self, if_true, if_false, true_implies, false_implies, implies_true]
  refine LOOP.rule (α := Nat) (fun i => [I i, L (topsN c.topics.toNat n.topics i)]) (fun i => (i : Int) ≤ c.topics) (fun i => c.topics.toNat - i) 0 (by rw [topsN_zero]; rfl) (by omega) (fun _ => rfl) ?_
  intro i hl
  simp only [app]
  simp (disch := first | omega | assumption | exact ⟨by first | assumption | omega, by first | assumption | omega⟩ | (simp only [List.length_cons, List.length_nil]; omega)) only [↓S0, ↓ITE_bool, S1, eq_self, if_true, if_false, true_implies, false_implies, implies_true, topsN_len]
  refine ⟨fun h => ?_, fun h => ?_⟩
  · obtain ⟨x, hx⟩ := get_ex (xs := n.topics) (i := i) (by omega)
    have hik : i < c.topics.toNat := by omega
    rw [OP_idx (by omega) (by omega)]
    rw [OP_idx (by omega) (by rw [topsN_len]; omega)]
    simp (disch := first | omega | assumption | exact ⟨by first | assumption | omega, by first | assumption | omega⟩ | (simp only [List.length_cons, List.length_nil]; omega)) only [↓S0, ↓ITE_bool, S1, eq_self, if_true, if_false, true_implies, false_implies, implies_true, cell_L hx]
    rw [OP_set (topsN_get hik) set_top]
    simp (disch := first | omega | assumption | exact ⟨by first | assumption | omega, by first | assumption | omega⟩ | (simp only [List.length_cons, List.length_nil]; omega)) only [↓S0, ↓ITE_bool, S1, eq_self, if_true, if_false, true_implies, false_implies, implies_true]
    refine ⟨i + 1, ?_, by omega, by omega⟩
    have e : (n.topics.getD i topic0).top = x.top := by rw [List.getD_eq_getElem?_getD, hx]; rfl
    rw [← topsN_set hik, e]; simp
  · rw [topsN_end (.inr (by omega))]
    rfl
theorem blank_nil (c : Config) : (blankN c 1 []).topics = List.replicate c.topics.toNat topic0 := by
  show (List.range c.topics.toNat).map _ = _
  rw [← topsN_zero _ []]
  unfold topsN
  rfl
theorem w_world_New (c : Config) : S_world_New ρ (I c.nodes) (I c.topics) (I c.kids) (I c.depth) (I c.keep) (I c.window) (I c.queue) (· = [L (if cfgOk c = true then newW c else ⟨[], []⟩).nodes, L (if cfgOk c = true then newW c else ⟨[], []⟩).bag, I (if cfgOk c = true then 0 else 13)]) := by
  unfold S_world_New
  cases hc : cfgOk c
  · simp (disch := first | omega | assumption | exact ⟨by first | assumption | omega, by first | assumption | omega⟩ | (simp only [List.length_cons, List.length_nil]; omega)) only [↓S0, ↓ITE_bool, S1, eq_self, if_true, if_false, true_implies, false_implies, implies_true, ↓c_script_Config, ↓c_world_up, ↓c_world_blank, hc]
    exact ⟨fun _ => rfl, fun h => absurd h (by decide)⟩
  have hb := cfg_bd hc
  simp (disch := first | omega | assumption | exact ⟨by first | assumption | omega, by first | assumption | omega⟩ | (simp only [List.length_cons, List.length_nil]; omega)) only [↓S0, ↓ITE_bool, S1, eq_self, if_true, if_false, true_implies, false_implies, implies_true, ↓c_script_Config, ↓c_world_up, ↓c_world_blank, hc]
  refine LOOP.rule (α := Nat) (fun i => [I i, L (List.replicate i (freshN c))]) (fun i => (i : Int) ≤ c.nodes) (fun i => c.nodes.toNat - i) 0 rfl (by omega) (fun _ => rfl) ?_
  intro i hl
  simp only [app]
  simp (disch := first | omega | assumption | exact ⟨by first | assumption | omega, by first | assumption | omega⟩ | (simp only [List.length_cons, List.length_nil]; omega)) only [↓S0, ↓ITE_bool, S1, eq_self, if_true, if_false, true_implies, false_implies, implies_true, ↓c_script_Config, ↓c_world_up, ↓c_world_blank]
  refine ⟨fun h => ?_, fun h => ?_⟩
  · rw [show (L [] : PV) = L ([] : List Topic) from rfl]
    have h0 : (([] : List Topic).length : Int) ≤ c.topics := by simp; omega
    simp (disch := first | omega | assumption | exact ⟨by first | assumption | omega, by first | assumption | omega⟩ | (simp only [List.length_cons, List.length_nil]; omega)) only [↓S0, ↓ITE_bool, S1, eq_self, if_true, if_false, true_implies, false_implies, implies_true, ↓c_script_Config, ↓c_world_up, ↓c_world_blank]
    rw [show ({ up := true, inc := 1, peers := (blankN c 1 []).peers, topics := (blankN c 1 []).topics, calls := (blankN c 1 []).calls, pubs := 0, asks := 0, marks := (blankN c 1 []).marks, taken := (blankN c 1 []).taken } : Node) = freshN c from by rw [blank_nil]; rfl]
    rw [OP_app (by simp; omega)]
    refine ⟨i + 1, ?_, by omega, by omega⟩
    rw [List.replicate_succ']; rfl
  · have : c.nodes.toNat = i := by omega
    simp [newW, this]
    rfl
end Go.Xt
end
