/- Steps towards the statements of this seat; the conditions stand in each theorem. -/
import Derived.Test.YtbahjmohodgadaaGreatDoorRho
import Derived.Test.YtbahjmohodgadaaGreatDoorT
section
set_option linter.unusedSimpArgs false
set_option linter.unusedVariables false
set_option maxRecDepth 100000
namespace Go.Xt
theorem nn_bd (v : Int) : 0 ≤ nn v ∧ nn v < 4611686018427387904 := by
  unfold nn NN
  match v.toNat with
  | 0 => simp | 1 => simp | 2 => simp | 3 => simp | 4 => simp | 5 => simp | 6 => simp | 7 => simp
  | n + 8 => simp
theorem tt_bd (v : Int) : 0 ≤ tt v ∧ tt v < 4611686018427387904 := by
  unfold tt TT
  match v.toNat with
  | 0 => simp | 1 => simp | 2 => simp | 3 => simp
  | n + 4 => simp
theorem isN_iff {v : Int} : isN v = true ↔ 0 ≤ v ∧ v < 8 := by simp [isN]
theorem isT_iff {v : Int} : isT v = true ↔ 0 ≤ v ∧ v < 4 := by simp [isT]
theorem OP_nn {v : Int} {k : PV → Prop} (h0 : 0 ≤ v) (h1 : v < 8) : OP .pickA [I v, I 2342812313538366385, I 1863050908023769503, I 81111313352671826, I 2434324899588211290, I 2454816673080883147, I 1342378062264523301, I 820659310660760249, I 2006264061484817761] k = k (I (nn v)) := by
  obtain ⟨n, rfl⟩ := Int.eq_ofNat_of_zero_le h0
  have : n < 8 := by omega
  match n with
  | 0 => exact OP_of rfl | 1 => exact OP_of rfl | 2 => exact OP_of rfl | 3 => exact OP_of rfl | 4 => exact OP_of rfl | 5 => exact OP_of rfl | 6 => exact OP_of rfl | 7 => exact OP_of rfl
  | n + 8 => omega
theorem OP_tt {v : Int} {k : PV → Prop} (h0 : 0 ≤ v) (h1 : v < 4) : OP .pickA [I v, I 1462484242049070477, I 1775212608919665246, I 3535639072113518480, I 3725500155902745375] k = k (I (tt v)) := by
  obtain ⟨n, rfl⟩ := Int.eq_ofNat_of_zero_le h0
  have : n < 4 := by omega
  match n with
  | 0 => exact OP_of rfl | 1 => exact OP_of rfl | 2 => exact OP_of rfl | 3 => exact OP_of rfl
  | n + 4 => omega
theorem w_ring_Is (n : Int) : S_ring_Is ρ (I n) (· = [bb (isN n)]) := by
  unfold S_ring_Is
  simp (disch := first | omega | assumption | exact ⟨by first | assumption | omega, by first | assumption | omega⟩ | (simp only [List.length_cons, List.length_nil]; omega)) only [↓S0, ↓ITE_bool, S1, eq_self, if_true, if_false, true_implies, false_implies, implies_true]
  refine ⟨fun h => ?_, fun h => ?_⟩ <;> simp [isN, h]
  try omega
theorem w_ring_Node (n : Int) : S_ring_Node ρ (I n) (· = [I (if isN n = true then nn n else 0), I (if isN n = true then 0 else 1)]) := by
  unfold S_ring_Node
  simp (disch := first | omega | assumption | exact ⟨by first | assumption | omega, by first | assumption | omega⟩ | (simp only [List.length_cons, List.length_nil]; omega)) only [↓S0, ↓ITE_bool, S1, eq_self, if_true, if_false, true_implies, false_implies, implies_true, ↓c_ring_Is]
  refine ⟨fun h => ?_, fun h => ?_⟩ 
  · simp [h]
  · rw [isN_iff] at h
    rw [OP_nn h.1 h.2]; simp [isN_iff, h]
theorem w_ring_Topic (t : Int) : S_ring_Topic ρ (I t) (· = [I (if isT t = true then tt t else 0), I (if isT t = true then 0 else 1)]) := by
  unfold S_ring_Topic
  simp (disch := first | omega | assumption | exact ⟨by first | assumption | omega, by first | assumption | omega⟩ | (simp only [List.length_cons, List.length_nil]; omega)) only [↓S0, ↓ITE_bool, S1, eq_self, if_true, if_false, true_implies, false_implies, implies_true]
  refine ⟨fun h => ⟨fun h2 => ?_, fun h2 => ?_⟩, fun h => ?_⟩ 
  · simp [isT, h]; try omega
  · rw [OP_tt h (by omega)]; simp [isT_iff, h]; try omega
  · simp [isT, h]; try omega
theorem w_key_Far (k : Int) (n : Int) (hp : 0 ≤ k ∧ k < 4611686018427387904 ∧ 0 ≤ n ∧ n < 4611686018427387904) : S_key_Far ρ (I k) (I n) (· = [I (far k n)]) := by
  unfold S_key_Far far
  obtain ⟨h1, h2, h3, h4⟩ := hp
  simp (disch := first | omega | assumption | exact ⟨by first | assumption | omega, by first | assumption | omega⟩ | (simp only [List.length_cons, List.length_nil]; omega)) only [↓S0, ↓ITE_bool, S1, eq_self, if_true, if_false, true_implies, false_implies, implies_true]
  refine ⟨fun h => ?_, fun h => ?_⟩
  · simp [h]
  · simp [h]; try omega
theorem w_ring_Gap (t : Int) (n : Int) : S_ring_Gap ρ (I t) (I n) (· = [I (if (isT t && isN n) = true then gap t n else 0), I (if (isT t && isN n) = true then 0 else 1)]) := by
  unfold S_ring_Gap gap
  have := tt_bd t; have := nn_bd n
  simp (disch := first | omega | assumption | exact ⟨by first | assumption | omega, by first | assumption | omega⟩ | (simp only [List.length_cons, List.length_nil]; omega)) only [↓S0, ↓ITE_bool, S1, eq_self, if_true, if_false, true_implies, false_implies, implies_true, ↓c_ring_Topic, ↓c_ring_Node, ↓c_key_Far]
  cases h1 : isT t <;> cases h2 : isN n <;> simp
theorem w_ring_Nearer (t : Int) (a : Int) (b : Int) : S_ring_Nearer ρ (I t) (I a) (I b) (· = [bb (near t a b)]) := by
  unfold S_ring_Nearer near
  simp (disch := first | omega | assumption | exact ⟨by first | assumption | omega, by first | assumption | omega⟩ | (simp only [List.length_cons, List.length_nil]; omega)) only [↓S0, ↓ITE_bool, S1, eq_self, if_true, if_false, true_implies, false_implies, implies_true, ↓c_ring_Gap]
  cases h1 : isT t <;> cases h2 : isN a <;> cases h3 : isN b <;> simp
theorem near_dom {t a b : Int} (h : near t a b = true) : (0 ≤ t ∧ t < 4) ∧ (0 ≤ a ∧ a < 8) ∧ (0 ≤ b ∧ b < 8) ∧ gap t a < gap t b := by
  simp only [near, Bool.and_eq_true, decide_eq_true_eq, isT_iff, isN_iff] at h
  exact ⟨h.1.1.1, h.1.1.2, h.1.2, h.2⟩
end Go.Xt
end
section
set_option linter.unusedSimpArgs false
set_option linter.unusedVariables false
set_option maxRecDepth 100000
namespace Go.Xt
theorem w_ring_All (l : List Int) (hg : Goods [L l]) : S_ring_All ρ (L l) (· = [bb (l.all isN)]) := by
  unfold S_ring_All
  simp only [Goods, good_L] at hg
  simp (disch := first | omega | assumption | exact ⟨by first | assumption | omega, by first | assumption | omega⟩ | (simp only [List.length_cons, List.length_nil]; omega)) only [↓S0, ↓ITE_bool, S1, eq_self, if_true, if_false, true_implies, false_implies, implies_true, ↓c_ring_Is]
  refine LOOP.rule (α := Nat) (fun i => [I i]) (fun i => i ≤ l.length ∧ (l.drop i).all isN = l.all isN) (fun i => l.length - i) 0 rfl ⟨by omega, rfl⟩ (fun _ => rfl) ?_
  rintro i ⟨h1, h2⟩
  simp only [app]
  simp (disch := first | omega | assumption | exact ⟨by first | assumption | omega, by first | assumption | omega⟩ | (simp only [List.length_cons, List.length_nil]; omega)) only [↓S0, ↓ITE_bool, S1, eq_self, if_true, if_false, true_implies, false_implies, implies_true, ↓c_ring_Is]
  refine ⟨fun h => ?_, fun h => ?_⟩
  · obtain ⟨x, hx⟩ := get_ex h
    rw [drop_eq hx, List.all_cons] at h2
    simp (disch := first | omega | assumption | exact ⟨by first | assumption | omega, by first | assumption | omega⟩ | (simp only [List.length_cons, List.length_nil]; omega)) only [↓S0, ↓ITE_bool, S1, eq_self, if_true, if_false, true_implies, false_implies, implies_true, ↓c_ring_Is, cell_L hx]
    refine ⟨fun h3 => ?_, fun h3 => ⟨i + 1, rfl, ⟨by omega, by simpa [h3] using h2⟩, by omega⟩⟩
    rw [h3] at h2; simp [← h2]
  · rw [drop_nil h] at h2
    simp [← h2]
theorem w_path_rises (t : Int) (self : Int) (l : List Int) (hg : Goods [I t, I self, L l]) : S_path_rises ρ (I t) (I self) (L l) (· = [bb (rises t self l)]) := by
  unfold S_path_rises
  simp only [Goods, good_L] at hg
  simp (disch := first | omega | assumption | exact ⟨by first | assumption | omega, by first | assumption | omega⟩ | (simp only [List.length_cons, List.length_nil]; omega)) only [↓S0, ↓ITE_bool, S1, eq_self, if_true, if_false, true_implies, false_implies, implies_true, ↓c_ring_Nearer]
  refine LOOP.rule (α := Nat × Int) (fun a => [I a.2, I a.1]) (fun a => a.1 ≤ l.length ∧ rises t a.2 (l.drop a.1) = rises t self l) (fun a => l.length - a.1) (0, self) rfl ⟨by simp, rfl⟩ (fun _ => rfl) ?_
  rintro ⟨i, s⟩ ⟨h1, h2⟩
  simp only [app] at *
  simp (disch := first | omega | assumption | exact ⟨by first | assumption | omega, by first | assumption | omega⟩ | (simp only [List.length_cons, List.length_nil]; omega)) only [↓S0, ↓ITE_bool, S1, eq_self, if_true, if_false, true_implies, false_implies, implies_true, ↓c_ring_Nearer]
  refine ⟨fun h => ?_, fun h => ?_⟩
  · obtain ⟨x, hx⟩ := get_ex h
    rw [drop_eq hx, rises] at h2
    simp (disch := first | omega | assumption | exact ⟨by first | assumption | omega, by first | assumption | omega⟩ | (simp only [List.length_cons, List.length_nil]; omega)) only [↓S0, ↓ITE_bool, S1, eq_self, if_true, if_false, true_implies, false_implies, implies_true, ↓c_ring_Nearer, cell_L hx]
    refine ⟨fun h3 => ?_, fun h3 => ⟨(i + 1, x), rfl, ⟨by simp; omega, by simpa [h3] using h2⟩, by simp; omega⟩⟩
    rw [h3] at h2; simp [← h2]
  · rw [drop_nil h] at h2
    simp [← h2, rises]
theorem w_path_Check (t : Int) (self : Int) (l : List Int) (depth : Int) (hg : Goods [I t, I self, L l, I depth]) : S_path_Check ρ (I t) (I self) (L l) (I depth) (· = [I (chk t self l depth)]) := by
  unfold S_path_Check chk
  rw [c_ring_Gap]
  refine SUB.v1 (bb (!(isT t && isN self && decide (1 ≤ depth) && decide (depth ≤ 8) && l.all isN))) ?_ ?_
  · simp (disch := first | omega | assumption | exact ⟨by first | assumption | omega, by first | assumption | omega⟩ | (simp only [List.length_cons, List.length_nil]; omega)) only [↓S0, ↓ITE_bool, S1, eq_self, if_true, if_false, true_implies, false_implies, implies_true, ↓c_ring_All, ↓c_ring_Gap, ↓c_path_rises]
    by_cases h3 : 1 ≤ depth <;> by_cases h4 : depth ≤ 8 <;> cases h1 : isT t <;> cases h2 : isN self <;> simp [h3, h4] <;> omega
  simp (disch := first | omega | assumption | exact ⟨by first | assumption | omega, by first | assumption | omega⟩ | (simp only [List.length_cons, List.length_nil]; omega)) only [↓S0, ↓ITE_bool, S1, eq_self, if_true, if_false, true_implies, false_implies, implies_true, ↓c_ring_All, ↓c_ring_Gap, ↓c_path_rises]
  by_cases h : (isT t && isN self && decide (1 ≤ depth) && decide (depth ≤ 8) && l.all isN) = true
  · rw [if_pos h]; simp only [h]
    cases h5 : rises t self l <;> simp <;> omega
  · rw [if_neg h]; simp [h]
theorem chk_cases (t n : Int) (xs : List Int) (c : Int) : chk t n xs c = 0 ∨ chk t n xs c = 1 ∨ chk t n xs c = 12 := by
  unfold chk; split <;> (try split) <;> (try split) <;> simp
theorem w_path_parent (paths : List (List Int)) (n : Int) (hp : 0 ≤ n) : S_path_parent ρ (L paths) (I n) (· = [I (par paths n)]) := by
  unfold S_path_parent par
  obtain ⟨m, rfl⟩ := Int.eq_ofNat_of_zero_le hp
  simp (disch := first | omega | assumption | exact ⟨by first | assumption | omega, by first | assumption | omega⟩ | (simp only [List.length_cons, List.length_nil]; omega)) only [↓S0, ↓ITE_bool, S1, eq_self, if_true, if_false, true_implies, false_implies, implies_true]
  refine ⟨fun h => ?_, fun h => ?_⟩
  · have : paths[m]? = none := by simp; omega
    simp [this]
  · obtain ⟨x, hx⟩ := get_ex (xs := paths) (i := m) (by omega)
    simp (disch := first | omega | assumption | exact ⟨by first | assumption | omega, by first | assumption | omega⟩ | (simp only [List.length_cons, List.length_nil]; omega)) only [↓S0, ↓ITE_bool, S1, eq_self, if_true, if_false, true_implies, false_implies, implies_true, cell_L hx]
    simp only [Int.toNat_natCast, hx]
    cases x with
    | nil => simp
    | cons a r =>
      refine ⟨fun h => absurd h (by simp; omega), fun h => ?_⟩
      simp (disch := first | omega | assumption | exact ⟨by first | assumption | omega, by first | assumption | omega⟩ | (simp only [List.length_cons, List.length_nil]; omega)) only [↓S0, ↓ITE_bool, S1, eq_self, if_true, if_false, true_implies, false_implies, implies_true]
end Go.Xt
end
section
set_option linter.unusedSimpArgs false
set_option linter.unusedVariables false
set_option maxRecDepth 100000
namespace Go.Xt
theorem pigeon : ∀ (n : Nat) (f : Nat → Nat), (∀ i, i ≤ n → f i < n) → ∃ i j, i < j ∧ j ≤ n ∧ f i = f j
  | 0, f, h => absurd (h 0 (by omega)) (by omega)
  | n + 1, f, h => by
    by_cases hv : ∃ i, i ≤ n ∧ f i = f (n + 1)
    · obtain ⟨i, h1, h2⟩ := hv; exact ⟨i, n + 1, by omega, by omega, h2⟩
    · have hv' : ∀ i, i ≤ n → f i ≠ f (n + 1) := fun i hi e => hv ⟨i, hi, e⟩
      obtain ⟨i, j, h1, h2, h3⟩ := pigeon n (fun i => if f i > f (n + 1) then f i - 1 else f i) (fun i hi => by
        have := hv' i hi; have := h i (by omega); have := h (n + 1) (by omega)
        show (if f i > f (n + 1) then f i - 1 else f i) < n
        split <;> omega)
      refine ⟨i, j, h1, by omega, ?_⟩
      have a1 := hv' i (by omega); have a2 := hv' j (by omega)
      split at h3 <;> split at h3 <;> omega

theorem iter_add (rows : List (List Int)) : ∀ (k m : Nat) (x : Int), iterP rows (k + m) x = iterP rows m (iterP rows k x)
  | 0, m, x => by simp [iterP]
  | k + 1, m, x => by rw [Nat.add_right_comm]; simp only [iterP]; exact iter_add rows k m _
theorem iter_neg (rows : List (List Int)) : ∀ (k : Nat) (x : Int), x < 0 → iterP rows k x = x
  | 0, x, _ => rfl
  | k + 1, x, h => by simp only [iterP]; rw [if_neg (by omega)]; exact iter_neg rows k x h
theorem iter_succ (rows : List (List Int)) (k : Nat) (x : Int) (h : 0 ≤ iterP rows k x) : iterP rows (k + 1) x = par rows (iterP rows k x) := by
  rw [iter_add rows k 1]; simp [iterP, h]
theorem iter_alive (rows : List (List Int)) {k m : Nat} {x : Int} (h : 0 ≤ iterP rows k x) (hm : m ≤ k) : 0 ≤ iterP rows m x := by
  rcases Int.lt_or_le (iterP rows m x) 0 with h1 | h1
  · obtain ⟨d, rfl⟩ := Nat.exists_eq_add_of_le hm
    rw [iter_add, iter_neg _ _ _ h1] at h; omega
  · exact h1
theorem par_alive {rows : List (List Int)} {x : Int} (h0 : 0 ≤ x) (h : 0 ≤ par rows x) : x < rows.length := by
  unfold par at h
  rcases Nat.lt_or_ge x.toNat rows.length with h1 | h1
  · omega
  · rw [List.getElem?_eq_none (by omega)] at h; simp at h

theorem iter_forever {rows : List (List Int)} {x : Int} (h : 0 ≤ iterP rows (rows.length + 1) x) (k : Nat) : 0 ≤ iterP rows k x := by
  have hlt : ∀ i, i ≤ rows.length → (iterP rows i x).toNat < rows.length := by
    intro i hi
    have h1 := iter_alive rows h (m := i) (by omega)
    have h2 := iter_alive rows h (m := i + 1) (by omega)
    rw [iter_succ rows i x h1] at h2
    have := par_alive h1 h2
    omega
  obtain ⟨i, j, h1, h2, h3⟩ := pigeon rows.length (fun i => (iterP rows i x).toNat) hlt
  have hi := iter_alive rows h (m := i) (by omega)
  have hj := iter_alive rows h (m := j) (by omega)
  have he : iterP rows i x = iterP rows j x := by omega
  induction k using Nat.strongRecOn with
  | _ k ih =>
    by_cases hk : k ≤ rows.length
    · exact iter_alive rows h (by omega)
    · have := ih (k - j + i) (by omega)
      rw [Nat.add_comm, iter_add, he, ← iter_add, show j + (k - j) = k by omega] at this
      exact this
theorem w_path_Whole (t : Int) (paths : List (List Int)) (hg : Goods [I t, L paths]) : S_path_Whole ρ (I t) (L paths) (· = [bb (whole paths)]) := by
  unfold S_path_Whole
  simp only [Goods, good_L] at hg
  refine SUB.v1 (bb (!(decide (paths.length ≤ 8) && paths.all (·.all isN)))) ?_ ?_
  · simp (disch := first | omega | assumption | exact ⟨by first | assumption | omega, by first | assumption | omega⟩ | (simp only [List.length_cons, List.length_nil]; omega)) only [↓S0, ↓ITE_bool, S1, eq_self, if_true, if_false, true_implies, false_implies, implies_true, ↓c_ring_All, ↓c_path_parent]
    refine ⟨fun h => ?_, fun h => ?_⟩
    · have : ¬ paths.length ≤ 8 := by omega
      simp [this]
    refine LOOP.rule (α := Nat) (fun i => [I i]) (fun i => i ≤ paths.length ∧ (paths.drop i).all (·.all isN) = paths.all (·.all isN)) (fun i => paths.length - i) 0 rfl ⟨by omega, by simp⟩ (fun _ => rfl) ?_
    rintro i ⟨h1, h2⟩
    simp only [app]
    simp (disch := first | omega | assumption | exact ⟨by first | assumption | omega, by first | assumption | omega⟩ | (simp only [List.length_cons, List.length_nil]; omega)) only [↓S0, ↓ITE_bool, S1, eq_self, if_true, if_false, true_implies, false_implies, implies_true, ↓c_ring_All, ↓c_path_parent]
    refine ⟨fun h => ?_, fun h => ?_⟩
    · obtain ⟨x, hx⟩ := get_ex h
      rw [drop_eq hx, List.all_cons] at h2
      simp (disch := first | omega | assumption | exact ⟨by first | assumption | omega, by first | assumption | omega⟩ | (simp only [List.length_cons, List.length_nil]; omega)) only [↓S0, ↓ITE_bool, S1, eq_self, if_true, if_false, true_implies, false_implies, implies_true, ↓c_ring_All, ↓c_path_parent, cell_L hx]
      refine ⟨fun h3 => ?_, fun h3 => ⟨i + 1, rfl, ⟨by omega, by simpa [h3] using h2⟩, by omega⟩⟩
      rw [h3] at h2; simp only [← h2]; simp; try omega
    · rw [drop_nil h] at h2
      simp only [← h2]; split <;> simp <;> omega
  simp (disch := first | omega | assumption | exact ⟨by first | assumption | omega, by first | assumption | omega⟩ | (simp only [List.length_cons, List.length_nil]; omega)) only [↓S0, ↓ITE_bool, S1, eq_self, if_true, if_false, true_implies, false_implies, implies_true, ↓c_ring_All, ↓c_path_parent]
  unfold whole
  refine ⟨fun h => ?_, fun h => ?_⟩
  · simp only [h]; simp
  simp only [h, Bool.true_and]
  refine LOOP.rule (α := Nat) (fun i => [I i]) (fun i => i ≤ paths.length ∧ ∀ m, m < i → iterP paths 9 m < 0) (fun i => paths.length - i) 0 rfl ⟨by omega, by omega⟩ (fun _ => rfl) ?_
  rintro i ⟨h1, h2⟩
  simp only [app]
  simp (disch := first | omega | assumption | exact ⟨by first | assumption | omega, by first | assumption | omega⟩ | (simp only [List.length_cons, List.length_nil]; omega)) only [↓S0, ↓ITE_bool, S1, eq_self, if_true, if_false, true_implies, false_implies, implies_true, ↓c_ring_All, ↓c_path_parent]
  refine ⟨fun h3 => ?_, fun h3 => ?_⟩
  · refine LOOP.rule (α := Nat × Int) (fun a => [I a.2, I a.1]) (fun a => a.1 ≤ 8 ∧ iterP paths (8 - a.1) a.2 = iterP paths 9 i) (fun a => 8 - a.1) (0, par paths i) rfl ⟨by simp, by simp [iterP]⟩ (fun _ => rfl) ?_
    rintro ⟨k, x⟩ ⟨h4, h5⟩
    simp only [app] at *
    simp (disch := first | omega | assumption | exact ⟨by first | assumption | omega, by first | assumption | omega⟩ | (simp only [List.length_cons, List.length_nil]; omega)) only [↓S0, ↓ITE_bool, S1, eq_self, if_true, if_false, true_implies, false_implies, implies_true, ↓c_ring_All, ↓c_path_parent]
    refine ⟨fun h6 => ⟨fun h7 => ?_, fun h7 => ?_⟩, fun h6 => ⟨fun h7 => ?_, fun h7 => ?_⟩⟩
    · rw [show 8 - k = (8 - (k + 1)) + 1 by omega, iterP, if_pos h7] at h5
      simp (disch := first | omega | assumption | exact ⟨by first | assumption | omega, by first | assumption | omega⟩ | (simp only [List.length_cons, List.length_nil]; omega)) only [↓S0, ↓ITE_bool, S1, eq_self, if_true, if_false, true_implies, false_implies, implies_true, ↓c_ring_All, ↓c_path_parent]
      exact ⟨(k + 1, par paths x), rfl, ⟨by simp; omega, h5⟩, by simp; omega⟩
    · rw [show 8 - k = (8 - (k + 1)) + 1 by omega, iterP, if_neg h7] at h5
      exact ⟨(k + 1, x), rfl, ⟨by simp; omega, h5⟩, by simp; omega⟩
    · rw [show 8 - k = 0 by omega, iterP] at h5
      have : (List.range paths.length).all (fun n => decide (iterP paths 9 n < 0)) = false := by
        rw [List.all_eq_false]; exact ⟨i, by simp; omega, by simp; omega⟩
      rw [this]
    · rw [show 8 - k = 0 by omega, iterP] at h5
      refine ⟨i + 1, rfl, ⟨by omega, fun m hm => ?_⟩, by omega⟩
      by_cases e : m = i
      · subst e; omega
      · exact h2 m (by omega)
  · have : (List.range paths.length).all (fun n => decide (iterP paths 9 n < 0)) = true := by
      rw [List.all_eq_true]; intro m hm; simp at hm; simp; exact h2 m (by omega)
    rw [this]
end Go.Xt
end
section
set_option linter.unusedSimpArgs false
set_option linter.unusedVariables false
set_option maxRecDepth 100000
namespace Go.Xt
theorem w_script_config (c : Config) : S_script_config ρ (I c.nodes) (I c.topics) (I c.kids) (I c.depth) (I c.keep) (I c.window) (I c.queue) (· = [E ⟨true, cfgErrs c⟩]) := by
  unfold S_script_config
  simp (disch := first | omega | assumption | exact ⟨by first | assumption | omega, by first | assumption | omega⟩ | (simp only [List.length_cons, List.length_nil]; omega)) only [↓S0, ↓ITE_bool, S1, eq_self, if_true, if_false, true_implies, false_implies, implies_true, ↓c_errors_Join, ↓c_script_field]
  rw [c_errors_Join]
  · simp [cfgErrs, errOf]
  · simp
theorem errno13 : ∀ {l : List Int}, (∀ e ∈ l, e = 13) → errnoOf l = if l = [] then 0 else 13
  | [], _ => by simp [errnoOf]
  | e :: r, h => by
    have h9 : ¬ 9 ∈ e :: r := fun h' => absurd (h 9 h') (by decide)
    simp only [errnoOf, if_neg h9]
    simp [h e (by simp)]
theorem errOf_nil {n lo hi why : Int} : (errOf n lo hi why = []) = (rng n lo hi = true) := by
  unfold errOf rng
  by_cases h : n < lo ∨ hi < n
  · rw [if_pos h]; simp; omega
  · rw [if_neg h]; simp; omega
theorem errOf_mem {n lo hi why e : Int} (h : e ∈ errOf n lo hi why) : e = why := by
  unfold errOf at h; split at h <;> simp at h; exact h
theorem errOf_len {n lo hi why : Int} : (errOf n lo hi why).length ≤ 1 := by unfold errOf; split <;> simp
theorem cfg_errno (c : Config) : errnoOf (cfgErrs c) = if cfgOk c = true then 0 else 13 := by
  rw [errno13]
  · have : (cfgErrs c = []) = (cfgOk c = true) := by
      simp only [cfgErrs, List.append_eq_nil_iff, errOf_nil, cfgOk, Bool.and_eq_true]
    simp only [this]
  · intro e h
    simp only [cfgErrs, List.mem_append] at h
    rcases h with (((((h | h) | h) | h) | h) | h) | h <;> exact errOf_mem h
theorem w_script_Config (c : Config) : S_script_Config ρ (I c.nodes) (I c.topics) (I c.kids) (I c.depth) (I c.keep) (I c.window) (I c.queue) (· = [I (if cfgOk c = true then 0 else 13)]) := by
  unfold S_script_Config
  have h : (cfgErrs c).length ≤ 1000 := by
    have h1 := @errOf_len c.nodes 1 8 13; have h2 := @errOf_len c.topics 1 4 13; have h3 := @errOf_len c.kids 1 4 13; have h4 := @errOf_len c.depth 1 8 13
    have h5 := @errOf_len c.keep 1 16 13; have h6 := @errOf_len c.window 1 16 13; have h7 := @errOf_len c.queue 2 32 13
    simp only [cfgErrs, List.length_append]; omega
  simp (disch := first | omega | assumption | exact ⟨by first | assumption | omega, by first | assumption | omega⟩ | (simp only [List.length_cons, List.length_nil]; omega)) only [↓S0, ↓ITE_bool, S1, eq_self, if_true, if_false, true_implies, false_implies, implies_true, ↓c_script_errno, ↓c_script_config]
  exact congrArg (fun x => [I x]) (cfg_errno c)
end Go.Xt
end
section
set_option linter.unusedSimpArgs false
set_option linter.unusedVariables false
set_option maxRecDepth 100000
namespace Go.Xt
theorem w_msg_in (n : Int) (lo : Int) (hi : Int) : S_msg_in ρ (I n) (I lo) (I hi) (· = [bb (rng n lo hi)]) := by
  unfold S_msg_in rng
  simp (disch := first | omega | assumption | exact ⟨by first | assumption | omega, by first | assumption | omega⟩ | (simp only [List.length_cons, List.length_nil]; omega)) only [↓S0, ITE_R, ITE_eq, ite_c, ite_bb, ite_I, ite_L, ite_L0, ite_0L, ite_self, SUB_r1, SUB_r2, SUB_r3, S1, eq_self, if_true, if_false, true_implies, false_implies, implies_true]
  simp
theorem w_cast_in (n : Int) (lo : Int) (hi : Int) : S_cast_in ρ (I n) (I lo) (I hi) (· = [bb (rng n lo hi)]) := by
  unfold S_cast_in rng
  simp (disch := first | omega | assumption | exact ⟨by first | assumption | omega, by first | assumption | omega⟩ | (simp only [List.length_cons, List.length_nil]; omega)) only [↓S0, ITE_R, ITE_eq, ite_c, ite_bb, ite_I, ite_L, ite_L0, ite_0L, ite_self, SUB_r1, SUB_r2, SUB_r3, S1, eq_self, if_true, if_false, true_implies, false_implies, implies_true]
  simp
theorem w_msg_Counted (n : Int) : S_msg_Counted ρ (I n) (· = [bb (cnt n)]) := by
  unfold S_msg_Counted cnt
  simp (disch := first | omega | assumption | exact ⟨by first | assumption | omega, by first | assumption | omega⟩ | (simp only [List.length_cons, List.length_nil]; omega)) only [↓S0, ITE_R, ITE_eq, ite_c, ite_bb, ite_I, ite_L, ite_L0, ite_0L, ite_self, SUB_r1, SUB_r2, SUB_r3, S1, eq_self, if_true, if_false, true_implies, false_implies, implies_true, ↓c_msg_in]
theorem w_msg_Value (n : Int) : S_msg_Value ρ (I n) (· = [bb (val n)]) := by
  unfold S_msg_Value val
  simp (disch := first | omega | assumption | exact ⟨by first | assumption | omega, by first | assumption | omega⟩ | (simp only [List.length_cons, List.length_nil]; omega)) only [↓S0, ITE_R, ITE_eq, ite_c, ite_bb, ite_I, ite_L, ite_L0, ite_0L, ite_self, SUB_r1, SUB_r2, SUB_r3, S1, eq_self, if_true, if_false, true_implies, false_implies, implies_true, ↓c_msg_in]
theorem w_epoch_Check (e : Int) : S_epoch_Check ρ (I e) (· = [I (if ep e = true then 0 else 1)]) := by
  unfold S_epoch_Check
  repeat' (first | apply And.intro | intro _ | simp (disch := first | omega | assumption | exact ⟨by first | assumption | omega, by first | assumption | omega⟩ | (simp only [List.length_cons, List.length_nil]; omega)) only [↓S0, ↓ITE_bool, S1, eq_self, if_true, if_false, true_implies, false_implies, implies_true, ↓c_ring_Is])
  all_goals (simp_all [ep, rng]; try omega)
theorem w_epoch_Who (e : Int) : S_epoch_Who ρ (I e) (· = [I (if ep e = true then e % 16 else 0), I (if ep e = true then 0 else 1)]) := by
  unfold S_epoch_Who
  cases he : ep e
  · simp (disch := first | omega | assumption | exact ⟨by first | assumption | omega, by first | assumption | omega⟩ | (simp only [List.length_cons, List.length_nil]; omega)) only [↓S0, ↓ITE_bool, S1, eq_self, if_true, if_false, true_implies, false_implies, implies_true, ↓c_epoch_Check]
    simp [he]
  · have h0 : 0 ≤ e := by simp only [ep, rng, Bool.and_eq_true, decide_eq_true_eq] at he; omega
    simp (disch := first | omega | assumption | exact ⟨by first | assumption | omega, by first | assumption | omega⟩ | (simp only [List.length_cons, List.length_nil]; omega)) only [↓S0, ↓ITE_bool, S1, eq_self, if_true, if_false, true_implies, false_implies, implies_true, ↓c_epoch_Check]
    simp [he]
theorem w_view_right (p : Peer) : S_view_right ρ (I p.inc) (I p.age) (· = [bb (peerOk p)]) := by
  unfold S_view_right
  simp (disch := first | omega | assumption | exact ⟨by first | assumption | omega, by first | assumption | omega⟩ | (simp only [List.length_cons, List.length_nil]; omega)) only [↓S0, ITE_R, ITE_eq, ite_c, ite_bb, ite_I, ite_L, ite_L0, ite_0L, ite_self, SUB_r1, SUB_r2, SUB_r3, S1, eq_self, if_true, if_false, true_implies, false_implies, implies_true]
  simp [peerOk, rng, Bool.and_assoc]
theorem w_kids_right (t : Int) (self : Int) (k : Kid) : S_kids_right ρ (I t) (I self) (I k.node) (I k.inc) (I k.age) (· = [bb (near t self k.node && cnt k.inc && rng k.age 0 6)]) := by
  unfold S_kids_right
  simp (disch := first | omega | assumption | exact ⟨by first | assumption | omega, by first | assumption | omega⟩ | (simp only [List.length_cons, List.length_nil]; omega)) only [↓S0, ITE_R, ITE_eq, ite_c, ite_bb, ite_I, ite_L, ite_L0, ite_0L, ite_self, SUB_r1, SUB_r2, SUB_r3, S1, eq_self, if_true, if_false, true_implies, false_implies, implies_true, ↓c_msg_Counted, ↓c_ring_Nearer]
  simp [rng, Bool.and_assoc]
theorem w_ahead_fits (seq : Int) (want : Int) (window : Int) (hp : cnt want = true ∧ rng window 1 16 = true) : S_ahead_fits ρ (I seq) (I want) (I window) (· = [bb (decide (want < seq) && decide (seq < want + window) && decide (seq < 1073741824))]) := by
  unfold S_ahead_fits
  obtain ⟨h1, h2⟩ := hp
  simp only [cnt, rng, Bool.and_eq_true, decide_eq_true_eq] at h1 h2
  simp (disch := first | omega | assumption | exact ⟨by first | assumption | omega, by first | assumption | omega⟩ | (simp only [List.length_cons, List.length_nil]; omega)) only [↓S0, ITE_R, ITE_eq, ite_c, ite_bb, ite_I, ite_L, ite_L0, ite_0L, ite_self, SUB_r1, SUB_r2, SUB_r3, S1, eq_self, if_true, if_false, true_implies, false_implies, implies_true]
  simp [Bool.and_assoc]
theorem w_graft_link (t : Int) (self : Int) (n : Int) (hg : Goods [I t, I self, I n]) : S_graft_link ρ (I t) (I self) (I n) (· = [bb (link t self n)]) := by
  unfold S_graft_link
  simp only [Goods, good_I] at hg
  repeat' (first | apply And.intro | intro _ | simp (disch := first | omega | assumption | exact ⟨by first | assumption | omega, by first | assumption | omega⟩ | (simp only [List.length_cons, List.length_nil]; omega)) only [↓S0, ↓ITE_bool, S1, eq_self, if_true, if_false, true_implies, false_implies, implies_true, ↓c_ring_Nearer])
  all_goals (simp_all [link]; try omega)
theorem w_graft_rooted (self : Int) (x : Topic) : S_graft_rooted ρ (I self) (bb x.made) (bb x.sub) (I x.top) (I x.root) (I x.parent) (I x.asked) (I x.other) (I x.age) (L x.path) (L x.kids) (I x.stream.epoch) (I x.stream.want) (I x.stream.known) (L x.stream.kept) (L x.stream.ahead) (L x.queue) (· = [bb (rootOk self x)]) := by
  unfold S_graft_rooted
  simp (disch := first | omega | assumption | exact ⟨by first | assumption | omega, by first | assumption | omega⟩ | (simp only [List.length_cons, List.length_nil]; omega)) only [↓S0, ITE_R, ITE_eq, ite_c, ite_bb, ite_I, ite_L, ite_L0, ite_0L, ite_self, SUB_r1, SUB_r2, SUB_r3, S1, eq_self, if_true, if_false, true_implies, false_implies, implies_true, ↓c_epoch_Who]
  cases h0 : decide (x.root = 0) <;> cases h1 : ep x.root <;> simp_all [rootOk, Bool.and_assoc]
theorem w_graft_placed (x : Topic) (hp : 0 ≤ x.parent ∧ x.parent ≤ 8) (hg : Goods [bb x.made, bb x.sub, I x.top, I x.root, I x.parent, I x.asked, I x.other, I x.age, L x.path, L x.kids, I x.stream.epoch, I x.stream.want, I x.stream.known, L x.stream.kept, L x.stream.ahead, L x.queue]) : S_graft_placed ρ (bb x.made) (bb x.sub) (I x.top) (I x.root) (I x.parent) (I x.asked) (I x.other) (I x.age) (L x.path) (L x.kids) (I x.stream.epoch) (I x.stream.want) (I x.stream.known) (L x.stream.kept) (L x.stream.ahead) (L x.queue) (· = [bb (placedOk x)]) := by
  unfold S_graft_placed placedOk
  simp only [Goods, good_I, good_L] at hg
  cases hx : x.path with
  | nil => simp (disch := first | omega | assumption | exact ⟨by first | assumption | omega, by first | assumption | omega⟩ | (simp only [List.length_cons, List.length_nil]; omega)) only [↓S0, ↓ITE_bool, S1, eq_self, if_true, if_false, true_implies, false_implies, implies_true]; simp
  | cons p r =>
    have h1 : ¬ ((r.length : Int) + 1 = 0) := by omega
    simp (disch := first | omega | assumption | exact ⟨by first | assumption | omega, by first | assumption | omega⟩ | (simp only [List.length_cons, List.length_nil]; omega)) only [↓S0, ↓ITE_bool, S1, eq_self, if_true, if_false, true_implies, false_implies, implies_true, OP_addW, List.length_cons, Int.natCast_add, Int.cast_ofNat_Int, h1]
theorem w_flow_zero (s : Stream) : S_flow_zero ρ (I s.epoch) (I s.want) (I s.known) (L s.kept) (L s.ahead) (· = [bb (streamZ s)]) := by
  unfold S_flow_zero streamZ
  simp (disch := first | omega | assumption | exact ⟨by first | assumption | omega, by first | assumption | omega⟩ | (simp only [List.length_cons, List.length_nil]; omega)) only [↓S0, ITE_R, ITE_eq, ite_c, ite_bb, ite_I, ite_L, ite_L0, ite_0L, ite_self, SUB_r1, SUB_r2, SUB_r3, S1, eq_self, if_true, if_false, true_implies, false_implies, implies_true]
  simp [Bool.and_assoc]
end Go.Xt
end
section
set_option linter.unusedSimpArgs false
set_option linter.unusedVariables false
set_option maxRecDepth 100000
namespace Go.Xt
theorem w_view_Check (l : List Peer) (hg : Goods [L l]) : S_view_Check ρ (L l) (· = [I (if peersOk l = true then 0 else 1)]) := by
  unfold S_view_Check peersOk
  simp only [Goods, good_L] at hg
  simp (disch := first | omega | assumption | exact ⟨by first | assumption | omega, by first | assumption | omega⟩ | (simp only [List.length_cons, List.length_nil]; omega)) only [↓S0, ↓ITE_bool, S1, eq_self, if_true, if_false, true_implies, false_implies, implies_true, ↓c_view_right]
  refine ⟨fun h => ?_, fun h => ⟨fun h2 => ?_, fun h2 => ?_⟩⟩
  · simp [show ¬ 1 ≤ l.length by omega]
  · simp [show ¬ l.length ≤ 8 by omega]
  have e1 : decide (1 ≤ l.length) = true := by simp; omega
  have e2 : decide (l.length ≤ 8) = true := by simp; omega
  have e3 : decide ((8 : Int) < l.length) = false := by simp; omega
  simp only [e1, e2, e3, Bool.true_and]
  refine LOOP.rule (α := Nat) (fun i => [I i]) (fun i => i ≤ l.length ∧ (l.drop i).all (peerOk) = l.all (peerOk)) (fun i => l.length - i) 0 rfl ⟨by omega, by simp⟩ (fun _ => rfl) ?_
  rintro i ⟨hl_i, hs_i⟩
  simp only [app]
  simp (disch := first | omega | assumption | exact ⟨by first | assumption | omega, by first | assumption | omega⟩ | (simp only [List.length_cons, List.length_nil]; omega)) only [↓S0, ↓ITE_bool, S1, eq_self, if_true, if_false, true_implies, false_implies, implies_true, ↓c_view_right]
  refine ⟨fun hc_i => ?_, fun hc_i => ?_⟩
  · obtain ⟨x, hx⟩ := get_ex hc_i
    rw [drop_eq hx, List.all_cons] at hs_i
    simp (disch := first | omega | assumption | exact ⟨by first | assumption | omega, by first | assumption | omega⟩ | (simp only [List.length_cons, List.length_nil]; omega)) only [↓S0, ↓ITE_bool, S1, eq_self, if_true, if_false, true_implies, false_implies, implies_true, ↓c_view_right, cell_L hx]
    refine ⟨fun h3 => ?_, fun h3 => ⟨i + 1, rfl, ⟨by omega, by simpa [h3] using hs_i⟩, by omega⟩⟩
    rw [h3, Bool.false_and] at hs_i; simp [← hs_i, ITE_true]
  · rw [drop_nil hc_i] at hs_i
    simp only [← hs_i]; simp [h2, ITE_false]
theorem dlt (a b : Int) : decide (a < b) = !decide (b ≤ a) := by rw [Bool.eq_iff_iff]; simp
theorem near_trans {t a b c : Int} (h1 : near t a b = true) (h2 : near t b c = true) : near t a c = true := by
  obtain ⟨a1, a2, a3, a4⟩ := near_dom h1
  obtain ⟨b1, b2, b3, b4⟩ := near_dom h2
  simp only [near, Bool.and_eq_true, decide_eq_true_eq, isT_iff, isN_iff]
  exact ⟨⟨⟨a1, a2⟩, b3⟩, by omega⟩
theorem kidsGo_cons {t a : Int} {k : Kid} {r : List Kid} : kidsGo t a (k :: r) = (near t a k.node && cnt k.inc && rng k.age 0 6 && kidsGo t k.node r) := rfl
theorem w_kids_Check (t : Int) (self : Int) (limit : Int) (l : List Kid) (hg : Goods [I t, I self, I limit, L l]) : S_kids_Check ρ (I t) (I self) (I limit) (L l) (· = [I (if kidsOk t self limit l = true then 0 else 1)]) := by
  unfold S_kids_Check kidsOk
  simp only [Goods, good_I, good_L] at hg
  rw [c_ring_Gap]
  refine SUB.v1 (bb (!(isT t && isN self && rng limit 1 4 && decide ((l.length : Int) ≤ limit)))) ?_ ?_
  · cases h1 : (isT t && isN self)
    · simp (disch := first | omega | assumption | exact ⟨by first | assumption | omega, by first | assumption | omega⟩ | (simp only [List.length_cons, List.length_nil]; omega)) only [↓S0, ↓ITE_bool, S1, eq_self, if_true, if_false, true_implies, false_implies, implies_true, ↓c_ring_Nearer, ↓c_ring_Gap, ↓c_kids_right, h1]
      simp
    · repeat' (first | apply And.intro | intro _ | simp (disch := first | omega | assumption | exact ⟨by first | assumption | omega, by first | assumption | omega⟩ | (simp only [List.length_cons, List.length_nil]; omega)) only [↓S0, ↓ITE_bool, S1, eq_self, if_true, if_false, true_implies, false_implies, implies_true, ↓c_ring_Nearer, ↓c_ring_Gap, ↓c_kids_right])
      all_goals (simp_all [rng]; try (first | omega | exact dlt _ _))
  simp (disch := first | omega | assumption | exact ⟨by first | assumption | omega, by first | assumption | omega⟩ | (simp only [List.length_cons, List.length_nil]; omega)) only [↓S0, ↓ITE_bool, S1, eq_self, if_true, if_false, true_implies, false_implies, implies_true, ↓c_ring_Nearer, ↓c_ring_Gap, ↓c_kids_right]
  refine ⟨fun h => by simp [h], fun h => ?_⟩
  simp only [h, Bool.true_and]
  refine LOOP.rule (α := Nat) (fun i => [I i]) (fun i => i ≤ l.length ∧ ∃ p, (i = 0 → p = self) ∧ (0 < i → ∃ k, l[i - 1]? = some k ∧ p = k.node ∧ near t self p = true) ∧ kidsGo t p (l.drop i) = kidsGo t self l) (fun i => l.length - i) 0 rfl ⟨by omega, self, by simp⟩ (fun _ => rfl) ?_
  rintro i ⟨hl, p, hp0, hp1, hs⟩
  simp only [app]
  simp (disch := first | omega | assumption | exact ⟨by first | assumption | omega, by first | assumption | omega⟩ | (simp only [List.length_cons, List.length_nil]; omega)) only [↓S0, ↓ITE_bool, S1, eq_self, if_true, if_false, true_implies, false_implies, implies_true, ↓c_ring_Nearer, ↓c_ring_Gap, ↓c_kids_right]
  refine ⟨fun hc => ?_, fun hc => ?_⟩
  · obtain ⟨x, hx⟩ := get_ex hc
    rw [drop_eq hx, kidsGo_cons] at hs
    simp (disch := first | omega | assumption | exact ⟨by first | assumption | omega, by first | assumption | omega⟩ | (simp only [List.length_cons, List.length_nil]; omega)) only [↓S0, ↓ITE_bool, S1, eq_self, if_true, if_false, true_implies, false_implies, implies_true, ↓c_ring_Nearer, ↓c_ring_Gap, ↓c_kids_right, cell_L hx]
    refine ⟨fun h3 => ?_, fun h3 => ⟨fun h4 => ?_, fun h4 => ?_⟩⟩
    · have hf : kidsGo t self l = false := by
        rw [← hs]
        cases hn : near t p x.node with
        | false => simp
        | true =>
          have hns : near t self x.node = true := by
            rcases Nat.eq_zero_or_pos i with h0 | h0
            · rw [← hp0 h0]; exact hn
            · obtain ⟨k, _, _, hk⟩ := hp1 h0; exact near_trans hk hn
          rw [hns] at h3
          cases h5 : cnt x.inc <;> cases h6 : rng x.age 0 6 <;> simp_all
      rw [hf]; simp
    · simp only [Bool.and_eq_true] at h3
      obtain ⟨⟨h5, h6⟩, h7⟩ := h3
      obtain ⟨k, hk, rfl, hnk⟩ := hp1 (by omega)
      have e1 : ((i : Int) - 1) = ((i - 1 : Nat) : Int) := by omega
      simp (disch := first | omega | assumption | exact ⟨by first | assumption | omega, by first | assumption | omega⟩ | (simp only [List.length_cons, List.length_nil]; omega)) only [↓S0, ↓ITE_bool, S1, eq_self, if_true, if_false, true_implies, false_implies, implies_true, ↓c_ring_Nearer, ↓c_ring_Gap, ↓c_kids_right, e1, cell_L hk]
      refine ⟨fun h8 => ?_, fun h8 => ⟨i + 1, by simp, ⟨by omega, x.node, by simp, fun _ => ⟨x, by simpa using hx, rfl, h5⟩, ?_⟩, by omega⟩⟩
      · rw [← hs, h8]; simp
      · rw [← hs, h8, h6, h7]; simp
    · simp only [Bool.and_eq_true] at h3
      obtain ⟨⟨h5, h6⟩, h7⟩ := h3
      have h0 : i = 0 := by omega
      rw [hp0 h0] at hs
      refine ⟨i + 1, by simp, ⟨by omega, x.node, by simp, fun _ => ⟨x, by simpa using hx, rfl, h5⟩, ?_⟩, by omega⟩
      rw [← hs, h5, h6, h7]; simp
  · rw [drop_nil hc] at hs
    simp [← hs, kidsGo]
end Go.Xt
end
section
set_option linter.unusedSimpArgs false
set_option linter.unusedVariables false
set_option maxRecDepth 100000
namespace Go.Xt
theorem keptGo_cons {n : Int} {x : Item} {r : List Item} : keptGo n (x :: r) = (decide (x.seq = n) && val x.value && keptGo (n + 1) r) := rfl
theorem ahdGo_cons {m p : Int} {x : Item} {r : List Item} : ahdGo m p (x :: r) = (decide (p < x.seq) && decide (x.seq < m) && decide (x.seq < 1073741824) && val x.value && ahdGo m x.seq r) := rfl
theorem cnt_bd {n : Int} (h : cnt n = true) : 1 ≤ n ∧ n ≤ 1073741824 := by simpa [cnt, rng] using h
theorem rng_bd {n a b : Int} (h : rng n a b = true) : a ≤ n ∧ n ≤ b := by simpa [rng] using h
theorem w_keep_right (l : List Item) (want : Int) (hp : cnt want = true ∧ l.length ≤ 16) (hg : Goods [L l, I want]) : S_keep_right ρ (L l) (I want) (· = [bb (decide (l.length < want) && keptGo (want - l.length) l)]) := by
  unfold S_keep_right
  obtain ⟨hw, hl16⟩ := hp
  have hw := cnt_bd hw
  simp (disch := first | omega | assumption | exact ⟨by first | assumption | omega, by first | assumption | omega⟩ | (simp only [List.length_cons, List.length_nil]; omega)) only [↓S0, ↓ITE_bool, S1, eq_self, if_true, if_false, true_implies, false_implies, implies_true, ↓c_msg_Value]
  refine LOOP.rule (α := Nat) (fun i => [I i]) (fun i => i ≤ l.length ∧ (0 < i → (l.length : Int) < want) ∧ keptGo (want - l.length + i) (l.drop i) = keptGo (want - l.length) l) (fun i => l.length - i) 0 rfl ⟨by omega, by omega, by simp⟩ (fun _ => rfl) ?_
  rintro i ⟨hl, hpos, hs⟩
  simp only [app]
  simp (disch := first | omega | assumption | exact ⟨by first | assumption | omega, by first | assumption | omega⟩ | (simp only [List.length_cons, List.length_nil]; omega)) only [↓S0, ↓ITE_bool, S1, eq_self, if_true, if_false, true_implies, false_implies, implies_true, ↓c_msg_Value]
  refine ⟨fun hc => ?_, fun hc => ?_⟩
  · obtain ⟨x, hx⟩ := get_ex hc
    rw [drop_eq hx, keptGo_cons] at hs
    simp (disch := first | omega | assumption | exact ⟨by first | assumption | omega, by first | assumption | omega⟩ | (simp only [List.length_cons, List.length_nil]; omega)) only [↓S0, ↓ITE_bool, S1, eq_self, if_true, if_false, true_implies, false_implies, implies_true, ↓c_msg_Value, cell_L hx]
    refine ⟨fun h1 => ?_, fun h1 => ⟨fun h2 => ?_, fun h2 => ⟨fun h3 => ?_, fun h3 => ⟨i + 1, by simp, ⟨by omega, fun _ => ?_, ?_⟩, by omega⟩⟩⟩⟩
    · rw [← hs]
      by_cases h2 : x.seq = want - l.length + i
      · have : ¬ (l.length : Int) < want := fun h => by omega
        simp [this]
      · simp [h2]
    · rw [← hs]; simp [h2]
    · rw [← hs]; simp [h3]
    · rcases Nat.eq_zero_or_pos i with h0 | h0
      · subst h0; omega
      · exact hpos h0
    · rw [← hs, h3]; simp [h2, Int.add_assoc]
  · rw [drop_nil hc] at hs
    rw [← hs]
    have : (l.length : Int) < want := by
      rcases Nat.eq_zero_or_pos i with h0 | h0
      · omega
      · exact hpos h0
    simp [this, keptGo]
theorem w_keep_Check (l : List Item) (want : Int) (limit : Int) (hg : Goods [L l, I want, I limit]) : S_keep_Check ρ (L l) (I want) (I limit) (· = [I (if keptOk l want limit = true then 0 else 1)]) := by
  unfold S_keep_Check keptOk
  simp only [Goods, good_I, good_L] at hg
  cases h1 : cnt want
  · simp (disch := first | omega | assumption | exact ⟨by first | assumption | omega, by first | assumption | omega⟩ | (simp only [List.length_cons, List.length_nil]; omega)) only [↓S0, ↓ITE_bool, S1, eq_self, if_true, if_false, true_implies, false_implies, implies_true, ↓c_msg_Counted, ↓c_keep_right, h1]
    simp
  cases h2 : (rng limit 1 16 && decide ((l.length : Int) ≤ limit))
  · repeat' (first | apply And.intro | intro _ | simp (disch := first | omega | assumption | exact ⟨by first | assumption | omega, by first | assumption | omega⟩ | (simp only [List.length_cons, List.length_nil]; omega)) only [↓S0, ↓ITE_bool, S1, eq_self, if_true, if_false, true_implies, false_implies, implies_true, ↓c_msg_Counted, ↓c_keep_right])
    all_goals (simp_all [rng]; try omega)
  · simp only [Bool.and_eq_true, decide_eq_true_eq] at h2
    have h3 := rng_bd h2.1
    rw [h2.1]
    simp (disch := first | omega | assumption | exact ⟨by first | assumption | omega, by first | assumption | omega⟩ | (simp only [List.length_cons, List.length_nil]; omega)) only [↓S0, ↓ITE_bool, S1, eq_self, if_true, if_false, true_implies, false_implies, implies_true, ↓c_msg_Counted, ↓c_keep_right, h1]
    have e1 : ¬ limit < 1 := by omega
    have e2 : ¬ 16 < limit := by omega
    have e3 : ¬ limit < (l.length : Int) := by omega
    have e4 : decide ((l.length : Int) ≤ limit) = true := by simp; omega
    refine ⟨fun h => absurd h e1, fun _ => ⟨fun h => absurd h e2, fun _ => ⟨fun h => absurd h e3, fun _ => ?_⟩⟩⟩
    cases h5 : (decide ((l.length : Int) < want) && keptGo (want - l.length) l) <;> simp_all
theorem w_ahead_Check (l : List Item) (want : Int) (window : Int) (hg : Goods [L l, I want, I window]) : S_ahead_Check ρ (L l) (I want) (I window) (· = [I (if aheadOk l want window = true then 0 else 1)]) := by
  unfold S_ahead_Check aheadOk
  simp only [Goods, good_I, good_L] at hg
  refine SUB.v1 (bb (!(cnt want && rng window 1 16))) ?_ ?_
  · repeat' (first | apply And.intro | intro _ | simp (disch := first | omega | assumption | exact ⟨by first | assumption | omega, by first | assumption | omega⟩ | (simp only [List.length_cons, List.length_nil]; omega)) only [↓S0, ↓ITE_bool, S1, eq_self, if_true, if_false, true_implies, false_implies, implies_true, ↓c_msg_Counted, ↓c_msg_Value, ↓c_ahead_fits])
    all_goals (simp_all [rng]; try (first | omega | exact dlt _ _))
  simp (disch := first | omega | assumption | exact ⟨by first | assumption | omega, by first | assumption | omega⟩ | (simp only [List.length_cons, List.length_nil]; omega)) only [↓S0, ↓ITE_bool, S1, eq_self, if_true, if_false, true_implies, false_implies, implies_true, ↓c_msg_Counted, ↓c_msg_Value, ↓c_ahead_fits]
  refine ⟨fun h => by simp [h], fun h => ?_⟩
  simp only [h, Bool.true_and]
  simp only [Bool.and_eq_true, decide_eq_true_eq] at h
  obtain ⟨h1', h2'⟩ := h
  have h1 := cnt_bd h1'
  have h2 := rng_bd h2'
  refine LOOP.rule (α := Nat) (fun i => [I i]) (fun i => i ≤ l.length ∧ ∃ p, (i = 0 → p = want) ∧ (0 < i → ∃ k, l[i - 1]? = some k ∧ p = k.seq) ∧ want ≤ p ∧ ahdGo (want + window) p (l.drop i) = ahdGo (want + window) want l) (fun i => l.length - i) 0 rfl ⟨by omega, want, by simp⟩ (fun _ => rfl) ?_
  rintro i ⟨hl, p, hp0, hp1, hwp, hs⟩
  simp only [app]
  simp (disch := first | omega | assumption | exact ⟨by first | assumption | omega, by first | assumption | omega⟩ | (simp only [List.length_cons, List.length_nil]; omega)) only [↓S0, ↓ITE_bool, S1, eq_self, if_true, if_false, true_implies, false_implies, implies_true, ↓c_msg_Counted, ↓c_msg_Value, ↓c_ahead_fits]
  refine ⟨fun hc => ?_, fun hc => ?_⟩
  · obtain ⟨x, hx⟩ := get_ex hc
    rw [drop_eq hx, ahdGo_cons] at hs
    simp (disch := first | omega | assumption | exact ⟨by first | assumption | omega, by first | assumption | omega⟩ | (simp only [List.length_cons, List.length_nil]; omega)) only [↓S0, ↓ITE_bool, S1, eq_self, if_true, if_false, true_implies, false_implies, implies_true, ↓c_msg_Counted, ↓c_msg_Value, ↓c_ahead_fits, cell_L hx]
    refine ⟨fun h3 => ?_, fun h3 => ⟨fun h4 => ?_, fun h4 => ⟨fun h5 => ?_, fun h5 => ?_⟩⟩⟩
    · have : (decide (p < x.seq) && decide (x.seq < want + window) && decide (x.seq < 1073741824)) = false := by
        rw [Bool.eq_false_iff] at h3 ⊢
        intro h6; apply h3
        simp only [Bool.and_eq_true, decide_eq_true_eq] at h6 ⊢
        omega
      rw [← hs, this]; simp
    · rw [← hs, h4]; simp
    · obtain ⟨k, hk, rfl⟩ := hp1 (by omega)
      have e1 : ((i : Int) - 1) = ((i - 1 : Nat) : Int) := by omega
      simp (disch := first | omega | assumption | exact ⟨by first | assumption | omega, by first | assumption | omega⟩ | (simp only [List.length_cons, List.length_nil]; omega)) only [↓S0, ↓ITE_bool, S1, eq_self, if_true, if_false, true_implies, false_implies, implies_true, ↓c_msg_Counted, ↓c_msg_Value, ↓c_ahead_fits, e1, cell_L hk]
      simp only [Bool.and_eq_true, decide_eq_true_eq] at h3
      refine ⟨fun h8 => ?_, fun h8 => ⟨i + 1, by simp, ⟨by omega, x.seq, by simp, fun _ => ⟨x, by simpa using hx, rfl⟩, by omega, ?_⟩, by omega⟩⟩
      · rw [← hs]; simp [show ¬ k.seq < x.seq by omega]
      · rw [← hs, h4]; simp [show k.seq < x.seq by omega, h3]
    · have h0 : i = 0 := by omega
      rw [hp0 h0] at hs
      simp only [Bool.and_eq_true, decide_eq_true_eq] at h3
      refine ⟨i + 1, by simp, ⟨by omega, x.seq, by simp, fun _ => ⟨x, by simpa using hx, rfl⟩, by omega, ?_⟩, by omega⟩
      rw [← hs, h4]; simp [h3]
  · rw [drop_nil hc] at hs
    simp [← hs, ahdGo]
end Go.Xt
end
section
set_option linter.unusedSimpArgs false
set_option linter.unusedVariables false
set_option maxRecDepth 100000
namespace Go.Xt
theorem ite_not01 {c : Bool} : (if (!c) = true then (1 : Int) else 0) = if c = true then 0 else 1 := by cases c <;> rfl
theorem w_queue_Event (x : Event) : S_queue_Event ρ (I x.kind) (I x.epoch) (I x.seq) (I x.last) (I x.value) (I x.count) (· = [I (if evOk x = true then 0 else 1)]) := by
  unfold S_queue_Event
  generalize hE : evOk x = q
  unfold evOk at hE
  by_cases k1 : x.kind = 1
  · rw [OP_eql, decide_eq_true k1, ITE_true]
    simp (disch := first | omega | assumption | exact ⟨by first | assumption | omega, by first | assumption | omega⟩ | (simp only [List.length_cons, List.length_nil]; omega)) only [↓S0, ITE_R, ITE_eq, ite_c, ite_bb, ite_I, ite_L, ite_L0, ite_0L, ite_self, SUB_r1, SUB_r2, SUB_r3, S1, eq_self, if_true, if_false, true_implies, false_implies, implies_true, ↓c_msg_Counted, ↓c_epoch_Check, ↓c_ring_Is, ↓c_msg_Value, k1]
    simp only [k1, if_true] at hE
    subst hE
    cases ep x.epoch <;> cases cnt x.seq <;> cases val x.value <;> by_cases h1 : x.last = 0 <;> by_cases h2 : x.count = 0 <;> simp [h1, h2]
  by_cases k2 : x.kind = 2
  · rw [OP_eql, decide_eq_false k1, ITE_false, OP_eql, decide_eq_true k2, ITE_true]
    simp (disch := first | omega | assumption | exact ⟨by first | assumption | omega, by first | assumption | omega⟩ | (simp only [List.length_cons, List.length_nil]; omega)) only [↓S0, ITE_R, ITE_eq, ite_c, ite_bb, ite_I, ite_L, ite_L0, ite_0L, ite_self, SUB_r1, SUB_r2, SUB_r3, S1, eq_self, if_true, if_false, true_implies, false_implies, implies_true, ↓c_msg_Counted, ↓c_epoch_Check, ↓c_ring_Is, ↓c_msg_Value, k2]
    simp only [k2, if_true] at hE
    simp at hE
    subst hE
    cases ep x.epoch <;> cases cnt x.seq <;> by_cases h3 : x.seq ≤ x.last <;> by_cases h4 : x.last ≤ 1073741824 <;> by_cases h1 : x.value = 0 <;> by_cases h2 : x.count = 0 <;> simp [h1, h2, h3, h4, rng]
  by_cases k3 : x.kind = 3
  · rw [OP_eql, decide_eq_false k1, ITE_false, OP_eql, decide_eq_false k2, ITE_false, OP_eql, decide_eq_true k3, ITE_true]
    simp (disch := first | omega | assumption | exact ⟨by first | assumption | omega, by first | assumption | omega⟩ | (simp only [List.length_cons, List.length_nil]; omega)) only [↓S0, ITE_R, ITE_eq, ite_c, ite_bb, ite_I, ite_L, ite_L0, ite_0L, ite_self, SUB_r1, SUB_r2, SUB_r3, S1, eq_self, if_true, if_false, true_implies, false_implies, implies_true, ↓c_msg_Counted, ↓c_epoch_Check, ↓c_ring_Is, ↓c_msg_Value, k3]
    simp [k3] at hE
    subst hE
    cases isN x.value <;> by_cases h3 : 1 ≤ x.count <;> by_cases h4 : x.count ≤ 40 <;> by_cases h1 : x.epoch = 0 <;> by_cases h2 : x.seq = 0 <;> by_cases h5 : x.last = 0 <;> simp [h1, h2, h3, h4, h5, rng]
  by_cases k4 : x.kind = 4
  · rw [OP_eql, decide_eq_false k1, ITE_false, OP_eql, decide_eq_false k2, ITE_false, OP_eql, decide_eq_false k3, ITE_false, OP_eql, decide_eq_true k4, ITE_true]
    simp (disch := first | omega | assumption | exact ⟨by first | assumption | omega, by first | assumption | omega⟩ | (simp only [List.length_cons, List.length_nil]; omega)) only [↓S0, ITE_R, ITE_eq, ite_c, ite_bb, ite_I, ite_L, ite_L0, ite_0L, ite_self, SUB_r1, SUB_r2, SUB_r3, S1, eq_self, if_true, if_false, true_implies, false_implies, implies_true, ↓c_msg_Counted, ↓c_epoch_Check, ↓c_ring_Is, ↓c_msg_Value, k4]
    simp [k4] at hE
    subst hE
    by_cases h3 : 1 ≤ x.count <;> by_cases h4 : x.count ≤ 40 <;> by_cases h1 : x.epoch = 0 <;> by_cases h2 : x.seq = 0 <;> by_cases h5 : x.last = 0 <;> by_cases h6 : x.value = 0 <;> simp [h1, h2, h3, h4, h5, h6, rng]
  by_cases k5 : x.kind = 5
  · rw [OP_eql, decide_eq_false k1, ITE_false, OP_eql, decide_eq_false k2, ITE_false, OP_eql, decide_eq_false k3, ITE_false, OP_eql, decide_eq_false k4, ITE_false, OP_eql, decide_eq_true k5, ITE_true]
    simp (disch := first | omega | assumption | exact ⟨by first | assumption | omega, by first | assumption | omega⟩ | (simp only [List.length_cons, List.length_nil]; omega)) only [↓S0, ITE_R, ITE_eq, ite_c, ite_bb, ite_I, ite_L, ite_L0, ite_0L, ite_self, SUB_r1, SUB_r2, SUB_r3, S1, eq_self, if_true, if_false, true_implies, false_implies, implies_true, ↓c_msg_Counted, ↓c_epoch_Check, ↓c_ring_Is, ↓c_msg_Value, k5]
    simp [k5] at hE
    subst hE
    by_cases h3 : x.count = 0 <;> by_cases h1 : x.epoch = 0 <;> by_cases h2 : x.seq = 0 <;> by_cases h5 : x.last = 0 <;> by_cases h6 : x.value = 0 <;> simp [h1, h2, h3, h5, h6]
  · rw [OP_eql, decide_eq_false k1, ITE_false, OP_eql, decide_eq_false k2, ITE_false, OP_eql, decide_eq_false k3, ITE_false, OP_eql, decide_eq_false k4, ITE_false, OP_eql, decide_eq_false k5, ITE_false]
    simp (disch := first | omega | assumption | exact ⟨by first | assumption | omega, by first | assumption | omega⟩ | (simp only [List.length_cons, List.length_nil]; omega)) only [↓S0, ITE_R, ITE_eq, ite_c, ite_bb, ite_I, ite_L, ite_L0, ite_0L, ite_self, SUB_r1, SUB_r2, SUB_r3, S1, eq_self, if_true, if_false, true_implies, false_implies, implies_true, ↓c_msg_Counted, ↓c_epoch_Check, ↓c_ring_Is, ↓c_msg_Value]
    simp [k1, k2, k3, k4, k5] at hE
    subst hE
    simp
end Go.Xt
end
section
set_option linter.unusedSimpArgs false
set_option linter.unusedVariables false
set_option maxRecDepth 100000
namespace Go.Xt
theorem lastGap_get {l : List Event} {x : Event} (h : l[l.length - 1]? = some x) : lastGap l = decide (x.kind = 2) := by
  unfold lastGap
  rw [List.getLast?_eq_getElem?, h]
theorem get_last {α : Type} {l : List α} (h : 0 < l.length) : ∃ x, l[l.length - 1]? = some x := ⟨l[l.length - 1]'(by omega), by simp [show l.length - 1 < l.length by omega]⟩
theorem w_queue_Check (l : List Event) (limit : Int) (hg : Goods [L l, I limit]) : S_queue_Check ρ (L l) (I limit) (· = [I (if queueOk l limit = true then 0 else 1)]) := by
  unfold S_queue_Check
  simp only [Goods, good_I, good_L] at hg
  refine SUB.v1 (bb (!(rng limit 2 32 && decide ((l.length : Int) ≤ limit)))) ?_ ?_
  · repeat' (first | apply And.intro | intro _ | simp (disch := first | omega | assumption | exact ⟨by first | assumption | omega, by first | assumption | omega⟩ | (simp only [List.length_cons, List.length_nil]; omega)) only [↓S0, ↓ITE_bool, S1, eq_self, if_true, if_false, true_implies, false_implies, implies_true, ↓c_queue_Event])
    all_goals (simp_all [rng]; try (first | omega | exact dlt _ _))
  cases hr : (rng limit 2 32 && decide ((l.length : Int) ≤ limit))
  · refine SUB.v1 (bb true) (by simp (disch := first | omega | assumption | exact ⟨by first | assumption | omega, by first | assumption | omega⟩ | (simp only [List.length_cons, List.length_nil]; omega)) only [↓S0, ↓ITE_bool, S1, eq_self, if_true, if_false, true_implies, false_implies, implies_true, ↓c_queue_Event]) ?_
    simp (disch := first | omega | assumption | exact ⟨by first | assumption | omega, by first | assumption | omega⟩ | (simp only [List.length_cons, List.length_nil]; omega)) only [↓S0, ↓ITE_bool, S1, eq_self, if_true, if_false, true_implies, false_implies, implies_true, ↓c_queue_Event]
    simp [queueOk, hr]
  simp only [Bool.and_eq_true, decide_eq_true_eq] at hr
  have hb := rng_bd hr.1
  refine SUB.v1 (bb (!(l.all evOk))) ?_ ?_
  · simp (disch := first | omega | assumption | exact ⟨by first | assumption | omega, by first | assumption | omega⟩ | (simp only [List.length_cons, List.length_nil]; omega)) only [↓S0, ↓ITE_bool, S1, eq_self, if_true, if_false, true_implies, false_implies, implies_true, ↓c_queue_Event]
    refine LOOP.rule (α := Nat) (fun i => [I i]) (fun i => i ≤ l.length ∧ (l.drop i).all (evOk) = l.all (evOk)) (fun i => l.length - i) 0 rfl ⟨by omega, by simp⟩ (fun _ => rfl) ?_
    rintro i ⟨hl_i, hs_i⟩
    simp only [app]
    simp (disch := first | omega | assumption | exact ⟨by first | assumption | omega, by first | assumption | omega⟩ | (simp only [List.length_cons, List.length_nil]; omega)) only [↓S0, ↓ITE_bool, S1, eq_self, if_true, if_false, true_implies, false_implies, implies_true, ↓c_queue_Event]
    refine ⟨fun hc_i => ?_, fun hc_i => ?_⟩
    · obtain ⟨x, hx⟩ := get_ex hc_i
      rw [drop_eq hx, List.all_cons] at hs_i
      simp (disch := first | omega | assumption | exact ⟨by first | assumption | omega, by first | assumption | omega⟩ | (simp only [List.length_cons, List.length_nil]; omega)) only [↓S0, ↓ITE_bool, S1, eq_self, if_true, if_false, true_implies, false_implies, implies_true, ↓c_queue_Event, cell_L hx]
      refine ⟨fun h3 => ?_, fun h3 => ⟨i + 1, rfl, ⟨by omega, by rw [← hs_i]; cases he : evOk x <;> simp_all⟩, by omega⟩⟩
      have : evOk x = false := by cases he : evOk x <;> simp_all
      rw [← hs_i, this]; simp
    · rw [drop_nil hc_i] at hs_i
      rw [← hs_i]; simp
  simp (disch := first | omega | assumption | exact ⟨by first | assumption | omega, by first | assumption | omega⟩ | (simp only [List.length_cons, List.length_nil]; omega)) only [↓S0, ↓ITE_bool, S1, eq_self, if_true, if_false, true_implies, false_implies, implies_true, ↓c_queue_Event]
  unfold queueOk
  refine ⟨fun h => by simp [h], fun h => ⟨fun h2 => ?_, fun h2 => ?_⟩⟩
  · have h0 : 0 < l.length := by omega
    obtain ⟨x, hx⟩ := get_last h0
    have e1 : limit - 1 = ((l.length - 1 : Nat) : Int) := by omega
    simp (disch := first | omega | assumption | exact ⟨by first | assumption | omega, by first | assumption | omega⟩ | (simp only [List.length_cons, List.length_nil]; omega)) only [↓S0, ↓ITE_bool, S1, eq_self, if_true, if_false, true_implies, false_implies, implies_true, ↓c_queue_Event, e1, cell_L hx]
    have e2 : decide ((l.length : Int) < limit) = false := by simp; omega
    rw [lastGap_get hx, hr.1, e2, h]
    by_cases hk : x.kind = 2 <;> simp [hk] <;> omega
  · have e2 : decide ((l.length : Int) < limit) = true := by simp; omega
    have e3 : decide ((l.length : Int) ≤ limit) = true := by simp; omega
    rw [hr.1, e2, e3, h]; simp
theorem w_flow_right (c : Config) (s : Stream) (hg : Goods [I c.nodes, I c.topics, I c.kids, I c.depth, I c.keep, I c.window, I c.queue, I s.epoch, I s.want, I s.known, L s.kept, L s.ahead]) : S_flow_right ρ (I c.nodes) (I c.topics) (I c.kids) (I c.depth) (I c.keep) (I c.window) (I c.queue) (I s.epoch) (I s.want) (I s.known) (L s.kept) (L s.ahead) (· = [bb (streamOk c s)]) := by
  unfold S_flow_right
  simp (disch := first | omega | assumption | exact ⟨by first | assumption | omega, by first | assumption | omega⟩ | (simp only [List.length_cons, List.length_nil]; omega)) only [↓S0, ITE_R, ITE_eq, ite_c, ite_bb, ite_I, ite_L, ite_L0, ite_0L, ite_self, SUB_r1, SUB_r2, SUB_r3, S1, eq_self, if_true, if_false, true_implies, false_implies, implies_true, ↓c_msg_Counted, ↓c_epoch_Check, ↓c_flow_zero, ↓c_keep_Check, ↓c_ahead_Check]
  unfold streamOk
  cases streamZ s <;> cases ep s.epoch <;> cases cnt s.want <;> cases keptOk s.kept s.want c.keep <;> cases aheadOk s.ahead s.want c.window <;> simp [rng]
theorem w_flow_Check (c : Config) (s : Stream) (q : List Event) (hg : Goods [I c.nodes, I c.topics, I c.kids, I c.depth, I c.keep, I c.window, I c.queue, I s.epoch, I s.want, I s.known, L s.kept, L s.ahead, L q]) : S_flow_Check ρ (I c.nodes) (I c.topics) (I c.kids) (I c.depth) (I c.keep) (I c.window) (I c.queue) (I s.epoch) (I s.want) (I s.known) (L s.kept) (L s.ahead) (L q) (· = [I (if cfgOk c = true then (if flowOk c s q = true then 0 else 1) else 13)]) := by
  unfold S_flow_Check
  simp (disch := first | omega | assumption | exact ⟨by first | assumption | omega, by first | assumption | omega⟩ | (simp only [List.length_cons, List.length_nil]; omega)) only [↓S0, ITE_R, ITE_eq, ite_c, ite_bb, ite_I, ite_L, ite_L0, ite_0L, ite_self, SUB_r1, SUB_r2, SUB_r3, S1, eq_self, if_true, if_false, true_implies, false_implies, implies_true, ↓c_script_Config, ↓c_flow_right, ↓c_queue_Check]
  unfold flowOk
  cases cfgOk c <;> cases streamOk c s <;> cases queueOk q c.queue <;> simp
theorem streamZ_eq (s : Stream) : decide (s = ⟨0, 0, 0, [], []⟩) = streamZ s := by
  rw [Bool.eq_iff_iff]; simp [streamZ, Stream.eq_iff, and_assoc]
theorem w_graft_right (c : Config) (t : Int) (self : Int) (x : Topic) (hp : cfgOk c = true) (hg : Goods [I c.nodes, I c.topics, I c.kids, I c.depth, I c.keep, I c.window, I c.queue, I t, I self, bb x.made, bb x.sub, I x.top, I x.root, I x.parent, I x.asked, I x.other, I x.age, L x.path, L x.kids, I x.stream.epoch, I x.stream.want, I x.stream.known, L x.stream.kept, L x.stream.ahead, L x.queue]) : S_graft_right ρ (I c.nodes) (I c.topics) (I c.kids) (I c.depth) (I c.keep) (I c.window) (I c.queue) (I t) (I self) (bb x.made) (bb x.sub) (I x.top) (I x.root) (I x.parent) (I x.asked) (I x.other) (I x.age) (L x.path) (L x.kids) (I x.stream.epoch) (I x.stream.want) (I x.stream.known) (L x.stream.kept) (L x.stream.ahead) (L x.queue) (· = [bb (topicOk c t self x)]) := by
  unfold S_graft_right
  generalize hE : topicOk c t self x = q
  refine SUB.v1 (bb (!(rng x.top 0 1073741824 && rng x.age 0 1000))) ?_ ?_
  · repeat' (first | apply And.intro | intro _ | simp (disch := first | omega | assumption | exact ⟨by first | assumption | omega, by first | assumption | omega⟩ | (simp only [List.length_cons, List.length_nil]; omega)) only [↓S0, ↓ITE_bool, S1, eq_self, if_true, if_false, true_implies, false_implies, implies_true, ↓c_graft_link, ↓c_graft_rooted, ↓c_graft_placed, ↓c_path_Check, ↓c_kids_Check, ↓c_flow_Check])
    all_goals (simp_all [rng]; try (first | omega | exact dlt _ _))
  unfold topicOk at hE
  cases h1 : (rng x.top 0 1073741824 && rng x.age 0 1000)
  · rw [h1] at hE
    simp (disch := first | omega | assumption | exact ⟨by first | assumption | omega, by first | assumption | omega⟩ | (simp only [List.length_cons, List.length_nil]; omega)) only [↓S0, ↓ITE_bool, S1, eq_self, if_true, if_false, true_implies, false_implies, implies_true, ↓c_graft_link, ↓c_graft_rooted, ↓c_graft_placed, ↓c_path_Check, ↓c_kids_Check, ↓c_flow_Check]
    simp [← hE]
  rw [Bool.not_true, ITE_false]
  refine SUB.v1 (bb (link t self x.parent && link t self x.asked && link t self x.other)) ?_ ?_
  · simp (disch := first | omega | assumption | exact ⟨by first | assumption | omega, by first | assumption | omega⟩ | (simp only [List.length_cons, List.length_nil]; omega)) only [↓S0, ITE_R, ITE_eq, ite_c, ite_bb, ite_I, ite_L, ite_L0, ite_0L, ite_self, SUB_r1, SUB_r2, SUB_r3, S1, eq_self, if_true, if_false, true_implies, false_implies, implies_true, ↓c_graft_link, ↓c_graft_rooted, ↓c_graft_placed, ↓c_path_Check, ↓c_kids_Check, ↓c_flow_Check]
    simp [Bool.and_assoc]
  cases h2 : (link t self x.parent && link t self x.asked && link t self x.other)
  · simp (disch := first | omega | assumption | exact ⟨by first | assumption | omega, by first | assumption | omega⟩ | (simp only [List.length_cons, List.length_nil]; omega)) only [↓S0, ↓ITE_bool, S1, eq_self, if_true, if_false, true_implies, false_implies, implies_true, ↓c_graft_link, ↓c_graft_rooted, ↓c_graft_placed, ↓c_path_Check, ↓c_kids_Check, ↓c_flow_Check]
    rw [← hE]
    cases h3 : link t self x.parent <;> cases h4 : link t self x.asked <;> cases h5 : link t self x.other <;> simp_all
  simp only [Bool.and_eq_true] at h2
  have hpar : 0 ≤ x.parent ∧ x.parent ≤ 8 := by
    have := h2.1.1
    simp only [link, Bool.or_eq_true, Bool.and_eq_true, decide_eq_true_eq] at this
    rcases this with h | ⟨h, h'⟩
    · omega
    · have := (near_dom h').2.1; omega
  rw [h1] at hE
  rw [h2.1.1, h2.1.2, h2.2] at hE
  simp (disch := first | omega | assumption | exact ⟨by first | assumption | omega, by first | assumption | omega⟩ | (simp only [List.length_cons, List.length_nil]; omega)) only [↓S0, ITE_R, ITE_eq, ite_c, ite_bb, ite_I, ite_L, ite_L0, ite_0L, ite_self, SUB_r1, SUB_r2, SUB_r3, S1, eq_self, if_true, if_false, true_implies, false_implies, implies_true, ↓c_graft_link, ↓c_graft_rooted, ↓c_graft_placed, ↓c_path_Check, ↓c_kids_Check, ↓c_flow_Check, hp]
  rw [← hE]
  cases rootOk self x <;> cases placedOk x <;> cases kidsOk t self c.kids x.kids <;> cases flowOk c x.stream x.queue <;> by_cases h9 : chk t self x.path c.depth = 0 <;> simp [h9]
theorem w_graft_Check (c : Config) (t : Int) (self : Int) (x : Topic) (hg : Goods [I c.nodes, I c.topics, I c.kids, I c.depth, I c.keep, I c.window, I c.queue, I t, I self, bb x.made, bb x.sub, I x.top, I x.root, I x.parent, I x.asked, I x.other, I x.age, L x.path, L x.kids, I x.stream.epoch, I x.stream.want, I x.stream.known, L x.stream.kept, L x.stream.ahead, L x.queue]) : S_graft_Check ρ (I c.nodes) (I c.topics) (I c.kids) (I c.depth) (I c.keep) (I c.window) (I c.queue) (I t) (I self) (bb x.made) (bb x.sub) (I x.top) (I x.root) (I x.parent) (I x.asked) (I x.other) (I x.age) (L x.path) (L x.kids) (I x.stream.epoch) (I x.stream.want) (I x.stream.known) (L x.stream.kept) (L x.stream.ahead) (L x.queue) (· = [I (if cfgOk c = true then (if (place c t self && topicOk c t self x) = true then 0 else 1) else 13)]) := by
  unfold S_graft_Check
  cases hc : cfgOk c
  · simp (disch := first | omega | assumption | exact ⟨by first | assumption | omega, by first | assumption | omega⟩ | (simp only [List.length_cons, List.length_nil]; omega)) only [↓S0, ↓ITE_bool, S1, eq_self, if_true, if_false, true_implies, false_implies, implies_true, ↓c_script_Config, ↓c_graft_right, hc]
    simp
  · simp (disch := first | omega | assumption | exact ⟨by first | assumption | omega, by first | assumption | omega⟩ | (simp only [List.length_cons, List.length_nil]; omega)) only [↓S0, ↓ITE_bool, S1, eq_self, if_true, if_false, true_implies, false_implies, implies_true, ↓c_script_Config, ↓c_graft_right, hc]
    unfold place
    refine ⟨fun h => ?_, fun h => ⟨fun h1 => ?_, fun h1 => ⟨fun h2 => ?_, fun h2 => ⟨fun h3 => ?_, fun h3 => ?_⟩⟩⟩⟩
    · simp [rng, show ¬ 0 ≤ t by omega]
    · simp [rng, show ¬ t ≤ c.topics - 1 by omega]
    · simp [rng, show ¬ 0 ≤ self by omega]
    · simp [rng, show ¬ self ≤ c.nodes - 1 by omega]
    · have e1 : rng t 0 (c.topics - 1) = true := by simp [rng]; omega
      have e2 : rng self 0 (c.nodes - 1) = true := by simp [rng]; omega
      rw [e1, e2]
      cases topicOk c t self x <;> simp
end Go.Xt
end
section
set_option linter.unusedSimpArgs false
set_option linter.unusedVariables false
set_option maxRecDepth 100000
namespace Go.Xt
theorem cfg_bd {c : Config} (h : cfgOk c = true) : (1 ≤ c.nodes ∧ c.nodes ≤ 8) ∧ (1 ≤ c.topics ∧ c.topics ≤ 4) ∧ (1 ≤ c.kids ∧ c.kids ≤ 4) ∧ (1 ≤ c.depth ∧ c.depth ≤ 8) ∧ (1 ≤ c.keep ∧ c.keep ≤ 16) ∧ (1 ≤ c.window ∧ c.window ≤ 16) ∧ (2 ≤ c.queue ∧ c.queue ≤ 32) := by
  simp only [cfgOk, rng, Bool.and_eq_true, decide_eq_true_eq] at h
  obtain ⟨⟨⟨⟨⟨⟨a, b⟩, d⟩, e⟩, f⟩, g⟩, i⟩ := h
  exact ⟨a, b, d, e, f, g, i⟩
theorem place_bd {c : Config} {t self : Int} (hc : cfgOk c = true) (h : place c t self = true) : isT t = true ∧ isN self = true ∧ (0 ≤ t ∧ t < c.topics) ∧ (0 ≤ self ∧ self < c.nodes) := by
  have hb := cfg_bd hc
  simp only [place, Bool.and_eq_true] at h
  have h1 := rng_bd h.1; have h2 := rng_bd h.2
  exact ⟨isT_iff.2 (by omega), isN_iff.2 (by omega), by omega, by omega⟩
theorem chk_chkR {t self c : Int} {l : List Int} (ht : isT t = true) (hs : isN self = true) (h1 : 1 ≤ c) (h2 : c ≤ 8) : chk t self l c = chkR t self l c := by
  simp [chk, chkR, ht, hs, h1, h2]
theorem chkR_all {t self c : Int} {l : List Int} (h : chkR t self l c = 0) : l.all isN = true := by
  unfold chkR at h
  by_cases e : l.all isN = true
  · exact e
  · rw [if_neg e] at h; omega
theorem link_bd {t self n : Int} (h : link t self n = true) : 0 ≤ n ∧ n ≤ 8 := by
  simp only [link, Bool.or_eq_true, Bool.and_eq_true, decide_eq_true_eq] at h
  rcases h with h | ⟨h, h'⟩
  · omega
  · have := (near_dom h').2.1; omega
theorem wrap_small {n : Int} (h0 : 0 ≤ n) (h1 : n ≤ 8) : IntKind.i64.wrap n = n := wr (by omega) (by omega)
def placed2 (x : Topic) : Bool := (decide (0 < x.path.length) == decide (0 < x.parent)) && match x.path with | [] => true | p :: _ => decide (p = x.parent - 1)
theorem placed2_eq {t self : Int} {x : Topic} (hl : link t self x.parent = true) (hp : x.path.all isN = true) : placedOk x = placed2 x := by
  have hb := link_bd hl
  unfold placedOk placed2
  cases hx : x.path with
  | nil =>
    rw [Bool.eq_iff_iff]; simp; omega
  | cons p r =>
    rw [hx, List.all_cons, Bool.and_eq_true] at hp
    have := isN_iff.1 hp.1
    have hw : IntKind.i64.wrap (p + 1) = p + 1 := wr (by omega) (by omega)
    simp only [hw]
    rw [Bool.eq_iff_iff]; simp; omega
theorem w_cast_mark (m : Mark) : S_cast_mark ρ (I m.inc) (I m.pubs) (I m.met) (· = [bb (markOk m)]) := by
  unfold S_cast_mark
  simp (disch := first | omega | assumption | exact ⟨by first | assumption | omega, by first | assumption | omega⟩ | (simp only [List.length_cons, List.length_nil]; omega)) only [↓S0, ITE_R, ITE_eq, ite_c, ite_bb, ite_I, ite_L, ite_L0, ite_0L, ite_self, SUB_r1, SUB_r2, SUB_r3, S1, eq_self, if_true, if_false, true_implies, false_implies, implies_true, ↓c_cast_in]
  simp [markOk, Bool.and_assoc]
theorem w_cast_taken (c : Config) (x : Mark2) (hp : cfgOk c = true) : S_cast_taken ρ (I c.nodes) (I c.topics) (I c.kids) (I c.depth) (I c.keep) (I c.window) (I c.queue) (I x.node) (I x.inc) (I x.count) (I x.topic) (I x.value) (· = [bb (takenOk c x)]) := by
  unfold S_cast_taken
  have hb := cfg_bd hp
  simp (disch := first | omega | assumption | exact ⟨by first | assumption | omega, by first | assumption | omega⟩ | (simp only [List.length_cons, List.length_nil]; omega)) only [↓S0, ITE_R, ITE_eq, ite_c, ite_bb, ite_I, ite_L, ite_L0, ite_0L, ite_self, SUB_r1, SUB_r2, SUB_r3, S1, eq_self, if_true, if_false, true_implies, false_implies, implies_true, ↓c_cast_in, ↓c_msg_Counted, ↓c_msg_Value]
  simp [takenOk, Bool.and_assoc]
theorem callsGo_cons {c : Config} {asks p : Int} {x : Call} {r : List Call} : callsGo c asks p (x :: r) = (decide (p < x.count) && decide (x.count ≤ asks) && rng x.topic 0 (c.topics - 1) && rng x.age 0 20 && callsGo c asks x.count r) := rfl
theorem w_cast_calls (c : Config) (n : Node) (hp : cfgOk c = true) (hg : Goods [I c.nodes, I c.topics, I c.kids, I c.depth, I c.keep, I c.window, I c.queue, bb n.up, I n.inc, L n.peers, L n.topics, L n.calls, I n.pubs, I n.asks, L n.marks, L n.taken]) : S_cast_calls ρ (I c.nodes) (I c.topics) (I c.kids) (I c.depth) (I c.keep) (I c.window) (I c.queue) (bb n.up) (I n.inc) (L n.peers) (L n.topics) (L n.calls) (I n.pubs) (I n.asks) (L n.marks) (L n.taken) (· = [bb (callsGo c n.asks 0 n.calls && decide (n.calls.length ≤ 40))]) := by
  unfold S_cast_calls
  have hb := cfg_bd hp
  simp only [Goods, good_I, good_L] at hg
  simp (disch := first | omega | assumption | exact ⟨by first | assumption | omega, by first | assumption | omega⟩ | (simp only [List.length_cons, List.length_nil]; omega)) only [↓S0, ↓ITE_bool, S1, eq_self, if_true, if_false, true_implies, false_implies, implies_true, ↓c_cast_in]
  refine LOOP.rule (α := Nat × Int) (fun a => [I a.2, I a.1]) (fun a => a.1 ≤ n.calls.length ∧ callsGo c n.asks a.2 (n.calls.drop a.1) = callsGo c n.asks 0 n.calls) (fun a => n.calls.length - a.1) (0, 0) rfl ⟨by simp, by simp⟩ (fun _ => rfl) ?_
  rintro ⟨i, p⟩ ⟨hl, hs⟩
  simp only [app] at *
  simp (disch := first | omega | assumption | exact ⟨by first | assumption | omega, by first | assumption | omega⟩ | (simp only [List.length_cons, List.length_nil]; omega)) only [↓S0, ↓ITE_bool, S1, eq_self, if_true, if_false, true_implies, false_implies, implies_true, ↓c_cast_in]
  refine ⟨fun h => ?_, fun h => ?_⟩
  · obtain ⟨x, hx⟩ := get_ex h
    rw [drop_eq hx, callsGo_cons] at hs
    simp (disch := first | omega | assumption | exact ⟨by first | assumption | omega, by first | assumption | omega⟩ | (simp only [List.length_cons, List.length_nil]; omega)) only [↓S0, ↓ITE_bool, S1, eq_self, if_true, if_false, true_implies, false_implies, implies_true, ↓c_cast_in, cell_L hx]
    refine ⟨fun h1 => ?_, fun h1 => ⟨fun h2 => ?_, fun h2 => ⟨fun h3 => ?_, fun h3 => ⟨fun h4 => ?_, fun h4 => ⟨(i + 1, x.count), by simp, ⟨by omega, ?_⟩, by simp; omega⟩⟩⟩⟩⟩
    · rw [← hs]; simp [show ¬ p < x.count by omega]
    · rw [← hs]; simp [show ¬ x.count ≤ n.asks by omega]
    · rw [← hs, h3]; simp
    · rw [← hs, h4]; simp
    · rw [← hs, h3, h4]; simp [show p < x.count by omega, show x.count ≤ n.asks by omega]
  · rw [drop_nil h] at hs
    rw [← hs]
    simp [callsGo]; omega
end Go.Xt
end
section
set_option linter.unusedSimpArgs false
set_option linter.unusedVariables false
set_option maxRecDepth 100000
namespace Go.Xt
theorem topicsGo_cons {c : Config} {self t : Int} {x : Topic} {r : List Topic} : topicsGo c self t (x :: r) = (topicOk c t self x && topicsGo c self (t + 1) r) := rfl
theorem place_of {c : Config} {t self : Int} (h0 : 0 ≤ t) (h1 : t < c.topics) (hs : rng self 0 (c.nodes - 1) = true) : place c t self = true := by
  simp only [place, hs, Bool.and_true]; simp [rng]; omega
theorem w_cast_right (c : Config) (self : Int) (n : Node) (hp : cfgOk c = true ∧ rng self 0 (c.nodes - 1) = true) (hg : Goods [I c.nodes, I c.topics, I c.kids, I c.depth, I c.keep, I c.window, I c.queue, I self, bb n.up, I n.inc, L n.peers, L n.topics, L n.calls, I n.pubs, I n.asks, L n.marks, L n.taken]) : S_cast_right ρ (I c.nodes) (I c.topics) (I c.kids) (I c.depth) (I c.keep) (I c.window) (I c.queue) (I self) (bb n.up) (I n.inc) (L n.peers) (L n.topics) (L n.calls) (I n.pubs) (I n.asks) (L n.marks) (L n.taken) (· = [bb (nodeOk c self n)]) := by
  unfold S_cast_right
  generalize hE : nodeOk c self n = q
  obtain ⟨hc, hself⟩ := hp
  have hb := cfg_bd hc
  simp only [Goods, good_I, good_L] at hg
  unfold nodeOk at hE
  refine SUB.v1 (bb (!(cnt n.inc && rng n.pubs 0 1073741824 && rng n.asks 0 40 && (callsGo c n.asks 0 n.calls && decide (n.calls.length ≤ 40))))) ?_ ?_
  · simp (disch := first | omega | assumption | exact ⟨by first | assumption | omega, by first | assumption | omega⟩ | (simp only [List.length_cons, List.length_nil]; omega)) only [↓S0, ITE_R, ITE_eq, ite_c, ite_bb, ite_I, ite_L, ite_L0, ite_0L, ite_self, SUB_r1, SUB_r2, SUB_r3, S1, eq_self, if_true, if_false, true_implies, false_implies, implies_true, ↓c_cast_in, ↓c_msg_Counted, ↓c_cast_calls, ↓c_graft_Check, ↓c_cast_mark, ↓c_view_Check, ↓c_cast_taken]
    simp [Bool.and_assoc]
  cases hA : (cnt n.inc && rng n.pubs 0 1073741824 && rng n.asks 0 40 && (callsGo c n.asks 0 n.calls && decide (n.calls.length ≤ 40)))
  · simp (disch := first | omega | assumption | exact ⟨by first | assumption | omega, by first | assumption | omega⟩ | (simp only [List.length_cons, List.length_nil]; omega)) only [↓S0, ↓ITE_bool, S1, eq_self, if_true, if_false, true_implies, false_implies, implies_true, ↓c_cast_in, ↓c_msg_Counted, ↓c_cast_calls, ↓c_graft_Check, ↓c_cast_mark, ↓c_view_Check, ↓c_cast_taken]
    rw [← hE]
    simp only [← Bool.and_assoc] at hA
    rw [hA]; simp
  simp only [← Bool.and_assoc] at hA
  rw [hA] at hE
  rw [Bool.not_true, ITE_false]
  refine SUB.v1 (bb (!(decide ((n.peers.length : Int) = c.nodes) && decide ((n.topics.length : Int) = c.topics) && decide ((n.marks.length : Int) = c.nodes) && decide (n.taken.length ≤ 64)))) ?_ ?_
  · simp (disch := first | omega | assumption | exact ⟨by first | assumption | omega, by first | assumption | omega⟩ | (simp only [List.length_cons, List.length_nil]; omega)) only [↓S0, ITE_R, ITE_eq, ite_c, ite_bb, ite_I, ite_L, ite_L0, ite_0L, ite_self, SUB_r1, SUB_r2, SUB_r3, S1, eq_self, if_true, if_false, true_implies, false_implies, implies_true, ↓c_cast_in, ↓c_msg_Counted, ↓c_cast_calls, ↓c_graft_Check, ↓c_cast_mark, ↓c_view_Check, ↓c_cast_taken]
    by_cases h1 : (n.peers.length : Int) = c.nodes <;> by_cases h2 : (n.topics.length : Int) = c.topics <;> by_cases h3 : (n.marks.length : Int) = c.nodes <;> by_cases h4 : n.taken.length ≤ 64 <;> simp [h1, h2, h3, h4] <;> omega
  cases hB : (decide ((n.peers.length : Int) = c.nodes) && decide ((n.topics.length : Int) = c.topics) && decide ((n.marks.length : Int) = c.nodes) && decide (n.taken.length ≤ 64))
  · simp (disch := first | omega | assumption | exact ⟨by first | assumption | omega, by first | assumption | omega⟩ | (simp only [List.length_cons, List.length_nil]; omega)) only [↓S0, ↓ITE_bool, S1, eq_self, if_true, if_false, true_implies, false_implies, implies_true, ↓c_cast_in, ↓c_msg_Counted, ↓c_cast_calls, ↓c_graft_Check, ↓c_cast_mark, ↓c_view_Check, ↓c_cast_taken]
    rw [← hE]
    revert hB
    by_cases h1 : (n.peers.length : Int) = c.nodes <;> by_cases h2 : (n.topics.length : Int) = c.topics <;> by_cases h3 : (n.marks.length : Int) = c.nodes <;> by_cases h4 : n.taken.length ≤ 64 <;> simp [h1, h2, h3, h4]
  simp only [Bool.and_eq_true, decide_eq_true_eq] at hB
  obtain ⟨⟨⟨B1, B2⟩, B3⟩, B4⟩ := hB
  have e1 : decide ((n.peers.length : Int) = c.nodes) = true := by simp [B1]
  have e2 : decide ((n.topics.length : Int) = c.topics) = true := by simp [B2]
  have e3 : decide ((n.marks.length : Int) = c.nodes) = true := by simp [B3]
  have e4 : decide (n.taken.length ≤ 64) = true := by simp [B4]
  rw [e1, e2, e3, e4] at hE
  simp only [Bool.true_and] at hE
  simp (disch := first | omega | assumption | exact ⟨by first | assumption | omega, by first | assumption | omega⟩ | (simp only [List.length_cons, List.length_nil]; omega)) only [↓S0, ↓ITE_bool, S1, eq_self, if_true, if_false, true_implies, false_implies, implies_true, ↓c_cast_in, ↓c_msg_Counted, ↓c_cast_calls, ↓c_graft_Check, ↓c_cast_mark, ↓c_view_Check, ↓c_cast_taken]
  refine LOOP.rule (α := Nat) (fun i => [I i]) (fun i => i ≤ n.topics.length ∧ topicsGo c self i (n.topics.drop i) = topicsGo c self 0 n.topics) (fun i => n.topics.length - i) 0 rfl ⟨by omega, by simp⟩ (fun _ => rfl) ?_
  rintro i ⟨hl, hs⟩
  simp only [app]
  simp (disch := first | omega | assumption | exact ⟨by first | assumption | omega, by first | assumption | omega⟩ | (simp only [List.length_cons, List.length_nil]; omega)) only [↓S0, ↓ITE_bool, S1, eq_self, if_true, if_false, true_implies, false_implies, implies_true, ↓c_cast_in, ↓c_msg_Counted, ↓c_cast_calls, ↓c_graft_Check, ↓c_cast_mark, ↓c_view_Check, ↓c_cast_taken]
  refine ⟨fun h => ?_, fun h => ?_⟩
  · obtain ⟨x, hx⟩ := get_ex h
    rw [drop_eq hx, topicsGo_cons] at hs
    have hpl := place_of (c := c) (t := i) (by omega) (by omega) hself
    simp (disch := first | omega | assumption | exact ⟨by first | assumption | omega, by first | assumption | omega⟩ | (simp only [List.length_cons, List.length_nil]; omega)) only [↓S0, ↓ITE_bool, S1, eq_self, if_true, if_false, true_implies, false_implies, implies_true, ↓c_cast_in, ↓c_msg_Counted, ↓c_cast_calls, ↓c_graft_Check, ↓c_cast_mark, ↓c_view_Check, ↓c_cast_taken, cell_L hx, hc, hpl]
    cases ht : topicOk c i self x
    · simp
      rw [← hE, ← hs, ht]; simp
    · simp
      exact ⟨i + 1, by simp, ⟨by omega, by rw [← hs, ht]; simp⟩, by omega⟩
  rw [drop_nil h] at hs
  have hT : topicsGo c self 0 n.topics = true := by rw [← hs]; rfl
  rw [hT] at hE
  simp only [Bool.true_and] at hE
  refine LOOP.rule (α := Nat) (fun i => [I i]) (fun i => i ≤ n.marks.length ∧ (n.marks.drop i).all (markOk) = n.marks.all (markOk)) (fun i => n.marks.length - i) 0 rfl ⟨by omega, by simp⟩ (fun _ => rfl) ?_
  rintro i ⟨hl_i, hs_i⟩
  simp only [app]
  simp (disch := first | omega | assumption | exact ⟨by first | assumption | omega, by first | assumption | omega⟩ | (simp only [List.length_cons, List.length_nil]; omega)) only [↓S0, ↓ITE_bool, S1, eq_self, if_true, if_false, true_implies, false_implies, implies_true, ↓c_cast_in, ↓c_msg_Counted, ↓c_cast_calls, ↓c_graft_Check, ↓c_cast_mark, ↓c_view_Check, ↓c_cast_taken]
  refine ⟨fun hc_i => ?_, fun hc_i => ?_⟩
  · obtain ⟨m, hm⟩ := get_ex hc_i
    rw [drop_eq hm, List.all_cons] at hs_i
    simp (disch := first | omega | assumption | exact ⟨by first | assumption | omega, by first | assumption | omega⟩ | (simp only [List.length_cons, List.length_nil]; omega)) only [↓S0, ↓ITE_bool, S1, eq_self, if_true, if_false, true_implies, false_implies, implies_true, ↓c_cast_in, ↓c_msg_Counted, ↓c_cast_calls, ↓c_graft_Check, ↓c_cast_mark, ↓c_view_Check, ↓c_cast_taken, cell_L hm]
    refine ⟨fun h3 => ?_, fun h3 => ⟨i + 1, rfl, ⟨by omega, by simpa [h3] using hs_i⟩, by omega⟩⟩
    rw [h3, Bool.false_and] at hs_i
    simp only [Int.natCast_nonneg, decide_true, Bool.not_true, ITE_false]
    simp (disch := first | omega | assumption | exact ⟨by first | assumption | omega, by first | assumption | omega⟩ | (simp only [List.length_cons, List.length_nil]; omega)) only [↓S0, ↓ITE_bool, S1, eq_self, if_true, if_false, true_implies, false_implies, implies_true, ↓c_cast_in, ↓c_msg_Counted, ↓c_cast_calls, ↓c_graft_Check, ↓c_cast_mark, ↓c_view_Check, ↓c_cast_taken]
    rw [← hE, ← hs_i]
    simp
  rw [drop_nil hc_i] at hs_i
  have hM : n.marks.all markOk = true := by rw [← hs_i]; rfl
  rw [hM] at hE
  refine ⟨fun h5 => ?_, fun h5 => ?_⟩
  · cases hp5 : peersOk n.peers
    · rw [hp5] at h5; simp at h5
    rw [hp5] at hE
    simp only [Bool.true_and] at hE
    clear hs_i
    simp only [show ¬ (0 : Int) ≤ -1 by decide, not_false_eq_true, true_implies, false_implies, and_true]
    refine LOOP.rule (α := Nat) (fun i => [I i]) (fun i => i ≤ n.taken.length ∧ (n.taken.drop i).all (takenOk c) = n.taken.all (takenOk c)) (fun i => n.taken.length - i) 0 rfl ⟨by omega, by simp⟩ (fun _ => rfl) ?_
    rintro i ⟨hl_i, hs_i⟩
    simp only [app]
    simp (disch := first | omega | assumption | exact ⟨by first | assumption | omega, by first | assumption | omega⟩ | (simp only [List.length_cons, List.length_nil]; omega)) only [↓S0, ↓ITE_bool, S1, eq_self, if_true, if_false, true_implies, false_implies, implies_true, ↓c_cast_in, ↓c_msg_Counted, ↓c_cast_calls, ↓c_graft_Check, ↓c_cast_mark, ↓c_view_Check, ↓c_cast_taken]
    refine ⟨fun hc_i => ?_, fun hc_i => ?_⟩
    · obtain ⟨m, hm⟩ := get_ex hc_i
      rw [drop_eq hm, List.all_cons] at hs_i
      simp (disch := first | omega | assumption | exact ⟨by first | assumption | omega, by first | assumption | omega⟩ | (simp only [List.length_cons, List.length_nil]; omega)) only [↓S0, ↓ITE_bool, S1, eq_self, if_true, if_false, true_implies, false_implies, implies_true, ↓c_cast_in, ↓c_msg_Counted, ↓c_cast_calls, ↓c_graft_Check, ↓c_cast_mark, ↓c_view_Check, ↓c_cast_taken, cell_L hm]
      refine ⟨fun h3 => ?_, fun h3 => ⟨i + 1, rfl, ⟨by omega, by simpa [h3] using hs_i⟩, by omega⟩⟩
      rw [h3, Bool.false_and] at hs_i
      rw [← hE, ← hs_i]
      simp
    · rw [drop_nil hc_i] at hs_i
      rw [← hE, ← hs_i]; simp
  · cases hp5 : peersOk n.peers
    · rw [← hE, hp5]; simp
    · rw [hp5] at h5; simp at h5
theorem w_cast_Check (c : Config) (self : Int) (n : Node) (hg : Goods [I c.nodes, I c.topics, I c.kids, I c.depth, I c.keep, I c.window, I c.queue, I self, bb n.up, I n.inc, L n.peers, L n.topics, L n.calls, I n.pubs, I n.asks, L n.marks, L n.taken]) : S_cast_Check ρ (I c.nodes) (I c.topics) (I c.kids) (I c.depth) (I c.keep) (I c.window) (I c.queue) (I self) (bb n.up) (I n.inc) (L n.peers) (L n.topics) (L n.calls) (I n.pubs) (I n.asks) (L n.marks) (L n.taken) (· = [I (nodeWhy c self n)]) := by
  unfold S_cast_Check nodeWhy
  cases hc : cfgOk c
  · simp (disch := first | omega | assumption | exact ⟨by first | assumption | omega, by first | assumption | omega⟩ | (simp only [List.length_cons, List.length_nil]; omega)) only [↓S0, ↓ITE_bool, S1, eq_self, if_true, if_false, true_implies, false_implies, implies_true, ↓c_script_Config, ↓c_cast_in, ↓c_cast_right, hc]
    simp
  have hb := cfg_bd hc
  simp (disch := first | omega | assumption | exact ⟨by first | assumption | omega, by first | assumption | omega⟩ | (simp only [List.length_cons, List.length_nil]; omega)) only [↓S0, ↓ITE_bool, S1, eq_self, if_true, if_false, true_implies, false_implies, implies_true, ↓c_script_Config, ↓c_cast_in, ↓c_cast_right, hc]
  cases hs : rng self 0 (c.nodes - 1)
  · simp (disch := first | omega | assumption | exact ⟨by first | assumption | omega, by first | assumption | omega⟩ | (simp only [List.length_cons, List.length_nil]; omega)) only [↓S0, ↓ITE_bool, S1, eq_self, if_true, if_false, true_implies, false_implies, implies_true, ↓c_script_Config, ↓c_cast_in, ↓c_cast_right, hs]
    simp
  · simp (disch := first | omega | assumption | exact ⟨by first | assumption | omega, by first | assumption | omega⟩ | (simp only [List.length_cons, List.length_nil]; omega)) only [↓S0, ↓ITE_bool, S1, eq_self, if_true, if_false, true_implies, false_implies, implies_true, ↓c_script_Config, ↓c_cast_in, ↓c_cast_right, hs]
    cases hu : n.up
    · simp (disch := first | omega | assumption | exact ⟨by first | assumption | omega, by first | assumption | omega⟩ | (simp only [List.length_cons, List.length_nil]; omega)) only [↓S0, ↓ITE_bool, S1, eq_self, if_true, if_false, true_implies, false_implies, implies_true, ↓c_script_Config, ↓c_cast_in, ↓c_cast_right]
      simp
    · simp (disch := first | omega | assumption | exact ⟨by first | assumption | omega, by first | assumption | omega⟩ | (simp only [List.length_cons, List.length_nil]; omega)) only [↓S0, ↓ITE_bool, S1, eq_self, if_true, if_false, true_implies, false_implies, implies_true, ↓c_script_Config, ↓c_cast_in, ↓c_cast_right]
      cases nodeOk c self n <;> simp
end Go.Xt
end
section
set_option linter.unusedSimpArgs false
set_option linter.unusedVariables false
set_option maxRecDepth 100000
namespace Go.Xt
end Go.Xt
end
section
set_option linter.unusedSimpArgs false
set_option linter.unusedVariables false
set_option maxRecDepth 100000
namespace Go.Xt
theorem len_ne {α : Type} {a b : List α} (h : ¬ (a.length : Int) = b.length) : ¬ a = b := by rintro rfl; exact h rfl
theorem any_false_mem {α : Type} {p : α → Bool} {l : List α} (h : l.any p = false) {x : α} (hx : x ∈ l) : p x = false := by
  rw [List.any_eq_false] at h; simpa using h x hx
end Go.Xt
end
section
set_option linter.unusedSimpArgs false
set_option linter.unusedVariables false
set_option maxRecDepth 100000
namespace Go.Xt
instance : FlatRow Kid := ⟨fun a q hq => by simp [Row.row] at hq; rcases hq with rfl | rfl | rfl <;> rfl⟩
instance : FlatRow Item := ⟨fun a q hq => by simp [Row.row] at hq; rcases hq with rfl | rfl <;> rfl⟩
instance : FlatRow Event := ⟨fun a q hq => by simp [Row.row] at hq; rcases hq with rfl | rfl | rfl | rfl | rfl | rfl <;> rfl⟩
instance : FlatRow Peer := ⟨fun a q hq => by simp [Row.row] at hq; rcases hq with rfl | rfl <;> rfl⟩
instance : FlatRow By := ⟨fun a q hq => by simp [Row.row] at hq; subst hq; rfl⟩
theorem take_one {α : Type} {xs : List α} {i : Nat} {x : α} (h : xs[i]? = some x) : xs.take (i + 1) = xs.take i ++ [x] := by rw [List.take_add_one, h]; rfl
theorem heavy19_bd {x : Topic} (h : heavy19 x = false) : x.path.length ≤ 20 ∧ x.kids.length ≤ 20 ∧ x.stream.kept.length ≤ 30 ∧ x.stream.ahead.length ≤ 30 ∧ x.queue.length ≤ 50 := by
  simp [heavy19, heavy18] at h; omega
theorem heavy21_bd {n : Node} (h : heavy21 n = false) : n.peers.length ≤ 12 ∧ n.topics.length ≤ 8 ∧ n.calls.length ≤ 60 ∧ n.marks.length ≤ 12 ∧ n.taken.length ≤ 80 ∧ n.topics.any heavy19 = false := by
  simp only [heavy21, Bool.or_eq_false_iff, decide_eq_false_iff_not] at h
  obtain ⟨⟨⟨⟨⟨a, b⟩, d⟩, e⟩, f⟩, g⟩ := h
  exact ⟨by omega, by omega, by omega, by omega, by omega, g⟩
theorem w_bag_right (f : Frame) (hg : Goods [I f.to, L f.bytes]) : S_bag_right ρ (I f.to) (L f.bytes) (· = [bb (frameOk f)]) := by
  unfold S_bag_right frameOk
  simp (disch := first | omega | assumption | exact ⟨by first | assumption | omega, by first | assumption | omega⟩ | (simp only [List.length_cons, List.length_nil]; omega)) only [↓S0, ITE_R, ITE_eq, ite_c, ite_bb, ite_I, ite_L, ite_L0, ite_0L, ite_self, SUB_r1, SUB_r2, SUB_r3, S1, eq_self, if_true, if_false, true_implies, false_implies, implies_true, ↓c_ring_Is]
  simp only [List.cons.injEq, PV.bool.injEq, and_true]
  cases isN f.to
  · simp
  · rw [Bool.eq_iff_iff]; simp; omega
theorem w_bag_Check (l : List Frame) (hg : Goods [L l]) : S_bag_Check ρ (L l) (· = [I (bagWhy l)]) := by
  unfold S_bag_Check bagWhy
  simp only [Goods, good_L] at hg
  simp (disch := first | omega | assumption | exact ⟨by first | assumption | omega, by first | assumption | omega⟩ | (simp only [List.length_cons, List.length_nil]; omega)) only [↓S0, ↓ITE_bool, S1, eq_self, if_true, if_false, true_implies, false_implies, implies_true, ↓c_bag_right]
  refine ⟨fun h => by simp [show l.length > 300 by omega], fun h => ?_⟩
  rw [if_neg (by omega)]
  refine LOOP.rule (α := Nat) (fun i => [I i]) (fun i => i ≤ l.length ∧ (l.drop i).all (frameOk) = l.all (frameOk)) (fun i => l.length - i) 0 rfl ⟨by omega, by simp⟩ (fun _ => rfl) ?_
  rintro i ⟨hl_i, hs_i⟩
  simp only [app]
  simp (disch := first | omega | assumption | exact ⟨by first | assumption | omega, by first | assumption | omega⟩ | (simp only [List.length_cons, List.length_nil]; omega)) only [↓S0, ↓ITE_bool, S1, eq_self, if_true, if_false, true_implies, false_implies, implies_true, ↓c_bag_right]
  refine ⟨fun hc_i => ?_, fun hc_i => ?_⟩
  · obtain ⟨x, hx⟩ := get_ex hc_i
    rw [drop_eq hx, List.all_cons] at hs_i
    simp (disch := first | omega | assumption | exact ⟨by first | assumption | omega, by first | assumption | omega⟩ | (simp only [List.length_cons, List.length_nil]; omega)) only [↓S0, ↓ITE_bool, S1, eq_self, if_true, if_false, true_implies, false_implies, implies_true, ↓c_bag_right, cell_L hx]
    refine ⟨fun h3 => ?_, fun h3 => ⟨i + 1, rfl, ⟨by omega, by simpa [h3] using hs_i⟩, by omega⟩⟩
    rw [h3, Bool.false_and] at hs_i
    simp [← hs_i]
  · rw [drop_nil hc_i] at hs_i
    simp [← hs_i]
end Go.Xt
end
section
set_option linter.unusedSimpArgs false
set_option linter.unusedVariables false
set_option maxRecDepth 100000
namespace Go.Xt
theorem Peer.deq0 (x : Peer) : (decide (x.inc = 0) && decide (x.age = 0)) = decide (x = ⟨0, 0⟩) := by rw [Bool.eq_iff_iff]; simp [Peer.eq_iff]
theorem Mark.deq0 (x : Mark) : (decide (x.inc = 0) && (decide (x.pubs = 0) && decide (x.met = 0))) = decide (x = ⟨0, 0, 0⟩) := by rw [Bool.eq_iff_iff]; simp [Mark.eq_iff]
theorem w_world_bare (x : Topic) (hg : Goods [bb x.made, bb x.sub, I x.top, I x.root, I x.parent, I x.asked, I x.other, I x.age, L x.path, L x.kids, I x.stream.epoch, I x.stream.want, I x.stream.known, L x.stream.kept, L x.stream.ahead, L x.queue]) : S_world_bare ρ (bb x.made) (bb x.sub) (I x.top) (I x.root) (I x.parent) (I x.asked) (I x.other) (I x.age) (L x.path) (L x.kids) (I x.stream.epoch) (I x.stream.want) (I x.stream.known) (L x.stream.kept) (L x.stream.ahead) (L x.queue) (· = [bb (topZ x)]) := by
  unfold S_world_bare
  generalize hE : topZ x = q
  unfold topZ at hE
  refine SUB.v1 (bb (decide (x.root = 0) && decide (x.parent = 0) && decide (x.asked = 0) && decide (x.other = 0) && decide (x.age = 0))) ?_ ?_
  · repeat' (first | apply And.intro | intro _ | simp (disch := first | omega | assumption | exact ⟨by first | assumption | omega, by first | assumption | omega⟩ | (simp only [List.length_cons, List.length_nil]; omega)) only [↓S0, ↓ITE_bool, S1, eq_self, if_true, if_false, true_implies, false_implies, implies_true])
    all_goals simp_all
  refine SUB.v1 (bb (decide (x.path = []) && decide (x.kids = []) && decide (x.queue = []) && decide (x.stream.kept = []) && decide (x.stream.ahead = []))) ?_ ?_
  · repeat' (first | apply And.intro | intro _ | simp (disch := first | omega | assumption | exact ⟨by first | assumption | omega, by first | assumption | omega⟩ | (simp only [List.length_cons, List.length_nil]; omega)) only [↓S0, ↓ITE_bool, S1, eq_self, if_true, if_false, true_implies, false_implies, implies_true])
    all_goals simp_all
  repeat' (first | apply And.intro | intro _ | simp (disch := first | omega | assumption | exact ⟨by first | assumption | omega, by first | assumption | omega⟩ | (simp only [List.length_cons, List.length_nil]; omega)) only [↓S0, ↓ITE_bool, S1, eq_self, if_true, if_false, true_implies, false_implies, implies_true])
  all_goals (rw [← hE]; clear hE)
  all_goals (simp_all [Topic.eq_iff, Stream.eq_iff, topic0, rng])
  all_goals (intros; first | omega | (simp_all; done) | (simp_all; omega) | trace_state)
theorem w_world_down (c : Config) (n : Node) (hp : cfgOk c = true) (hg : Goods [I c.nodes, I c.topics, I c.kids, I c.depth, I c.keep, I c.window, I c.queue, bb n.up, I n.inc, L n.peers, L n.topics, L n.calls, I n.pubs, I n.asks, L n.marks, L n.taken]) : S_world_down ρ (I c.nodes) (I c.topics) (I c.kids) (I c.depth) (I c.keep) (I c.window) (I c.queue) (bb n.up) (I n.inc) (L n.peers) (L n.topics) (L n.calls) (I n.pubs) (I n.asks) (L n.marks) (L n.taken) (· = [bb (downOk c n)]) := by
  unfold S_world_down
  simp only [Goods, good_L, good_I] at hg
  have hb := cfg_bd hp
  generalize hE : downOk c n = q
  have e01 : ¬ (0 : Int) ≤ -1 := by decide
  have dn1 : (decide ((n.peers.length : Int) = c.nodes) && decide ((n.topics.length : Int) = c.topics) && decide ((n.marks.length : Int) = c.nodes) && decide (n.calls = []) && decide (n.taken = []) && decide (n.pubs = 0) && decide (n.asks = 0)) =
    ((decide ((n.peers.length : Int) = c.nodes) && decide ((n.topics.length : Int) = c.topics) && decide ((n.marks.length : Int) = c.nodes)) && (decide (n.calls = []) && decide (n.taken = []) && decide (n.pubs = 0) && decide (n.asks = 0))) := by simp [Bool.and_assoc]
  unfold downOk at hE
  refine SUB.v1 (bb (decide ((n.peers.length : Int) = c.nodes) && decide ((n.topics.length : Int) = c.topics) && decide ((n.marks.length : Int) = c.nodes))) ?_ ?_
  · repeat' (first | apply And.intro | intro _ | simp (disch := first | omega | assumption | exact ⟨by first | assumption | omega, by first | assumption | omega⟩ | (simp only [List.length_cons, List.length_nil]; omega)) only [↓S0, ↓ITE_bool, S1, eq_self, if_true, if_false, true_implies, false_implies, implies_true, ↓c_world_bare, ↓c_msg_Counted])
    all_goals simp_all
  refine SUB.v1 (bb (decide (n.calls = []) && decide (n.taken = []) && decide (n.pubs = 0) && decide (n.asks = 0))) ?_ ?_
  · repeat' (first | apply And.intro | intro _ | simp (disch := first | omega | assumption | exact ⟨by first | assumption | omega, by first | assumption | omega⟩ | (simp only [List.length_cons, List.length_nil]; omega)) only [↓S0, ↓ITE_bool, S1, eq_self, if_true, if_false, true_implies, false_implies, implies_true, ↓c_world_bare, ↓c_msg_Counted])
    all_goals simp_all
  simp (disch := first | omega | assumption | exact ⟨by first | assumption | omega, by first | assumption | omega⟩ | (simp only [List.length_cons, List.length_nil]; omega)) only [↓S0, ↓ITE_bool, S1, eq_self, if_true, if_false, true_implies, false_implies, implies_true, ↓c_world_bare, ↓c_msg_Counted]
  refine LOOP.rule (α := Nat) (fun i0 => [I i0]) (fun i0 => i0 ≤ n.peers.length ∧ (n.peers.drop i0).all (fun p => decide (p = ⟨0, 0⟩)) = n.peers.all (fun p => decide (p = ⟨0, 0⟩))) (fun i0 => n.peers.length - i0) 0 rfl ⟨by omega, by simp⟩ (fun _ => rfl) ?_
  rintro i0 ⟨hl_i0, hs_i0⟩
  simp only [app]
  simp (disch := first | omega | assumption | exact ⟨by first | assumption | omega, by first | assumption | omega⟩ | (simp only [List.length_cons, List.length_nil]; omega)) only [↓S0, ↓ITE_bool, S1, eq_self, if_true, if_false, true_implies, false_implies, implies_true, ↓c_world_bare, ↓c_msg_Counted]
  refine ⟨fun hc_i0 => ?_, fun hc_i0 => ?_⟩
  · obtain ⟨x0, hx0⟩ := get_ex hc_i0
    rw [drop_eq hx0, List.all_cons] at hs_i0
    simp (disch := first | omega | assumption | exact ⟨by first | assumption | omega, by first | assumption | omega⟩ | (simp only [List.length_cons, List.length_nil]; omega)) only [↓S0, ↓ITE_bool, S1, eq_self, if_true, if_false, true_implies, false_implies, implies_true, ↓c_world_bare, ↓c_msg_Counted, cell_L hx0, Peer.deq0]
    refine ⟨fun h3 => ?_, fun h3 => ⟨i0 + 1, rfl, ⟨by omega, by rw [← hs_i0]; simp [h3]⟩, by omega⟩⟩
    have hF0 : n.peers.all (fun p => decide (p = ⟨0, 0⟩)) = false := by rw [← hs_i0]; simp [h3]
    clear hs_i0
    refine LOOP.rule (α := Nat) (fun i1 => [I i1]) (fun i1 => i1 ≤ n.marks.length ∧ (n.marks.drop i1).all (fun m => decide (m = ⟨0, 0, 0⟩)) = n.marks.all (fun m => decide (m = ⟨0, 0, 0⟩))) (fun i1 => n.marks.length - i1) 0 rfl ⟨by omega, by simp⟩ (fun _ => rfl) ?_
    rintro i1 ⟨hl_i1, hs_i1⟩
    simp only [app]
    simp (disch := first | omega | assumption | exact ⟨by first | assumption | omega, by first | assumption | omega⟩ | (simp only [List.length_cons, List.length_nil]; omega)) only [↓S0, ↓ITE_bool, S1, eq_self, if_true, if_false, true_implies, false_implies, implies_true, ↓c_world_bare, ↓c_msg_Counted]
    refine ⟨fun hc_i1 => ?_, fun hc_i1 => ?_⟩
    · obtain ⟨x1, hx1⟩ := get_ex hc_i1
      rw [drop_eq hx1, List.all_cons] at hs_i1
      simp (disch := first | omega | assumption | exact ⟨by first | assumption | omega, by first | assumption | omega⟩ | (simp only [List.length_cons, List.length_nil]; omega)) only [↓S0, ↓ITE_bool, S1, eq_self, if_true, if_false, true_implies, false_implies, implies_true, ↓c_world_bare, ↓c_msg_Counted, cell_L hx1, Mark.deq0]
      refine ⟨fun h3 => ?_, fun h3 => ⟨i1 + 1, rfl, ⟨by omega, by rw [← hs_i1]; simp [h3]⟩, by omega⟩⟩
      have hF1 : n.marks.all (fun m => decide (m = ⟨0, 0, 0⟩)) = false := by rw [← hs_i1]; simp [h3]
      clear hs_i1
      refine LOOP.rule (α := Nat) (fun i2 => [I i2]) (fun i2 => i2 ≤ n.topics.length ∧ (n.topics.drop i2).all topZ = n.topics.all topZ) (fun i2 => n.topics.length - i2) 0 rfl ⟨by omega, by simp⟩ (fun _ => rfl) ?_
      rintro i2 ⟨hl_i2, hs_i2⟩
      simp only [app]
      simp (disch := first | omega | assumption | exact ⟨by first | assumption | omega, by first | assumption | omega⟩ | (simp only [List.length_cons, List.length_nil]; omega)) only [↓S0, ↓ITE_bool, S1, eq_self, if_true, if_false, true_implies, false_implies, implies_true, ↓c_world_bare, ↓c_msg_Counted]
      refine ⟨fun hc_i2 => ?_, fun hc_i2 => ?_⟩
      · obtain ⟨x2, hx2⟩ := get_ex hc_i2
        rw [drop_eq hx2, List.all_cons] at hs_i2
        simp (disch := first | omega | assumption | exact ⟨by first | assumption | omega, by first | assumption | omega⟩ | (simp only [List.length_cons, List.length_nil]; omega)) only [↓S0, ↓ITE_bool, S1, eq_self, if_true, if_false, true_implies, false_implies, implies_true, ↓c_world_bare, ↓c_msg_Counted, cell_L hx2]
        refine ⟨fun h3 => ?_, fun h3 => ⟨i2 + 1, rfl, ⟨by omega, by rw [← hs_i2]; simp [h3]⟩, by omega⟩⟩
        have hF2 : n.topics.all topZ = false := by rw [← hs_i2]; simp [h3]
        clear hs_i2
        cases hq1 : (decide ((n.peers.length : Int) = c.nodes) && decide ((n.topics.length : Int) = c.topics) && decide ((n.marks.length : Int) = c.nodes)) <;> cases hq2 : (decide (n.calls = []) && decide (n.taken = []) && decide (n.pubs = 0) && decide (n.asks = 0))
        all_goals (try (simp (disch := first | omega | assumption | exact ⟨by first | assumption | omega, by first | assumption | omega⟩ | (simp only [List.length_cons, List.length_nil]; omega)) only [↓S0, ↓ITE_bool, S1, eq_self, if_true, if_false, true_implies, false_implies, implies_true, ↓c_world_bare, ↓c_msg_Counted, hq1, hq2, Int.natCast_nonneg, e01]))
        all_goals (rw [← hE, hF0, hF1, hF2, dn1, hq1, hq2])
        all_goals simp
      · rw [drop_nil hc_i2] at hs_i2
        have hF2 : n.topics.all topZ = true := by rw [← hs_i2]; rfl
        clear hs_i2
        cases hq1 : (decide ((n.peers.length : Int) = c.nodes) && decide ((n.topics.length : Int) = c.topics) && decide ((n.marks.length : Int) = c.nodes)) <;> cases hq2 : (decide (n.calls = []) && decide (n.taken = []) && decide (n.pubs = 0) && decide (n.asks = 0))
        all_goals (try (simp (disch := first | omega | assumption | exact ⟨by first | assumption | omega, by first | assumption | omega⟩ | (simp only [List.length_cons, List.length_nil]; omega)) only [↓S0, ↓ITE_bool, S1, eq_self, if_true, if_false, true_implies, false_implies, implies_true, ↓c_world_bare, ↓c_msg_Counted, hq1, hq2, Int.natCast_nonneg, e01]))
        all_goals (rw [← hE, hF0, hF1, hF2, dn1, hq1, hq2])
        all_goals simp
    · rw [drop_nil hc_i1] at hs_i1
      have hF1 : n.marks.all (fun m => decide (m = ⟨0, 0, 0⟩)) = true := by rw [← hs_i1]; rfl
      clear hs_i1
      refine LOOP.rule (α := Nat) (fun i2 => [I i2]) (fun i2 => i2 ≤ n.topics.length ∧ (n.topics.drop i2).all topZ = n.topics.all topZ) (fun i2 => n.topics.length - i2) 0 rfl ⟨by omega, by simp⟩ (fun _ => rfl) ?_
      rintro i2 ⟨hl_i2, hs_i2⟩
      simp only [app]
      simp (disch := first | omega | assumption | exact ⟨by first | assumption | omega, by first | assumption | omega⟩ | (simp only [List.length_cons, List.length_nil]; omega)) only [↓S0, ↓ITE_bool, S1, eq_self, if_true, if_false, true_implies, false_implies, implies_true, ↓c_world_bare, ↓c_msg_Counted]
      refine ⟨fun hc_i2 => ?_, fun hc_i2 => ?_⟩
      · obtain ⟨x2, hx2⟩ := get_ex hc_i2
        rw [drop_eq hx2, List.all_cons] at hs_i2
        simp (disch := first | omega | assumption | exact ⟨by first | assumption | omega, by first | assumption | omega⟩ | (simp only [List.length_cons, List.length_nil]; omega)) only [↓S0, ↓ITE_bool, S1, eq_self, if_true, if_false, true_implies, false_implies, implies_true, ↓c_world_bare, ↓c_msg_Counted, cell_L hx2]
        refine ⟨fun h3 => ?_, fun h3 => ⟨i2 + 1, rfl, ⟨by omega, by rw [← hs_i2]; simp [h3]⟩, by omega⟩⟩
        have hF2 : n.topics.all topZ = false := by rw [← hs_i2]; simp [h3]
        clear hs_i2
        cases hq1 : (decide ((n.peers.length : Int) = c.nodes) && decide ((n.topics.length : Int) = c.topics) && decide ((n.marks.length : Int) = c.nodes)) <;> cases hq2 : (decide (n.calls = []) && decide (n.taken = []) && decide (n.pubs = 0) && decide (n.asks = 0))
        all_goals (try (simp (disch := first | omega | assumption | exact ⟨by first | assumption | omega, by first | assumption | omega⟩ | (simp only [List.length_cons, List.length_nil]; omega)) only [↓S0, ↓ITE_bool, S1, eq_self, if_true, if_false, true_implies, false_implies, implies_true, ↓c_world_bare, ↓c_msg_Counted, hq1, hq2, Int.natCast_nonneg, e01]))
        all_goals (rw [← hE, hF0, hF1, hF2, dn1, hq1, hq2])
        all_goals simp
      · rw [drop_nil hc_i2] at hs_i2
        have hF2 : n.topics.all topZ = true := by rw [← hs_i2]; rfl
        clear hs_i2
        cases hq1 : (decide ((n.peers.length : Int) = c.nodes) && decide ((n.topics.length : Int) = c.topics) && decide ((n.marks.length : Int) = c.nodes)) <;> cases hq2 : (decide (n.calls = []) && decide (n.taken = []) && decide (n.pubs = 0) && decide (n.asks = 0))
        all_goals (try (simp (disch := first | omega | assumption | exact ⟨by first | assumption | omega, by first | assumption | omega⟩ | (simp only [List.length_cons, List.length_nil]; omega)) only [↓S0, ↓ITE_bool, S1, eq_self, if_true, if_false, true_implies, false_implies, implies_true, ↓c_world_bare, ↓c_msg_Counted, hq1, hq2, Int.natCast_nonneg, e01]))
        all_goals (rw [← hE, hF0, hF1, hF2, dn1, hq1, hq2])
        all_goals simp
  · rw [drop_nil hc_i0] at hs_i0
    have hF0 : n.peers.all (fun p => decide (p = ⟨0, 0⟩)) = true := by rw [← hs_i0]; rfl
    clear hs_i0
    refine LOOP.rule (α := Nat) (fun i1 => [I i1]) (fun i1 => i1 ≤ n.marks.length ∧ (n.marks.drop i1).all (fun m => decide (m = ⟨0, 0, 0⟩)) = n.marks.all (fun m => decide (m = ⟨0, 0, 0⟩))) (fun i1 => n.marks.length - i1) 0 rfl ⟨by omega, by simp⟩ (fun _ => rfl) ?_
    rintro i1 ⟨hl_i1, hs_i1⟩
    simp only [app]
    simp (disch := first | omega | assumption | exact ⟨by first | assumption | omega, by first | assumption | omega⟩ | (simp only [List.length_cons, List.length_nil]; omega)) only [↓S0, ↓ITE_bool, S1, eq_self, if_true, if_false, true_implies, false_implies, implies_true, ↓c_world_bare, ↓c_msg_Counted]
    refine ⟨fun hc_i1 => ?_, fun hc_i1 => ?_⟩
    · obtain ⟨x1, hx1⟩ := get_ex hc_i1
      rw [drop_eq hx1, List.all_cons] at hs_i1
      simp (disch := first | omega | assumption | exact ⟨by first | assumption | omega, by first | assumption | omega⟩ | (simp only [List.length_cons, List.length_nil]; omega)) only [↓S0, ↓ITE_bool, S1, eq_self, if_true, if_false, true_implies, false_implies, implies_true, ↓c_world_bare, ↓c_msg_Counted, cell_L hx1, Mark.deq0]
      refine ⟨fun h3 => ?_, fun h3 => ⟨i1 + 1, rfl, ⟨by omega, by rw [← hs_i1]; simp [h3]⟩, by omega⟩⟩
      have hF1 : n.marks.all (fun m => decide (m = ⟨0, 0, 0⟩)) = false := by rw [← hs_i1]; simp [h3]
      clear hs_i1
      refine LOOP.rule (α := Nat) (fun i2 => [I i2]) (fun i2 => i2 ≤ n.topics.length ∧ (n.topics.drop i2).all topZ = n.topics.all topZ) (fun i2 => n.topics.length - i2) 0 rfl ⟨by omega, by simp⟩ (fun _ => rfl) ?_
      rintro i2 ⟨hl_i2, hs_i2⟩
      simp only [app]
      simp (disch := first | omega | assumption | exact ⟨by first | assumption | omega, by first | assumption | omega⟩ | (simp only [List.length_cons, List.length_nil]; omega)) only [↓S0, ↓ITE_bool, S1, eq_self, if_true, if_false, true_implies, false_implies, implies_true, ↓c_world_bare, ↓c_msg_Counted]
      refine ⟨fun hc_i2 => ?_, fun hc_i2 => ?_⟩
      · obtain ⟨x2, hx2⟩ := get_ex hc_i2
        rw [drop_eq hx2, List.all_cons] at hs_i2
        simp (disch := first | omega | assumption | exact ⟨by first | assumption | omega, by first | assumption | omega⟩ | (simp only [List.length_cons, List.length_nil]; omega)) only [↓S0, ↓ITE_bool, S1, eq_self, if_true, if_false, true_implies, false_implies, implies_true, ↓c_world_bare, ↓c_msg_Counted, cell_L hx2]
        refine ⟨fun h3 => ?_, fun h3 => ⟨i2 + 1, rfl, ⟨by omega, by rw [← hs_i2]; simp [h3]⟩, by omega⟩⟩
        have hF2 : n.topics.all topZ = false := by rw [← hs_i2]; simp [h3]
        clear hs_i2
        cases hq1 : (decide ((n.peers.length : Int) = c.nodes) && decide ((n.topics.length : Int) = c.topics) && decide ((n.marks.length : Int) = c.nodes)) <;> cases hq2 : (decide (n.calls = []) && decide (n.taken = []) && decide (n.pubs = 0) && decide (n.asks = 0))
        all_goals (try (simp (disch := first | omega | assumption | exact ⟨by first | assumption | omega, by first | assumption | omega⟩ | (simp only [List.length_cons, List.length_nil]; omega)) only [↓S0, ↓ITE_bool, S1, eq_self, if_true, if_false, true_implies, false_implies, implies_true, ↓c_world_bare, ↓c_msg_Counted, hq1, hq2, Int.natCast_nonneg, e01]))
        all_goals (rw [← hE, hF0, hF1, hF2, dn1, hq1, hq2])
        all_goals simp
      · rw [drop_nil hc_i2] at hs_i2
        have hF2 : n.topics.all topZ = true := by rw [← hs_i2]; rfl
        clear hs_i2
        cases hq1 : (decide ((n.peers.length : Int) = c.nodes) && decide ((n.topics.length : Int) = c.topics) && decide ((n.marks.length : Int) = c.nodes)) <;> cases hq2 : (decide (n.calls = []) && decide (n.taken = []) && decide (n.pubs = 0) && decide (n.asks = 0))
        all_goals (try (simp (disch := first | omega | assumption | exact ⟨by first | assumption | omega, by first | assumption | omega⟩ | (simp only [List.length_cons, List.length_nil]; omega)) only [↓S0, ↓ITE_bool, S1, eq_self, if_true, if_false, true_implies, false_implies, implies_true, ↓c_world_bare, ↓c_msg_Counted, hq1, hq2, Int.natCast_nonneg, e01]))
        all_goals (rw [← hE, hF0, hF1, hF2, dn1, hq1, hq2])
        all_goals simp
    · rw [drop_nil hc_i1] at hs_i1
      have hF1 : n.marks.all (fun m => decide (m = ⟨0, 0, 0⟩)) = true := by rw [← hs_i1]; rfl
      clear hs_i1
      refine LOOP.rule (α := Nat) (fun i2 => [I i2]) (fun i2 => i2 ≤ n.topics.length ∧ (n.topics.drop i2).all topZ = n.topics.all topZ) (fun i2 => n.topics.length - i2) 0 rfl ⟨by omega, by simp⟩ (fun _ => rfl) ?_
      rintro i2 ⟨hl_i2, hs_i2⟩
      simp only [app]
      simp (disch := first | omega | assumption | exact ⟨by first | assumption | omega, by first | assumption | omega⟩ | (simp only [List.length_cons, List.length_nil]; omega)) only [↓S0, ↓ITE_bool, S1, eq_self, if_true, if_false, true_implies, false_implies, implies_true, ↓c_world_bare, ↓c_msg_Counted]
      refine ⟨fun hc_i2 => ?_, fun hc_i2 => ?_⟩
      · obtain ⟨x2, hx2⟩ := get_ex hc_i2
        rw [drop_eq hx2, List.all_cons] at hs_i2
        simp (disch := first | omega | assumption | exact ⟨by first | assumption | omega, by first | assumption | omega⟩ | (simp only [List.length_cons, List.length_nil]; omega)) only [↓S0, ↓ITE_bool, S1, eq_self, if_true, if_false, true_implies, false_implies, implies_true, ↓c_world_bare, ↓c_msg_Counted, cell_L hx2]
        refine ⟨fun h3 => ?_, fun h3 => ⟨i2 + 1, rfl, ⟨by omega, by rw [← hs_i2]; simp [h3]⟩, by omega⟩⟩
        have hF2 : n.topics.all topZ = false := by rw [← hs_i2]; simp [h3]
        clear hs_i2
        cases hq1 : (decide ((n.peers.length : Int) = c.nodes) && decide ((n.topics.length : Int) = c.topics) && decide ((n.marks.length : Int) = c.nodes)) <;> cases hq2 : (decide (n.calls = []) && decide (n.taken = []) && decide (n.pubs = 0) && decide (n.asks = 0))
        all_goals (try (simp (disch := first | omega | assumption | exact ⟨by first | assumption | omega, by first | assumption | omega⟩ | (simp only [List.length_cons, List.length_nil]; omega)) only [↓S0, ↓ITE_bool, S1, eq_self, if_true, if_false, true_implies, false_implies, implies_true, ↓c_world_bare, ↓c_msg_Counted, hq1, hq2, Int.natCast_nonneg, e01]))
        all_goals (rw [← hE, hF0, hF1, hF2, dn1, hq1, hq2])
        all_goals simp
      · rw [drop_nil hc_i2] at hs_i2
        have hF2 : n.topics.all topZ = true := by rw [← hs_i2]; rfl
        clear hs_i2
        cases hq1 : (decide ((n.peers.length : Int) = c.nodes) && decide ((n.topics.length : Int) = c.topics) && decide ((n.marks.length : Int) = c.nodes)) <;> cases hq2 : (decide (n.calls = []) && decide (n.taken = []) && decide (n.pubs = 0) && decide (n.asks = 0))
        all_goals (try (simp (disch := first | omega | assumption | exact ⟨by first | assumption | omega, by first | assumption | omega⟩ | (simp only [List.length_cons, List.length_nil]; omega)) only [↓S0, ↓ITE_bool, S1, eq_self, if_true, if_false, true_implies, false_implies, implies_true, ↓c_world_bare, ↓c_msg_Counted, hq1, hq2, Int.natCast_nonneg, e01]))
        all_goals (rw [← hE, hF0, hF1, hF2, dn1, hq1, hq2])
        all_goals simp
end Go.Xt
end
section
set_option linter.unusedSimpArgs false
set_option linter.unusedVariables false
set_option maxRecDepth 100000
namespace Go.Xt
/-! ### a node that is blank -/
def topsN (k : Nat) (old : List Topic) (i : Nat) : List Topic := (List.range k).map fun j => { topic0 with top := if j < i then (old.getD j topic0).top else 0 }
theorem topsN_len {k i : Nat} {old : List Topic} : (topsN k old i).length = k := by simp [topsN]
theorem topsN_get {k i j : Nat} {old : List Topic} (h : j < k) : (topsN k old i)[j]? = some { topic0 with top := if j < i then (old.getD j topic0).top else 0 } := by simp [topsN, h]
theorem topsN_zero (k : Nat) (old : List Topic) : topsN k old 0 = List.replicate k topic0 := by
  refine List.ext_getElem? fun j => ?_
  by_cases h : j < k
  · rw [topsN_get h]; simp [h, topic0]
  · simp [topsN, h]
theorem topsN_set {k i : Nat} {old : List Topic} (h : i < k) : (topsN k old i).set i { topic0 with top := (old.getD i topic0).top } = topsN k old (i + 1) := by
  refine List.ext_getElem? fun j => ?_
  rw [List.getElem?_set]
  by_cases e : i = j
  · subst e
    rw [if_pos rfl, topsN_len, if_pos h, topsN_get h]; simp
  · rw [if_neg e]
    by_cases hj : j < k
    · rw [topsN_get hj, topsN_get hj]
      by_cases h1 : j < i
      · rw [if_pos h1, if_pos (by omega)]
      · rw [if_neg h1, if_neg (by omega)]
    · simp [topsN, hj]
theorem topsN_end {k i : Nat} {old : List Topic} (h : old.length ≤ i ∨ k ≤ i) : topsN k old i = (List.range k).map fun j => { topic0 with top := (old.getD j topic0).top } := by
  unfold topsN
  refine List.map_congr_left fun j hj => ?_
  rw [List.mem_range] at hj
  by_cases h1 : j < i
  · rw [if_pos h1]
  · rw [if_neg h1]
    have : old.getD j topic0 = topic0 := by
      rw [List.getD_eq_getElem?_getD, List.getElem?_eq_none (by omega)]; rfl
    rw [this]; rfl
theorem set_top {x : Topic} {v : Int} : (Row.row x).set 2 (I v) = Row.row { x with top := v } := rfl
theorem w_world_up (n : Node) : S_world_up ρ (bb n.up) (I n.inc) (L n.peers) (L n.topics) (L n.calls) (I n.pubs) (I n.asks) (L n.marks) (L n.taken) (· = [bb true, I n.inc, L n.peers, L n.topics, L n.calls, I n.pubs, I n.asks, L n.marks, L n.taken]) := by
  unfold S_world_up
  rfl
theorem w_world_blank (c : Config) (inc : Int) (old : List Topic) (hp : cfgOk c = true ∧ old.length ≤ c.topics) (hg : Goods [I c.nodes, I c.topics, I c.kids, I c.depth, I c.keep, I c.window, I c.queue, I inc, L old]) : S_world_blank ρ (I c.nodes) (I c.topics) (I c.kids) (I c.depth) (I c.keep) (I c.window) (I c.queue) (I inc) (L old) (· = [bb false, I inc, L (blankN c inc old).peers, L (blankN c inc old).topics, L (blankN c inc old).calls, I 0, I 0, L (blankN c inc old).marks, L (blankN c inc old).taken]) := by
  unfold S_world_blank
  obtain ⟨hc, ho⟩ := hp
  have hb := cfg_bd hc
  refine SUB.v3 (L (List.replicate c.nodes.toNat (⟨0, 0, 0⟩ : Mark))) (L (List.replicate c.topics.toNat topic0)) (L (List.replicate c.nodes.toNat (⟨0, 0⟩ : Peer))) ?_ ?_
  · simp (disch := first | omega | assumption | exact ⟨by first | assumption | omega, by first | assumption | omega⟩ | (simp only [List.length_cons, List.length_nil]; omega)) only [↓S0, ↓ITE_bool, S1, eq_self, if_true, if_false, true_implies, false_implies, implies_true]
  simp (disch := first | omega | assumption | exact ⟨by first | assumption | omega, by first | assumption | omega⟩ | (simp only [List.length_cons, List.length_nil]; omega)) only [↓S0, ↓ITE_bool, S1, eq_self, if_true, if_false, true_implies, false_implies, implies_true]
  refine LOOP.rule (α := Nat) (fun i => [I i, L (topsN c.topics.toNat old i)]) (fun i => i ≤ old.length) (fun i => old.length - i) 0 (by rw [topsN_zero]; rfl) (by omega) (fun _ => rfl) ?_
  intro i hl
  simp only [app]
  simp (disch := first | omega | assumption | exact ⟨by first | assumption | omega, by first | assumption | omega⟩ | (simp only [List.length_cons, List.length_nil]; omega)) only [↓S0, ↓ITE_bool, S1, eq_self, if_true, if_false, true_implies, false_implies, implies_true, topsN_len]
  refine ⟨fun h => ?_, fun h => ?_⟩
  · obtain ⟨x, hx⟩ := get_ex h
    have hik : i < c.topics.toNat := by omega
    have ht := topsN_get (old := old) (i := i) hik
    simp (disch := first | omega | assumption | exact ⟨by first | assumption | omega, by first | assumption | omega⟩ | (simp only [List.length_cons, List.length_nil]; omega)) only [↓S0, ↓ITE_bool, S1, eq_self, if_true, if_false, true_implies, false_implies, implies_true, cell_L hx, topsN_len]
    rw [OP_idx (by omega) (by rw [topsN_len]; omega)]
    rw [OP_set ht set_top]
    simp (disch := first | omega | assumption | exact ⟨by first | assumption | omega, by first | assumption | omega⟩ | (simp only [List.length_cons, List.length_nil]; omega)) only [↓S0, ↓ITE_bool, S1, eq_self, if_true, if_false, true_implies, false_implies, implies_true]
    refine ⟨i + 1, ?_, by omega, by omega⟩
    have e : (old.getD i topic0).top = x.top := by rw [List.getD_eq_getElem?_getD, hx]; rfl
    rw [← topsN_set hik, e]; simp
  · rw [topsN_end (.inl (by omega))]
    rfl
theorem blank_nil (c : Config) : (blankN c 1 []).topics = List.replicate c.topics.toNat topic0 := by
  show (List.range c.topics.toNat).map _ = _
  rw [← topsN_zero _ []]
  unfold topsN
  rfl
theorem w_world_New (c : Config) : S_world_New ρ (I c.nodes) (I c.topics) (I c.kids) (I c.depth) (I c.keep) (I c.window) (I c.queue) (· = [L (if cfgOk c = true then newW c else ⟨[], []⟩).nodes, L (if cfgOk c = true then newW c else ⟨[], []⟩).bag, I (if cfgOk c = true then 0 else 13)]) := by
  unfold S_world_New
  cases hc : cfgOk c
  · simp (disch := first | omega | assumption | exact ⟨by first | assumption | omega, by first | assumption | omega⟩ | (simp only [List.length_cons, List.length_nil]; omega)) only [↓S0, ↓ITE_bool, S1, eq_self, if_true, if_false, true_implies, false_implies, implies_true, ↓c_script_Config, ↓c_world_up, ↓c_world_blank, hc]
    exact ⟨fun _ => rfl, fun h => absurd h (by decide)⟩
  have hb := cfg_bd hc
  simp (disch := first | omega | assumption | exact ⟨by first | assumption | omega, by first | assumption | omega⟩ | (simp only [List.length_cons, List.length_nil]; omega)) only [↓S0, ↓ITE_bool, S1, eq_self, if_true, if_false, true_implies, false_implies, implies_true, ↓c_script_Config, ↓c_world_up, ↓c_world_blank, hc]
  refine LOOP.rule (α := Nat) (fun i => [I i, L (List.replicate i (freshN c))]) (fun i => (i : Int) ≤ c.nodes) (fun i => c.nodes.toNat - i) 0 rfl (by omega) (fun _ => rfl) ?_
  intro i hl
  simp only [app]
  simp (disch := first | omega | assumption | exact ⟨by first | assumption | omega, by first | assumption | omega⟩ | (simp only [List.length_cons, List.length_nil]; omega)) only [↓S0, ↓ITE_bool, S1, eq_self, if_true, if_false, true_implies, false_implies, implies_true, ↓c_script_Config, ↓c_world_up, ↓c_world_blank]
  refine ⟨fun h => ?_, fun h => ?_⟩
  · rw [show (L [] : PV) = L ([] : List Topic) from rfl]
    have h0 : (([] : List Topic).length : Int) ≤ c.topics := by simp; omega
    simp (disch := first | omega | assumption | exact ⟨by first | assumption | omega, by first | assumption | omega⟩ | (simp only [List.length_cons, List.length_nil]; omega)) only [↓S0, ↓ITE_bool, S1, eq_self, if_true, if_false, true_implies, false_implies, implies_true, ↓c_script_Config, ↓c_world_up, ↓c_world_blank]
    rw [show ({ up := true, inc := 1, peers := (blankN c 1 []).peers, topics := (blankN c 1 []).topics, calls := (blankN c 1 []).calls, pubs := 0, asks := 0, marks := (blankN c 1 []).marks, taken := (blankN c 1 []).taken } : Node) = freshN c from by rw [blank_nil]; rfl]
    rw [OP_app (by simp; omega)]
    refine ⟨i + 1, ?_, by omega, by omega⟩
    rw [List.replicate_succ']; rfl
  · have : c.nodes.toNat = i := by omega
    simp [newW, this]
    rfl
end Go.Xt
end
section
set_option linter.unusedSimpArgs false
set_option linter.unusedVariables false
set_option maxRecDepth 100000
namespace Go.Xt
theorem blank_topic {c : Config} {t self v : Int} (hc : cfgOk c = true) (hp : place c t self = true) (hv : rng v 0 1073741824 = true) : topicOk c t self { topic0 with top := v } = true := by
  obtain ⟨h1, h2, h3, h4⟩ := place_bd hc hp
  have hb := cfg_bd hc
  have hk : chk t self [] c.depth = 0 := by
    have : c.depth ≤ 8 := by omega
    have : 1 ≤ c.depth := by omega
    have hd : ¬ (([] : List Int).length : Int) > c.depth := by simp; omega
    unfold chk
    rw [if_neg hd]
    simp [h1, h2, *, rises]
  have hq : rng c.queue 2 32 = true := by unfold rng; simp; omega
  have hkk : rng c.kids 1 4 = true := by unfold rng; simp; omega
  have hki : kidsOk t self c.kids [] = true := by
    have : (0 : Int) ≤ c.kids := by omega
    simp [kidsOk, h1, h2, hkk, kidsGo, this]
  have hfl : flowOk c ⟨0, 0, 0, [], []⟩ [] = true := by
    have e1 : (0 : Int) ≤ c.queue := by omega
    have e2 : (0 : Int) < c.queue := by omega
    simp [flowOk, streamOk, streamZ, queueOk, hq, e1, e2]
  simp only [rng, Bool.and_eq_true, decide_eq_true_eq] at hv
  simp [topicOk, topic0, hv, hk, hki, hfl, link, rootOk, placedOk, rng]
theorem blank_topics {c : Config} {self : Int} (hc : cfgOk c = true) (hs : rng self 0 (c.nodes - 1) = true) : ∀ (l : List Topic) (t : Int), 0 ≤ t → t + l.length ≤ c.topics → l.all topZ = true → topicsGo c self t l = true
  | [], _, _, _, _ => rfl
  | x :: r, t, h0, h1, h2 => by
    rw [List.all_cons, Bool.and_eq_true] at h2
    simp only [List.length_cons] at h1
    rw [topicsGo, blank_topics hc hs r (t + 1) (by omega) (by omega) h2.2, Bool.and_true]
    obtain ⟨hx, _⟩ := h2
    simp only [topZ, Bool.and_eq_true, decide_eq_true_eq] at hx
    rw [hx.1]
    exact blank_topic hc (by simp only [place, Bool.and_eq_true]; exact ⟨by unfold rng; simp; omega, hs⟩) hx.2
theorem repl_of_all {α : Type} [DecidableEq α] {z : α} {l : List α} {n : Int} (h : (l.length : Int) = n) (ha : l.all (fun p => decide (p = z)) = true) : l = List.replicate n.toNat z := by
  rw [List.eq_replicate_iff]
  refine ⟨by omega, fun b hb => ?_⟩
  rw [List.all_eq_true] at ha
  simpa using ha b hb
theorem blank_tops {c : Config} {l : List Topic} (h : (l.length : Int) = c.topics) (ha : l.all topZ = true) : l = (List.range c.topics.toNat).map (fun i => { topic0 with top := (l.getD i topic0).top }) := by
  have hk : c.topics.toNat = l.length := by omega
  rw [hk]
  refine List.ext_getElem (by simp) fun i h1 h2 => ?_
  simp only [List.getElem_map, List.getElem_range]
  have h3 : l.getD i topic0 = l[i] := by simp [h1]
  rw [h3]
  rw [List.all_eq_true] at ha
  have := ha l[i] (List.getElem_mem _)
  simp only [topZ, Bool.and_eq_true, decide_eq_true_eq] at this
  exact this.1
theorem topics_top {c : Config} {self : Int} : ∀ (l : List Topic) (t : Int), topicsGo c self t l = true → l.all (fun x => rng x.top 0 1073741824) = true
  | [], _, _ => rfl
  | x :: r, t, h => by
    rw [topicsGo, Bool.and_eq_true] at h
    rw [List.all_cons, topics_top r _ h.2, Bool.and_true]
    have := h.1
    simp only [topicOk, Bool.and_eq_true] at this
    simp_all
theorem down_node {c : Config} {i : Int} {n : Node} (hc : cfgOk c = true) (hs : rng i 0 (c.nodes - 1) = true) (hu : n.up = false) : (nodeOk c i n && decide (n = blankN c n.inc n.topics)) = downOk c n := by
  have hb := cfg_bd hc
  rw [Bool.eq_iff_iff]
  constructor
  · intro h
    simp only [Bool.and_eq_true, decide_eq_true_eq] at h
    obtain ⟨h1, h2⟩ := h
    simp only [nodeOk, Bool.and_eq_true, decide_eq_true_eq] at h1
    obtain ⟨⟨⟨⟨⟨⟨⟨⟨⟨⟨⟨⟨a1, a2⟩, a3⟩, a4⟩, a5⟩, a6⟩, a7⟩, a8⟩, a9⟩, a10⟩, a11⟩, a12⟩, a13⟩ := h1
    rw [Node.eq_iff] at h2
    obtain ⟨b1, b2, b3, b4, b5, b6, b7, b8, b9⟩ := h2
    simp only [blankN] at b3 b4 b5 b6 b7 b8 b9
    have htop : n.topics.all topZ = true := by
      have ht := topics_top _ _ a10
      rw [List.all_eq_true] at ht ⊢
      intro x hx
      simp only [topZ, Bool.and_eq_true, decide_eq_true_eq]
      refine ⟨?_, ht x hx⟩
      rw [b4, List.mem_map] at hx
      obtain ⟨j, _, rfl⟩ := hx
      rfl
    simp only [downOk, Bool.and_eq_true, decide_eq_true_eq]
    refine ⟨⟨⟨⟨⟨⟨⟨⟨⟨⟨a6, a7⟩, a8⟩, b5⟩, b9⟩, b6⟩, b7⟩, ?_⟩, ?_⟩, htop⟩, a1⟩
    · rw [b3]; simp
    · rw [b8]; simp
  · intro h
    simp only [downOk, Bool.and_eq_true, decide_eq_true_eq] at h
    obtain ⟨⟨⟨⟨⟨⟨⟨⟨⟨⟨a6, a7⟩, a8⟩, b5⟩, b9⟩, b6⟩, b7⟩, c1⟩, c2⟩, htop⟩, a1⟩ := h
    simp only [Bool.and_eq_true, decide_eq_true_eq]
    constructor
    · simp only [nodeOk, Bool.and_eq_true, decide_eq_true_eq]
      have hr := rng_bd hs
      refine ⟨⟨⟨⟨⟨⟨⟨⟨⟨⟨⟨⟨a1, by rw [b6]; rfl⟩, by rw [b7]; rfl⟩, by rw [b5]; rfl⟩, by rw [b5]; simp⟩, a6⟩, a7⟩, a8⟩, by rw [b9]; simp⟩, blank_topics hc hs _ _ (by omega) (by omega) htop⟩, ?_⟩, ?_⟩, by rw [b9]; rfl⟩
      · simp only [peersOk, Bool.and_eq_true, decide_eq_true_eq]
        refine ⟨⟨by omega, by omega⟩, ?_⟩
        rw [repl_of_all a6 c1]
        simp [peerOk, rng]
      · rw [repl_of_all a8 c2]
        simp [markOk, rng]
    · rw [Node.eq_iff]
      exact ⟨hu, rfl, repl_of_all a6 c1, blank_tops a7 htop, b5, b6, b7, repl_of_all a8 c2, b9⟩
theorem w_world_Check (c : Config) (w : World) (hg : Goods [I c.nodes, I c.topics, I c.kids, I c.depth, I c.keep, I c.window, I c.queue, L w.nodes, L w.bag]) : S_world_Check ρ (I c.nodes) (I c.topics) (I c.kids) (I c.depth) (I c.keep) (I c.window) (I c.queue) (L w.nodes) (L w.bag) (· = [I (worldWhy c w)]) := by
  unfold S_world_Check
  simp only [Goods, good_L, good_I] at hg
  cases hc : cfgOk c
  · simp (disch := first | omega | assumption | exact ⟨by first | assumption | omega, by first | assumption | omega⟩ | (simp only [List.length_cons, List.length_nil]; omega)) only [↓S0, ↓ITE_bool, S1, eq_self, if_true, if_false, true_implies, false_implies, implies_true, ↓c_script_Config, ↓c_bag_Check, ↓c_cast_Check, ↓c_world_down, hc]
    exact ⟨fun _ => by simp [worldWhy, hc], fun h => absurd h (by decide)⟩
  have hb := cfg_bd hc
  simp (disch := first | omega | assumption | exact ⟨by first | assumption | omega, by first | assumption | omega⟩ | (simp only [List.length_cons, List.length_nil]; omega)) only [↓S0, ↓ITE_bool, S1, eq_self, if_true, if_false, true_implies, false_implies, implies_true, ↓c_script_Config, ↓c_bag_Check, ↓c_cast_Check, ↓c_world_down, hc]
  refine SUB.v1 (bb (!(decide (w.nodes.length = c.nodes) && decide (bagWhy w.bag = 0)))) ?_ ?_
  · repeat' (first | apply And.intro | intro _ | simp (disch := first | omega | assumption | exact ⟨by first | assumption | omega, by first | assumption | omega⟩ | (simp only [List.length_cons, List.length_nil]; omega)) only [↓S0, ↓ITE_bool, S1, eq_self, if_true, if_false, true_implies, false_implies, implies_true, ↓c_script_Config, ↓c_bag_Check, ↓c_cast_Check, ↓c_world_down])
    all_goals simp_all
  have hW : worldWhy c w = if worldOk c w = true then 0 else 1 := by rw [worldWhy, if_pos hc]
  cases hq : (decide ((w.nodes.length : Int) = c.nodes) && decide (bagWhy w.bag = 0))
  · simp (disch := first | omega | assumption | exact ⟨by first | assumption | omega, by first | assumption | omega⟩ | (simp only [List.length_cons, List.length_nil]; omega)) only [↓S0, ↓ITE_bool, S1, eq_self, if_true, if_false, true_implies, false_implies, implies_true, ↓c_script_Config, ↓c_bag_Check, ↓c_cast_Check, ↓c_world_down, hq]
    rw [hW, worldOk, hq]; rfl
  have hO : worldOk c w = nodesGo c 0 w.nodes := by rw [worldOk, hq, Bool.true_and]
  simp (disch := first | omega | assumption | exact ⟨by first | assumption | omega, by first | assumption | omega⟩ | (simp only [List.length_cons, List.length_nil]; omega)) only [↓S0, ↓ITE_bool, S1, eq_self, if_true, if_false, true_implies, false_implies, implies_true, ↓c_script_Config, ↓c_bag_Check, ↓c_cast_Check, ↓c_world_down, hq]
  rw [Bool.and_eq_true, decide_eq_true_eq] at hq
  refine LOOP.rule (α := Nat) (fun i => [I i]) (fun i => i ≤ w.nodes.length ∧ nodesGo c i (w.nodes.drop i) = nodesGo c 0 w.nodes) (fun i => w.nodes.length - i) 0 rfl ⟨by omega, by simp⟩ (fun _ => rfl) ?_
  rintro i ⟨hl, hs⟩
  simp only [app]
  simp (disch := first | omega | assumption | exact ⟨by first | assumption | omega, by first | assumption | omega⟩ | (simp only [List.length_cons, List.length_nil]; omega)) only [↓S0, ↓ITE_bool, S1, eq_self, if_true, if_false, true_implies, false_implies, implies_true, ↓c_script_Config, ↓c_bag_Check, ↓c_cast_Check, ↓c_world_down]
  refine ⟨fun h => ?_, fun h => ?_⟩
  · obtain ⟨n, hn⟩ := get_ex h
    rw [drop_eq hn, nodesGo] at hs
    have hr : rng i 0 (c.nodes - 1) = true := by unfold rng; simp; omega
    cases hu : n.up
    · have e : ({ n with up := false } : Node) = n := by rw [← hu]
      simp (disch := first | omega | assumption | exact ⟨by first | assumption | omega, by first | assumption | omega⟩ | (simp only [List.length_cons, List.length_nil]; omega)) only [↓S0, ↓ITE_bool, S1, eq_self, if_true, if_false, true_implies, false_implies, implies_true, ↓c_script_Config, ↓c_bag_Check, ↓c_cast_Check, ↓c_world_down, cell_L hn, hu, hc]
      rw [e]
      rw [hu, if_neg (by simp)] at hs
      refine ⟨fun h => ?_, fun h => ⟨i + 1, rfl, ⟨by omega, by rw [← hs, h]; simp⟩, by omega⟩⟩
      rw [hW, hO, ← hs, h]; rfl
    · have e : ({ n with up := true } : Node) = n := by rw [← hu]
      simp (disch := first | omega | assumption | exact ⟨by first | assumption | omega, by first | assumption | omega⟩ | (simp only [List.length_cons, List.length_nil]; omega)) only [↓S0, ↓ITE_bool, S1, eq_self, if_true, if_false, true_implies, false_implies, implies_true, ↓c_script_Config, ↓c_bag_Check, ↓c_cast_Check, ↓c_world_down, cell_L hn, hu, hc, nodeWhy, hr]
      rw [e]
      rw [hu, if_pos rfl] at hs
      cases hN : nodeOk c i n
      · rw [hN, Bool.false_and] at hs
        simp
        rw [hW, hO, ← hs]; rfl
      · rw [hN, Bool.true_and] at hs
        simp
        exact ⟨i + 1, by simp, ⟨by omega, by rw [← hs]; simp⟩, by omega⟩
  · rw [drop_nil h] at hs
    rw [hW, hO, ← hs]; rfl
end Go.Xt
end
section
set_option linter.unusedSimpArgs false
set_option linter.unusedVariables false
set_option maxRecDepth 100000
namespace Go.Xt
theorem w_check_last (x : Event) : S_check_last ρ (I x.kind) (I x.epoch) (I x.seq) (I x.last) (I x.value) (I x.count) (· = [I (endOf x), bb (ofStream x)]) := by
  unfold S_check_last
  repeat' (first | apply And.intro | intro _ | simp (disch := first | omega | assumption | exact ⟨by first | assumption | omega, by first | assumption | omega⟩ | (simp only [List.length_cons, List.length_nil]; omega)) only [↓S0, ↓ITE_bool, S1, eq_self, if_true, if_false, true_implies, false_implies, implies_true])
  all_goals simp_all [endOf, ofStream]
theorem w_check_asked (c : Config) (w : World) (t : Int) (hg : Goods [I c.nodes, I c.topics, I c.kids, I c.depth, I c.keep, I c.window, I c.queue, L w.nodes, L w.bag, I t]) : S_check_asked ρ (I c.nodes) (I c.topics) (I c.kids) (I c.depth) (I c.keep) (I c.window) (I c.queue) (L w.nodes) (L w.bag) (I t) (· = [I (askedW c w t)]) := by
  unfold S_check_asked
  generalize hE : askedW c w t = q
  repeat' (first | apply And.intro | intro _ | simp (disch := first | omega | assumption | exact ⟨by first | assumption | omega, by first | assumption | omega⟩ | (simp only [List.length_cons, List.length_nil]; omega)) only [↓S0, ↓ITE_bool, S1, eq_self, if_true, if_false, true_implies, false_implies, implies_true, ↓c_world_Check])
  all_goals (rw [← hE]; clear hE)
  all_goals simp_all [askedW, rng]
  all_goals (intros; omega)
theorem worldWhy_0 {c : Config} {w : World} (h : worldWhy c w = 0) : cfgOk c = true ∧ worldOk c w = true := by
  unfold worldWhy at h
  cases hc : cfgOk c <;> cases hw : worldOk c w <;> simp_all
theorem askedW_0 {c : Config} {w : World} {t : Int} (h : askedW c w t = 0) : cfgOk c = true ∧ worldOk c w = true ∧ rng t 0 (c.topics - 1) = true := by
  unfold askedW at h
  cases hr : rng t 0 (c.topics - 1)
  · by_cases h0 : worldWhy c w = 0 <;> simp_all
  · by_cases h0 : worldWhy c w = 0
    · exact ⟨(worldWhy_0 h0).1, (worldWhy_0 h0).2, rfl⟩
    · simp_all
theorem node_tops {c : Config} : ∀ {l : List Node} {i : Int}, nodesGo c i l = true → ∀ n ∈ l, (n.topics.length : Int) = c.topics
  | [], _, _, n, hn => by cases hn
  | x :: r, i, h, n, hn => by
    rw [nodesGo, Bool.and_eq_true] at h
    rcases List.mem_cons.1 hn with rfl | hn
    · have h1 := h.1
      cases hu : n.up
      · rw [hu, if_neg (by simp)] at h1
        simp only [downOk, Bool.and_eq_true, decide_eq_true_eq] at h1
        simp_all
      · rw [hu, if_pos rfl] at h1
        simp only [nodeOk, Bool.and_eq_true, decide_eq_true_eq] at h1
        simp_all
    · exact node_tops h.2 n hn
theorem world_tops {c : Config} {w : World} (h : worldOk c w = true) : (w.nodes.length : Int) = c.nodes ∧ ∀ n ∈ w.nodes, (n.topics.length : Int) = c.topics := by
  simp only [worldOk, Bool.and_eq_true, decide_eq_true_eq] at h
  exact ⟨h.1.1, node_tops h.2⟩
theorem getI {α : Type} {l : List α} {i : Nat} {x : α} (h : l[i]? = some x) : x ∈ l := List.mem_of_getElem? h
theorem topAt_eq {n : Node} {t : Int} {x : Topic} (h : n.topics[t.toNat]? = some x) : topAt n t = x := by
  unfold topAt
  simp [h]
theorem take_s {α : Type} {xs : List α} {i : Nat} {x : α} (h : xs[i]? = some x) : xs.take (i + 1) = xs.take i ++ [x] := by rw [List.take_add_one, h]; rfl
theorem w_check_Parents (c : Config) (w : World) (t : Int) (hg : Goods [I c.nodes, I c.topics, I c.kids, I c.depth, I c.keep, I c.window, I c.queue, L w.nodes, L w.bag, I t]) : S_check_Parents ρ (I c.nodes) (I c.topics) (I c.kids) (I c.depth) (I c.keep) (I c.window) (I c.queue) (L w.nodes) (L w.bag) (I t) (· = [L (if askedW c w t = 0 then parentsW w t else []), I (askedW c w t)]) := by
  unfold S_check_Parents
  simp (disch := first | omega | assumption | exact ⟨by first | assumption | omega, by first | assumption | omega⟩ | (simp only [List.length_cons, List.length_nil]; omega)) only [↓S0, ↓ITE_bool, S1, eq_self, if_true, if_false, true_implies, false_implies, implies_true, ↓c_check_asked]
  refine ⟨fun h => ?_, fun h => ?_⟩
  · rw [if_neg h]; rfl
  rw [if_pos h]
  obtain ⟨hc, hw, hr⟩ := askedW_0 h
  obtain ⟨w1, w2⟩ := world_tops hw
  have hb := cfg_bd hc
  have hr' := rng_bd hr
  obtain ⟨u, rfl⟩ := Int.eq_ofNat_of_zero_le hr'.1
  refine LOOP.rule (α := Nat) (fun i => [I i, L ((w.nodes.take i).map fun n => (topAt n u).parent)]) (fun i => i ≤ w.nodes.length) (fun i => w.nodes.length - i) 0 rfl (by omega) (fun _ => rfl) ?_
  intro i hl
  simp only [app]
  simp (disch := first | omega | assumption | exact ⟨by first | assumption | omega, by first | assumption | omega⟩ | (simp only [List.length_cons, List.length_nil]; omega)) only [↓S0, ↓ITE_bool, S1, eq_self, if_true, if_false, true_implies, false_implies, implies_true, ↓c_check_asked]
  refine ⟨fun h => ?_, fun h => ?_⟩
  · obtain ⟨n, hn⟩ := get_ex h
    have ht := w2 n (getI hn)
    obtain ⟨x, hx⟩ := get_ex (xs := n.topics) (i := u) (by omega)
    simp (disch := first | omega | assumption | exact ⟨by first | assumption | omega, by first | assumption | omega⟩ | (simp only [List.length_cons, List.length_nil]; omega)) only [↓S0, ↓ITE_bool, S1, eq_self, if_true, if_false, true_implies, false_implies, implies_true, ↓c_check_asked, cell_L hn, cell_L hx]
    rw [OP_app (by simp; omega)]
    refine ⟨i + 1, ?_, by omega, by omega⟩
    rw [take_s hn, List.map_append, List.map_singleton, topAt_eq (t := u) (by simpa using hx)]; rfl
  · have e : i = w.nodes.length := by omega
    rw [e, List.take_length, ‹askedW c w _ = 0›]; rfl
theorem rootsGo_app {t : Int} : ∀ (l : List Node) (i : Int) (n : Node), rootsGo t i (l ++ [n]) = rootsGo t i l ++ (if n.up = true ∧ (topAt n t).root ≠ 0 then [i + l.length] else [])
  | [], i, n => by simp [rootsGo]
  | x :: r, i, n => by
    rw [List.cons_append, rootsGo, rootsGo_app r, rootsGo, List.append_assoc, List.length_cons]
    have : i + 1 + (r.length : Int) = i + ((r.length + 1 : Nat) : Int) := by omega
    rw [this]
theorem rootsGo_len {t : Int} : ∀ (l : List Node) (i : Int), (rootsGo t i l).length ≤ l.length
  | [], i => by simp [rootsGo]
  | x :: r, i => by
    have := rootsGo_len (t := t) r (i + 1)
    rw [rootsGo, List.length_append, List.length_cons]
    split <;> simp <;> omega
theorem w_check_Roots (c : Config) (w : World) (t : Int) (hg : Goods [I c.nodes, I c.topics, I c.kids, I c.depth, I c.keep, I c.window, I c.queue, L w.nodes, L w.bag, I t]) : S_check_Roots ρ (I c.nodes) (I c.topics) (I c.kids) (I c.depth) (I c.keep) (I c.window) (I c.queue) (L w.nodes) (L w.bag) (I t) (· = [L (if askedW c w t = 0 then rootsW w t else []), I (askedW c w t)]) := by
  unfold S_check_Roots
  simp (disch := first | omega | assumption | exact ⟨by first | assumption | omega, by first | assumption | omega⟩ | (simp only [List.length_cons, List.length_nil]; omega)) only [↓S0, ↓ITE_bool, S1, eq_self, if_true, if_false, true_implies, false_implies, implies_true, ↓c_check_asked]
  refine ⟨fun h => ?_, fun h0 => ?_⟩
  · rw [if_neg h]; rfl
  rw [if_pos h0]
  obtain ⟨hc, hw, hr⟩ := askedW_0 h0
  obtain ⟨w1, w2⟩ := world_tops hw
  have hb := cfg_bd hc
  have hr' := rng_bd hr
  obtain ⟨u, rfl⟩ := Int.eq_ofNat_of_zero_le hr'.1
  refine LOOP.rule (α := Nat) (fun i => [I i, L (rootsGo u 0 (w.nodes.take i))]) (fun i => i ≤ w.nodes.length) (fun i => w.nodes.length - i) 0 rfl (by omega) (fun _ => rfl) ?_
  intro i hl
  simp only [app]
  simp (disch := first | omega | assumption | exact ⟨by first | assumption | omega, by first | assumption | omega⟩ | (simp only [List.length_cons, List.length_nil]; omega)) only [↓S0, ↓ITE_bool, S1, eq_self, if_true, if_false, true_implies, false_implies, implies_true, ↓c_check_asked]
  refine ⟨fun h => ?_, fun h => ?_⟩
  · obtain ⟨n, hn⟩ := get_ex h
    have ht := w2 n (getI hn)
    obtain ⟨x, hx⟩ := get_ex (xs := n.topics) (i := u) (by omega)
    have htx := topAt_eq (n := n) (t := u) (by simpa using hx)
    have hll := rootsGo_len (t := u) (w.nodes.take i) 0
    rw [List.length_take] at hll
    have hT : rootsGo u 0 (w.nodes.take (i + 1)) = rootsGo u 0 (w.nodes.take i) ++ (if n.up = true ∧ x.root ≠ 0 then [(i : Int)] else []) := by
      rw [take_s hn, rootsGo_app, htx, List.length_take]
      have : (0 : Int) + ((min i w.nodes.length : Nat) : Int) = i := by omega
      rw [this]
    simp (disch := first | omega | assumption | exact ⟨by first | assumption | omega, by first | assumption | omega⟩ | (simp only [List.length_cons, List.length_nil]; omega)) only [↓S0, ↓ITE_bool, S1, eq_self, if_true, if_false, true_implies, false_implies, implies_true, ↓c_check_asked, cell_L hn]
    cases hu : n.up
    · rw [hu, if_neg (by simp), List.append_nil] at hT
      simp (disch := first | omega | assumption | exact ⟨by first | assumption | omega, by first | assumption | omega⟩ | (simp only [List.length_cons, List.length_nil]; omega)) only [↓S0, ↓ITE_bool, S1, eq_self, if_true, if_false, true_implies, false_implies, implies_true, ↓c_check_asked]
      exact ⟨i + 1, by rw [hT]; rfl, by omega, by omega⟩
    simp (disch := first | omega | assumption | exact ⟨by first | assumption | omega, by first | assumption | omega⟩ | (simp only [List.length_cons, List.length_nil]; omega)) only [↓S0, ↓ITE_bool, S1, eq_self, if_true, if_false, true_implies, false_implies, implies_true, ↓c_check_asked, cell_L hx]
    refine ⟨fun h3 => ?_, fun h3 => ?_⟩
    · rw [hu, if_pos ⟨rfl, h3⟩] at hT
      exact ⟨i + 1, by rw [hT]; rfl, by omega, by omega⟩
    · rw [hu, if_neg (by simp [h3]), List.append_nil] at hT
      exact ⟨i + 1, by rw [hT]; rfl, by omega, by omega⟩
  · have e : i = w.nodes.length := by omega
    rw [e, List.take_length, h0]; rfl
theorem w_check_whole (w : World) (t : Int) (hp : 0 ≤ t ∧ w.nodes.length ≤ 8 ∧ ∀ n ∈ w.nodes, t < n.topics.length) (hg : Goods [L w.nodes, L w.bag, I t]) : S_check_whole ρ (L w.nodes) (L w.bag) (I t) (· = [bb (whole (pathsW w t))]) := by
  unfold S_check_whole
  obtain ⟨h0, h1, h2⟩ := hp
  obtain ⟨u, rfl⟩ := Int.eq_ofNat_of_zero_le h0
  simp (disch := first | omega | assumption | exact ⟨by first | assumption | omega, by first | assumption | omega⟩ | (simp only [List.length_cons, List.length_nil]; omega)) only [↓S0, ↓ITE_bool, S1, eq_self, if_true, if_false, true_implies, false_implies, implies_true, ↓c_path_Whole]
  refine LOOP.rule (α := Nat) (fun i => [I i, L ((w.nodes.take i).map fun n => (topAt n u).path)]) (fun i => i ≤ w.nodes.length) (fun i => w.nodes.length - i) 0 rfl (by omega) (fun _ => rfl) ?_
  intro i hl
  simp only [app]
  simp (disch := first | omega | assumption | exact ⟨by first | assumption | omega, by first | assumption | omega⟩ | (simp only [List.length_cons, List.length_nil]; omega)) only [↓S0, ↓ITE_bool, S1, eq_self, if_true, if_false, true_implies, false_implies, implies_true, ↓c_path_Whole]
  refine ⟨fun h => ?_, fun h => ?_⟩
  · obtain ⟨n, hn⟩ := get_ex h
    have ht := h2 n (getI hn)
    obtain ⟨x, hx⟩ := get_ex (xs := n.topics) (i := u) (by omega)
    simp (disch := first | omega | assumption | exact ⟨by first | assumption | omega, by first | assumption | omega⟩ | (simp only [List.length_cons, List.length_nil]; omega)) only [↓S0, ↓ITE_bool, S1, eq_self, if_true, if_false, true_implies, false_implies, implies_true, ↓c_path_Whole, cell_L hn, cell_L hx]
    rw [OP_app (by simp; omega)]
    refine ⟨i + 1, ?_, by omega, by omega⟩
    rw [take_s hn, List.map_append, List.map_singleton, topAt_eq (t := u) (by simpa using hx)]; rfl
  · have e : i = w.nodes.length := by omega
    rw [e, List.take_length]; rfl
theorem w_check_Whole (c : Config) (w : World) (t : Int) (hg : Goods [I c.nodes, I c.topics, I c.kids, I c.depth, I c.keep, I c.window, I c.queue, L w.nodes, L w.bag, I t]) : S_check_Whole ρ (I c.nodes) (I c.topics) (I c.kids) (I c.depth) (I c.keep) (I c.window) (I c.queue) (L w.nodes) (L w.bag) (I t) (· = [bb (decide (askedW c w t = 0) && whole (pathsW w t)), I (askedW c w t)]) := by
  unfold S_check_Whole
  simp (disch := first | omega | assumption | exact ⟨by first | assumption | omega, by first | assumption | omega⟩ | (simp only [List.length_cons, List.length_nil]; omega)) only [↓S0, ↓ITE_bool, S1, eq_self, if_true, if_false, true_implies, false_implies, implies_true, ↓c_check_asked, ↓c_check_whole]
  refine ⟨fun h => ?_, fun h0 => ?_⟩
  · rw [decide_eq_false h]; rfl
  obtain ⟨hc, hw, hr⟩ := askedW_0 h0
  obtain ⟨w1, w2⟩ := world_tops hw
  have hb := cfg_bd hc
  have hr' := rng_bd hr
  have hpre : 0 ≤ t ∧ w.nodes.length ≤ 8 ∧ ∀ n ∈ w.nodes, t < n.topics.length := ⟨by omega, by omega, fun n hn => by have := w2 n hn; omega⟩
  simp (disch := first | omega | assumption | exact ⟨by first | assumption | omega, by first | assumption | omega⟩ | (simp only [List.length_cons, List.length_nil]; omega)) only [↓S0, ↓ITE_bool, S1, eq_self, if_true, if_false, true_implies, false_implies, implies_true, ↓c_check_asked, ↓c_check_whole]
  rw [decide_eq_true h0, h0]; rfl
end Go.Xt
end
section
set_option linter.unusedSimpArgs false
set_option linter.unusedVariables false
set_option maxRecDepth 100000
namespace Go.Xt
theorem w_check_deep (c : Config) (n : Node) (hg : Goods [I c.nodes, I c.topics, I c.kids, I c.depth, I c.keep, I c.window, I c.queue, bb n.up, I n.inc, L n.peers, L n.topics, L n.calls, I n.pubs, I n.asks, L n.marks, L n.taken]) : S_check_deep ρ (I c.nodes) (I c.topics) (I c.kids) (I c.depth) (I c.keep) (I c.window) (I c.queue) (bb n.up) (I n.inc) (L n.peers) (L n.topics) (L n.calls) (I n.pubs) (I n.asks) (L n.marks) (L n.taken) (· = [bb (deepN c n)]) := by
  unfold S_check_deep
  simp only [Goods, good_L, good_I] at hg
  generalize hE : deepN c n = q
  unfold deepN at hE
  simp (disch := first | omega | assumption | exact ⟨by first | assumption | omega, by first | assumption | omega⟩ | (simp only [List.length_cons, List.length_nil]; omega)) only [↓S0, ↓ITE_bool, S1, eq_self, if_true, if_false, true_implies, false_implies, implies_true]
  refine LOOP.rule (α := Nat) (fun i => [I i]) (fun i => i ≤ n.topics.length ∧ (n.topics.drop i).any ((fun x : Topic => decide ((x.path.length : Int) > c.depth))) = n.topics.any ((fun x : Topic => decide ((x.path.length : Int) > c.depth)))) (fun i => n.topics.length - i) 0 rfl ⟨by omega, by simp⟩ (fun _ => rfl) ?_
  rintro i ⟨hl_i, hs_i⟩
  simp only [app]
  simp (disch := first | omega | assumption | exact ⟨by first | assumption | omega, by first | assumption | omega⟩ | (simp only [List.length_cons, List.length_nil]; omega)) only [↓S0, ↓ITE_bool, S1, eq_self, if_true, if_false, true_implies, false_implies, implies_true]
  refine ⟨fun hc_i => ?_, fun hc_i => ?_⟩
  · obtain ⟨x, hx⟩ := get_ex hc_i
    rw [drop_eq hx, List.any_cons] at hs_i
    simp (disch := first | omega | assumption | exact ⟨by first | assumption | omega, by first | assumption | omega⟩ | (simp only [List.length_cons, List.length_nil]; omega)) only [↓S0, ↓ITE_bool, S1, eq_self, if_true, if_false, true_implies, false_implies, implies_true, cell_L hx]
    refine ⟨fun h3 => ?_, fun h3 => ⟨i + 1, rfl, ⟨by omega, ?_⟩, by omega⟩⟩
    · rw [← hE, ← hs_i]; simp [show (x.path.length : Int) > c.depth by omega]
    · rw [← hs_i]; simp [show ¬ (x.path.length : Int) > c.depth by omega]
  · rw [drop_nil hc_i] at hs_i
    rw [← hE, ← hs_i]; simp
theorem w_check_full (c : Config) (x : Topic) (hg : Goods [I c.nodes, I c.topics, I c.kids, I c.depth, I c.keep, I c.window, I c.queue, bb x.made, bb x.sub, I x.top, I x.root, I x.parent, I x.asked, I x.other, I x.age, L x.path, L x.kids, I x.stream.epoch, I x.stream.want, I x.stream.known, L x.stream.kept, L x.stream.ahead, L x.queue]) : S_check_full ρ (I c.nodes) (I c.topics) (I c.kids) (I c.depth) (I c.keep) (I c.window) (I c.queue) (bb x.made) (bb x.sub) (I x.top) (I x.root) (I x.parent) (I x.asked) (I x.other) (I x.age) (L x.path) (L x.kids) (I x.stream.epoch) (I x.stream.want) (I x.stream.known) (L x.stream.kept) (L x.stream.ahead) (L x.queue) (· = [bb (fullT c x)]) := by
  unfold S_check_full
  simp only [Goods, good_L, good_I] at hg
  generalize hE : fullT c x = q
  unfold fullT at hE
  repeat' (first | apply And.intro | intro _ | simp (disch := first | omega | assumption | exact ⟨by first | assumption | omega, by first | assumption | omega⟩ | (simp only [List.length_cons, List.length_nil]; omega)) only [↓S0, ↓ITE_bool, S1, eq_self, if_true, if_false, true_implies, false_implies, implies_true])
  all_goals (rw [← hE]; clear hE; simp_all)
  all_goals (intros; omega)
theorem w_slices_Contains_int_int (l : List Int) (n : Int) (hg : Goods [L l, I n]) : S_slices_Contains_int_int ρ (L l) (I n) (· = [bb (l.contains n)]) := by
  unfold S_slices_Contains_int_int
  simp only [Goods, good_L, good_I] at hg
  simp (disch := first | omega | assumption | exact ⟨by first | assumption | omega, by first | assumption | omega⟩ | (simp only [List.length_cons, List.length_nil]; omega)) only [↓S0, ↓ITE_bool, S1, eq_self, if_true, if_false, true_implies, false_implies, implies_true]
  refine LOOP.rule (α := Nat) (fun i => [I i]) (fun i => i ≤ l.length ∧ (l.drop i).contains n = l.contains n) (fun i => l.length - i) 0 rfl ⟨by omega, by simp⟩ (fun _ => rfl) ?_
  rintro i ⟨hl, hs⟩
  simp only [app]
  simp (disch := first | omega | assumption | exact ⟨by first | assumption | omega, by first | assumption | omega⟩ | (simp only [List.length_cons, List.length_nil]; omega)) only [↓S0, ↓ITE_bool, S1, eq_self, if_true, if_false, true_implies, false_implies, implies_true]
  refine ⟨fun hc => ?_, fun hc => ?_⟩
  · obtain ⟨x, hx⟩ := get_ex hc
    rw [drop_eq hx, List.contains_cons] at hs
    simp (disch := first | omega | assumption | exact ⟨by first | assumption | omega, by first | assumption | omega⟩ | (simp only [List.length_cons, List.length_nil]; omega)) only [↓S0, ↓ITE_bool, S1, eq_self, if_true, if_false, true_implies, false_implies, implies_true, cell_L hx]
    refine ⟨fun h3 => ?_, fun h3 => ⟨i + 1, rfl, ⟨by omega, ?_⟩, by omega⟩⟩
    · rw [← hs]; simp [h3]
    · rw [← hs]; simp [h3]
  · rw [drop_nil hc] at hs
    rw [← hs]; simp
theorem ahd_len {m : Int} : ∀ (l : List Item) (p : Int), ahdGo m p l = true → (l.length : Int) ≤ max 0 (m - 1 - p)
  | [], p, _ => by simp; omega
  | x :: r, p, h => by
    simp only [ahdGo, Bool.and_eq_true, decide_eq_true_eq] at h
    have := ahd_len r x.seq h.2
    simp only [List.length_cons]
    omega
theorem topic_full {c : Config} {t self : Int} {x : Topic} (hc : cfgOk c = true) (h : topicOk c t self x = true) : fullT c x = false := by
  have hb := cfg_bd hc
  simp only [topicOk, Bool.and_eq_true, flowOk, kidsOk, queueOk, streamOk, Bool.or_eq_true, streamZ, keptOk, aheadOk, decide_eq_true_eq] at h
  obtain ⟨⟨_, hk⟩, hs, hq⟩ := h
  have h1 : ¬ (x.kids.length : Int) > c.kids := by have := hk.1.2; omega
  have h2 : ¬ (x.queue.length : Int) > c.queue := by have := hq.1.1.2; omega
  have h3 : ¬ (x.stream.kept.length : Int) > c.keep := by
    rcases hs with hs | hs
    · rw [hs.1.2]; simp; omega
    · have := hs.1.2.1.1.2; omega
  have h4 : ¬ (x.stream.ahead.length : Int) > c.window := by
    rcases hs with hs | hs
    · rw [hs.2]; simp; omega
    · have := ahd_len _ _ hs.2.2; omega
  simp [fullT, h1, h2, h3, h4]
theorem topics_full {c : Config} {self : Int} (hc : cfgOk c = true) : ∀ (l : List Topic) (t : Int), topicsGo c self t l = true → l.any (fullT c) = false
  | [], _, _ => rfl
  | x :: r, t, h => by
    rw [topicsGo, Bool.and_eq_true] at h
    rw [List.any_cons, topic_full hc h.1, topics_full hc r _ h.2]; rfl
theorem node_full {c : Config} {i : Int} {n : Node} (hc : cfgOk c = true) (h : (if n.up = true then nodeOk c i n else downOk c n) = true) : n.topics.any (fullT c) = false := by
  have hb := cfg_bd hc
  cases hu : n.up
  · rw [hu, if_neg (by simp)] at h
    simp only [downOk, Bool.and_eq_true, decide_eq_true_eq] at h
    have ht := h.1.2
    rw [List.all_eq_true] at ht
    rw [Bool.eq_false_iff]
    intro ha
    rw [List.any_eq_true] at ha
    obtain ⟨x, hx, hf⟩ := ha
    have := ht x hx
    simp only [topZ, Bool.and_eq_true, decide_eq_true_eq] at this
    rw [this.1] at hf
    have e1 : ¬ (0 : Int) > c.kids := by omega
    have e2 : ¬ (0 : Int) > c.keep := by omega
    have e3 : ¬ (0 : Int) > c.window := by omega
    have e4 : ¬ (0 : Int) > c.queue := by omega
    simp [fullT, topic0] at hf
    omega
  · rw [hu, if_pos rfl] at h
    simp only [nodeOk, Bool.and_eq_true, decide_eq_true_eq] at h
    exact topics_full hc _ _ h.1.1.1.2
theorem nodes_full {c : Config} (hc : cfgOk c = true) : ∀ (l : List Node) (i : Int), nodesGo c i l = true → ∀ n ∈ l, n.topics.any (fullT c) = false
  | [], _, _, n, hn => by cases hn
  | x :: r, i, h, n, hn => by
    rw [nodesGo, Bool.and_eq_true] at h
    rcases List.mem_cons.1 hn with rfl | hn
    · exact node_full hc h.1
    · exact nodes_full hc r _ h.2 n hn
theorem topics_root {c : Config} {self : Int} : ∀ (l : List Topic) (t : Int), topicsGo c self t l = true → ∀ x ∈ l, rootOk self x = true
  | [], _, _, n, hn => by cases hn
  | x :: r, t, h, n, hn => by
    rw [topicsGo, Bool.and_eq_true] at h
    rcases List.mem_cons.1 hn with rfl | hn
    · have := h.1
      simp only [topicOk, Bool.and_eq_true] at this
      simp_all
    · exact topics_root r _ h.2 n hn
theorem nodes_root {c : Config} : ∀ (l : List Node) (i : Int), nodesGo c i l = true → ∀ (j : Nat) n, l[j]? = some n → n.up = true → ∀ x ∈ n.topics, rootOk (i + j) x = true
  | [], _, _, j, n, hn, _ => by simp at hn
  | y :: r, i, h, j, n, hn, hu => by
    rw [nodesGo, Bool.and_eq_true] at h
    cases j with
    | zero =>
      simp at hn; subst hn
      have h1 := h.1
      rw [hu, if_pos rfl] at h1
      simp only [nodeOk, Bool.and_eq_true, decide_eq_true_eq] at h1
      have := topics_root _ _ h1.1.1.1.2
      simpa using this
    | succ j =>
      have := nodes_root r _ h.2 j n (by simpa using hn) hu
      have e : i + 1 + (j : Int) = i + ((j + 1 : Nat) : Int) := by omega
      rw [e] at this
      exact this
theorem w_check_rooted (w : World) (t : Int) (hp : ∃ c : Config, cfgOk c = true ∧ worldOk c w = true ∧ rng t 0 (c.topics - 1) = true) (hg : Goods [L w.nodes, L w.bag, I t]) : S_check_rooted ρ (L w.nodes) (L w.bag) (I t) (· = [bb true]) := by
  unfold S_check_rooted
  simp only [Goods, good_L, good_I] at hg
  obtain ⟨c, hc, hw, hr⟩ := hp
  obtain ⟨w1, w2⟩ := world_tops hw
  have hb := cfg_bd hc
  have hr' := rng_bd hr
  have hN : nodesGo c 0 w.nodes = true := by
    simp only [worldOk, Bool.and_eq_true] at hw; exact hw.2
  obtain ⟨u, rfl⟩ := Int.eq_ofNat_of_zero_le hr'.1
  simp (disch := first | omega | assumption | exact ⟨by first | assumption | omega, by first | assumption | omega⟩ | (simp only [List.length_cons, List.length_nil]; omega)) only [↓S0, ↓ITE_bool, S1, eq_self, if_true, if_false, true_implies, false_implies, implies_true, ↓c_epoch_Who, ↓c_slices_Contains_int_int]
  refine LOOP.rule (α := Nat × List Int) (fun p => [I p.1, L p.2]) (fun p => p.1 ≤ w.nodes.length ∧ p.2.length ≤ p.1 ∧ ∀ e ∈ p.2, e % 16 < p.1) (fun p => w.nodes.length - p.1) (0, []) rfl ⟨by simp, by simp, by simp⟩ (fun _ => rfl) ?_
  rintro ⟨i, vs⟩ ⟨hl, hv, hm⟩
  simp only [app]
  simp only at hl hv hm
  simp (disch := first | omega | assumption | exact ⟨by first | assumption | omega, by first | assumption | omega⟩ | (simp only [List.length_cons, List.length_nil]; omega)) only [↓S0, ↓ITE_bool, S1, eq_self, if_true, if_false, true_implies, false_implies, implies_true, ↓c_epoch_Who, ↓c_slices_Contains_int_int]
  intro h
  obtain ⟨n, hn⟩ := get_ex (xs := w.nodes) (i := i) (by omega)
  have ht := w2 n (getI hn)
  obtain ⟨x, hx⟩ := get_ex (xs := n.topics) (i := u) (by omega)
  have hroot := fun hu => nodes_root _ _ hN i n hn hu x (getI hx)
  simp (disch := first | omega | assumption | exact ⟨by first | assumption | omega, by first | assumption | omega⟩ | (simp only [List.length_cons, List.length_nil]; omega)) only [↓S0, ↓ITE_bool, S1, eq_self, if_true, if_false, true_implies, false_implies, implies_true, ↓c_epoch_Who, ↓c_slices_Contains_int_int, cell_L hn, cell_L hx]
  cases hu : n.up
  · refine SUB.v1 (bb true) (by simp (disch := first | omega | assumption | exact ⟨by first | assumption | omega, by first | assumption | omega⟩ | (simp only [List.length_cons, List.length_nil]; omega)) only [↓S0, ↓ITE_bool, S1, eq_self, if_true, if_false, true_implies, false_implies, implies_true, ↓c_epoch_Who, ↓c_slices_Contains_int_int]) ?_
    rw [ITE_true]
    exact ⟨(i + 1, vs), rfl, ⟨by simp only; omega, by simp only; omega, fun e he => by have := hm e he; simp only; omega⟩, by simp only; omega⟩
  · refine SUB.v1 (bb (decide (x.root = 0))) (by simp (disch := first | omega | assumption | exact ⟨by first | assumption | omega, by first | assumption | omega⟩ | (simp only [List.length_cons, List.length_nil]; omega)) only [↓S0, ↓ITE_bool, S1, eq_self, if_true, if_false, true_implies, false_implies, implies_true, ↓c_epoch_Who, ↓c_slices_Contains_int_int]) ?_
    by_cases h0 : x.root = 0
    · rw [decide_eq_true h0, ITE_true]
      exact ⟨(i + 1, vs), rfl, ⟨by simp only; omega, by simp only; omega, fun e he => by have := hm e he; simp only; omega⟩, by simp only; omega⟩
    · rw [decide_eq_false h0, ITE_false]
      have hro := hroot hu
      simp only [rootOk, h0, decide_false, Bool.false_or, Bool.and_eq_true, decide_eq_true_eq] at hro
      have he := hro.1.1.1.1
      have h16 := hro.1.1.1.2
      rw [if_pos he, if_pos he]
      refine ⟨fun h => absurd rfl h, fun _ => ⟨fun h => absurd (by omega) h, fun _ => ⟨fun hcn => ?_, fun _ => ?_⟩⟩⟩
      · rw [List.contains_iff_mem] at hcn
        have := hm _ hcn
        omega
      · refine ⟨(i + 1, vs ++ [x.root]), rfl, ⟨by simp only; omega, by simp; omega, fun e he => ?_⟩, by simp only; omega⟩
        rw [List.mem_append, List.mem_singleton] at he
        rcases he with he | rfl
        · have := hm e he; simp only; omega
        · simp only; omega
end Go.Xt
end
section
set_option linter.unusedSimpArgs false
set_option linter.unusedVariables false
set_option maxRecDepth 100000
namespace Go.Xt
theorem w_check_Rises (l : List Event) (hg : Goods [L l]) : S_check_Rises ρ (L l) (· = [bb (risesE none l)]) := by
  unfold S_check_Rises
  simp only [Goods, good_L, good_I] at hg
  generalize hE : risesE none l = q
  simp (disch := first | omega | assumption | exact ⟨by first | assumption | omega, by first | assumption | omega⟩ | (simp only [List.length_cons, List.length_nil]; omega)) only [↓S0, ↓ITE_bool, S1, eq_self, if_true, if_false, true_implies, false_implies, implies_true, ↓c_check_last]
  refine LOOP.rule (α := Nat) (fun i => [I i]) (fun i => i ≤ l.length ∧ risesE (if i = 0 then none else l[i - 1]?) (l.drop i) = q) (fun i => l.length - i) 0 rfl ⟨by omega, by simpa using hE⟩ (fun _ => rfl) ?_
  rintro i ⟨hl, hs⟩
  simp only [app]
  simp (disch := first | omega | assumption | exact ⟨by first | assumption | omega, by first | assumption | omega⟩ | (simp only [List.length_cons, List.length_nil]; omega)) only [↓S0, ↓ITE_bool, S1, eq_self, if_true, if_false, true_implies, false_implies, implies_true, ↓c_check_last]
  refine ⟨fun h => ?_, fun h => ?_⟩
  · obtain ⟨x, hx⟩ := get_ex h
    have hn : (if i + 1 = 0 then none else l[i + 1 - 1]?) = some x := by rw [if_neg (by omega)]; simpa using hx
    rw [drop_eq hx] at hs
    simp (disch := first | omega | assumption | exact ⟨by first | assumption | omega, by first | assumption | omega⟩ | (simp only [List.length_cons, List.length_nil]; omega)) only [↓S0, ↓ITE_bool, S1, eq_self, if_true, if_false, true_implies, false_implies, implies_true, ↓c_check_last, cell_L hx]
    by_cases hi : i = 0
    · subst hi
      rw [if_pos rfl, risesE] at hs
      refine ⟨fun h1 => ?_, fun h1 => ⟨fun _ => ⟨0 + 1, rfl, ⟨by omega, by rw [hn, ← hs, h1, Bool.true_and]⟩, by omega⟩, fun h => absurd rfl h⟩⟩
      rw [← hs, h1, Bool.false_and]
    · obtain ⟨p, hp⟩ := get_ex (xs := l) (i := i - 1) (by omega)
      rw [if_neg hi, hp, risesE] at hs
      have e1 : (i : Int) - 1 = ((i - 1 : Nat) : Int) := by omega
      simp (disch := first | omega | assumption | exact ⟨by first | assumption | omega, by first | assumption | omega⟩ | (simp only [List.length_cons, List.length_nil]; omega)) only [↓S0, ↓ITE_bool, S1, eq_self, if_true, if_false, true_implies, false_implies, implies_true, ↓c_check_last, cell_L hp, e1]
      refine ⟨fun h1 => ?_, fun h1 => ⟨fun h => absurd h (by omega), fun _ => ?_⟩⟩
      · rw [← hs, h1, Bool.false_and, Bool.false_and]
      rw [h1, Bool.true_and] at hs
      refine SUB.v1 (bb (decide (IntKind.i64.wrap (x.seq - 1) = endOf p) && decide (endOf p < x.seq))) ?_ ?_
      · rw [OP_subW]
        repeat' (first | apply And.intro | intro _ | simp (disch := first | omega | assumption | exact ⟨by first | assumption | omega, by first | assumption | omega⟩ | (simp only [List.length_cons, List.length_nil]; omega)) only [↓S0, ↓ITE_bool, S1, eq_self, if_true, if_false, true_implies, false_implies, implies_true, ↓c_check_last])
        all_goals simp_all
      by_cases h2 : x.epoch < p.epoch
      · refine ⟨fun _ => ?_, fun h => absurd h2 h⟩
        rw [← hs, nextTo, decide_eq_true h2]; rfl
      refine ⟨fun h => absurd h h2, fun _ => ⟨fun h3 => ?_, fun h3 => ?_⟩⟩
      · cases h4 : (decide (IntKind.i64.wrap (x.seq - 1) = endOf p) && decide (endOf p < x.seq))
        · simp (disch := first | omega | assumption | exact ⟨by first | assumption | omega, by first | assumption | omega⟩ | (simp only [List.length_cons, List.length_nil]; omega)) only [↓S0, ↓ITE_bool, S1, eq_self, if_true, if_false, true_implies, false_implies, implies_true, ↓c_check_last]
          rw [← hs, nextTo, decide_eq_false h2, decide_eq_true h3, h4]; rfl
        · simp (disch := first | omega | assumption | exact ⟨by first | assumption | omega, by first | assumption | omega⟩ | (simp only [List.length_cons, List.length_nil]; omega)) only [↓S0, ↓ITE_bool, S1, eq_self, if_true, if_false, true_implies, false_implies, implies_true, ↓c_check_last]
          exact ⟨i + 1, rfl, ⟨by omega, by rw [hn, ← hs, nextTo, decide_eq_false h2, decide_eq_true h3, h4]; rfl⟩, by omega⟩
      · exact ⟨i + 1, rfl, ⟨by omega, by rw [hn, ← hs, nextTo, decide_eq_false h2, decide_eq_false h3]; rfl⟩, by omega⟩
  · rw [drop_nil h] at hs
    rw [← hs]
    cases (if i = 0 then none else l[i - 1]?) <;> rfl
end Go.Xt
end
section
set_option linter.unusedSimpArgs false
set_option linter.unusedVariables false
set_option maxRecDepth 100000
namespace Go.Xt
theorem topic_deep {c : Config} {t self : Int} {x : Topic} (h : topicOk c t self x = true) : ¬ (x.path.length : Int) > c.depth := by
  simp only [topicOk, Bool.and_eq_true, decide_eq_true_eq] at h
  have hk := h.1.1.2
  unfold chk at hk
  intro hd
  (repeat' split at hk) <;> first | omega | contradiction
theorem topics_deep {c : Config} {self : Int} : ∀ (l : List Topic) (t : Int), topicsGo c self t l = true → l.any (fun x => decide ((x.path.length : Int) > c.depth)) = false
  | [], _, _ => rfl
  | x :: r, t, h => by
    rw [topicsGo, Bool.and_eq_true] at h
    rw [List.any_cons, topics_deep r _ h.2, decide_eq_false (topic_deep h.1)]; rfl
theorem node_deep {c : Config} {i : Int} {n : Node} (hc : cfgOk c = true) (h : (if n.up = true then nodeOk c i n else downOk c n) = true) : deepN c n = false := by
  have hb := cfg_bd hc
  cases hu : n.up
  · rw [hu, if_neg (by simp)] at h
    simp only [downOk, Bool.and_eq_true, decide_eq_true_eq] at h
    have ht := h.1.2
    rw [List.all_eq_true] at ht
    rw [Bool.eq_false_iff]
    intro ha
    rw [deepN, List.any_eq_true] at ha
    obtain ⟨x, hx, hf⟩ := ha
    have := ht x hx
    simp only [topZ, Bool.and_eq_true, decide_eq_true_eq] at this
    rw [this.1] at hf
    simp [topic0] at hf
    omega
  · rw [hu, if_pos rfl] at h
    simp only [nodeOk, Bool.and_eq_true, decide_eq_true_eq] at h
    exact topics_deep _ _ h.1.1.1.2
theorem nodes_deep {c : Config} (hc : cfgOk c = true) : ∀ (l : List Node) (i : Int), nodesGo c i l = true → ∀ n ∈ l, deepN c n = false
  | [], _, _, n, hn => by cases hn
  | x :: r, i, h, n, hn => by
    rw [nodesGo, Bool.and_eq_true] at h
    rcases List.mem_cons.1 hn with rfl | hn
    · exact node_deep hc h.1
    · exact nodes_deep hc r _ h.2 n hn
theorem any_false {α : Type} {p : α → Bool} {l : List α} (h : ∀ n ∈ l, p n = false) : l.any p = false := by
  rw [Bool.eq_false_iff]
  intro ha
  rw [List.any_eq_true] at ha
  obtain ⟨x, hx, hf⟩ := ha
  rw [h x hx] at hf; cases hf
theorem any_succ {p : Nat → Bool} {i : Nat} : (List.range (i + 1)).any p = ((List.range i).any p || p i) := by
  rw [List.range_succ, List.any_append]; simp
theorem w_check_Holds (c : Config) (w : World) (hg : Goods [I c.nodes, I c.topics, I c.kids, I c.depth, I c.keep, I c.window, I c.queue, L w.nodes, L w.bag]) : S_check_Holds ρ (I c.nodes) (I c.topics) (I c.kids) (I c.depth) (I c.keep) (I c.window) (I c.queue) (L w.nodes) (L w.bag) (· = [I (holdsW c w)]) := by
  unfold S_check_Holds
  simp only [Goods, good_L, good_I] at hg
  by_cases h0 : ¬ (worldWhy c w = 0)
  · have hq : holdsW c w = worldWhy c w := by rw [holdsW, if_neg h0]
    simp (disch := first | omega | assumption | exact ⟨by first | assumption | omega, by first | assumption | omega⟩ | (simp only [List.length_cons, List.length_nil]; omega)) only [↓S0, ↓ITE_bool, S1, eq_self, if_true, if_false, true_implies, false_implies, implies_true, ↓c_check_whole, ↓c_world_Check, ↓c_check_deep, ↓c_check_rooted, ↓c_check_full]
    exact ⟨fun _ => by rw [hq], fun h => absurd h h0⟩
  rw [Decidable.not_not] at h0
  obtain ⟨hc, hw⟩ := worldWhy_0 h0
  obtain ⟨w1, w2⟩ := world_tops hw
  have hb := cfg_bd hc
  have hN : nodesGo c 0 w.nodes = true := by
    simp only [worldOk, Bool.and_eq_true] at hw; exact hw.2
  have hB : w.bag.length ≤ 300 := by
    simp only [worldOk, Bool.and_eq_true, decide_eq_true_eq] at hw
    have := hw.1.2
    unfold bagWhy at this
    split at this
    · cases this
    · omega
  have hD := any_false (nodes_deep hc _ _ hN)
  have hF := nodes_full hc _ _ hN
  generalize hE : holdsW c w = q
  rw [holdsW, if_pos h0, cycleW, hD, Bool.false_or] at hE
  simp (disch := first | omega | assumption | exact ⟨by first | assumption | omega, by first | assumption | omega⟩ | (simp only [List.length_cons, List.length_nil]; omega)) only [↓S0, ↓ITE_bool, S1, eq_self, if_true, if_false, true_implies, false_implies, implies_true, ↓c_check_whole, ↓c_world_Check, ↓c_check_deep, ↓c_check_rooted, ↓c_check_full, h0]
  refine .inl ⟨[bb false, I w.bag.length, bb false, bb false, bb false], rfl, ?_, ?_⟩
  · show _ ∧ _
    have hb300 : decide ((300 : Int) < w.bag.length) = false := decide_eq_false (by omega)
    rw [hb300]
    refine ⟨?_, ?_⟩
    all_goals
      refine LOOP.rule (α := Nat) (fun i => [I i]) (fun i => i ≤ w.nodes.length) (fun i => w.nodes.length - i) 0 rfl (by omega) (fun _ => rfl) ?_
      intro i hl
      simp only [app]
      simp (disch := first | omega | assumption | exact ⟨by first | assumption | omega, by first | assumption | omega⟩ | (simp only [List.length_cons, List.length_nil]; omega)) only [↓S0, ↓ITE_bool, S1, eq_self, if_true, if_false, true_implies, false_implies, implies_true, ↓c_check_whole, ↓c_world_Check, ↓c_check_deep, ↓c_check_rooted, ↓c_check_full]
      refine ⟨fun h => ?_, fun h => rfl⟩
      obtain ⟨n, hn⟩ := get_ex h
      have hd := nodes_deep hc _ _ hN n (getI hn)
      simp (disch := first | omega | assumption | exact ⟨by first | assumption | omega, by first | assumption | omega⟩ | (simp only [List.length_cons, List.length_nil]; omega)) only [↓S0, ↓ITE_bool, S1, eq_self, if_true, if_false, true_implies, false_implies, implies_true, ↓c_check_whole, ↓c_world_Check, ↓c_check_deep, ↓c_check_rooted, ↓c_check_full, cell_L hn, hd]
      exact ⟨i + 1, rfl, by omega, by omega⟩
  simp only [app]
  refine LOOP.rule (α := Nat) (fun i => [bb ((List.range i).any fun t => !whole (pathsW w t)), bb false, I i]) (fun i => (i : Int) ≤ c.topics) (fun i => c.topics.toNat - i) 0 rfl (by omega) (fun _ => rfl) ?_
  intro i hl
  simp only [app]
  have hpre : (i : Int) < c.topics → (0 ≤ (i : Int) ∧ w.nodes.length ≤ 8 ∧ ∀ n ∈ w.nodes, (i : Int) < n.topics.length) := fun h => ⟨by omega, by omega, fun n hn => by have := w2 n hn; omega⟩
  have hpre2 : (i : Int) < c.topics → ∃ c : Config, cfgOk c = true ∧ worldOk c w = true ∧ rng i 0 (c.topics - 1) = true := fun h => ⟨c, hc, hw, by unfold rng; simp; omega⟩
  simp (disch := first | omega | assumption | exact ⟨by first | assumption | omega, by first | assumption | omega⟩ | (simp only [List.length_cons, List.length_nil]; omega)) only [↓S0, ↓ITE_bool, S1, eq_self, if_true, if_false, true_implies, false_implies, implies_true, ↓c_check_whole, ↓c_world_Check, ↓c_check_deep, ↓c_check_rooted, ↓c_check_full]
  refine ⟨fun h => ?_, fun h => ?_⟩
  · have hp1 := hpre h
    have hp2 := hpre2 h
    have hs := any_succ (p := fun t => !whole (pathsW w t)) (i := i)
    cases hA : (List.range i).any fun t => !whole (pathsW w t)
    · rw [hA, Bool.false_or] at hs
      simp (disch := first | omega | assumption | exact ⟨by first | assumption | omega, by first | assumption | omega⟩ | (simp only [List.length_cons, List.length_nil]; omega)) only [↓S0, ↓ITE_bool, S1, eq_self, if_true, if_false, true_implies, false_implies, implies_true, ↓c_check_whole, ↓c_world_Check, ↓c_check_deep, ↓c_check_rooted, ↓c_check_full]
      exact ⟨i + 1, by rw [hs]; rfl, by omega, by omega⟩
    · rw [hA, Bool.true_or] at hs
      simp (disch := first | omega | assumption | exact ⟨by first | assumption | omega, by first | assumption | omega⟩ | (simp only [List.length_cons, List.length_nil]; omega)) only [↓S0, ↓ITE_bool, S1, eq_self, if_true, if_false, true_implies, false_implies, implies_true, ↓c_check_whole, ↓c_world_Check, ↓c_check_deep, ↓c_check_rooted, ↓c_check_full]
      exact ⟨i + 1, by rw [hs]; rfl, by omega, by omega⟩
  · have e : c.topics.toNat = i := by omega
    rw [e] at hE
    refine LOOP.rule (α := Nat) (fun i => [bb false, I i]) (fun i => i ≤ w.nodes.length) (fun i => w.nodes.length - i) 0 rfl (by omega) (fun _ => rfl) ?_
    intro j hl2
    simp only [app]
    simp (disch := first | omega | assumption | exact ⟨by first | assumption | omega, by first | assumption | omega⟩ | (simp only [List.length_cons, List.length_nil]; omega)) only [↓S0, ↓ITE_bool, S1, eq_self, if_true, if_false, true_implies, false_implies, implies_true, ↓c_check_whole, ↓c_world_Check, ↓c_check_deep, ↓c_check_rooted, ↓c_check_full]
    refine ⟨fun h => ?_, fun h => ?_⟩
    · obtain ⟨n, hn⟩ := get_ex h
      have hf := hF n (getI hn)
      have ht := w2 n (getI hn)
      simp (disch := first | omega | assumption | exact ⟨by first | assumption | omega, by first | assumption | omega⟩ | (simp only [List.length_cons, List.length_nil]; omega)) only [↓S0, ↓ITE_bool, S1, eq_self, if_true, if_false, true_implies, false_implies, implies_true, ↓c_check_whole, ↓c_world_Check, ↓c_check_deep, ↓c_check_rooted, ↓c_check_full, cell_L hn]
      refine LOOP.rule (α := Nat) (fun i => [I i]) (fun i => i ≤ n.topics.length) (fun i => n.topics.length - i) 0 rfl (by omega) (fun _ => rfl) ?_
      intro k hk
      simp only [app]
      simp (disch := first | omega | assumption | exact ⟨by first | assumption | omega, by first | assumption | omega⟩ | (simp only [List.length_cons, List.length_nil]; omega)) only [↓S0, ↓ITE_bool, S1, eq_self, if_true, if_false, true_implies, false_implies, implies_true, ↓c_check_whole, ↓c_world_Check, ↓c_check_deep, ↓c_check_rooted, ↓c_check_full]
      refine ⟨fun h => ?_, fun h => ⟨j + 1, rfl, by omega, by omega⟩⟩
      obtain ⟨x, hx⟩ := get_ex h
      have hfx : fullT c x = false := by
        rw [List.any_eq_false] at hf
        have := hf x (getI hx)
        simpa using this
      simp (disch := first | omega | assumption | exact ⟨by first | assumption | omega, by first | assumption | omega⟩ | (simp only [List.length_cons, List.length_nil]; omega)) only [↓S0, ↓ITE_bool, S1, eq_self, if_true, if_false, true_implies, false_implies, implies_true, ↓c_check_whole, ↓c_world_Check, ↓c_check_deep, ↓c_check_rooted, ↓c_check_full, cell_L hx, hfx]
      exact ⟨k + 1, rfl, by omega, by omega⟩
    · refine ⟨fun h => ?_, fun h => ?_⟩
      · rw [← hE, if_pos h]
      · rw [← hE, h]; rfl
theorem path_le {c : Config} {n : Node} {x : Topic} (h : deepN c n = false) (hx : x ∈ n.topics) : (x.path.length : Int) ≤ c.depth := by
  rw [deepN, List.any_eq_false] at h
  have := h x hx
  simp at this
  omega
end Go.Xt
end
section
set_option linter.unusedSimpArgs false
set_option linter.unusedVariables false
set_option maxRecDepth 100000
namespace Go.Xt
theorem w_law19_Full  : S_law19_Full ρ  (· = [I 8, I 4, I 2, I 8, I 8, I 8, I 16]) := by
  unfold S_law19_Full
  rfl
theorem w_law17_Data (e : Int) (seq : Int) (value : Int) : S_law17_Data ρ (I e) (I seq) (I value) (· = [I 1, I e, I seq, I 0, I value, I 0]) := by
  unfold S_law17_Data
  rfl
theorem full_ok : cfgOk fullC = true := by decide
theorem full_new : worldWhy fullC (newW fullC) = 0 := by decide
theorem full_asked : askedW fullC (newW fullC) 0 = 0 := by decide
theorem full_asked4 : askedW fullC (newW fullC) 4 = 1 := by decide
theorem full_par : (parentsW (newW fullC) 0).length = 8 := by decide
theorem full_roots : rootsW (newW fullC) 0 = [] := by decide
theorem full_whole : whole (pathsW (newW fullC) 0) = true := by decide
theorem full_holds : holdsW fullC (newW fullC) = 0 := by decide
theorem w_law27_wakes  : S_law27_wakes ρ  (· = [bb true]) := by
  unfold S_law27_wakes
  generalize hE : true = q
  simp (disch := first | omega | assumption | exact ⟨by first | assumption | omega, by first | assumption | omega⟩ | (simp only [List.length_cons, List.length_nil]; omega)) only [↓S0, ↓ITE_bool, S1, eq_self, if_true, if_false, true_implies, false_implies, implies_true, ↓c_check_Parents, ↓c_check_Roots, ↓c_check_Whole, ↓c_check_Holds, ↓c_check_Rises, ↓c_law19_Full, ↓c_world_New]
  simp only [show (⟨8, 4, 2, 8, 8, 8, 16⟩ : Config) = fullC from rfl, full_ok, if_true, full_asked, full_asked4, full_par, full_roots, full_whole, full_holds]
  rw [← hE]
  clear hE
  simp [risesE, ofStream]
end Go.Xt
end
section
set_option linter.unusedSimpArgs false
set_option linter.unusedVariables false
set_option maxRecDepth 100000
namespace Go.Xt
theorem nextTo_eq {p x : Event} : nextTo p x = !(decide (x.epoch < p.epoch) || (decide (x.epoch = p.epoch) && (decide (x.seq ≤ endOf p) || !decide (IntKind.i64.wrap (x.seq - 1) = endOf p)))) := by
  unfold nextTo
  by_cases h : x.seq ≤ endOf p
  · rw [decide_eq_true h, decide_eq_false (show ¬ endOf p < x.seq by omega)]; simp
  · rw [decide_eq_false h, decide_eq_true (show endOf p < x.seq by omega)]; simp
end Go.Xt
end
section
set_option linter.unusedSimpArgs false
set_option linter.unusedVariables false
set_option maxRecDepth 100000
namespace Go.Xt
def evs (N : Nat) : List Event := (List.range N).map fun k : Nat => dataE 16 (k + 1) (k + 1)
def riseB (N A : Nat) : Bool := risesE none (evs N) && risesE none ((evs N).set A ⟨2, 16, A + 1, A + 1, 0, 0⟩) && risesE none ((evs N).drop A) &&
  !risesE none ((evs N).take A ++ (evs N).drop (A + 1)) && !risesE none ((evs N).take (A + 1) ++ (evs N).drop A) &&
  risesE none (evs N ++ [dataE 32 7 1, dataE 32 8 1]) && !risesE none ((evs N).set A { dataE 16 (A + 1) (A + 1) with epoch := 32 }) &&
  !risesE none ((evs N).set A { dataE 16 (A + 1) (A + 1) with kind := 5 })
theorem riseB_all : ((List.range 20).all fun n => (List.range (n + 1)).all fun a => riseB (n + 3) (a + 1)) = true := by decide +kernel
theorem riseB_ok {N A : Nat} (h0 : 3 ≤ N) (h1 : N ≤ 22) (h2 : 1 ≤ A) (h3 : A ≤ N - 2) : riseB N A = true := by
  have h := riseB_all
  rw [List.all_eq_true] at h
  have h4 := h (N - 3) (by rw [List.mem_range]; omega)
  rw [List.all_eq_true] at h4
  have h5 := h4 (A - 1) (by rw [List.mem_range]; omega)
  rw [show N - 3 + 3 = N by omega, show A - 1 + 1 = A by omega] at h5
  exact h5
theorem evs_succ {N : Nat} : evs (N + 1) = evs N ++ [dataE 16 (N + 1) (N + 1)] := by
  unfold evs
  rw [List.range_succ, List.map_append]; rfl
theorem evs_len {N : Nat} : (evs N).length = N := by simp [evs]
theorem evs_get {N A : Nat} (h : A < N) : (evs N)[A]? = some (dataE 16 (A + 1) (A + 1)) := by simp [evs, h]
theorem OP_rows0 {k : PV → Prop} : OP (.rows 6) [] k = k (.list []) := OP_of (by simp [ev, chunk])
theorem OP_rowsE2 {k : PV → Prop} {a b c d e f a' b' c' d' e' f' : Int} : OP (.rows 6) [I a, I b, I c, I d, I e, I f, I a', I b', I c', I d', I e', I f'] k = k (L [(⟨a, b, c, d, e, f⟩ : Event), ⟨a', b', c', d', e', f'⟩]) := OP_of (by simp [ev, chunk, L, Row.row])
theorem w_law27_CheckRises (n : Int) (at_ : Int) (how : Int) : S_law27_CheckRises ρ (I n) (I at_) (I how) (· = [bb true]) := by
  unfold S_law27_CheckRises
  have hn0 : 0 ≤ u64 n % 20 ∧ u64 n % 20 < 20 := ⟨Int.emod_nonneg _ (by omega), Int.emod_lt_of_pos _ (by omega)⟩
  simp (disch := first | omega | assumption | exact ⟨by first | assumption | omega, by first | assumption | omega⟩ | (simp only [List.length_cons, List.length_nil]; omega)) only [↓S0, ↓ITE_bool, S1, eq_self, if_true, if_false, true_implies, false_implies, implies_true, ↓c_check_Rises, ↓c_law27_wakes, ↓c_law17_Data, OP_cu]
  generalize u64 n % 20 = r at hn0 ⊢
  have e1 : u64 (3 + r - 2) = r + 1 := by unfold u64; omega
  rw [e1, OP_remU (by omega)]
  have ha0 : 0 ≤ u64 at_ % (r + 1) ∧ u64 at_ % (r + 1) < r + 1 := ⟨Int.emod_nonneg _ (by omega), Int.emod_lt_of_pos _ (by omega)⟩
  generalize u64 at_ % (r + 1) = a at ha0 ⊢
  rw [OP_ci (by omega) (by omega)]
  obtain ⟨R, rfl⟩ := Int.eq_ofNat_of_zero_le hn0.1
  obtain ⟨A, rfl⟩ := Int.eq_ofNat_of_zero_le ha0.1
  rw [OP_add (by omega) (by omega), show (1 : Int) + A = ((A + 1 : Nat) : Int) by omega]
  have hB := riseB_ok (N := R + 3) (A := A + 1) (by omega) (by omega) (by omega) (by omega)
  generalize hA : A + 1 = B at hB ⊢
  have hB0 : 1 ≤ B ∧ B ≤ R + 1 ∧ R ≤ 19 := by omega
  clear hA ha0 e1 hn0
  refine LOOP.rule (α := Nat) (fun i => [I (i + 1), L (evs i)]) (fun i => i ≤ R + 3) (fun i => R + 3 - i) 0 rfl (by omega) (fun _ => rfl) ?_
  intro i hl
  simp only [app]
  simp (disch := first | omega | assumption | exact ⟨by first | assumption | omega, by first | assumption | omega⟩ | (simp only [List.length_cons, List.length_nil]; omega)) only [↓S0, ↓ITE_bool, S1, eq_self, if_true, if_false, true_implies, false_implies, implies_true, ↓c_check_Rises, ↓c_law27_wakes, ↓c_law17_Data]
  refine ⟨fun h => ?_, fun h => ?_⟩
  · have he := evs_len (N := i)
    rw [OP_app (by simp; omega)]
    exact ⟨i + 1, by rw [evs_succ]; rfl, by omega, by omega⟩
  have e : i = R + 3 := by omega
  subst e
  have he := evs_len (N := R + 3)
  have hx := evs_get (N := R + 3) (A := B) (by omega)
  unfold riseB at hB
  generalize evs (R + 3) = l at hB he hx ⊢
  simp only [Bool.and_eq_true, Bool.not_eq_true'] at hB
  obtain ⟨⟨⟨⟨⟨⟨⟨b1, b2⟩, b3⟩, b4⟩, b5⟩, b6⟩, b7⟩, b8⟩ := hB
  have t0 : ((B : Int)).toNat = B := by omega
  have t1 : ((B : Int) + 1).toNat = B + 1 := by omega
  have l1 : (l.take B).length * 48 ≤ 140737488355328 := by simp; omega
  have l2 : ((l.take B).length + (l.drop (B + 1)).length) * 48 ≤ 140737488355328 := by simp; omega
  have l3 : (l.take (B + 1)).length * 48 ≤ 140737488355328 := by simp; omega
  have l4 : ((l.take (B + 1)).length + (l.drop B).length) * 48 ≤ 140737488355328 := by simp; omega
  have l5 : (l.length + [dataE 32 7 1, dataE 32 8 1].length) * 48 ≤ 140737488355328 := by simp; omega
  have hr : ∀ k : PV → Prop, OP (.rows 6) [I 1, I 32, I 7, I 0, I 1, I 0, I 1, I 32, I 8, I 0, I 1, I 0] k = k (L [dataE 32 7 1, dataE 32 8 1]) := fun k => OP_rowsE2
  rw [OP_rows0, OP_app0 (by omega)]
  simp (disch := first | omega | assumption | exact ⟨by first | assumption | omega, by first | assumption | omega⟩ | (simp only [List.length_cons, List.length_nil]; omega)) only [↓S0, ↓ITE_bool, S1, eq_self, if_true, if_false, true_implies, false_implies, implies_true, ↓c_check_Rises, ↓c_law27_wakes, ↓c_law17_Data, b1, b3, t0]
  refine ⟨fun h1 => ?_, fun h1 => ⟨fun h2 => ?_, fun h2 => ⟨fun h3 => ?_, fun h3 => ?_⟩⟩⟩
  · simp (disch := first | omega | assumption | exact ⟨by first | assumption | omega, by first | assumption | omega⟩ | (simp only [List.length_cons, List.length_nil]; omega)) only [↓S0, ↓ITE_bool, S1, eq_self, if_true, if_false, true_implies, false_implies, implies_true, ↓c_check_Rises, ↓c_law27_wakes, ↓c_law17_Data, t0, t1]
    rw [OP_set (κ := .i64) hx (show (Row.row (dataE 16 (B + 1) (B + 1))).set 0 (I 2) = Row.row (⟨2, 16, B + 1, 0, B + 1, 0⟩ : Event) from rfl)]
    have g := fun (e : Event) => List.getElem?_set_self (l := l) (i := B) (a := e) (by omega)
    rw [OP_set (κ := .i64) (g _) (show _ = Row.row (⟨2, 16, B + 1, 0, B + 1, 0⟩ : Event) from rfl), List.set_set]
    rw [OP_set (κ := .i64) (g _) (show _ = Row.row (⟨2, 16, B + 1, 0, B + 1, 0⟩ : Event) from rfl), List.set_set]
    rw [OP_set (κ := .i64) (g _) (show _ = Row.row (⟨2, 16, B + 1, B + 1, B + 1, 0⟩ : Event) from rfl), List.set_set]
    rw [OP_set (κ := .i64) (g _) (show _ = Row.row (⟨2, 16, B + 1, B + 1, 0, 0⟩ : Event) from rfl), List.set_set]
    rw [OP_set (κ := .i64) (g _) (show _ = Row.row (⟨2, 16, B + 1, B + 1, 0, 0⟩ : Event) from rfl), List.set_set]
    simp (disch := first | omega | assumption | exact ⟨by first | assumption | omega, by first | assumption | omega⟩ | (simp only [List.length_cons, List.length_nil]; omega)) only [↓S0, ↓ITE_bool, S1, eq_self, if_true, if_false, true_implies, false_implies, implies_true, ↓c_check_Rises, ↓c_law27_wakes, ↓c_law17_Data, b2, b3, b4]
  · simp (disch := first | omega | assumption | exact ⟨by first | assumption | omega, by first | assumption | omega⟩ | (simp only [List.length_cons, List.length_nil]; omega)) only [↓S0, ↓ITE_bool, S1, eq_self, if_true, if_false, true_implies, false_implies, implies_true, ↓c_check_Rises, ↓c_law27_wakes, ↓c_law17_Data, t0, t1]
    simp [b5]
  · rw [OP_set (κ := .i64) hx (show _ = Row.row ({ dataE 16 (B + 1) (B + 1) with epoch := 32 } : Event) from rfl), hr, OP_app l5]
    simp (disch := first | omega | assumption | exact ⟨by first | assumption | omega, by first | assumption | omega⟩ | (simp only [List.length_cons, List.length_nil]; omega)) only [↓S0, ↓ITE_bool, S1, eq_self, if_true, if_false, true_implies, false_implies, implies_true, ↓c_check_Rises, ↓c_law27_wakes, ↓c_law17_Data, b6, b7, b3]
  · rw [OP_set (κ := .i64) hx (show _ = Row.row ({ dataE 16 (B + 1) (B + 1) with kind := 5 } : Event) from rfl)]
    simp (disch := first | omega | assumption | exact ⟨by first | assumption | omega, by first | assumption | omega⟩ | (simp only [List.length_cons, List.length_nil]; omega)) only [↓S0, ↓ITE_bool, S1, eq_self, if_true, if_false, true_implies, false_implies, implies_true, ↓c_check_Rises, ↓c_law27_wakes, ↓c_law17_Data, b1, b8, b3]
end Go.Xt
end
