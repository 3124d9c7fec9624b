/- Steps towards the statements of this seat; the conditions stand in each theorem. -/
import Derived.Test.YthpnjlaaannaaaaGreatDoorRho
import Derived.Test.YthpnjlaaannaaaaGreatDoorT
section
set_option linter.unusedSimpArgs false
set_option linter.unusedVariables false
set_option maxRecDepth 100000
namespace Go.Xt
theorem nn_bd (v : Int) : 0 ≤ nn v ∧ nn v < 4611686018427387904 := by
  unfold nn NN
  match v.toNat with
  | 0 => simp | 1 => simp | 2 => simp | 3 => simp | 4 => simp | 5 => simp | 6 => simp | 7 => simp
  | n + 8 => simp
theorem tt_bd (v : Int) : 0 ≤ tt v ∧ tt v < 4611686018427387904 := by
  unfold tt TT
  match v.toNat with
  | 0 => simp | 1 => simp | 2 => simp | 3 => simp
  | n + 4 => simp
theorem isN_iff {v : Int} : isN v = true ↔ 0 ≤ v ∧ v < 8 := by simp [isN]
theorem isT_iff {v : Int} : isT v = true ↔ 0 ≤ v ∧ v < 4 := by simp [isT]
theorem OP_nn {v : Int} {k : PV → Prop} (h0 : 0 ≤ v) (h1 : v < 8) : OP .pickA [I v, I 2342812313538366385, I 1863050908023769503, I 81111313352671826, I 2434324899588211290, I 2454816673080883147, I 1342378062264523301, I 820659310660760249, I 2006264061484817761] k = k (I (nn v)) := by
  obtain ⟨n, rfl⟩ := Int.eq_ofNat_of_zero_le h0
  have : n < 8 := by omega
  match n with
  | 0 => exact OP_of rfl | 1 => exact OP_of rfl | 2 => exact OP_of rfl | 3 => exact OP_of rfl | 4 => exact OP_of rfl | 5 => exact OP_of rfl | 6 => exact OP_of rfl | 7 => exact OP_of rfl
  | n + 8 => omega
theorem OP_tt {v : Int} {k : PV → Prop} (h0 : 0 ≤ v) (h1 : v < 4) : OP .pickA [I v, I 1462484242049070477, I 1775212608919665246, I 3535639072113518480, I 3725500155902745375] k = k (I (tt v)) := by
  obtain ⟨n, rfl⟩ := Int.eq_ofNat_of_zero_le h0
  have : n < 4 := by omega
  match n with
  | 0 => exact OP_of rfl | 1 => exact OP_of rfl | 2 => exact OP_of rfl | 3 => exact OP_of rfl
  | n + 4 => omega
theorem w_ring_Is (n : Int) : S_ring_Is ρ (I n) (· = [bb (isN n)]) := by
  unfold S_ring_Is
  simp (disch := first | omega | assumption | exact ⟨by first | assumption | omega, by first | assumption | omega⟩ | (simp only [List.length_cons, List.length_nil]; omega)) only [↓S0, ↓ITE_bool, S1, eq_self, if_true, if_false, true_implies, false_implies, implies_true]
  refine ⟨fun h => ?_, fun h => ?_⟩ <;> simp [isN, h]
  try omega
theorem w_ring_Node (n : Int) : S_ring_Node ρ (I n) (· = [I (if isN n = true then nn n else 0), I (if isN n = true then 0 else 1)]) := by
  unfold S_ring_Node
  simp (disch := first | omega | assumption | exact ⟨by first | assumption | omega, by first | assumption | omega⟩ | (simp only [List.length_cons, List.length_nil]; omega)) only [↓S0, ↓ITE_bool, S1, eq_self, if_true, if_false, true_implies, false_implies, implies_true, ↓c_ring_Is]
  refine ⟨fun h => ?_, fun h => ?_⟩ 
  · simp [h]
  · rw [isN_iff] at h
    rw [OP_nn h.1 h.2]; simp [isN_iff, h]
theorem w_ring_Topic (t : Int) : S_ring_Topic ρ (I t) (· = [I (if isT t = true then tt t else 0), I (if isT t = true then 0 else 1)]) := by
  unfold S_ring_Topic
  simp (disch := first | omega | assumption | exact ⟨by first | assumption | omega, by first | assumption | omega⟩ | (simp only [List.length_cons, List.length_nil]; omega)) only [↓S0, ↓ITE_bool, S1, eq_self, if_true, if_false, true_implies, false_implies, implies_true]
  refine ⟨fun h => ⟨fun h2 => ?_, fun h2 => ?_⟩, fun h => ?_⟩ 
  · simp [isT, h]; try omega
  · rw [OP_tt h (by omega)]; simp [isT_iff, h]; try omega
  · simp [isT, h]; try omega
theorem w_key_Far (k : Int) (n : Int) (hp : 0 ≤ k ∧ k < 4611686018427387904 ∧ 0 ≤ n ∧ n < 4611686018427387904) : S_key_Far ρ (I k) (I n) (· = [I (far k n)]) := by
  unfold S_key_Far far
  obtain ⟨h1, h2, h3, h4⟩ := hp
  simp (disch := first | omega | assumption | exact ⟨by first | assumption | omega, by first | assumption | omega⟩ | (simp only [List.length_cons, List.length_nil]; omega)) only [↓S0, ↓ITE_bool, S1, eq_self, if_true, if_false, true_implies, false_implies, implies_true]
  refine ⟨fun h => ?_, fun h => ?_⟩
  · simp [h]
  · simp [h]; try omega
theorem w_ring_Gap (t : Int) (n : Int) : S_ring_Gap ρ (I t) (I n) (· = [I (if (isT t && isN n) = true then gap t n else 0), I (if (isT t && isN n) = true then 0 else 1)]) := by
  unfold S_ring_Gap gap
  have := tt_bd t; have := nn_bd n
  simp (disch := first | omega | assumption | exact ⟨by first | assumption | omega, by first | assumption | omega⟩ | (simp only [List.length_cons, List.length_nil]; omega)) only [↓S0, ↓ITE_bool, S1, eq_self, if_true, if_false, true_implies, false_implies, implies_true, ↓c_ring_Topic, ↓c_ring_Node, ↓c_key_Far]
  cases h1 : isT t <;> cases h2 : isN n <;> simp
theorem w_ring_Nearer (t : Int) (a : Int) (b : Int) : S_ring_Nearer ρ (I t) (I a) (I b) (· = [bb (near t a b)]) := by
  unfold S_ring_Nearer near
  simp (disch := first | omega | assumption | exact ⟨by first | assumption | omega, by first | assumption | omega⟩ | (simp only [List.length_cons, List.length_nil]; omega)) only [↓S0, ↓ITE_bool, S1, eq_self, if_true, if_false, true_implies, false_implies, implies_true, ↓c_ring_Gap]
  cases h1 : isT t <;> cases h2 : isN a <;> cases h3 : isN b <;> simp
theorem near_dom {t a b : Int} (h : near t a b = true) : (0 ≤ t ∧ t < 4) ∧ (0 ≤ a ∧ a < 8) ∧ (0 ≤ b ∧ b < 8) ∧ gap t a < gap t b := by
  simp only [near, Bool.and_eq_true, decide_eq_true_eq, isT_iff, isN_iff] at h
  exact ⟨h.1.1.1, h.1.1.2, h.1.2, h.2⟩
end Go.Xt
end
section
set_option linter.unusedSimpArgs false
set_option linter.unusedVariables false
set_option maxRecDepth 100000
namespace Go.Xt
theorem w_ring_All (l : List Int) (hg : Goods [L l]) : S_ring_All ρ (L l) (· = [bb (l.all isN)]) := by
  unfold S_ring_All
  simp only [Goods, good_L] at hg
  simp (disch := first | omega | assumption | exact ⟨by first | assumption | omega, by first | assumption | omega⟩ | (simp only [List.length_cons, List.length_nil]; omega)) only [↓S0, ↓ITE_bool, S1, eq_self, if_true, if_false, true_implies, false_implies, implies_true, ↓c_ring_Is]
  refine LOOP.rule (α := Nat) (fun i => [I i]) (fun i => i ≤ l.length ∧ (l.drop i).all isN = l.all isN) (fun i => l.length - i) 0 rfl ⟨by omega, rfl⟩ (fun _ => rfl) ?_
  rintro i ⟨h1, h2⟩
  simp only [app]
  simp (disch := first | omega | assumption | exact ⟨by first | assumption | omega, by first | assumption | omega⟩ | (simp only [List.length_cons, List.length_nil]; omega)) only [↓S0, ↓ITE_bool, S1, eq_self, if_true, if_false, true_implies, false_implies, implies_true, ↓c_ring_Is]
  refine ⟨fun h => ?_, fun h => ?_⟩
  · obtain ⟨x, hx⟩ := get_ex h
    rw [drop_eq hx, List.all_cons] at h2
    simp (disch := first | omega | assumption | exact ⟨by first | assumption | omega, by first | assumption | omega⟩ | (simp only [List.length_cons, List.length_nil]; omega)) only [↓S0, ↓ITE_bool, S1, eq_self, if_true, if_false, true_implies, false_implies, implies_true, ↓c_ring_Is, cell_L hx]
    refine ⟨fun h3 => ?_, fun h3 => ⟨i + 1, rfl, ⟨by omega, by simpa [h3] using h2⟩, by omega⟩⟩
    rw [h3] at h2; simp [← h2]
  · rw [drop_nil h] at h2
    simp [← h2]
theorem w_path_rises (t : Int) (self : Int) (l : List Int) (hg : Goods [I t, I self, L l]) : S_path_rises ρ (I t) (I self) (L l) (· = [bb (rises t self l)]) := by
  unfold S_path_rises
  simp only [Goods, good_L] at hg
  simp (disch := first | omega | assumption | exact ⟨by first | assumption | omega, by first | assumption | omega⟩ | (simp only [List.length_cons, List.length_nil]; omega)) only [↓S0, ↓ITE_bool, S1, eq_self, if_true, if_false, true_implies, false_implies, implies_true, ↓c_ring_Nearer]
  refine LOOP.rule (α := Nat × Int) (fun a => [I a.2, I a.1]) (fun a => a.1 ≤ l.length ∧ rises t a.2 (l.drop a.1) = rises t self l) (fun a => l.length - a.1) (0, self) rfl ⟨by simp, rfl⟩ (fun _ => rfl) ?_
  rintro ⟨i, s⟩ ⟨h1, h2⟩
  simp only [app] at *
  simp (disch := first | omega | assumption | exact ⟨by first | assumption | omega, by first | assumption | omega⟩ | (simp only [List.length_cons, List.length_nil]; omega)) only [↓S0, ↓ITE_bool, S1, eq_self, if_true, if_false, true_implies, false_implies, implies_true, ↓c_ring_Nearer]
  refine ⟨fun h => ?_, fun h => ?_⟩
  · obtain ⟨x, hx⟩ := get_ex h
    rw [drop_eq hx, rises] at h2
    simp (disch := first | omega | assumption | exact ⟨by first | assumption | omega, by first | assumption | omega⟩ | (simp only [List.length_cons, List.length_nil]; omega)) only [↓S0, ↓ITE_bool, S1, eq_self, if_true, if_false, true_implies, false_implies, implies_true, ↓c_ring_Nearer, cell_L hx]
    refine ⟨fun h3 => ?_, fun h3 => ⟨(i + 1, x), rfl, ⟨by simp; omega, by simpa [h3] using h2⟩, by simp; omega⟩⟩
    rw [h3] at h2; simp [← h2]
  · rw [drop_nil h] at h2
    simp [← h2, rises]
theorem w_path_Check (t : Int) (self : Int) (l : List Int) (depth : Int) (hg : Goods [I t, I self, L l, I depth]) : S_path_Check ρ (I t) (I self) (L l) (I depth) (· = [I (chk t self l depth)]) := by
  unfold S_path_Check chk
  rw [c_ring_Gap]
  refine SUB.v1 (bb (!(isT t && isN self && decide (1 ≤ depth) && decide (depth ≤ 8) && l.all isN))) ?_ ?_
  · simp (disch := first | omega | assumption | exact ⟨by first | assumption | omega, by first | assumption | omega⟩ | (simp only [List.length_cons, List.length_nil]; omega)) only [↓S0, ↓ITE_bool, S1, eq_self, if_true, if_false, true_implies, false_implies, implies_true, ↓c_ring_All, ↓c_ring_Gap, ↓c_path_rises]
    by_cases h3 : 1 ≤ depth <;> by_cases h4 : depth ≤ 8 <;> cases h1 : isT t <;> cases h2 : isN self <;> simp [h3, h4] <;> omega
  simp (disch := first | omega | assumption | exact ⟨by first | assumption | omega, by first | assumption | omega⟩ | (simp only [List.length_cons, List.length_nil]; omega)) only [↓S0, ↓ITE_bool, S1, eq_self, if_true, if_false, true_implies, false_implies, implies_true, ↓c_ring_All, ↓c_ring_Gap, ↓c_path_rises]
  by_cases h : (isT t && isN self && decide (1 ≤ depth) && decide (depth ≤ 8) && l.all isN) = true
  · rw [if_pos h]; simp only [h]
    cases h5 : rises t self l <;> simp <;> omega
  · rw [if_neg h]; simp [h]
theorem chk_cases (t n : Int) (xs : List Int) (c : Int) : chk t n xs c = 0 ∨ chk t n xs c = 1 ∨ chk t n xs c = 12 := by
  unfold chk; split <;> (try split) <;> (try split) <;> simp
theorem w_bkeep_TwinInts (l : List Int) (hp : l.length ≤ 1000000) : S_bkeep_TwinInts ρ (L l) (· = [L l]) := by
  unfold S_bkeep_TwinInts
  simp (disch := first | omega | assumption | exact ⟨by first | assumption | omega, by first | assumption | omega⟩ | (simp only [List.length_cons, List.length_nil]; omega)) only [↓S0, ↓ITE_bool, S1, eq_self, if_true, if_false, true_implies, false_implies, implies_true]
theorem w_bkeep_Ints (a : List Int) (b : List Int) (hg : Goods [L a, L b]) : S_bkeep_Ints ρ (L a) (L b) (· = [bb (decide (a = b))]) := by
  unfold S_bkeep_Ints
  simp only [Goods, good_L] at hg
  simp (disch := first | omega | assumption | exact ⟨by first | assumption | omega, by first | assumption | omega⟩ | (simp only [List.length_cons, List.length_nil]; omega)) only [↓S0, ↓ITE_bool, S1, eq_self, if_true, if_false, true_implies, false_implies, implies_true]
  refine ⟨fun h => ?_, fun h => ?_⟩
  · have : a ≠ b := by rintro rfl; simp at h
    simp [this]
  have hl : a.length = b.length := by omega
  refine LOOP.rule (α := Nat) (fun i => [I i]) (fun i => i ≤ a.length ∧ ((a = b) = (a.drop i = b.drop i))) (fun i => a.length - i) 0 rfl ⟨by omega, by simp⟩ (fun _ => rfl) ?_
  rintro i ⟨h1, h2⟩
  simp only [app]
  simp (disch := first | omega | assumption | exact ⟨by first | assumption | omega, by first | assumption | omega⟩ | (simp only [List.length_cons, List.length_nil]; omega)) only [↓S0, ↓ITE_bool, S1, eq_self, if_true, if_false, true_implies, false_implies, implies_true]
  refine ⟨fun h => ?_, fun h => ?_⟩
  · obtain ⟨x, hx⟩ := get_ex h
    obtain ⟨y, hy⟩ := get_ex (xs := b) (i := i) (by omega)
    simp (disch := first | omega | assumption | exact ⟨by first | assumption | omega, by first | assumption | omega⟩ | (simp only [List.length_cons, List.length_nil]; omega)) only [↓S0, ↓ITE_bool, S1, eq_self, if_true, if_false, true_implies, false_implies, implies_true, cell_L hx, cell_L hy]
    rw [drop_eq hx, drop_eq hy, List.cons.injEq] at h2
    refine ⟨fun h3 => ?_, fun h3 => ⟨i + 1, rfl, ⟨by omega, ?_⟩, by omega⟩⟩
    · simp [h2, h3]
    · simpa [h3] using h2
  · rw [drop_nil h, drop_nil (by omega)] at h2
    simp [h2]
end Go.Xt
end
section
set_option linter.unusedSimpArgs false
set_option linter.unusedVariables false
set_option maxRecDepth 100000
namespace Go.Xt
theorem w_script_config (c : Config) : S_script_config ρ (I c.nodes) (I c.topics) (I c.kids) (I c.depth) (I c.keep) (I c.window) (I c.queue) (· = [E ⟨true, cfgErrs c⟩]) := by
  unfold S_script_config
  simp (disch := first | omega | assumption | exact ⟨by first | assumption | omega, by first | assumption | omega⟩ | (simp only [List.length_cons, List.length_nil]; omega)) only [↓S0, ↓ITE_bool, S1, eq_self, if_true, if_false, true_implies, false_implies, implies_true, ↓c_errors_Join, ↓c_script_field]
  rw [c_errors_Join]
  · simp [cfgErrs, errOf]
  · simp
theorem errno13 : ∀ {l : List Int}, (∀ e ∈ l, e = 13) → errnoOf l = if l = [] then 0 else 13
  | [], _ => by simp [errnoOf]
  | e :: r, h => by
    have h9 : ¬ 9 ∈ e :: r := fun h' => absurd (h 9 h') (by decide)
    simp only [errnoOf, if_neg h9]
    simp [h e (by simp)]
theorem errOf_nil {n lo hi why : Int} : (errOf n lo hi why = []) = (rng n lo hi = true) := by
  unfold errOf rng
  by_cases h : n < lo ∨ hi < n
  · rw [if_pos h]; simp; omega
  · rw [if_neg h]; simp; omega
theorem errOf_mem {n lo hi why e : Int} (h : e ∈ errOf n lo hi why) : e = why := by
  unfold errOf at h; split at h <;> simp at h; exact h
theorem errOf_len {n lo hi why : Int} : (errOf n lo hi why).length ≤ 1 := by unfold errOf; split <;> simp
theorem cfg_errno (c : Config) : errnoOf (cfgErrs c) = if cfgOk c = true then 0 else 13 := by
  rw [errno13]
  · have : (cfgErrs c = []) = (cfgOk c = true) := by
      simp only [cfgErrs, List.append_eq_nil_iff, errOf_nil, cfgOk, Bool.and_eq_true]
    simp only [this]
  · intro e h
    simp only [cfgErrs, List.mem_append] at h
    rcases h with (((((h | h) | h) | h) | h) | h) | h <;> exact errOf_mem h
theorem w_script_Config (c : Config) : S_script_Config ρ (I c.nodes) (I c.topics) (I c.kids) (I c.depth) (I c.keep) (I c.window) (I c.queue) (· = [I (if cfgOk c = true then 0 else 13)]) := by
  unfold S_script_Config
  have h : (cfgErrs c).length ≤ 1000 := by
    have h1 := @errOf_len c.nodes 1 8 13; have h2 := @errOf_len c.topics 1 4 13; have h3 := @errOf_len c.kids 1 4 13; have h4 := @errOf_len c.depth 1 8 13
    have h5 := @errOf_len c.keep 1 16 13; have h6 := @errOf_len c.window 1 16 13; have h7 := @errOf_len c.queue 2 32 13
    simp only [cfgErrs, List.length_append]; omega
  simp (disch := first | omega | assumption | exact ⟨by first | assumption | omega, by first | assumption | omega⟩ | (simp only [List.length_cons, List.length_nil]; omega)) only [↓S0, ↓ITE_bool, S1, eq_self, if_true, if_false, true_implies, false_implies, implies_true, ↓c_script_errno, ↓c_script_config]
  exact congrArg (fun x => [I x]) (cfg_errno c)
end Go.Xt
end
section
set_option linter.unusedSimpArgs false
set_option linter.unusedVariables false
set_option maxRecDepth 100000
namespace Go.Xt
theorem w_msg_in (n : Int) (lo : Int) (hi : Int) : S_msg_in ρ (I n) (I lo) (I hi) (· = [bb (rng n lo hi)]) := by
  unfold S_msg_in rng
  simp (disch := first | omega | assumption | exact ⟨by first | assumption | omega, by first | assumption | omega⟩ | (simp only [List.length_cons, List.length_nil]; omega)) only [↓S0, ITE_R, ITE_eq, ite_c, ite_bb, ite_I, ite_L, ite_L0, ite_0L, ite_self, SUB_r1, SUB_r2, SUB_r3, S1, eq_self, if_true, if_false, true_implies, false_implies, implies_true]
  simp
theorem w_cast_in (n : Int) (lo : Int) (hi : Int) : S_cast_in ρ (I n) (I lo) (I hi) (· = [bb (rng n lo hi)]) := by
  unfold S_cast_in rng
  simp (disch := first | omega | assumption | exact ⟨by first | assumption | omega, by first | assumption | omega⟩ | (simp only [List.length_cons, List.length_nil]; omega)) only [↓S0, ITE_R, ITE_eq, ite_c, ite_bb, ite_I, ite_L, ite_L0, ite_0L, ite_self, SUB_r1, SUB_r2, SUB_r3, S1, eq_self, if_true, if_false, true_implies, false_implies, implies_true]
  simp
theorem w_msg_Counted (n : Int) : S_msg_Counted ρ (I n) (· = [bb (cnt n)]) := by
  unfold S_msg_Counted cnt
  simp (disch := first | omega | assumption | exact ⟨by first | assumption | omega, by first | assumption | omega⟩ | (simp only [List.length_cons, List.length_nil]; omega)) only [↓S0, ITE_R, ITE_eq, ite_c, ite_bb, ite_I, ite_L, ite_L0, ite_0L, ite_self, SUB_r1, SUB_r2, SUB_r3, S1, eq_self, if_true, if_false, true_implies, false_implies, implies_true, ↓c_msg_in]
theorem w_msg_Value (n : Int) : S_msg_Value ρ (I n) (· = [bb (val n)]) := by
  unfold S_msg_Value val
  simp (disch := first | omega | assumption | exact ⟨by first | assumption | omega, by first | assumption | omega⟩ | (simp only [List.length_cons, List.length_nil]; omega)) only [↓S0, ITE_R, ITE_eq, ite_c, ite_bb, ite_I, ite_L, ite_L0, ite_0L, ite_self, SUB_r1, SUB_r2, SUB_r3, S1, eq_self, if_true, if_false, true_implies, false_implies, implies_true, ↓c_msg_in]
theorem w_epoch_Check (e : Int) : S_epoch_Check ρ (I e) (· = [I (if ep e = true then 0 else 1)]) := by
  unfold S_epoch_Check
  repeat' (first | apply And.intro | intro _ | simp (disch := first | omega | assumption | exact ⟨by first | assumption | omega, by first | assumption | omega⟩ | (simp only [List.length_cons, List.length_nil]; omega)) only [↓S0, ↓ITE_bool, S1, eq_self, if_true, if_false, true_implies, false_implies, implies_true, ↓c_ring_Is])
  all_goals (simp_all [ep, rng]; try omega)
theorem w_epoch_Who (e : Int) : S_epoch_Who ρ (I e) (· = [I (if ep e = true then e % 16 else 0), I (if ep e = true then 0 else 1)]) := by
  unfold S_epoch_Who
  cases he : ep e
  · simp (disch := first | omega | assumption | exact ⟨by first | assumption | omega, by first | assumption | omega⟩ | (simp only [List.length_cons, List.length_nil]; omega)) only [↓S0, ↓ITE_bool, S1, eq_self, if_true, if_false, true_implies, false_implies, implies_true, ↓c_epoch_Check]
    simp [he]
  · have h0 : 0 ≤ e := by simp only [ep, rng, Bool.and_eq_true, decide_eq_true_eq] at he; omega
    simp (disch := first | omega | assumption | exact ⟨by first | assumption | omega, by first | assumption | omega⟩ | (simp only [List.length_cons, List.length_nil]; omega)) only [↓S0, ↓ITE_bool, S1, eq_self, if_true, if_false, true_implies, false_implies, implies_true, ↓c_epoch_Check]
    simp [he]
theorem w_view_right (p : Peer) : S_view_right ρ (I p.inc) (I p.age) (· = [bb (peerOk p)]) := by
  unfold S_view_right
  simp (disch := first | omega | assumption | exact ⟨by first | assumption | omega, by first | assumption | omega⟩ | (simp only [List.length_cons, List.length_nil]; omega)) only [↓S0, ITE_R, ITE_eq, ite_c, ite_bb, ite_I, ite_L, ite_L0, ite_0L, ite_self, SUB_r1, SUB_r2, SUB_r3, S1, eq_self, if_true, if_false, true_implies, false_implies, implies_true]
  simp [peerOk, rng, Bool.and_assoc]
theorem w_kids_right (t : Int) (self : Int) (k : Kid) : S_kids_right ρ (I t) (I self) (I k.node) (I k.inc) (I k.age) (· = [bb (near t self k.node && cnt k.inc && rng k.age 0 6)]) := by
  unfold S_kids_right
  simp (disch := first | omega | assumption | exact ⟨by first | assumption | omega, by first | assumption | omega⟩ | (simp only [List.length_cons, List.length_nil]; omega)) only [↓S0, ITE_R, ITE_eq, ite_c, ite_bb, ite_I, ite_L, ite_L0, ite_0L, ite_self, SUB_r1, SUB_r2, SUB_r3, S1, eq_self, if_true, if_false, true_implies, false_implies, implies_true, ↓c_msg_Counted, ↓c_ring_Nearer]
  simp [rng, Bool.and_assoc]
theorem w_ahead_fits (seq : Int) (want : Int) (window : Int) (hp : cnt want = true ∧ rng window 1 16 = true) : S_ahead_fits ρ (I seq) (I want) (I window) (· = [bb (decide (want < seq) && decide (seq < want + window) && decide (seq < 1073741824))]) := by
  unfold S_ahead_fits
  obtain ⟨h1, h2⟩ := hp
  simp only [cnt, rng, Bool.and_eq_true, decide_eq_true_eq] at h1 h2
  simp (disch := first | omega | assumption | exact ⟨by first | assumption | omega, by first | assumption | omega⟩ | (simp only [List.length_cons, List.length_nil]; omega)) only [↓S0, ITE_R, ITE_eq, ite_c, ite_bb, ite_I, ite_L, ite_L0, ite_0L, ite_self, SUB_r1, SUB_r2, SUB_r3, S1, eq_self, if_true, if_false, true_implies, false_implies, implies_true]
  simp [Bool.and_assoc]
theorem w_graft_link (t : Int) (self : Int) (n : Int) (hg : Goods [I t, I self, I n]) : S_graft_link ρ (I t) (I self) (I n) (· = [bb (link t self n)]) := by
  unfold S_graft_link
  simp only [Goods, good_I] at hg
  repeat' (first | apply And.intro | intro _ | simp (disch := first | omega | assumption | exact ⟨by first | assumption | omega, by first | assumption | omega⟩ | (simp only [List.length_cons, List.length_nil]; omega)) only [↓S0, ↓ITE_bool, S1, eq_self, if_true, if_false, true_implies, false_implies, implies_true, ↓c_ring_Nearer])
  all_goals (simp_all [link]; try omega)
theorem w_graft_rooted (self : Int) (x : Topic) : S_graft_rooted ρ (I self) (bb x.made) (bb x.sub) (I x.top) (I x.root) (I x.parent) (I x.asked) (I x.other) (I x.age) (L x.path) (L x.kids) (I x.stream.epoch) (I x.stream.want) (I x.stream.known) (L x.stream.kept) (L x.stream.ahead) (L x.queue) (· = [bb (rootOk self x)]) := by
  unfold S_graft_rooted
  simp (disch := first | omega | assumption | exact ⟨by first | assumption | omega, by first | assumption | omega⟩ | (simp only [List.length_cons, List.length_nil]; omega)) only [↓S0, ITE_R, ITE_eq, ite_c, ite_bb, ite_I, ite_L, ite_L0, ite_0L, ite_self, SUB_r1, SUB_r2, SUB_r3, S1, eq_self, if_true, if_false, true_implies, false_implies, implies_true, ↓c_epoch_Who]
  cases h0 : decide (x.root = 0) <;> cases h1 : ep x.root <;> simp_all [rootOk, Bool.and_assoc]
theorem w_graft_placed (x : Topic) (hp : 0 ≤ x.parent ∧ x.parent ≤ 8) (hg : Goods [bb x.made, bb x.sub, I x.top, I x.root, I x.parent, I x.asked, I x.other, I x.age, L x.path, L x.kids, I x.stream.epoch, I x.stream.want, I x.stream.known, L x.stream.kept, L x.stream.ahead, L x.queue]) : S_graft_placed ρ (bb x.made) (bb x.sub) (I x.top) (I x.root) (I x.parent) (I x.asked) (I x.other) (I x.age) (L x.path) (L x.kids) (I x.stream.epoch) (I x.stream.want) (I x.stream.known) (L x.stream.kept) (L x.stream.ahead) (L x.queue) (· = [bb (placedOk x)]) := by
  unfold S_graft_placed placedOk
  simp only [Goods, good_I, good_L] at hg
  cases hx : x.path with
  | nil => simp (disch := first | omega | assumption | exact ⟨by first | assumption | omega, by first | assumption | omega⟩ | (simp only [List.length_cons, List.length_nil]; omega)) only [↓S0, ↓ITE_bool, S1, eq_self, if_true, if_false, true_implies, false_implies, implies_true]; simp
  | cons p r =>
    have h1 : ¬ ((r.length : Int) + 1 = 0) := by omega
    simp (disch := first | omega | assumption | exact ⟨by first | assumption | omega, by first | assumption | omega⟩ | (simp only [List.length_cons, List.length_nil]; omega)) only [↓S0, ↓ITE_bool, S1, eq_self, if_true, if_false, true_implies, false_implies, implies_true, OP_addW, List.length_cons, Int.natCast_add, Int.cast_ofNat_Int, h1]
theorem w_flow_zero (s : Stream) : S_flow_zero ρ (I s.epoch) (I s.want) (I s.known) (L s.kept) (L s.ahead) (· = [bb (streamZ s)]) := by
  unfold S_flow_zero streamZ
  simp (disch := first | omega | assumption | exact ⟨by first | assumption | omega, by first | assumption | omega⟩ | (simp only [List.length_cons, List.length_nil]; omega)) only [↓S0, ITE_R, ITE_eq, ite_c, ite_bb, ite_I, ite_L, ite_L0, ite_0L, ite_self, SUB_r1, SUB_r2, SUB_r3, S1, eq_self, if_true, if_false, true_implies, false_implies, implies_true]
  simp [Bool.and_assoc]
end Go.Xt
end
section
set_option linter.unusedSimpArgs false
set_option linter.unusedVariables false
set_option maxRecDepth 100000
namespace Go.Xt
theorem w_view_Check (l : List Peer) (hg : Goods [L l]) : S_view_Check ρ (L l) (· = [I (if peersOk l = true then 0 else 1)]) := by
  unfold S_view_Check peersOk
  simp only [Goods, good_L] at hg
  simp (disch := first | omega | assumption | exact ⟨by first | assumption | omega, by first | assumption | omega⟩ | (simp only [List.length_cons, List.length_nil]; omega)) only [↓S0, ↓ITE_bool, S1, eq_self, if_true, if_false, true_implies, false_implies, implies_true, ↓c_view_right]
  refine ⟨fun h => ?_, fun h => ⟨fun h2 => ?_, fun h2 => ?_⟩⟩
  · simp [show ¬ 1 ≤ l.length by omega]
  · simp [show ¬ l.length ≤ 8 by omega]
  have e1 : decide (1 ≤ l.length) = true := by simp; omega
  have e2 : decide (l.length ≤ 8) = true := by simp; omega
  have e3 : decide ((8 : Int) < l.length) = false := by simp; omega
  simp only [e1, e2, e3, Bool.true_and]
  refine LOOP.rule (α := Nat) (fun i => [I i]) (fun i => i ≤ l.length ∧ (l.drop i).all (peerOk) = l.all (peerOk)) (fun i => l.length - i) 0 rfl ⟨by omega, by simp⟩ (fun _ => rfl) ?_
  rintro i ⟨hl_i, hs_i⟩
  simp only [app]
  simp (disch := first | omega | assumption | exact ⟨by first | assumption | omega, by first | assumption | omega⟩ | (simp only [List.length_cons, List.length_nil]; omega)) only [↓S0, ↓ITE_bool, S1, eq_self, if_true, if_false, true_implies, false_implies, implies_true, ↓c_view_right]
  refine ⟨fun hc_i => ?_, fun hc_i => ?_⟩
  · obtain ⟨x, hx⟩ := get_ex hc_i
    rw [drop_eq hx, List.all_cons] at hs_i
    simp (disch := first | omega | assumption | exact ⟨by first | assumption | omega, by first | assumption | omega⟩ | (simp only [List.length_cons, List.length_nil]; omega)) only [↓S0, ↓ITE_bool, S1, eq_self, if_true, if_false, true_implies, false_implies, implies_true, ↓c_view_right, cell_L hx]
    refine ⟨fun h3 => ?_, fun h3 => ⟨i + 1, rfl, ⟨by omega, by simpa [h3] using hs_i⟩, by omega⟩⟩
    rw [h3, Bool.false_and] at hs_i; simp [← hs_i, ITE_true]
  · rw [drop_nil hc_i] at hs_i
    simp only [← hs_i]; simp [h2, ITE_false]
theorem dlt (a b : Int) : decide (a < b) = !decide (b ≤ a) := by rw [Bool.eq_iff_iff]; simp
theorem near_trans {t a b c : Int} (h1 : near t a b = true) (h2 : near t b c = true) : near t a c = true := by
  obtain ⟨a1, a2, a3, a4⟩ := near_dom h1
  obtain ⟨b1, b2, b3, b4⟩ := near_dom h2
  simp only [near, Bool.and_eq_true, decide_eq_true_eq, isT_iff, isN_iff]
  exact ⟨⟨⟨a1, a2⟩, b3⟩, by omega⟩
theorem kidsGo_cons {t a : Int} {k : Kid} {r : List Kid} : kidsGo t a (k :: r) = (near t a k.node && cnt k.inc && rng k.age 0 6 && kidsGo t k.node r) := rfl
theorem w_kids_Check (t : Int) (self : Int) (limit : Int) (l : List Kid) (hg : Goods [I t, I self, I limit, L l]) : S_kids_Check ρ (I t) (I self) (I limit) (L l) (· = [I (if kidsOk t self limit l = true then 0 else 1)]) := by
  unfold S_kids_Check kidsOk
  simp only [Goods, good_I, good_L] at hg
  rw [c_ring_Gap]
  refine SUB.v1 (bb (!(isT t && isN self && rng limit 1 4 && decide ((l.length : Int) ≤ limit)))) ?_ ?_
  · cases h1 : (isT t && isN self)
    · simp (disch := first | omega | assumption | exact ⟨by first | assumption | omega, by first | assumption | omega⟩ | (simp only [List.length_cons, List.length_nil]; omega)) only [↓S0, ↓ITE_bool, S1, eq_self, if_true, if_false, true_implies, false_implies, implies_true, ↓c_ring_Nearer, ↓c_ring_Gap, ↓c_kids_right, h1]
      simp
    · repeat' (first | apply And.intro | intro _ | simp (disch := first | omega | assumption | exact ⟨by first | assumption | omega, by first | assumption | omega⟩ | (simp only [List.length_cons, List.length_nil]; omega)) only [↓S0, ↓ITE_bool, S1, eq_self, if_true, if_false, true_implies, false_implies, implies_true, ↓c_ring_Nearer, ↓c_ring_Gap, ↓c_kids_right])
      all_goals (simp_all [rng]; try (first | omega | exact dlt _ _))
  simp (disch := first | omega | assumption | exact ⟨by first | assumption | omega, by first | assumption | omega⟩ | (simp only [List.length_cons, List.length_nil]; omega)) only [↓S0, ↓ITE_bool, S1, eq_self, if_true, if_false, true_implies, false_implies, implies_true, ↓c_ring_Nearer, ↓c_ring_Gap, ↓c_kids_right]
  refine ⟨fun h => by simp [h], fun h => ?_⟩
  simp only [h, Bool.true_and]
  refine LOOP.rule (α := Nat) (fun i => [I i]) (fun i => i ≤ l.length ∧ ∃ p, (i = 0 → p = self) ∧ (0 < i → ∃ k, l[i - 1]? = some k ∧ p = k.node ∧ near t self p = true) ∧ kidsGo t p (l.drop i) = kidsGo t self l) (fun i => l.length - i) 0 rfl ⟨by omega, self, by simp⟩ (fun _ => rfl) ?_
  rintro i ⟨hl, p, hp0, hp1, hs⟩
  simp only [app]
  simp (disch := first | omega | assumption | exact ⟨by first | assumption | omega, by first | assumption | omega⟩ | (simp only [List.length_cons, List.length_nil]; omega)) only [↓S0, ↓ITE_bool, S1, eq_self, if_true, if_false, true_implies, false_implies, implies_true, ↓c_ring_Nearer, ↓c_ring_Gap, ↓c_kids_right]
  refine ⟨fun hc => ?_, fun hc => ?_⟩
  · obtain ⟨x, hx⟩ := get_ex hc
    rw [drop_eq hx, kidsGo_cons] at hs
    simp (disch := first | omega | assumption | exact ⟨by first | assumption | omega, by first | assumption | omega⟩ | (simp only [List.length_cons, List.length_nil]; omega)) only [↓S0, ↓ITE_bool, S1, eq_self, if_true, if_false, true_implies, false_implies, implies_true, ↓c_ring_Nearer, ↓c_ring_Gap, ↓c_kids_right, cell_L hx]
    refine ⟨fun h3 => ?_, fun h3 => ⟨fun h4 => ?_, fun h4 => ?_⟩⟩
    · have hf : kidsGo t self l = false := by
        rw [← hs]
        cases hn : near t p x.node with
        | false => simp
        | true =>
          have hns : near t self x.node = true := by
            rcases Nat.eq_zero_or_pos i with h0 | h0
            · rw [← hp0 h0]; exact hn
            · obtain ⟨k, _, _, hk⟩ := hp1 h0; exact near_trans hk hn
          rw [hns] at h3
          cases h5 : cnt x.inc <;> cases h6 : rng x.age 0 6 <;> simp_all
      rw [hf]; simp
    · simp only [Bool.and_eq_true] at h3
      obtain ⟨⟨h5, h6⟩, h7⟩ := h3
      obtain ⟨k, hk, rfl, hnk⟩ := hp1 (by omega)
      have e1 : ((i : Int) - 1) = ((i - 1 : Nat) : Int) := by omega
      simp (disch := first | omega | assumption | exact ⟨by first | assumption | omega, by first | assumption | omega⟩ | (simp only [List.length_cons, List.length_nil]; omega)) only [↓S0, ↓ITE_bool, S1, eq_self, if_true, if_false, true_implies, false_implies, implies_true, ↓c_ring_Nearer, ↓c_ring_Gap, ↓c_kids_right, e1, cell_L hk]
      refine ⟨fun h8 => ?_, fun h8 => ⟨i + 1, by simp, ⟨by omega, x.node, by simp, fun _ => ⟨x, by simpa using hx, rfl, h5⟩, ?_⟩, by omega⟩⟩
      · rw [← hs, h8]; simp
      · rw [← hs, h8, h6, h7]; simp
    · simp only [Bool.and_eq_true] at h3
      obtain ⟨⟨h5, h6⟩, h7⟩ := h3
      have h0 : i = 0 := by omega
      rw [hp0 h0] at hs
      refine ⟨i + 1, by simp, ⟨by omega, x.node, by simp, fun _ => ⟨x, by simpa using hx, rfl, h5⟩, ?_⟩, by omega⟩
      rw [← hs, h5, h6, h7]; simp
  · rw [drop_nil hc] at hs
    simp [← hs, kidsGo]
end Go.Xt
end
section
set_option linter.unusedSimpArgs false
set_option linter.unusedVariables false
set_option maxRecDepth 100000
namespace Go.Xt
theorem keptGo_cons {n : Int} {x : Item} {r : List Item} : keptGo n (x :: r) = (decide (x.seq = n) && val x.value && keptGo (n + 1) r) := rfl
theorem ahdGo_cons {m p : Int} {x : Item} {r : List Item} : ahdGo m p (x :: r) = (decide (p < x.seq) && decide (x.seq < m) && decide (x.seq < 1073741824) && val x.value && ahdGo m x.seq r) := rfl
theorem cnt_bd {n : Int} (h : cnt n = true) : 1 ≤ n ∧ n ≤ 1073741824 := by simpa [cnt, rng] using h
theorem rng_bd {n a b : Int} (h : rng n a b = true) : a ≤ n ∧ n ≤ b := by simpa [rng] using h
theorem w_keep_right (l : List Item) (want : Int) (hp : cnt want = true ∧ l.length ≤ 16) (hg : Goods [L l, I want]) : S_keep_right ρ (L l) (I want) (· = [bb (decide (l.length < want) && keptGo (want - l.length) l)]) := by
  unfold S_keep_right
  obtain ⟨hw, hl16⟩ := hp
  have hw := cnt_bd hw
  simp (disch := first | omega | assumption | exact ⟨by first | assumption | omega, by first | assumption | omega⟩ | (simp only [List.length_cons, List.length_nil]; omega)) only [↓S0, ↓ITE_bool, S1, eq_self, if_true, if_false, true_implies, false_implies, implies_true, ↓c_msg_Value]
  refine LOOP.rule (α := Nat) (fun i => [I i]) (fun i => i ≤ l.length ∧ (0 < i → (l.length : Int) < want) ∧ keptGo (want - l.length + i) (l.drop i) = keptGo (want - l.length) l) (fun i => l.length - i) 0 rfl ⟨by omega, by omega, by simp⟩ (fun _ => rfl) ?_
  rintro i ⟨hl, hpos, hs⟩
  simp only [app]
  simp (disch := first | omega | assumption | exact ⟨by first | assumption | omega, by first | assumption | omega⟩ | (simp only [List.length_cons, List.length_nil]; omega)) only [↓S0, ↓ITE_bool, S1, eq_self, if_true, if_false, true_implies, false_implies, implies_true, ↓c_msg_Value]
  refine ⟨fun hc => ?_, fun hc => ?_⟩
  · obtain ⟨x, hx⟩ := get_ex hc
    rw [drop_eq hx, keptGo_cons] at hs
    simp (disch := first | omega | assumption | exact ⟨by first | assumption | omega, by first | assumption | omega⟩ | (simp only [List.length_cons, List.length_nil]; omega)) only [↓S0, ↓ITE_bool, S1, eq_self, if_true, if_false, true_implies, false_implies, implies_true, ↓c_msg_Value, cell_L hx]
    refine ⟨fun h1 => ?_, fun h1 => ⟨fun h2 => ?_, fun h2 => ⟨fun h3 => ?_, fun h3 => ⟨i + 1, by simp, ⟨by omega, fun _ => ?_, ?_⟩, by omega⟩⟩⟩⟩
    · rw [← hs]
      by_cases h2 : x.seq = want - l.length + i
      · have : ¬ (l.length : Int) < want := fun h => by omega
        simp [this]
      · simp [h2]
    · rw [← hs]; simp [h2]
    · rw [← hs]; simp [h3]
    · rcases Nat.eq_zero_or_pos i with h0 | h0
      · subst h0; omega
      · exact hpos h0
    · rw [← hs, h3]; simp [h2, Int.add_assoc]
  · rw [drop_nil hc] at hs
    rw [← hs]
    have : (l.length : Int) < want := by
      rcases Nat.eq_zero_or_pos i with h0 | h0
      · omega
      · exact hpos h0
    simp [this, keptGo]
theorem w_keep_Check (l : List Item) (want : Int) (limit : Int) (hg : Goods [L l, I want, I limit]) : S_keep_Check ρ (L l) (I want) (I limit) (· = [I (if keptOk l want limit = true then 0 else 1)]) := by
  unfold S_keep_Check keptOk
  simp only [Goods, good_I, good_L] at hg
  cases h1 : cnt want
  · simp (disch := first | omega | assumption | exact ⟨by first | assumption | omega, by first | assumption | omega⟩ | (simp only [List.length_cons, List.length_nil]; omega)) only [↓S0, ↓ITE_bool, S1, eq_self, if_true, if_false, true_implies, false_implies, implies_true, ↓c_msg_Counted, ↓c_keep_right, h1]
    simp
  cases h2 : (rng limit 1 16 && decide ((l.length : Int) ≤ limit))
  · repeat' (first | apply And.intro | intro _ | simp (disch := first | omega | assumption | exact ⟨by first | assumption | omega, by first | assumption | omega⟩ | (simp only [List.length_cons, List.length_nil]; omega)) only [↓S0, ↓ITE_bool, S1, eq_self, if_true, if_false, true_implies, false_implies, implies_true, ↓c_msg_Counted, ↓c_keep_right])
    all_goals (simp_all [rng]; try omega)
  · simp only [Bool.and_eq_true, decide_eq_true_eq] at h2
    have h3 := rng_bd h2.1
    rw [h2.1]
    simp (disch := first | omega | assumption | exact ⟨by first | assumption | omega, by first | assumption | omega⟩ | (simp only [List.length_cons, List.length_nil]; omega)) only [↓S0, ↓ITE_bool, S1, eq_self, if_true, if_false, true_implies, false_implies, implies_true, ↓c_msg_Counted, ↓c_keep_right, h1]
    have e1 : ¬ limit < 1 := by omega
    have e2 : ¬ 16 < limit := by omega
    have e3 : ¬ limit < (l.length : Int) := by omega
    have e4 : decide ((l.length : Int) ≤ limit) = true := by simp; omega
    refine ⟨fun h => absurd h e1, fun _ => ⟨fun h => absurd h e2, fun _ => ⟨fun h => absurd h e3, fun _ => ?_⟩⟩⟩
    cases h5 : (decide ((l.length : Int) < want) && keptGo (want - l.length) l) <;> simp_all
theorem w_ahead_Check (l : List Item) (want : Int) (window : Int) (hg : Goods [L l, I want, I window]) : S_ahead_Check ρ (L l) (I want) (I window) (· = [I (if aheadOk l want window = true then 0 else 1)]) := by
  unfold S_ahead_Check aheadOk
  simp only [Goods, good_I, good_L] at hg
  refine SUB.v1 (bb (!(cnt want && rng window 1 16))) ?_ ?_
  · repeat' (first | apply And.intro | intro _ | simp (disch := first | omega | assumption | exact ⟨by first | assumption | omega, by first | assumption | omega⟩ | (simp only [List.length_cons, List.length_nil]; omega)) only [↓S0, ↓ITE_bool, S1, eq_self, if_true, if_false, true_implies, false_implies, implies_true, ↓c_msg_Value, ↓c_msg_Counted, ↓c_ahead_fits])
    all_goals (simp_all [rng]; try (first | omega | exact dlt _ _))
  simp (disch := first | omega | assumption | exact ⟨by first | assumption | omega, by first | assumption | omega⟩ | (simp only [List.length_cons, List.length_nil]; omega)) only [↓S0, ↓ITE_bool, S1, eq_self, if_true, if_false, true_implies, false_implies, implies_true, ↓c_msg_Value, ↓c_msg_Counted, ↓c_ahead_fits]
  refine ⟨fun h => by simp [h], fun h => ?_⟩
  simp only [h, Bool.true_and]
  simp only [Bool.and_eq_true, decide_eq_true_eq] at h
  obtain ⟨h1', h2'⟩ := h
  have h1 := cnt_bd h1'
  have h2 := rng_bd h2'
  refine LOOP.rule (α := Nat) (fun i => [I i]) (fun i => i ≤ l.length ∧ ∃ p, (i = 0 → p = want) ∧ (0 < i → ∃ k, l[i - 1]? = some k ∧ p = k.seq) ∧ want ≤ p ∧ ahdGo (want + window) p (l.drop i) = ahdGo (want + window) want l) (fun i => l.length - i) 0 rfl ⟨by omega, want, by simp⟩ (fun _ => rfl) ?_
  rintro i ⟨hl, p, hp0, hp1, hwp, hs⟩
  simp only [app]
  simp (disch := first | omega | assumption | exact ⟨by first | assumption | omega, by first | assumption | omega⟩ | (simp only [List.length_cons, List.length_nil]; omega)) only [↓S0, ↓ITE_bool, S1, eq_self, if_true, if_false, true_implies, false_implies, implies_true, ↓c_msg_Value, ↓c_msg_Counted, ↓c_ahead_fits]
  refine ⟨fun hc => ?_, fun hc => ?_⟩
  · obtain ⟨x, hx⟩ := get_ex hc
    rw [drop_eq hx, ahdGo_cons] at hs
    simp (disch := first | omega | assumption | exact ⟨by first | assumption | omega, by first | assumption | omega⟩ | (simp only [List.length_cons, List.length_nil]; omega)) only [↓S0, ↓ITE_bool, S1, eq_self, if_true, if_false, true_implies, false_implies, implies_true, ↓c_msg_Value, ↓c_msg_Counted, ↓c_ahead_fits, cell_L hx]
    refine ⟨fun h3 => ?_, fun h3 => ⟨fun h4 => ?_, fun h4 => ⟨fun h5 => ?_, fun h5 => ?_⟩⟩⟩
    · have : (decide (p < x.seq) && decide (x.seq < want + window) && decide (x.seq < 1073741824)) = false := by
        rw [Bool.eq_false_iff] at h3 ⊢
        intro h6; apply h3
        simp only [Bool.and_eq_true, decide_eq_true_eq] at h6 ⊢
        omega
      rw [← hs, this]; simp
    · rw [← hs, h4]; simp
    · obtain ⟨k, hk, rfl⟩ := hp1 (by omega)
      have e1 : ((i : Int) - 1) = ((i - 1 : Nat) : Int) := by omega
      simp (disch := first | omega | assumption | exact ⟨by first | assumption | omega, by first | assumption | omega⟩ | (simp only [List.length_cons, List.length_nil]; omega)) only [↓S0, ↓ITE_bool, S1, eq_self, if_true, if_false, true_implies, false_implies, implies_true, ↓c_msg_Value, ↓c_msg_Counted, ↓c_ahead_fits, e1, cell_L hk]
      simp only [Bool.and_eq_true, decide_eq_true_eq] at h3
      refine ⟨fun h8 => ?_, fun h8 => ⟨i + 1, by simp, ⟨by omega, x.seq, by simp, fun _ => ⟨x, by simpa using hx, rfl⟩, by omega, ?_⟩, by omega⟩⟩
      · rw [← hs]; simp [show ¬ k.seq < x.seq by omega]
      · rw [← hs, h4]; simp [show k.seq < x.seq by omega, h3]
    · have h0 : i = 0 := by omega
      rw [hp0 h0] at hs
      simp only [Bool.and_eq_true, decide_eq_true_eq] at h3
      refine ⟨i + 1, by simp, ⟨by omega, x.seq, by simp, fun _ => ⟨x, by simpa using hx, rfl⟩, by omega, ?_⟩, by omega⟩
      rw [← hs, h4]; simp [h3]
  · rw [drop_nil hc] at hs
    simp [← hs, ahdGo]
end Go.Xt
end
section
set_option linter.unusedSimpArgs false
set_option linter.unusedVariables false
set_option maxRecDepth 100000
namespace Go.Xt
theorem ite_not01 {c : Bool} : (if (!c) = true then (1 : Int) else 0) = if c = true then 0 else 1 := by cases c <;> rfl
theorem w_queue_Event (x : Event) : S_queue_Event ρ (I x.kind) (I x.epoch) (I x.seq) (I x.last) (I x.value) (I x.count) (· = [I (if evOk x = true then 0 else 1)]) := by
  unfold S_queue_Event
  generalize hE : evOk x = q
  unfold evOk at hE
  by_cases k1 : x.kind = 1
  · rw [OP_eql, decide_eq_true k1, ITE_true]
    simp (disch := first | omega | assumption | exact ⟨by first | assumption | omega, by first | assumption | omega⟩ | (simp only [List.length_cons, List.length_nil]; omega)) only [↓S0, ITE_R, ITE_eq, ite_c, ite_bb, ite_I, ite_L, ite_L0, ite_0L, ite_self, SUB_r1, SUB_r2, SUB_r3, S1, eq_self, if_true, if_false, true_implies, false_implies, implies_true, ↓c_msg_Value, ↓c_msg_Counted, ↓c_ring_Is, ↓c_epoch_Check, k1]
    simp only [k1, if_true] at hE
    subst hE
    cases ep x.epoch <;> cases cnt x.seq <;> cases val x.value <;> by_cases h1 : x.last = 0 <;> by_cases h2 : x.count = 0 <;> simp [h1, h2]
  by_cases k2 : x.kind = 2
  · rw [OP_eql, decide_eq_false k1, ITE_false, OP_eql, decide_eq_true k2, ITE_true]
    simp (disch := first | omega | assumption | exact ⟨by first | assumption | omega, by first | assumption | omega⟩ | (simp only [List.length_cons, List.length_nil]; omega)) only [↓S0, ITE_R, ITE_eq, ite_c, ite_bb, ite_I, ite_L, ite_L0, ite_0L, ite_self, SUB_r1, SUB_r2, SUB_r3, S1, eq_self, if_true, if_false, true_implies, false_implies, implies_true, ↓c_msg_Value, ↓c_msg_Counted, ↓c_ring_Is, ↓c_epoch_Check, k2]
    simp only [k2, if_true] at hE
    simp at hE
    subst hE
    cases ep x.epoch <;> cases cnt x.seq <;> by_cases h3 : x.seq ≤ x.last <;> by_cases h4 : x.last ≤ 1073741824 <;> by_cases h1 : x.value = 0 <;> by_cases h2 : x.count = 0 <;> simp [h1, h2, h3, h4, rng]
  by_cases k3 : x.kind = 3
  · rw [OP_eql, decide_eq_false k1, ITE_false, OP_eql, decide_eq_false k2, ITE_false, OP_eql, decide_eq_true k3, ITE_true]
    simp (disch := first | omega | assumption | exact ⟨by first | assumption | omega, by first | assumption | omega⟩ | (simp only [List.length_cons, List.length_nil]; omega)) only [↓S0, ITE_R, ITE_eq, ite_c, ite_bb, ite_I, ite_L, ite_L0, ite_0L, ite_self, SUB_r1, SUB_r2, SUB_r3, S1, eq_self, if_true, if_false, true_implies, false_implies, implies_true, ↓c_msg_Value, ↓c_msg_Counted, ↓c_ring_Is, ↓c_epoch_Check, k3]
    simp [k3] at hE
    subst hE
    cases isN x.value <;> by_cases h3 : 1 ≤ x.count <;> by_cases h4 : x.count ≤ 40 <;> by_cases h1 : x.epoch = 0 <;> by_cases h2 : x.seq = 0 <;> by_cases h5 : x.last = 0 <;> simp [h1, h2, h3, h4, h5, rng]
  by_cases k4 : x.kind = 4
  · rw [OP_eql, decide_eq_false k1, ITE_false, OP_eql, decide_eq_false k2, ITE_false, OP_eql, decide_eq_false k3, ITE_false, OP_eql, decide_eq_true k4, ITE_true]
    simp (disch := first | omega | assumption | exact ⟨by first | assumption | omega, by first | assumption | omega⟩ | (simp only [List.length_cons, List.length_nil]; omega)) only [↓S0, ITE_R, ITE_eq, ite_c, ite_bb, ite_I, ite_L, ite_L0, ite_0L, ite_self, SUB_r1, SUB_r2, SUB_r3, S1, eq_self, if_true, if_false, true_implies, false_implies, implies_true, ↓c_msg_Value, ↓c_msg_Counted, ↓c_ring_Is, ↓c_epoch_Check, k4]
    simp [k4] at hE
    subst hE
    by_cases h3 : 1 ≤ x.count <;> by_cases h4 : x.count ≤ 40 <;> by_cases h1 : x.epoch = 0 <;> by_cases h2 : x.seq = 0 <;> by_cases h5 : x.last = 0 <;> by_cases h6 : x.value = 0 <;> simp [h1, h2, h3, h4, h5, h6, rng]
  by_cases k5 : x.kind = 5
  · rw [OP_eql, decide_eq_false k1, ITE_false, OP_eql, decide_eq_false k2, ITE_false, OP_eql, decide_eq_false k3, ITE_false, OP_eql, decide_eq_false k4, ITE_false, OP_eql, decide_eq_true k5, ITE_true]
    simp (disch := first | omega | assumption | exact ⟨by first | assumption | omega, by first | assumption | omega⟩ | (simp only [List.length_cons, List.length_nil]; omega)) only [↓S0, ITE_R, ITE_eq, ite_c, ite_bb, ite_I, ite_L, ite_L0, ite_0L, ite_self, SUB_r1, SUB_r2, SUB_r3, S1, eq_self, if_true, if_false, true_implies, false_implies, implies_true, ↓c_msg_Value, ↓c_msg_Counted, ↓c_ring_Is, ↓c_epoch_Check, k5]
    simp [k5] at hE
    subst hE
    by_cases h3 : x.count = 0 <;> by_cases h1 : x.epoch = 0 <;> by_cases h2 : x.seq = 0 <;> by_cases h5 : x.last = 0 <;> by_cases h6 : x.value = 0 <;> simp [h1, h2, h3, h5, h6]
  · rw [OP_eql, decide_eq_false k1, ITE_false, OP_eql, decide_eq_false k2, ITE_false, OP_eql, decide_eq_false k3, ITE_false, OP_eql, decide_eq_false k4, ITE_false, OP_eql, decide_eq_false k5, ITE_false]
    simp (disch := first | omega | assumption | exact ⟨by first | assumption | omega, by first | assumption | omega⟩ | (simp only [List.length_cons, List.length_nil]; omega)) only [↓S0, ITE_R, ITE_eq, ite_c, ite_bb, ite_I, ite_L, ite_L0, ite_0L, ite_self, SUB_r1, SUB_r2, SUB_r3, S1, eq_self, if_true, if_false, true_implies, false_implies, implies_true, ↓c_msg_Value, ↓c_msg_Counted, ↓c_ring_Is, ↓c_epoch_Check]
    simp [k1, k2, k3, k4, k5] at hE
    subst hE
    simp
end Go.Xt
end
section
set_option linter.unusedSimpArgs false
set_option linter.unusedVariables false
set_option maxRecDepth 100000
namespace Go.Xt
theorem lastGap_get {l : List Event} {x : Event} (h : l[l.length - 1]? = some x) : lastGap l = decide (x.kind = 2) := by
  unfold lastGap
  rw [List.getLast?_eq_getElem?, h]
theorem get_last {α : Type} {l : List α} (h : 0 < l.length) : ∃ x, l[l.length - 1]? = some x := ⟨l[l.length - 1]'(by omega), by simp [show l.length - 1 < l.length by omega]⟩
theorem w_queue_Check (l : List Event) (limit : Int) (hg : Goods [L l, I limit]) : S_queue_Check ρ (L l) (I limit) (· = [I (if queueOk l limit = true then 0 else 1)]) := by
  unfold S_queue_Check
  simp only [Goods, good_I, good_L] at hg
  refine SUB.v1 (bb (!(rng limit 2 32 && decide ((l.length : Int) ≤ limit)))) ?_ ?_
  · repeat' (first | apply And.intro | intro _ | simp (disch := first | omega | assumption | exact ⟨by first | assumption | omega, by first | assumption | omega⟩ | (simp only [List.length_cons, List.length_nil]; omega)) only [↓S0, ↓ITE_bool, S1, eq_self, if_true, if_false, true_implies, false_implies, implies_true, ↓c_queue_Event])
    all_goals (simp_all [rng]; try (first | omega | exact dlt _ _))
  cases hr : (rng limit 2 32 && decide ((l.length : Int) ≤ limit))
  · refine SUB.v1 (bb true) (by simp (disch := first | omega | assumption | exact ⟨by first | assumption | omega, by first | assumption | omega⟩ | (simp only [List.length_cons, List.length_nil]; omega)) only [↓S0, ↓ITE_bool, S1, eq_self, if_true, if_false, true_implies, false_implies, implies_true, ↓c_queue_Event]) ?_
    simp (disch := first | omega | assumption | exact ⟨by first | assumption | omega, by first | assumption | omega⟩ | (simp only [List.length_cons, List.length_nil]; omega)) only [↓S0, ↓ITE_bool, S1, eq_self, if_true, if_false, true_implies, false_implies, implies_true, ↓c_queue_Event]
    simp [queueOk, hr]
  simp only [Bool.and_eq_true, decide_eq_true_eq] at hr
  have hb := rng_bd hr.1
  refine SUB.v1 (bb (!(l.all evOk))) ?_ ?_
  · simp (disch := first | omega | assumption | exact ⟨by first | assumption | omega, by first | assumption | omega⟩ | (simp only [List.length_cons, List.length_nil]; omega)) only [↓S0, ↓ITE_bool, S1, eq_self, if_true, if_false, true_implies, false_implies, implies_true, ↓c_queue_Event]
    refine LOOP.rule (α := Nat) (fun i => [I i]) (fun i => i ≤ l.length ∧ (l.drop i).all (evOk) = l.all (evOk)) (fun i => l.length - i) 0 rfl ⟨by omega, by simp⟩ (fun _ => rfl) ?_
    rintro i ⟨hl_i, hs_i⟩
    simp only [app]
    simp (disch := first | omega | assumption | exact ⟨by first | assumption | omega, by first | assumption | omega⟩ | (simp only [List.length_cons, List.length_nil]; omega)) only [↓S0, ↓ITE_bool, S1, eq_self, if_true, if_false, true_implies, false_implies, implies_true, ↓c_queue_Event]
    refine ⟨fun hc_i => ?_, fun hc_i => ?_⟩
    · obtain ⟨x, hx⟩ := get_ex hc_i
      rw [drop_eq hx, List.all_cons] at hs_i
      simp (disch := first | omega | assumption | exact ⟨by first | assumption | omega, by first | assumption | omega⟩ | (simp only [List.length_cons, List.length_nil]; omega)) only [↓S0, ↓ITE_bool, S1, eq_self, if_true, if_false, true_implies, false_implies, implies_true, ↓c_queue_Event, cell_L hx]
      refine ⟨fun h3 => ?_, fun h3 => ⟨i + 1, rfl, ⟨by omega, by rw [← hs_i]; cases he : evOk x <;> simp_all⟩, by omega⟩⟩
      have : evOk x = false := by cases he : evOk x <;> simp_all
      rw [← hs_i, this]; simp
    · rw [drop_nil hc_i] at hs_i
      rw [← hs_i]; simp
  simp (disch := first | omega | assumption | exact ⟨by first | assumption | omega, by first | assumption | omega⟩ | (simp only [List.length_cons, List.length_nil]; omega)) only [↓S0, ↓ITE_bool, S1, eq_self, if_true, if_false, true_implies, false_implies, implies_true, ↓c_queue_Event]
  unfold queueOk
  refine ⟨fun h => by simp [h], fun h => ⟨fun h2 => ?_, fun h2 => ?_⟩⟩
  · have h0 : 0 < l.length := by omega
    obtain ⟨x, hx⟩ := get_last h0
    have e1 : limit - 1 = ((l.length - 1 : Nat) : Int) := by omega
    simp (disch := first | omega | assumption | exact ⟨by first | assumption | omega, by first | assumption | omega⟩ | (simp only [List.length_cons, List.length_nil]; omega)) only [↓S0, ↓ITE_bool, S1, eq_self, if_true, if_false, true_implies, false_implies, implies_true, ↓c_queue_Event, e1, cell_L hx]
    have e2 : decide ((l.length : Int) < limit) = false := by simp; omega
    rw [lastGap_get hx, hr.1, e2, h]
    by_cases hk : x.kind = 2 <;> simp [hk] <;> omega
  · have e2 : decide ((l.length : Int) < limit) = true := by simp; omega
    have e3 : decide ((l.length : Int) ≤ limit) = true := by simp; omega
    rw [hr.1, e2, e3, h]; simp
theorem w_flow_right (c : Config) (s : Stream) (hg : Goods [I c.nodes, I c.topics, I c.kids, I c.depth, I c.keep, I c.window, I c.queue, I s.epoch, I s.want, I s.known, L s.kept, L s.ahead]) : S_flow_right ρ (I c.nodes) (I c.topics) (I c.kids) (I c.depth) (I c.keep) (I c.window) (I c.queue) (I s.epoch) (I s.want) (I s.known) (L s.kept) (L s.ahead) (· = [bb (streamOk c s)]) := by
  unfold S_flow_right
  simp (disch := first | omega | assumption | exact ⟨by first | assumption | omega, by first | assumption | omega⟩ | (simp only [List.length_cons, List.length_nil]; omega)) only [↓S0, ITE_R, ITE_eq, ite_c, ite_bb, ite_I, ite_L, ite_L0, ite_0L, ite_self, SUB_r1, SUB_r2, SUB_r3, S1, eq_self, if_true, if_false, true_implies, false_implies, implies_true, ↓c_msg_Counted, ↓c_epoch_Check, ↓c_flow_zero, ↓c_keep_Check, ↓c_ahead_Check]
  unfold streamOk
  cases streamZ s <;> cases ep s.epoch <;> cases cnt s.want <;> cases keptOk s.kept s.want c.keep <;> cases aheadOk s.ahead s.want c.window <;> simp [rng]
theorem w_flow_Check (c : Config) (s : Stream) (q : List Event) (hg : Goods [I c.nodes, I c.topics, I c.kids, I c.depth, I c.keep, I c.window, I c.queue, I s.epoch, I s.want, I s.known, L s.kept, L s.ahead, L q]) : S_flow_Check ρ (I c.nodes) (I c.topics) (I c.kids) (I c.depth) (I c.keep) (I c.window) (I c.queue) (I s.epoch) (I s.want) (I s.known) (L s.kept) (L s.ahead) (L q) (· = [I (if cfgOk c = true then (if flowOk c s q = true then 0 else 1) else 13)]) := by
  unfold S_flow_Check
  simp (disch := first | omega | assumption | exact ⟨by first | assumption | omega, by first | assumption | omega⟩ | (simp only [List.length_cons, List.length_nil]; omega)) only [↓S0, ITE_R, ITE_eq, ite_c, ite_bb, ite_I, ite_L, ite_L0, ite_0L, ite_self, SUB_r1, SUB_r2, SUB_r3, S1, eq_self, if_true, if_false, true_implies, false_implies, implies_true, ↓c_script_Config, ↓c_queue_Check, ↓c_flow_right]
  unfold flowOk
  cases cfgOk c <;> cases streamOk c s <;> cases queueOk q c.queue <;> simp
theorem streamZ_eq (s : Stream) : decide (s = ⟨0, 0, 0, [], []⟩) = streamZ s := by
  rw [Bool.eq_iff_iff]; simp [streamZ, Stream.eq_iff, and_assoc]
theorem w_graft_right (c : Config) (t : Int) (self : Int) (x : Topic) (hp : cfgOk c = true) (hg : Goods [I c.nodes, I c.topics, I c.kids, I c.depth, I c.keep, I c.window, I c.queue, I t, I self, bb x.made, bb x.sub, I x.top, I x.root, I x.parent, I x.asked, I x.other, I x.age, L x.path, L x.kids, I x.stream.epoch, I x.stream.want, I x.stream.known, L x.stream.kept, L x.stream.ahead, L x.queue]) : S_graft_right ρ (I c.nodes) (I c.topics) (I c.kids) (I c.depth) (I c.keep) (I c.window) (I c.queue) (I t) (I self) (bb x.made) (bb x.sub) (I x.top) (I x.root) (I x.parent) (I x.asked) (I x.other) (I x.age) (L x.path) (L x.kids) (I x.stream.epoch) (I x.stream.want) (I x.stream.known) (L x.stream.kept) (L x.stream.ahead) (L x.queue) (· = [bb (topicOk c t self x)]) := by
  unfold S_graft_right
  generalize hE : topicOk c t self x = q
  refine SUB.v1 (bb (!(rng x.top 0 1073741824 && rng x.age 0 1000))) ?_ ?_
  · repeat' (first | apply And.intro | intro _ | simp (disch := first | omega | assumption | exact ⟨by first | assumption | omega, by first | assumption | omega⟩ | (simp only [List.length_cons, List.length_nil]; omega)) only [↓S0, ↓ITE_bool, S1, eq_self, if_true, if_false, true_implies, false_implies, implies_true, ↓c_graft_link, ↓c_graft_rooted, ↓c_graft_placed, ↓c_path_Check, ↓c_kids_Check, ↓c_flow_Check])
    all_goals (simp_all [rng]; try (first | omega | exact dlt _ _))
  unfold topicOk at hE
  cases h1 : (rng x.top 0 1073741824 && rng x.age 0 1000)
  · rw [h1] at hE
    simp (disch := first | omega | assumption | exact ⟨by first | assumption | omega, by first | assumption | omega⟩ | (simp only [List.length_cons, List.length_nil]; omega)) only [↓S0, ↓ITE_bool, S1, eq_self, if_true, if_false, true_implies, false_implies, implies_true, ↓c_graft_link, ↓c_graft_rooted, ↓c_graft_placed, ↓c_path_Check, ↓c_kids_Check, ↓c_flow_Check]
    simp [← hE]
  rw [Bool.not_true, ITE_false]
  refine SUB.v1 (bb (link t self x.parent && link t self x.asked && link t self x.other)) ?_ ?_
  · simp (disch := first | omega | assumption | exact ⟨by first | assumption | omega, by first | assumption | omega⟩ | (simp only [List.length_cons, List.length_nil]; omega)) only [↓S0, ITE_R, ITE_eq, ite_c, ite_bb, ite_I, ite_L, ite_L0, ite_0L, ite_self, SUB_r1, SUB_r2, SUB_r3, S1, eq_self, if_true, if_false, true_implies, false_implies, implies_true, ↓c_graft_link, ↓c_graft_rooted, ↓c_graft_placed, ↓c_path_Check, ↓c_kids_Check, ↓c_flow_Check]
    simp [Bool.and_assoc]
  cases h2 : (link t self x.parent && link t self x.asked && link t self x.other)
  · simp (disch := first | omega | assumption | exact ⟨by first | assumption | omega, by first | assumption | omega⟩ | (simp only [List.length_cons, List.length_nil]; omega)) only [↓S0, ↓ITE_bool, S1, eq_self, if_true, if_false, true_implies, false_implies, implies_true, ↓c_graft_link, ↓c_graft_rooted, ↓c_graft_placed, ↓c_path_Check, ↓c_kids_Check, ↓c_flow_Check]
    rw [← hE]
    cases h3 : link t self x.parent <;> cases h4 : link t self x.asked <;> cases h5 : link t self x.other <;> simp_all
  simp only [Bool.and_eq_true] at h2
  have hpar : 0 ≤ x.parent ∧ x.parent ≤ 8 := by
    have := h2.1.1
    simp only [link, Bool.or_eq_true, Bool.and_eq_true, decide_eq_true_eq] at this
    rcases this with h | ⟨h, h'⟩
    · omega
    · have := (near_dom h').2.1; omega
  rw [h1] at hE
  rw [h2.1.1, h2.1.2, h2.2] at hE
  simp (disch := first | omega | assumption | exact ⟨by first | assumption | omega, by first | assumption | omega⟩ | (simp only [List.length_cons, List.length_nil]; omega)) only [↓S0, ITE_R, ITE_eq, ite_c, ite_bb, ite_I, ite_L, ite_L0, ite_0L, ite_self, SUB_r1, SUB_r2, SUB_r3, S1, eq_self, if_true, if_false, true_implies, false_implies, implies_true, ↓c_graft_link, ↓c_graft_rooted, ↓c_graft_placed, ↓c_path_Check, ↓c_kids_Check, ↓c_flow_Check, hp]
  rw [← hE]
  cases rootOk self x <;> cases placedOk x <;> cases kidsOk t self c.kids x.kids <;> cases flowOk c x.stream x.queue <;> by_cases h9 : chk t self x.path c.depth = 0 <;> simp [h9]
theorem w_graft_Check (c : Config) (t : Int) (self : Int) (x : Topic) (hg : Goods [I c.nodes, I c.topics, I c.kids, I c.depth, I c.keep, I c.window, I c.queue, I t, I self, bb x.made, bb x.sub, I x.top, I x.root, I x.parent, I x.asked, I x.other, I x.age, L x.path, L x.kids, I x.stream.epoch, I x.stream.want, I x.stream.known, L x.stream.kept, L x.stream.ahead, L x.queue]) : S_graft_Check ρ (I c.nodes) (I c.topics) (I c.kids) (I c.depth) (I c.keep) (I c.window) (I c.queue) (I t) (I self) (bb x.made) (bb x.sub) (I x.top) (I x.root) (I x.parent) (I x.asked) (I x.other) (I x.age) (L x.path) (L x.kids) (I x.stream.epoch) (I x.stream.want) (I x.stream.known) (L x.stream.kept) (L x.stream.ahead) (L x.queue) (· = [I (if cfgOk c = true then (if (place c t self && topicOk c t self x) = true then 0 else 1) else 13)]) := by
  unfold S_graft_Check
  cases hc : cfgOk c
  · simp (disch := first | omega | assumption | exact ⟨by first | assumption | omega, by first | assumption | omega⟩ | (simp only [List.length_cons, List.length_nil]; omega)) only [↓S0, ↓ITE_bool, S1, eq_self, if_true, if_false, true_implies, false_implies, implies_true, ↓c_script_Config, ↓c_graft_right, hc]
    simp
  · simp (disch := first | omega | assumption | exact ⟨by first | assumption | omega, by first | assumption | omega⟩ | (simp only [List.length_cons, List.length_nil]; omega)) only [↓S0, ↓ITE_bool, S1, eq_self, if_true, if_false, true_implies, false_implies, implies_true, ↓c_script_Config, ↓c_graft_right, hc]
    unfold place
    refine ⟨fun h => ?_, fun h => ⟨fun h1 => ?_, fun h1 => ⟨fun h2 => ?_, fun h2 => ⟨fun h3 => ?_, fun h3 => ?_⟩⟩⟩⟩
    · simp [rng, show ¬ 0 ≤ t by omega]
    · simp [rng, show ¬ t ≤ c.topics - 1 by omega]
    · simp [rng, show ¬ 0 ≤ self by omega]
    · simp [rng, show ¬ self ≤ c.nodes - 1 by omega]
    · have e1 : rng t 0 (c.topics - 1) = true := by simp [rng]; omega
      have e2 : rng self 0 (c.nodes - 1) = true := by simp [rng]; omega
      rw [e1, e2]
      cases topicOk c t self x <;> simp
end Go.Xt
end
section
set_option linter.unusedSimpArgs false
set_option linter.unusedVariables false
set_option maxRecDepth 100000
namespace Go.Xt
theorem cfg_bd {c : Config} (h : cfgOk c = true) : (1 ≤ c.nodes ∧ c.nodes ≤ 8) ∧ (1 ≤ c.topics ∧ c.topics ≤ 4) ∧ (1 ≤ c.kids ∧ c.kids ≤ 4) ∧ (1 ≤ c.depth ∧ c.depth ≤ 8) ∧ (1 ≤ c.keep ∧ c.keep ≤ 16) ∧ (1 ≤ c.window ∧ c.window ≤ 16) ∧ (2 ≤ c.queue ∧ c.queue ≤ 32) := by
  simp only [cfgOk, rng, Bool.and_eq_true, decide_eq_true_eq] at h
  obtain ⟨⟨⟨⟨⟨⟨a, b⟩, d⟩, e⟩, f⟩, g⟩, i⟩ := h
  exact ⟨a, b, d, e, f, g, i⟩
theorem place_bd {c : Config} {t self : Int} (hc : cfgOk c = true) (h : place c t self = true) : isT t = true ∧ isN self = true ∧ (0 ≤ t ∧ t < c.topics) ∧ (0 ≤ self ∧ self < c.nodes) := by
  have hb := cfg_bd hc
  simp only [place, Bool.and_eq_true] at h
  have h1 := rng_bd h.1; have h2 := rng_bd h.2
  exact ⟨isT_iff.2 (by omega), isN_iff.2 (by omega), by omega, by omega⟩
theorem chk_chkR {t self c : Int} {l : List Int} (ht : isT t = true) (hs : isN self = true) (h1 : 1 ≤ c) (h2 : c ≤ 8) : chk t self l c = chkR t self l c := by
  simp [chk, chkR, ht, hs, h1, h2]
theorem chkR_all {t self c : Int} {l : List Int} (h : chkR t self l c = 0) : l.all isN = true := by
  unfold chkR at h
  by_cases e : l.all isN = true
  · exact e
  · rw [if_neg e] at h; omega
theorem link_bd {t self n : Int} (h : link t self n = true) : 0 ≤ n ∧ n ≤ 8 := by
  simp only [link, Bool.or_eq_true, Bool.and_eq_true, decide_eq_true_eq] at h
  rcases h with h | ⟨h, h'⟩
  · omega
  · have := (near_dom h').2.1; omega
theorem wrap_small {n : Int} (h0 : 0 ≤ n) (h1 : n ≤ 8) : IntKind.i64.wrap n = n := wr (by omega) (by omega)
def placed2 (x : Topic) : Bool := (decide (0 < x.path.length) == decide (0 < x.parent)) && match x.path with | [] => true | p :: _ => decide (p = x.parent - 1)
theorem placed2_eq {t self : Int} {x : Topic} (hl : link t self x.parent = true) (hp : x.path.all isN = true) : placedOk x = placed2 x := by
  have hb := link_bd hl
  unfold placedOk placed2
  cases hx : x.path with
  | nil =>
    rw [Bool.eq_iff_iff]; simp; omega
  | cons p r =>
    rw [hx, List.all_cons, Bool.and_eq_true] at hp
    have := isN_iff.1 hp.1
    have hw : IntKind.i64.wrap (p + 1) = p + 1 := wr (by omega) (by omega)
    simp only [hw]
    rw [Bool.eq_iff_iff]; simp; omega
theorem w_cast_mark (m : Mark) : S_cast_mark ρ (I m.inc) (I m.pubs) (I m.met) (· = [bb (markOk m)]) := by
  unfold S_cast_mark
  simp (disch := first | omega | assumption | exact ⟨by first | assumption | omega, by first | assumption | omega⟩ | (simp only [List.length_cons, List.length_nil]; omega)) only [↓S0, ITE_R, ITE_eq, ite_c, ite_bb, ite_I, ite_L, ite_L0, ite_0L, ite_self, SUB_r1, SUB_r2, SUB_r3, S1, eq_self, if_true, if_false, true_implies, false_implies, implies_true, ↓c_cast_in]
  simp [markOk, Bool.and_assoc]
theorem w_cast_taken (c : Config) (x : Mark2) (hp : cfgOk c = true) : S_cast_taken ρ (I c.nodes) (I c.topics) (I c.kids) (I c.depth) (I c.keep) (I c.window) (I c.queue) (I x.node) (I x.inc) (I x.count) (I x.topic) (I x.value) (· = [bb (takenOk c x)]) := by
  unfold S_cast_taken
  have hb := cfg_bd hp
  simp (disch := first | omega | assumption | exact ⟨by first | assumption | omega, by first | assumption | omega⟩ | (simp only [List.length_cons, List.length_nil]; omega)) only [↓S0, ITE_R, ITE_eq, ite_c, ite_bb, ite_I, ite_L, ite_L0, ite_0L, ite_self, SUB_r1, SUB_r2, SUB_r3, S1, eq_self, if_true, if_false, true_implies, false_implies, implies_true, ↓c_cast_in, ↓c_msg_Value, ↓c_msg_Counted]
  simp [takenOk, Bool.and_assoc]
theorem callsGo_cons {c : Config} {asks p : Int} {x : Call} {r : List Call} : callsGo c asks p (x :: r) = (decide (p < x.count) && decide (x.count ≤ asks) && rng x.topic 0 (c.topics - 1) && rng x.age 0 20 && callsGo c asks x.count r) := rfl
theorem w_cast_calls (c : Config) (n : Node) (hp : cfgOk c = true) (hg : Goods [I c.nodes, I c.topics, I c.kids, I c.depth, I c.keep, I c.window, I c.queue, bb n.up, I n.inc, L n.peers, L n.topics, L n.calls, I n.pubs, I n.asks, L n.marks, L n.taken]) : S_cast_calls ρ (I c.nodes) (I c.topics) (I c.kids) (I c.depth) (I c.keep) (I c.window) (I c.queue) (bb n.up) (I n.inc) (L n.peers) (L n.topics) (L n.calls) (I n.pubs) (I n.asks) (L n.marks) (L n.taken) (· = [bb (callsGo c n.asks 0 n.calls && decide (n.calls.length ≤ 40))]) := by
  unfold S_cast_calls
  have hb := cfg_bd hp
  simp only [Goods, good_I, good_L] at hg
  simp (disch := first | omega | assumption | exact ⟨by first | assumption | omega, by first | assumption | omega⟩ | (simp only [List.length_cons, List.length_nil]; omega)) only [↓S0, ↓ITE_bool, S1, eq_self, if_true, if_false, true_implies, false_implies, implies_true, ↓c_cast_in]
  refine LOOP.rule (α := Nat × Int) (fun a => [I a.2, I a.1]) (fun a => a.1 ≤ n.calls.length ∧ callsGo c n.asks a.2 (n.calls.drop a.1) = callsGo c n.asks 0 n.calls) (fun a => n.calls.length - a.1) (0, 0) rfl ⟨by simp, by simp⟩ (fun _ => rfl) ?_
  rintro ⟨i, p⟩ ⟨hl, hs⟩
  simp only [app] at *
  simp (disch := first | omega | assumption | exact ⟨by first | assumption | omega, by first | assumption | omega⟩ | (simp only [List.length_cons, List.length_nil]; omega)) only [↓S0, ↓ITE_bool, S1, eq_self, if_true, if_false, true_implies, false_implies, implies_true, ↓c_cast_in]
  refine ⟨fun h => ?_, fun h => ?_⟩
  · obtain ⟨x, hx⟩ := get_ex h
    rw [drop_eq hx, callsGo_cons] at hs
    simp (disch := first | omega | assumption | exact ⟨by first | assumption | omega, by first | assumption | omega⟩ | (simp only [List.length_cons, List.length_nil]; omega)) only [↓S0, ↓ITE_bool, S1, eq_self, if_true, if_false, true_implies, false_implies, implies_true, ↓c_cast_in, cell_L hx]
    refine ⟨fun h1 => ?_, fun h1 => ⟨fun h2 => ?_, fun h2 => ⟨fun h3 => ?_, fun h3 => ⟨fun h4 => ?_, fun h4 => ⟨(i + 1, x.count), by simp, ⟨by omega, ?_⟩, by simp; omega⟩⟩⟩⟩⟩
    · rw [← hs]; simp [show ¬ p < x.count by omega]
    · rw [← hs]; simp [show ¬ x.count ≤ n.asks by omega]
    · rw [← hs, h3]; simp
    · rw [← hs, h4]; simp
    · rw [← hs, h3, h4]; simp [show p < x.count by omega, show x.count ≤ n.asks by omega]
  · rw [drop_nil h] at hs
    rw [← hs]
    simp [callsGo]; omega
end Go.Xt
end
section
set_option linter.unusedSimpArgs false
set_option linter.unusedVariables false
set_option maxRecDepth 100000
namespace Go.Xt
theorem topicsGo_cons {c : Config} {self t : Int} {x : Topic} {r : List Topic} : topicsGo c self t (x :: r) = (topicOk c t self x && topicsGo c self (t + 1) r) := rfl
theorem place_of {c : Config} {t self : Int} (h0 : 0 ≤ t) (h1 : t < c.topics) (hs : rng self 0 (c.nodes - 1) = true) : place c t self = true := by
  simp only [place, hs, Bool.and_true]; simp [rng]; omega
theorem w_cast_right (c : Config) (self : Int) (n : Node) (hp : cfgOk c = true ∧ rng self 0 (c.nodes - 1) = true) (hg : Goods [I c.nodes, I c.topics, I c.kids, I c.depth, I c.keep, I c.window, I c.queue, I self, bb n.up, I n.inc, L n.peers, L n.topics, L n.calls, I n.pubs, I n.asks, L n.marks, L n.taken]) : S_cast_right ρ (I c.nodes) (I c.topics) (I c.kids) (I c.depth) (I c.keep) (I c.window) (I c.queue) (I self) (bb n.up) (I n.inc) (L n.peers) (L n.topics) (L n.calls) (I n.pubs) (I n.asks) (L n.marks) (L n.taken) (· = [bb (nodeOk c self n)]) := by
  unfold S_cast_right
  generalize hE : nodeOk c self n = q
  obtain ⟨hc, hself⟩ := hp
  have hb := cfg_bd hc
  simp only [Goods, good_I, good_L] at hg
  unfold nodeOk at hE
  refine SUB.v1 (bb (!(cnt n.inc && rng n.pubs 0 1073741824 && rng n.asks 0 40 && (callsGo c n.asks 0 n.calls && decide (n.calls.length ≤ 40))))) ?_ ?_
  · simp (disch := first | omega | assumption | exact ⟨by first | assumption | omega, by first | assumption | omega⟩ | (simp only [List.length_cons, List.length_nil]; omega)) only [↓S0, ITE_R, ITE_eq, ite_c, ite_bb, ite_I, ite_L, ite_L0, ite_0L, ite_self, SUB_r1, SUB_r2, SUB_r3, S1, eq_self, if_true, if_false, true_implies, false_implies, implies_true, ↓c_cast_in, ↓c_msg_Counted, ↓c_cast_calls, ↓c_graft_Check, ↓c_cast_mark, ↓c_view_Check, ↓c_cast_taken]
    simp [Bool.and_assoc]
  cases hA : (cnt n.inc && rng n.pubs 0 1073741824 && rng n.asks 0 40 && (callsGo c n.asks 0 n.calls && decide (n.calls.length ≤ 40)))
  · simp (disch := first | omega | assumption | exact ⟨by first | assumption | omega, by first | assumption | omega⟩ | (simp only [List.length_cons, List.length_nil]; omega)) only [↓S0, ↓ITE_bool, S1, eq_self, if_true, if_false, true_implies, false_implies, implies_true, ↓c_cast_in, ↓c_msg_Counted, ↓c_cast_calls, ↓c_graft_Check, ↓c_cast_mark, ↓c_view_Check, ↓c_cast_taken]
    rw [← hE]
    simp only [← Bool.and_assoc] at hA
    rw [hA]; simp
  simp only [← Bool.and_assoc] at hA
  rw [hA] at hE
  rw [Bool.not_true, ITE_false]
  refine SUB.v1 (bb (!(decide ((n.peers.length : Int) = c.nodes) && decide ((n.topics.length : Int) = c.topics) && decide ((n.marks.length : Int) = c.nodes) && decide (n.taken.length ≤ 64)))) ?_ ?_
  · simp (disch := first | omega | assumption | exact ⟨by first | assumption | omega, by first | assumption | omega⟩ | (simp only [List.length_cons, List.length_nil]; omega)) only [↓S0, ITE_R, ITE_eq, ite_c, ite_bb, ite_I, ite_L, ite_L0, ite_0L, ite_self, SUB_r1, SUB_r2, SUB_r3, S1, eq_self, if_true, if_false, true_implies, false_implies, implies_true, ↓c_cast_in, ↓c_msg_Counted, ↓c_cast_calls, ↓c_graft_Check, ↓c_cast_mark, ↓c_view_Check, ↓c_cast_taken]
    by_cases h1 : (n.peers.length : Int) = c.nodes <;> by_cases h2 : (n.topics.length : Int) = c.topics <;> by_cases h3 : (n.marks.length : Int) = c.nodes <;> by_cases h4 : n.taken.length ≤ 64 <;> simp [h1, h2, h3, h4] <;> omega
  cases hB : (decide ((n.peers.length : Int) = c.nodes) && decide ((n.topics.length : Int) = c.topics) && decide ((n.marks.length : Int) = c.nodes) && decide (n.taken.length ≤ 64))
  · simp (disch := first | omega | assumption | exact ⟨by first | assumption | omega, by first | assumption | omega⟩ | (simp only [List.length_cons, List.length_nil]; omega)) only [↓S0, ↓ITE_bool, S1, eq_self, if_true, if_false, true_implies, false_implies, implies_true, ↓c_cast_in, ↓c_msg_Counted, ↓c_cast_calls, ↓c_graft_Check, ↓c_cast_mark, ↓c_view_Check, ↓c_cast_taken]
    rw [← hE]
    revert hB
    by_cases h1 : (n.peers.length : Int) = c.nodes <;> by_cases h2 : (n.topics.length : Int) = c.topics <;> by_cases h3 : (n.marks.length : Int) = c.nodes <;> by_cases h4 : n.taken.length ≤ 64 <;> simp [h1, h2, h3, h4]
  simp only [Bool.and_eq_true, decide_eq_true_eq] at hB
  obtain ⟨⟨⟨B1, B2⟩, B3⟩, B4⟩ := hB
  have e1 : decide ((n.peers.length : Int) = c.nodes) = true := by simp [B1]
  have e2 : decide ((n.topics.length : Int) = c.topics) = true := by simp [B2]
  have e3 : decide ((n.marks.length : Int) = c.nodes) = true := by simp [B3]
  have e4 : decide (n.taken.length ≤ 64) = true := by simp [B4]
  rw [e1, e2, e3, e4] at hE
  simp only [Bool.true_and] at hE
  simp (disch := first | omega | assumption | exact ⟨by first | assumption | omega, by first | assumption | omega⟩ | (simp only [List.length_cons, List.length_nil]; omega)) only [↓S0, ↓ITE_bool, S1, eq_self, if_true, if_false, true_implies, false_implies, implies_true, ↓c_cast_in, ↓c_msg_Counted, ↓c_cast_calls, ↓c_graft_Check, ↓c_cast_mark, ↓c_view_Check, ↓c_cast_taken]
  refine LOOP.rule (α := Nat) (fun i => [I i]) (fun i => i ≤ n.topics.length ∧ topicsGo c self i (n.topics.drop i) = topicsGo c self 0 n.topics) (fun i => n.topics.length - i) 0 rfl ⟨by omega, by simp⟩ (fun _ => rfl) ?_
  rintro i ⟨hl, hs⟩
  simp only [app]
  simp (disch := first | omega | assumption | exact ⟨by first | assumption | omega, by first | assumption | omega⟩ | (simp only [List.length_cons, List.length_nil]; omega)) only [↓S0, ↓ITE_bool, S1, eq_self, if_true, if_false, true_implies, false_implies, implies_true, ↓c_cast_in, ↓c_msg_Counted, ↓c_cast_calls, ↓c_graft_Check, ↓c_cast_mark, ↓c_view_Check, ↓c_cast_taken]
  refine ⟨fun h => ?_, fun h => ?_⟩
  · obtain ⟨x, hx⟩ := get_ex h
    rw [drop_eq hx, topicsGo_cons] at hs
    have hpl := place_of (c := c) (t := i) (by omega) (by omega) hself
    simp (disch := first | omega | assumption | exact ⟨by first | assumption | omega, by first | assumption | omega⟩ | (simp only [List.length_cons, List.length_nil]; omega)) only [↓S0, ↓ITE_bool, S1, eq_self, if_true, if_false, true_implies, false_implies, implies_true, ↓c_cast_in, ↓c_msg_Counted, ↓c_cast_calls, ↓c_graft_Check, ↓c_cast_mark, ↓c_view_Check, ↓c_cast_taken, cell_L hx, hc, hpl]
    cases ht : topicOk c i self x
    · simp
      rw [← hE, ← hs, ht]; simp
    · simp
      exact ⟨i + 1, by simp, ⟨by omega, by rw [← hs, ht]; simp⟩, by omega⟩
  rw [drop_nil h] at hs
  have hT : topicsGo c self 0 n.topics = true := by rw [← hs]; rfl
  rw [hT] at hE
  simp only [Bool.true_and] at hE
  refine LOOP.rule (α := Nat) (fun i => [I i]) (fun i => i ≤ n.marks.length ∧ (n.marks.drop i).all (markOk) = n.marks.all (markOk)) (fun i => n.marks.length - i) 0 rfl ⟨by omega, by simp⟩ (fun _ => rfl) ?_
  rintro i ⟨hl_i, hs_i⟩
  simp only [app]
  simp (disch := first | omega | assumption | exact ⟨by first | assumption | omega, by first | assumption | omega⟩ | (simp only [List.length_cons, List.length_nil]; omega)) only [↓S0, ↓ITE_bool, S1, eq_self, if_true, if_false, true_implies, false_implies, implies_true, ↓c_cast_in, ↓c_msg_Counted, ↓c_cast_calls, ↓c_graft_Check, ↓c_cast_mark, ↓c_view_Check, ↓c_cast_taken]
  refine ⟨fun hc_i => ?_, fun hc_i => ?_⟩
  · obtain ⟨m, hm⟩ := get_ex hc_i
    rw [drop_eq hm, List.all_cons] at hs_i
    simp (disch := first | omega | assumption | exact ⟨by first | assumption | omega, by first | assumption | omega⟩ | (simp only [List.length_cons, List.length_nil]; omega)) only [↓S0, ↓ITE_bool, S1, eq_self, if_true, if_false, true_implies, false_implies, implies_true, ↓c_cast_in, ↓c_msg_Counted, ↓c_cast_calls, ↓c_graft_Check, ↓c_cast_mark, ↓c_view_Check, ↓c_cast_taken, cell_L hm]
    refine ⟨fun h3 => ?_, fun h3 => ⟨i + 1, rfl, ⟨by omega, by simpa [h3] using hs_i⟩, by omega⟩⟩
    rw [h3, Bool.false_and] at hs_i
    simp only [Int.natCast_nonneg, decide_true, Bool.not_true, ITE_false]
    simp (disch := first | omega | assumption | exact ⟨by first | assumption | omega, by first | assumption | omega⟩ | (simp only [List.length_cons, List.length_nil]; omega)) only [↓S0, ↓ITE_bool, S1, eq_self, if_true, if_false, true_implies, false_implies, implies_true, ↓c_cast_in, ↓c_msg_Counted, ↓c_cast_calls, ↓c_graft_Check, ↓c_cast_mark, ↓c_view_Check, ↓c_cast_taken]
    rw [← hE, ← hs_i]
    simp
  rw [drop_nil hc_i] at hs_i
  have hM : n.marks.all markOk = true := by rw [← hs_i]; rfl
  rw [hM] at hE
  refine ⟨fun h5 => ?_, fun h5 => ?_⟩
  · cases hp5 : peersOk n.peers
    · rw [hp5] at h5; simp at h5
    rw [hp5] at hE
    simp only [Bool.true_and] at hE
    clear hs_i
    simp only [show ¬ (0 : Int) ≤ -1 by decide, not_false_eq_true, true_implies, false_implies, and_true]
    refine LOOP.rule (α := Nat) (fun i => [I i]) (fun i => i ≤ n.taken.length ∧ (n.taken.drop i).all (takenOk c) = n.taken.all (takenOk c)) (fun i => n.taken.length - i) 0 rfl ⟨by omega, by simp⟩ (fun _ => rfl) ?_
    rintro i ⟨hl_i, hs_i⟩
    simp only [app]
    simp (disch := first | omega | assumption | exact ⟨by first | assumption | omega, by first | assumption | omega⟩ | (simp only [List.length_cons, List.length_nil]; omega)) only [↓S0, ↓ITE_bool, S1, eq_self, if_true, if_false, true_implies, false_implies, implies_true, ↓c_cast_in, ↓c_msg_Counted, ↓c_cast_calls, ↓c_graft_Check, ↓c_cast_mark, ↓c_view_Check, ↓c_cast_taken]
    refine ⟨fun hc_i => ?_, fun hc_i => ?_⟩
    · obtain ⟨m, hm⟩ := get_ex hc_i
      rw [drop_eq hm, List.all_cons] at hs_i
      simp (disch := first | omega | assumption | exact ⟨by first | assumption | omega, by first | assumption | omega⟩ | (simp only [List.length_cons, List.length_nil]; omega)) only [↓S0, ↓ITE_bool, S1, eq_self, if_true, if_false, true_implies, false_implies, implies_true, ↓c_cast_in, ↓c_msg_Counted, ↓c_cast_calls, ↓c_graft_Check, ↓c_cast_mark, ↓c_view_Check, ↓c_cast_taken, cell_L hm]
      refine ⟨fun h3 => ?_, fun h3 => ⟨i + 1, rfl, ⟨by omega, by simpa [h3] using hs_i⟩, by omega⟩⟩
      rw [h3, Bool.false_and] at hs_i
      rw [← hE, ← hs_i]
      simp
    · rw [drop_nil hc_i] at hs_i
      rw [← hE, ← hs_i]; simp
  · cases hp5 : peersOk n.peers
    · rw [← hE, hp5]; simp
    · rw [hp5] at h5; simp at h5
theorem w_cast_Check (c : Config) (self : Int) (n : Node) (hg : Goods [I c.nodes, I c.topics, I c.kids, I c.depth, I c.keep, I c.window, I c.queue, I self, bb n.up, I n.inc, L n.peers, L n.topics, L n.calls, I n.pubs, I n.asks, L n.marks, L n.taken]) : S_cast_Check ρ (I c.nodes) (I c.topics) (I c.kids) (I c.depth) (I c.keep) (I c.window) (I c.queue) (I self) (bb n.up) (I n.inc) (L n.peers) (L n.topics) (L n.calls) (I n.pubs) (I n.asks) (L n.marks) (L n.taken) (· = [I (nodeWhy c self n)]) := by
  unfold S_cast_Check nodeWhy
  cases hc : cfgOk c
  · simp (disch := first | omega | assumption | exact ⟨by first | assumption | omega, by first | assumption | omega⟩ | (simp only [List.length_cons, List.length_nil]; omega)) only [↓S0, ↓ITE_bool, S1, eq_self, if_true, if_false, true_implies, false_implies, implies_true, ↓c_cast_in, ↓c_script_Config, ↓c_cast_right, hc]
    simp
  have hb := cfg_bd hc
  simp (disch := first | omega | assumption | exact ⟨by first | assumption | omega, by first | assumption | omega⟩ | (simp only [List.length_cons, List.length_nil]; omega)) only [↓S0, ↓ITE_bool, S1, eq_self, if_true, if_false, true_implies, false_implies, implies_true, ↓c_cast_in, ↓c_script_Config, ↓c_cast_right, hc]
  cases hs : rng self 0 (c.nodes - 1)
  · simp (disch := first | omega | assumption | exact ⟨by first | assumption | omega, by first | assumption | omega⟩ | (simp only [List.length_cons, List.length_nil]; omega)) only [↓S0, ↓ITE_bool, S1, eq_self, if_true, if_false, true_implies, false_implies, implies_true, ↓c_cast_in, ↓c_script_Config, ↓c_cast_right, hs]
    simp
  · simp (disch := first | omega | assumption | exact ⟨by first | assumption | omega, by first | assumption | omega⟩ | (simp only [List.length_cons, List.length_nil]; omega)) only [↓S0, ↓ITE_bool, S1, eq_self, if_true, if_false, true_implies, false_implies, implies_true, ↓c_cast_in, ↓c_script_Config, ↓c_cast_right, hs]
    cases hu : n.up
    · simp (disch := first | omega | assumption | exact ⟨by first | assumption | omega, by first | assumption | omega⟩ | (simp only [List.length_cons, List.length_nil]; omega)) only [↓S0, ↓ITE_bool, S1, eq_self, if_true, if_false, true_implies, false_implies, implies_true, ↓c_cast_in, ↓c_script_Config, ↓c_cast_right]
      simp
    · simp (disch := first | omega | assumption | exact ⟨by first | assumption | omega, by first | assumption | omega⟩ | (simp only [List.length_cons, List.length_nil]; omega)) only [↓S0, ↓ITE_bool, S1, eq_self, if_true, if_false, true_implies, false_implies, implies_true, ↓c_cast_in, ↓c_script_Config, ↓c_cast_right]
      cases nodeOk c self n <;> simp
end Go.Xt
end
section
set_option linter.unusedSimpArgs false
set_option linter.unusedVariables false
set_option maxRecDepth 100000
namespace Go.Xt
theorem len_ne {α : Type} {a b : List α} (h : ¬ (a.length : Int) = b.length) : ¬ a = b := by rintro rfl; exact h rfl
theorem w_bkeep_Peers (a : List Peer) (b : List Peer) (hg : Goods [L a, L b]) : S_bkeep_Peers ρ (L a) (L b) (· = [bb (decide (a = b))]) := by
  unfold S_bkeep_Peers
  simp only [Goods, good_L] at hg
  simp (disch := first | omega | assumption | exact ⟨by first | assumption | omega, by first | assumption | omega⟩ | (simp only [List.length_cons, List.length_nil]; omega)) only [↓S0, ↓ITE_bool, S1, eq_self, if_true, if_false, true_implies, false_implies, implies_true]
  refine ⟨fun h => by simp [len_ne h], fun h => ?_⟩
  have hl : a.length = b.length := by omega
  refine LOOP.rule (α := Nat) (fun i => [I i]) (fun i => i ≤ a.length ∧ ((a = b) = (a.drop i = b.drop i))) (fun i => a.length - i) 0 rfl ⟨by omega, by simp⟩ (fun _ => rfl) ?_
  rintro i ⟨hl_i, hs_i⟩
  simp only [app]
  simp (disch := first | omega | assumption | exact ⟨by first | assumption | omega, by first | assumption | omega⟩ | (simp only [List.length_cons, List.length_nil]; omega)) only [↓S0, ↓ITE_bool, S1, eq_self, if_true, if_false, true_implies, false_implies, implies_true]
  refine ⟨fun hc_i => ?_, fun hc_i => ?_⟩
  · obtain ⟨x, hx⟩ := get_ex hc_i
    obtain ⟨y, hy⟩ := get_ex (xs := b) (i := i) (by omega)
    rw [drop_eq hx, drop_eq hy, List.cons.injEq] at hs_i
    simp (disch := first | omega | assumption | exact ⟨by first | assumption | omega, by first | assumption | omega⟩ | (simp only [List.length_cons, List.length_nil]; omega)) only [↓S0, ↓ITE_bool, S1, eq_self, if_true, if_false, true_implies, false_implies, implies_true, cell_L hx, cell_L hy, Peer.deq]
    refine ⟨fun h3 => ?_, fun h3 => ⟨i + 1, rfl, ⟨by omega, by simpa [h3] using hs_i⟩, by omega⟩⟩
    have hn : ¬ a = b := fun e => h3 (hs_i.mp e).1
    simp [hn]
  · rw [drop_nil hc_i, drop_nil (by omega)] at hs_i
    simp [hs_i]
theorem w_bkeep_Kids (a : List Kid) (b : List Kid) (hg : Goods [L a, L b]) : S_bkeep_Kids ρ (L a) (L b) (· = [bb (decide (a = b))]) := by
  unfold S_bkeep_Kids
  simp only [Goods, good_L] at hg
  simp (disch := first | omega | assumption | exact ⟨by first | assumption | omega, by first | assumption | omega⟩ | (simp only [List.length_cons, List.length_nil]; omega)) only [↓S0, ↓ITE_bool, S1, eq_self, if_true, if_false, true_implies, false_implies, implies_true]
  refine ⟨fun h => by simp [len_ne h], fun h => ?_⟩
  have hl : a.length = b.length := by omega
  refine LOOP.rule (α := Nat) (fun i => [I i]) (fun i => i ≤ a.length ∧ ((a = b) = (a.drop i = b.drop i))) (fun i => a.length - i) 0 rfl ⟨by omega, by simp⟩ (fun _ => rfl) ?_
  rintro i ⟨hl_i, hs_i⟩
  simp only [app]
  simp (disch := first | omega | assumption | exact ⟨by first | assumption | omega, by first | assumption | omega⟩ | (simp only [List.length_cons, List.length_nil]; omega)) only [↓S0, ↓ITE_bool, S1, eq_self, if_true, if_false, true_implies, false_implies, implies_true]
  refine ⟨fun hc_i => ?_, fun hc_i => ?_⟩
  · obtain ⟨x, hx⟩ := get_ex hc_i
    obtain ⟨y, hy⟩ := get_ex (xs := b) (i := i) (by omega)
    rw [drop_eq hx, drop_eq hy, List.cons.injEq] at hs_i
    simp (disch := first | omega | assumption | exact ⟨by first | assumption | omega, by first | assumption | omega⟩ | (simp only [List.length_cons, List.length_nil]; omega)) only [↓S0, ↓ITE_bool, S1, eq_self, if_true, if_false, true_implies, false_implies, implies_true, cell_L hx, cell_L hy, Kid.deq]
    refine ⟨fun h3 => ?_, fun h3 => ⟨i + 1, rfl, ⟨by omega, by simpa [h3] using hs_i⟩, by omega⟩⟩
    have hn : ¬ a = b := fun e => h3 (hs_i.mp e).1
    simp [hn]
  · rw [drop_nil hc_i, drop_nil (by omega)] at hs_i
    simp [hs_i]
theorem w_bkeep_Items (a : List Item) (b : List Item) (hg : Goods [L a, L b]) : S_bkeep_Items ρ (L a) (L b) (· = [bb (decide (a = b))]) := by
  unfold S_bkeep_Items
  simp only [Goods, good_L] at hg
  simp (disch := first | omega | assumption | exact ⟨by first | assumption | omega, by first | assumption | omega⟩ | (simp only [List.length_cons, List.length_nil]; omega)) only [↓S0, ↓ITE_bool, S1, eq_self, if_true, if_false, true_implies, false_implies, implies_true]
  refine ⟨fun h => by simp [len_ne h], fun h => ?_⟩
  have hl : a.length = b.length := by omega
  refine LOOP.rule (α := Nat) (fun i => [I i]) (fun i => i ≤ a.length ∧ ((a = b) = (a.drop i = b.drop i))) (fun i => a.length - i) 0 rfl ⟨by omega, by simp⟩ (fun _ => rfl) ?_
  rintro i ⟨hl_i, hs_i⟩
  simp only [app]
  simp (disch := first | omega | assumption | exact ⟨by first | assumption | omega, by first | assumption | omega⟩ | (simp only [List.length_cons, List.length_nil]; omega)) only [↓S0, ↓ITE_bool, S1, eq_self, if_true, if_false, true_implies, false_implies, implies_true]
  refine ⟨fun hc_i => ?_, fun hc_i => ?_⟩
  · obtain ⟨x, hx⟩ := get_ex hc_i
    obtain ⟨y, hy⟩ := get_ex (xs := b) (i := i) (by omega)
    rw [drop_eq hx, drop_eq hy, List.cons.injEq] at hs_i
    simp (disch := first | omega | assumption | exact ⟨by first | assumption | omega, by first | assumption | omega⟩ | (simp only [List.length_cons, List.length_nil]; omega)) only [↓S0, ↓ITE_bool, S1, eq_self, if_true, if_false, true_implies, false_implies, implies_true, cell_L hx, cell_L hy, Item.deq]
    refine ⟨fun h3 => ?_, fun h3 => ⟨i + 1, rfl, ⟨by omega, by simpa [h3] using hs_i⟩, by omega⟩⟩
    have hn : ¬ a = b := fun e => h3 (hs_i.mp e).1
    simp [hn]
  · rw [drop_nil hc_i, drop_nil (by omega)] at hs_i
    simp [hs_i]
theorem w_bkeep_Events (a : List Event) (b : List Event) (hg : Goods [L a, L b]) : S_bkeep_Events ρ (L a) (L b) (· = [bb (decide (a = b))]) := by
  unfold S_bkeep_Events
  simp only [Goods, good_L] at hg
  simp (disch := first | omega | assumption | exact ⟨by first | assumption | omega, by first | assumption | omega⟩ | (simp only [List.length_cons, List.length_nil]; omega)) only [↓S0, ↓ITE_bool, S1, eq_self, if_true, if_false, true_implies, false_implies, implies_true]
  refine ⟨fun h => by simp [len_ne h], fun h => ?_⟩
  have hl : a.length = b.length := by omega
  refine LOOP.rule (α := Nat) (fun i => [I i]) (fun i => i ≤ a.length ∧ ((a = b) = (a.drop i = b.drop i))) (fun i => a.length - i) 0 rfl ⟨by omega, by simp⟩ (fun _ => rfl) ?_
  rintro i ⟨hl_i, hs_i⟩
  simp only [app]
  simp (disch := first | omega | assumption | exact ⟨by first | assumption | omega, by first | assumption | omega⟩ | (simp only [List.length_cons, List.length_nil]; omega)) only [↓S0, ↓ITE_bool, S1, eq_self, if_true, if_false, true_implies, false_implies, implies_true]
  refine ⟨fun hc_i => ?_, fun hc_i => ?_⟩
  · obtain ⟨x, hx⟩ := get_ex hc_i
    obtain ⟨y, hy⟩ := get_ex (xs := b) (i := i) (by omega)
    rw [drop_eq hx, drop_eq hy, List.cons.injEq] at hs_i
    simp (disch := first | omega | assumption | exact ⟨by first | assumption | omega, by first | assumption | omega⟩ | (simp only [List.length_cons, List.length_nil]; omega)) only [↓S0, ↓ITE_bool, S1, eq_self, if_true, if_false, true_implies, false_implies, implies_true, cell_L hx, cell_L hy, Event.deq]
    refine ⟨fun h3 => ?_, fun h3 => ⟨i + 1, rfl, ⟨by omega, by simpa [h3] using hs_i⟩, by omega⟩⟩
    have hn : ¬ a = b := fun e => h3 (hs_i.mp e).1
    simp [hn]
  · rw [drop_nil hc_i, drop_nil (by omega)] at hs_i
    simp [hs_i]
theorem w_bkeep_Stream (a : Stream) (b : Stream) (hg : Goods [I a.epoch, I a.want, I a.known, L a.kept, L a.ahead, I b.epoch, I b.want, I b.known, L b.kept, L b.ahead]) : S_bkeep_Stream ρ (I a.epoch) (I a.want) (I a.known) (L a.kept) (L a.ahead) (I b.epoch) (I b.want) (I b.known) (L b.kept) (L b.ahead) (· = [bb (decide (a = b))]) := by
  unfold S_bkeep_Stream
  simp (disch := first | omega | assumption | exact ⟨by first | assumption | omega, by first | assumption | omega⟩ | (simp only [List.length_cons, List.length_nil]; omega)) only [↓S0, ITE_R, ITE_eq, ite_c, ite_bb, ite_I, ite_L, ite_L0, ite_0L, ite_self, SUB_r1, SUB_r2, SUB_r3, S1, eq_self, if_true, if_false, true_implies, false_implies, implies_true, ↓c_bkeep_Items]
  simp [Stream.eq_iff, Bool.decide_and]
theorem w_bkeep_Topic (a : Topic) (b : Topic) (hg : Goods [bb a.made, bb a.sub, I a.top, I a.root, I a.parent, I a.asked, I a.other, I a.age, L a.path, L a.kids, I a.stream.epoch, I a.stream.want, I a.stream.known, L a.stream.kept, L a.stream.ahead, L a.queue, bb b.made, bb b.sub, I b.top, I b.root, I b.parent, I b.asked, I b.other, I b.age, L b.path, L b.kids, I b.stream.epoch, I b.stream.want, I b.stream.known, L b.stream.kept, L b.stream.ahead, L b.queue]) : S_bkeep_Topic ρ (bb a.made) (bb a.sub) (I a.top) (I a.root) (I a.parent) (I a.asked) (I a.other) (I a.age) (L a.path) (L a.kids) (I a.stream.epoch) (I a.stream.want) (I a.stream.known) (L a.stream.kept) (L a.stream.ahead) (L a.queue) (bb b.made) (bb b.sub) (I b.top) (I b.root) (I b.parent) (I b.asked) (I b.other) (I b.age) (L b.path) (L b.kids) (I b.stream.epoch) (I b.stream.want) (I b.stream.known) (L b.stream.kept) (L b.stream.ahead) (L b.queue) (· = [bb (decide (a = b))]) := by
  unfold S_bkeep_Topic
  generalize hE : decide (a = b) = q
  repeat' (first | apply And.intro | intro _ | simp (disch := first | omega | assumption | exact ⟨by first | assumption | omega, by first | assumption | omega⟩ | (simp only [List.length_cons, List.length_nil]; omega)) only [↓S0, ↓ITE_bool, S1, eq_self, if_true, if_false, true_implies, false_implies, implies_true, ↓c_bkeep_Ints, ↓c_bkeep_Kids, ↓c_bkeep_Stream, ↓c_bkeep_Events])
  all_goals (rw [← hE]; clear hE; simp_all [Topic.eq_iff])
theorem any_false_mem {α : Type} {p : α → Bool} {l : List α} (h : l.any p = false) {x : α} (hx : x ∈ l) : p x = false := by
  rw [List.any_eq_false] at h; simpa using h x hx
theorem w_bkeep_Node (a : Node) (b : Node) (hg : Goods [bb a.up, I a.inc, L a.peers, L a.topics, L a.calls, I a.pubs, I a.asks, L a.marks, L a.taken, bb b.up, I b.inc, L b.peers, L b.topics, L b.calls, I b.pubs, I b.asks, L b.marks, L b.taken]) : S_bkeep_Node ρ (bb a.up) (I a.inc) (L a.peers) (L a.topics) (L a.calls) (I a.pubs) (I a.asks) (L a.marks) (L a.taken) (bb b.up) (I b.inc) (L b.peers) (L b.topics) (L b.calls) (I b.pubs) (I b.asks) (L b.marks) (L b.taken) (· = [bb (decide (a = b))]) := by
  unfold S_bkeep_Node
  simp only [Goods, good_L] at hg
  generalize hE : decide (a = b) = q
  refine SUB.v1 (bb (!((a.up == b.up) && decide (a.inc = b.inc) && decide (a.peers = b.peers) && decide (a.topics.length = b.topics.length) && decide (a.calls.length = b.calls.length) && decide (a.pubs = b.pubs) && decide (a.asks = b.asks) && decide (a.marks.length = b.marks.length) && decide (a.taken.length = b.taken.length)))) ?_ ?_
  · repeat' (first | apply And.intro | intro _ | simp (disch := first | omega | assumption | exact ⟨by first | assumption | omega, by first | assumption | omega⟩ | (simp only [List.length_cons, List.length_nil]; omega)) only [↓S0, ↓ITE_bool, S1, eq_self, if_true, if_false, true_implies, false_implies, implies_true, ↓c_bkeep_Peers, ↓c_bkeep_Topic])
    all_goals (simp_all; try omega)
    all_goals (rw [Bool.eq_iff_iff]; simp; omega)
  cases hA : ((a.up == b.up) && decide (a.inc = b.inc) && decide (a.peers = b.peers) && decide (a.topics.length = b.topics.length) && decide (a.calls.length = b.calls.length) && decide (a.pubs = b.pubs) && decide (a.asks = b.asks) && decide (a.marks.length = b.marks.length) && decide (a.taken.length = b.taken.length))
  · simp (disch := first | omega | assumption | exact ⟨by first | assumption | omega, by first | assumption | omega⟩ | (simp only [List.length_cons, List.length_nil]; omega)) only [↓S0, ↓ITE_bool, S1, eq_self, if_true, if_false, true_implies, false_implies, implies_true, ↓c_bkeep_Peers, ↓c_bkeep_Topic]
    have : ¬ a = b := by rintro rfl; simp at hA
    rw [← hE]; simp [this]
  simp only [Bool.and_eq_true, decide_eq_true_eq, beq_iff_eq] at hA
  obtain ⟨⟨⟨⟨⟨⟨⟨⟨A1, A2⟩, A3⟩, A4⟩, A5⟩, A6⟩, A7⟩, A8⟩, A9⟩ := hA
  have hN : (a = b) = (a.topics = b.topics ∧ a.calls = b.calls ∧ a.marks = b.marks ∧ a.taken = b.taken) := by
    rw [Node.eq_iff]; simp [A1, A2, A3, A6, A7]
  rw [Bool.not_true, ITE_false]
  refine LOOP.rule (α := Nat) (fun i => [I i]) (fun i => i ≤ a.topics.length ∧ ((a.topics = b.topics) = (a.topics.drop i = b.topics.drop i))) (fun i => a.topics.length - i) 0 rfl ⟨by omega, by simp⟩ (fun _ => rfl) ?_
  rintro i ⟨hl_i, hs_i⟩
  simp only [app]
  simp (disch := first | omega | assumption | exact ⟨by first | assumption | omega, by first | assumption | omega⟩ | (simp only [List.length_cons, List.length_nil]; omega)) only [↓S0, ↓ITE_bool, S1, eq_self, if_true, if_false, true_implies, false_implies, implies_true, ↓c_bkeep_Peers, ↓c_bkeep_Topic]
  refine ⟨fun hc_i => ?_, fun hc_i => ?_⟩
  · obtain ⟨x, hx⟩ := get_ex hc_i
    obtain ⟨y, hy⟩ := get_ex (xs := b.topics) (i := i) (by omega)
    rw [drop_eq hx, drop_eq hy, List.cons.injEq] at hs_i
    simp (disch := first | omega | assumption | exact ⟨by first | assumption | omega, by first | assumption | omega⟩ | (simp only [List.length_cons, List.length_nil]; omega)) only [↓S0, ↓ITE_bool, S1, eq_self, if_true, if_false, true_implies, false_implies, implies_true, ↓c_bkeep_Peers, ↓c_bkeep_Topic, cell_L hx, cell_L hy]
    refine ⟨fun h3 => ?_, fun h3 => ⟨i + 1, rfl, ⟨by omega, by simpa [h3] using hs_i⟩, by omega⟩⟩
    have hn : ¬ a.topics = b.topics := fun e => h3 (hs_i.mp e).1
    have : ¬ a = b := by rw [hN]; exact fun h => hn h.1
    rw [← hE]; simp [this]
  rw [drop_nil hc_i, drop_nil (by omega)] at hs_i
  have E1 : a.topics = b.topics := by rw [hs_i]
  clear hs_i hl_i hc_i i
  refine LOOP.rule (α := Nat) (fun i => [I i]) (fun i => i ≤ a.calls.length ∧ ((a.calls = b.calls) = (a.calls.drop i = b.calls.drop i))) (fun i => a.calls.length - i) 0 rfl ⟨by omega, by simp⟩ (fun _ => rfl) ?_
  rintro i ⟨hl_i, hs_i⟩
  simp only [app]
  simp (disch := first | omega | assumption | exact ⟨by first | assumption | omega, by first | assumption | omega⟩ | (simp only [List.length_cons, List.length_nil]; omega)) only [↓S0, ↓ITE_bool, S1, eq_self, if_true, if_false, true_implies, false_implies, implies_true, ↓c_bkeep_Peers, ↓c_bkeep_Topic]
  refine ⟨fun hc_i => ?_, fun hc_i => ?_⟩
  · obtain ⟨x, hx⟩ := get_ex hc_i
    obtain ⟨y, hy⟩ := get_ex (xs := b.calls) (i := i) (by omega)
    rw [drop_eq hx, drop_eq hy, List.cons.injEq] at hs_i
    simp (disch := first | omega | assumption | exact ⟨by first | assumption | omega, by first | assumption | omega⟩ | (simp only [List.length_cons, List.length_nil]; omega)) only [↓S0, ↓ITE_bool, S1, eq_self, if_true, if_false, true_implies, false_implies, implies_true, ↓c_bkeep_Peers, ↓c_bkeep_Topic, cell_L hx, cell_L hy, Call.deq]
    refine ⟨fun h3 => ?_, fun h3 => ⟨i + 1, rfl, ⟨by omega, by simpa [h3] using hs_i⟩, by omega⟩⟩
    have hn : ¬ a.calls = b.calls := fun e => h3 (hs_i.mp e).1
    have : ¬ a = b := by rw [hN]; exact fun h => hn h.2.1
    rw [← hE]; simp [this]
  rw [drop_nil hc_i, drop_nil (by omega)] at hs_i
  have E2 : a.calls = b.calls := by rw [hs_i]
  clear hs_i hl_i hc_i i
  refine LOOP.rule (α := Nat) (fun i => [I i]) (fun i => i ≤ a.marks.length ∧ ((a.marks = b.marks) = (a.marks.drop i = b.marks.drop i))) (fun i => a.marks.length - i) 0 rfl ⟨by omega, by simp⟩ (fun _ => rfl) ?_
  rintro i ⟨hl_i, hs_i⟩
  simp only [app]
  simp (disch := first | omega | assumption | exact ⟨by first | assumption | omega, by first | assumption | omega⟩ | (simp only [List.length_cons, List.length_nil]; omega)) only [↓S0, ↓ITE_bool, S1, eq_self, if_true, if_false, true_implies, false_implies, implies_true, ↓c_bkeep_Peers, ↓c_bkeep_Topic]
  refine ⟨fun hc_i => ?_, fun hc_i => ?_⟩
  · obtain ⟨x, hx⟩ := get_ex hc_i
    obtain ⟨y, hy⟩ := get_ex (xs := b.marks) (i := i) (by omega)
    rw [drop_eq hx, drop_eq hy, List.cons.injEq] at hs_i
    simp (disch := first | omega | assumption | exact ⟨by first | assumption | omega, by first | assumption | omega⟩ | (simp only [List.length_cons, List.length_nil]; omega)) only [↓S0, ↓ITE_bool, S1, eq_self, if_true, if_false, true_implies, false_implies, implies_true, ↓c_bkeep_Peers, ↓c_bkeep_Topic, cell_L hx, cell_L hy, Mark.deq]
    refine ⟨fun h3 => ?_, fun h3 => ⟨i + 1, rfl, ⟨by omega, by simpa [h3] using hs_i⟩, by omega⟩⟩
    have hn : ¬ a.marks = b.marks := fun e => h3 (hs_i.mp e).1
    have : ¬ a = b := by rw [hN]; exact fun h => hn h.2.2.1
    rw [← hE]; simp [this]
  rw [drop_nil hc_i, drop_nil (by omega)] at hs_i
  have E3 : a.marks = b.marks := by rw [hs_i]
  clear hs_i hl_i hc_i i
  refine LOOP.rule (α := Nat) (fun i => [I i]) (fun i => i ≤ a.taken.length ∧ ((a.taken = b.taken) = (a.taken.drop i = b.taken.drop i))) (fun i => a.taken.length - i) 0 rfl ⟨by omega, by simp⟩ (fun _ => rfl) ?_
  rintro i ⟨hl_i, hs_i⟩
  simp only [app]
  simp (disch := first | omega | assumption | exact ⟨by first | assumption | omega, by first | assumption | omega⟩ | (simp only [List.length_cons, List.length_nil]; omega)) only [↓S0, ↓ITE_bool, S1, eq_self, if_true, if_false, true_implies, false_implies, implies_true, ↓c_bkeep_Peers, ↓c_bkeep_Topic]
  refine ⟨fun hc_i => ?_, fun hc_i => ?_⟩
  · obtain ⟨x, hx⟩ := get_ex hc_i
    obtain ⟨y, hy⟩ := get_ex (xs := b.taken) (i := i) (by omega)
    rw [drop_eq hx, drop_eq hy, List.cons.injEq] at hs_i
    simp (disch := first | omega | assumption | exact ⟨by first | assumption | omega, by first | assumption | omega⟩ | (simp only [List.length_cons, List.length_nil]; omega)) only [↓S0, ↓ITE_bool, S1, eq_self, if_true, if_false, true_implies, false_implies, implies_true, ↓c_bkeep_Peers, ↓c_bkeep_Topic, cell_L hx, cell_L hy, Mark2.deq]
    refine ⟨fun h3 => ?_, fun h3 => ⟨i + 1, rfl, ⟨by omega, by simpa [h3] using hs_i⟩, by omega⟩⟩
    have hn : ¬ a.taken = b.taken := fun e => h3 (hs_i.mp e).1
    have : ¬ a = b := by rw [hN]; exact fun h => hn h.2.2.2
    rw [← hE]; simp [this]
  · rw [drop_nil hc_i, drop_nil (by omega)] at hs_i
    have E4 : a.taken = b.taken := by rw [hs_i]
    have : a = b := by rw [hN]; exact ⟨E1, E2, E3, E4⟩
    rw [← hE]; simp [this]
end Go.Xt
end
section
set_option linter.unusedSimpArgs false
set_option linter.unusedVariables false
set_option maxRecDepth 100000
namespace Go.Xt
instance : FlatRow Kid := ⟨fun a q hq => by simp [Row.row] at hq; rcases hq with rfl | rfl | rfl <;> rfl⟩
instance : FlatRow Item := ⟨fun a q hq => by simp [Row.row] at hq; rcases hq with rfl | rfl <;> rfl⟩
instance : FlatRow Event := ⟨fun a q hq => by simp [Row.row] at hq; rcases hq with rfl | rfl | rfl | rfl | rfl | rfl <;> rfl⟩
instance : FlatRow Peer := ⟨fun a q hq => by simp [Row.row] at hq; rcases hq with rfl | rfl <;> rfl⟩
instance : FlatRow By := ⟨fun a q hq => by simp [Row.row] at hq; subst hq; rfl⟩
theorem take_one {α : Type} {xs : List α} {i : Nat} {x : α} (h : xs[i]? = some x) : xs.take (i + 1) = xs.take i ++ [x] := by rw [List.take_add_one, h]; rfl
theorem w_law18_Heavy (s : Stream) (q : List Event) (hg : Goods [I s.epoch, I s.want, I s.known, L s.kept, L s.ahead, L q]) : S_law18_Heavy ρ (I s.epoch) (I s.want) (I s.known) (L s.kept) (L s.ahead) (L q) (· = [bb (heavy18 s q)]) := by
  unfold S_law18_Heavy heavy18
  simp (disch := first | omega | assumption | exact ⟨by first | assumption | omega, by first | assumption | omega⟩ | (simp only [List.length_cons, List.length_nil]; omega)) only [↓S0, ITE_R, ITE_eq, ite_c, ite_bb, ite_I, ite_L, ite_L0, ite_0L, ite_self, SUB_r1, SUB_r2, SUB_r3, S1, eq_self, if_true, if_false, true_implies, false_implies, implies_true]
  simp only [List.cons.injEq, PV.bool.injEq, and_true]
  rw [Bool.eq_iff_iff]; simp; omega
theorem w_law19_Heavy (x : Topic) (hg : Goods [bb x.made, bb x.sub, I x.top, I x.root, I x.parent, I x.asked, I x.other, I x.age, L x.path, L x.kids, I x.stream.epoch, I x.stream.want, I x.stream.known, L x.stream.kept, L x.stream.ahead, L x.queue]) : S_law19_Heavy ρ (bb x.made) (bb x.sub) (I x.top) (I x.root) (I x.parent) (I x.asked) (I x.other) (I x.age) (L x.path) (L x.kids) (I x.stream.epoch) (I x.stream.want) (I x.stream.known) (L x.stream.kept) (L x.stream.ahead) (L x.queue) (· = [bb (heavy19 x)]) := by
  unfold S_law19_Heavy heavy19
  repeat' (first | apply And.intro | intro _ | simp (disch := first | omega | assumption | exact ⟨by first | assumption | omega, by first | assumption | omega⟩ | (simp only [List.length_cons, List.length_nil]; omega)) only [↓S0, ↓ITE_bool, S1, eq_self, if_true, if_false, true_implies, false_implies, implies_true, ↓c_law18_Heavy])
  all_goals (simp_all; try omega)
theorem w_law21_Heavy (n : Node) (hg : Goods [bb n.up, I n.inc, L n.peers, L n.topics, L n.calls, I n.pubs, I n.asks, L n.marks, L n.taken]) : S_law21_Heavy ρ (bb n.up) (I n.inc) (L n.peers) (L n.topics) (L n.calls) (I n.pubs) (I n.asks) (L n.marks) (L n.taken) (· = [bb (heavy21 n)]) := by
  unfold S_law21_Heavy
  simp only [Goods, good_L] at hg
  generalize hE : heavy21 n = q
  unfold heavy21 at hE
  refine SUB.v1 (bb (decide (n.peers.length > 12) || decide (n.topics.length > 8) || decide (n.calls.length > 60) || decide (n.marks.length > 12) || decide (n.taken.length > 80))) ?_ ?_
  · repeat' (first | apply And.intro | intro _ | simp (disch := first | omega | assumption | exact ⟨by first | assumption | omega, by first | assumption | omega⟩ | (simp only [List.length_cons, List.length_nil]; omega)) only [↓S0, ↓ITE_bool, S1, eq_self, if_true, if_false, true_implies, false_implies, implies_true, ↓c_law19_Heavy])
    all_goals (simp_all; try omega)
    all_goals (rw [Bool.eq_iff_iff]; simp; omega)
  cases hA : (decide (n.peers.length > 12) || decide (n.topics.length > 8) || decide (n.calls.length > 60) || decide (n.marks.length > 12) || decide (n.taken.length > 80))
  · rw [hA] at hE
    simp only [Bool.false_or] at hE
    simp (disch := first | omega | assumption | exact ⟨by first | assumption | omega, by first | assumption | omega⟩ | (simp only [List.length_cons, List.length_nil]; omega)) only [↓S0, ↓ITE_bool, S1, eq_self, if_true, if_false, true_implies, false_implies, implies_true, ↓c_law19_Heavy]
    refine LOOP.rule (α := Nat) (fun i => [I i]) (fun i => i ≤ n.topics.length ∧ (n.topics.drop i).any (heavy19) = n.topics.any (heavy19)) (fun i => n.topics.length - i) 0 rfl ⟨by omega, by simp⟩ (fun _ => rfl) ?_
    rintro i ⟨hl_i, hs_i⟩
    simp only [app]
    simp (disch := first | omega | assumption | exact ⟨by first | assumption | omega, by first | assumption | omega⟩ | (simp only [List.length_cons, List.length_nil]; omega)) only [↓S0, ↓ITE_bool, S1, eq_self, if_true, if_false, true_implies, false_implies, implies_true, ↓c_law19_Heavy]
    refine ⟨fun hc_i => ?_, fun hc_i => ?_⟩
    · obtain ⟨x, hx⟩ := get_ex hc_i
      rw [drop_eq hx, List.any_cons] at hs_i
      simp (disch := first | omega | assumption | exact ⟨by first | assumption | omega, by first | assumption | omega⟩ | (simp only [List.length_cons, List.length_nil]; omega)) only [↓S0, ↓ITE_bool, S1, eq_self, if_true, if_false, true_implies, false_implies, implies_true, ↓c_law19_Heavy, cell_L hx]
      refine ⟨fun h3 => ?_, fun h3 => ⟨i + 1, rfl, ⟨by omega, by simpa [h3] using hs_i⟩, by omega⟩⟩
      rw [← hE, ← hs_i, h3]; simp
    · rw [drop_nil hc_i] at hs_i
      rw [← hE, ← hs_i]; simp
  · rw [hA] at hE
    simp (disch := first | omega | assumption | exact ⟨by first | assumption | omega, by first | assumption | omega⟩ | (simp only [List.length_cons, List.length_nil]; omega)) only [↓S0, ↓ITE_bool, S1, eq_self, if_true, if_false, true_implies, false_implies, implies_true, ↓c_law19_Heavy]
    rw [← hE]; simp
theorem heavy19_bd {x : Topic} (h : heavy19 x = false) : x.path.length ≤ 20 ∧ x.kids.length ≤ 20 ∧ x.stream.kept.length ≤ 30 ∧ x.stream.ahead.length ≤ 30 ∧ x.queue.length ≤ 50 := by
  simp [heavy19, heavy18] at h; omega
theorem heavy21_bd {n : Node} (h : heavy21 n = false) : n.peers.length ≤ 12 ∧ n.topics.length ≤ 8 ∧ n.calls.length ≤ 60 ∧ n.marks.length ≤ 12 ∧ n.taken.length ≤ 80 ∧ n.topics.any heavy19 = false := by
  simp only [heavy21, Bool.or_eq_false_iff, decide_eq_false_iff_not] at h
  obtain ⟨⟨⟨⟨⟨a, b⟩, d⟩, e⟩, f⟩, g⟩ := h
  exact ⟨by omega, by omega, by omega, by omega, by omega, g⟩
end Go.Xt
end
section
set_option linter.unusedSimpArgs false
set_option linter.unusedVariables false
set_option maxRecDepth 100000
namespace Go.Xt
theorem w_slices_Contains_int_int (l : List Int) (n : Int) (hg : Goods [L l, I n]) : S_slices_Contains_int_int ρ (L l) (I n) (· = [bb (l.contains n)]) := by
  unfold S_slices_Contains_int_int
  simp only [Goods, good_L, good_I] at hg
  simp (disch := first | omega | assumption | exact ⟨by first | assumption | omega, by first | assumption | omega⟩ | (simp only [List.length_cons, List.length_nil]; omega)) only [↓S0, ↓ITE_bool, S1, eq_self, if_true, if_false, true_implies, false_implies, implies_true]
  refine LOOP.rule (α := Nat) (fun i => [I i]) (fun i => i ≤ l.length ∧ (l.drop i).contains n = l.contains n) (fun i => l.length - i) 0 rfl ⟨by omega, by simp⟩ (fun _ => rfl) ?_
  rintro i ⟨hl, hs⟩
  simp only [app]
  simp (disch := first | omega | assumption | exact ⟨by first | assumption | omega, by first | assumption | omega⟩ | (simp only [List.length_cons, List.length_nil]; omega)) only [↓S0, ↓ITE_bool, S1, eq_self, if_true, if_false, true_implies, false_implies, implies_true]
  refine ⟨fun hc => ?_, fun hc => ?_⟩
  · obtain ⟨x, hx⟩ := get_ex hc
    rw [drop_eq hx, List.contains_cons] at hs
    simp (disch := first | omega | assumption | exact ⟨by first | assumption | omega, by first | assumption | omega⟩ | (simp only [List.length_cons, List.length_nil]; omega)) only [↓S0, ↓ITE_bool, S1, eq_self, if_true, if_false, true_implies, false_implies, implies_true, cell_L hx]
    refine ⟨fun h3 => ?_, fun h3 => ⟨i + 1, rfl, ⟨by omega, ?_⟩, by omega⟩⟩
    · rw [← hs]; simp [h3]
    · rw [← hs]; simp [h3]
  · rw [drop_nil hc] at hs
    rw [← hs]; simp
theorem ahd_len {m : Int} : ∀ (l : List Item) (p : Int), ahdGo m p l = true → (l.length : Int) ≤ max 0 (m - 1 - p)
  | [], p, _ => by simp; omega
  | x :: r, p, h => by
    simp only [ahdGo, Bool.and_eq_true, decide_eq_true_eq] at h
    have := ahd_len r x.seq h.2
    simp only [List.length_cons]
    omega
theorem topic_full {c : Config} {t self : Int} {x : Topic} (hc : cfgOk c = true) (h : topicOk c t self x = true) : fullT c x = false := by
  have hb := cfg_bd hc
  simp only [topicOk, Bool.and_eq_true, flowOk, kidsOk, queueOk, streamOk, Bool.or_eq_true, streamZ, keptOk, aheadOk, decide_eq_true_eq] at h
  obtain ⟨⟨_, hk⟩, hs, hq⟩ := h
  have h1 : ¬ (x.kids.length : Int) > c.kids := by have := hk.1.2; omega
  have h2 : ¬ (x.queue.length : Int) > c.queue := by have := hq.1.1.2; omega
  have h3 : ¬ (x.stream.kept.length : Int) > c.keep := by
    rcases hs with hs | hs
    · rw [hs.1.2]; simp; omega
    · have := hs.1.2.1.1.2; omega
  have h4 : ¬ (x.stream.ahead.length : Int) > c.window := by
    rcases hs with hs | hs
    · rw [hs.2]; simp; omega
    · have := ahd_len _ _ hs.2.2; omega
  simp [fullT, h1, h2, h3, h4]
theorem topics_full {c : Config} {self : Int} (hc : cfgOk c = true) : ∀ (l : List Topic) (t : Int), topicsGo c self t l = true → l.any (fullT c) = false
  | [], _, _ => rfl
  | x :: r, t, h => by
    rw [topicsGo, Bool.and_eq_true] at h
    rw [List.any_cons, topic_full hc h.1, topics_full hc r _ h.2]; rfl
theorem node_full {c : Config} {i : Int} {n : Node} (hc : cfgOk c = true) (h : (if n.up = true then nodeOk c i n else downOk c n) = true) : n.topics.any (fullT c) = false := by
  have hb := cfg_bd hc
  cases hu : n.up
  · rw [hu, if_neg (by simp)] at h
    simp only [downOk, Bool.and_eq_true, decide_eq_true_eq] at h
    have ht := h.1.2
    rw [List.all_eq_true] at ht
    rw [Bool.eq_false_iff]
    intro ha
    rw [List.any_eq_true] at ha
    obtain ⟨x, hx, hf⟩ := ha
    have := ht x hx
    simp only [topZ, Bool.and_eq_true, decide_eq_true_eq] at this
    rw [this.1] at hf
    have e1 : ¬ (0 : Int) > c.kids := by omega
    have e2 : ¬ (0 : Int) > c.keep := by omega
    have e3 : ¬ (0 : Int) > c.window := by omega
    have e4 : ¬ (0 : Int) > c.queue := by omega
    simp [fullT, topic0] at hf
    omega
  · rw [hu, if_pos rfl] at h
    simp only [nodeOk, Bool.and_eq_true, decide_eq_true_eq] at h
    exact topics_full hc _ _ h.1.1.1.2
theorem nodes_full {c : Config} (hc : cfgOk c = true) : ∀ (l : List Node) (i : Int), nodesGo c i l = true → ∀ n ∈ l, n.topics.any (fullT c) = false
  | [], _, _, n, hn => by cases hn
  | x :: r, i, h, n, hn => by
    rw [nodesGo, Bool.and_eq_true] at h
    rcases List.mem_cons.1 hn with rfl | hn
    · exact node_full hc h.1
    · exact nodes_full hc r _ h.2 n hn
theorem topics_root {c : Config} {self : Int} : ∀ (l : List Topic) (t : Int), topicsGo c self t l = true → ∀ x ∈ l, rootOk self x = true
  | [], _, _, n, hn => by cases hn
  | x :: r, t, h, n, hn => by
    rw [topicsGo, Bool.and_eq_true] at h
    rcases List.mem_cons.1 hn with rfl | hn
    · have := h.1
      simp only [topicOk, Bool.and_eq_true] at this
      simp_all
    · exact topics_root r _ h.2 n hn
theorem nodes_root {c : Config} : ∀ (l : List Node) (i : Int), nodesGo c i l = true → ∀ (j : Nat) n, l[j]? = some n → n.up = true → ∀ x ∈ n.topics, rootOk (i + j) x = true
  | [], _, _, j, n, hn, _ => by simp at hn
  | y :: r, i, h, j, n, hn, hu => by
    rw [nodesGo, Bool.and_eq_true] at h
    cases j with
    | zero =>
      simp at hn; subst hn
      have h1 := h.1
      rw [hu, if_pos rfl] at h1
      simp only [nodeOk, Bool.and_eq_true, decide_eq_true_eq] at h1
      have := topics_root _ _ h1.1.1.1.2
      simpa using this
    | succ j =>
      have := nodes_root r _ h.2 j n (by simpa using hn) hu
      have e : i + 1 + (j : Int) = i + ((j + 1 : Nat) : Int) := by omega
      rw [e] at this
      exact this
end Go.Xt
end
section
set_option linter.unusedSimpArgs false
set_option linter.unusedVariables false
set_option maxRecDepth 100000
namespace Go.Xt
theorem w_law19_Full  : S_law19_Full ρ  (· = [I 8, I 4, I 2, I 8, I 8, I 8, I 16]) := by
  unfold S_law19_Full
  rfl
theorem full_ok : cfgOk fullC = true := by decide
theorem full_new : worldWhy fullC (newW fullC) = 0 := by decide
theorem full_asked : askedW fullC (newW fullC) 0 = 0 := by decide
theorem full_asked4 : askedW fullC (newW fullC) 4 = 1 := by decide
theorem full_par : (parentsW (newW fullC) 0).length = 8 := by decide
theorem full_roots : rootsW (newW fullC) 0 = [] := by decide
theorem full_whole : whole (pathsW (newW fullC) 0) = true := by decide
theorem full_holds : holdsW fullC (newW fullC) = 0 := by decide
end Go.Xt
end
section
set_option linter.unusedSimpArgs false
set_option linter.unusedVariables false
set_option maxRecDepth 100000
namespace Go.Xt
def rk (t b : Int) : Nat := ((List.range 8).filter fun (a : Nat) => near t a b).length
theorem rk_fin : ∀ (t : Fin 4) (a b : Fin 8), near (t.val : Int) (a.val : Int) (b.val : Int) = true → rk (t.val : Int) (a.val : Int) < rk (t.val : Int) (b.val : Int) ∧ rk (t.val : Int) (b.val : Int) < 8 := by decide +kernel
theorem near_rk {t a b : Int} (h : near t a b = true) : rk t a < rk t b ∧ rk t b < 8 := by
  obtain ⟨h1, h2, h3, _⟩ := near_dom h
  obtain ⟨t, rfl⟩ := Int.eq_ofNat_of_zero_le h1.1
  obtain ⟨a, rfl⟩ := Int.eq_ofNat_of_zero_le h2.1
  obtain ⟨b, rfl⟩ := Int.eq_ofNat_of_zero_le h3.1
  exact rk_fin ⟨t, by omega⟩ ⟨a, by omega⟩ ⟨b, by omega⟩ h
theorem near_ne {t a b : Int} (h : near t a b = true) : a ≠ b := by
  rintro rfl; have := (near_dom h).2.2.2; omega

theorem take_snoc {α : Type} {l : List α} {i : Nat} {x : α} (h : l[i]? = some x) : l.take i ++ [x] = l.take (i + 1) := by
  rw [List.take_add_one, h]; rfl

theorem isK_iff {v : Int} : isK v = true ↔ 0 ≤ v ∧ v < 4611686018427387904 := by simp [isK]
theorem isK_nn (n : Int) : isK (nn n) = true := isK_iff.2 (nn_bd n)
theorem far_bd {k n : Int} (h1 : 0 ≤ k) (h2 : k < 4611686018427387904) (h3 : 0 ≤ n) (h4 : n < 4611686018427387904) : 0 ≤ far k n ∧ far k n < 4611686018427387904 := by
  unfold far; split <;> omega
theorem w_key_is (k : Int) : S_key_is ρ (I k) (· = [bb (isK k)]) := by
  unfold S_key_is
  simp (disch := first | omega | assumption | exact ⟨by first | assumption | omega, by first | assumption | omega⟩ | (simp only [List.length_cons, List.length_nil]; omega)) only [↓S0, ↓ITE_bool, S1, eq_self, if_true, if_false, true_implies, false_implies, implies_true]
  refine ⟨fun h => ?_, fun h => ?_⟩ <;> simp [isK, h]
theorem pow_bd : ∀ n : Fin 62, (1 : Int) ≤ 2 ^ n.val ∧ (2 : Int) ^ n.val < 4611686018427387904 := by decide +kernel
theorem OP_shl {b : Int} {k : PV → Prop} (h0 : 0 ≤ b) (h1 : b ≤ 61) : OP (.bin .shl) [I 1, I b] k = k (I (2 ^ b.toNat)) := OP_of (by
  have h : (1 : Int) ≤ 2 ^ b.toNat ∧ (2 : Int) ^ b.toNat < 4611686018427387904 := pow_bd ⟨b.toNat, by omega⟩
  have h2 : min b.toNat IntKind.i64.bits = b.toNat := Nat.min_eq_left (by simp only [IntKind.bits]; omega)
  have h3 : ¬ b < 0 := by omega
  simp only [ev, evBin, h2, h3, if_false, Int.one_mul, Option.some.injEq, PV.int.injEq, true_and]
  exact wr (by omega) (by omega))
theorem w_key_Back (k : Int) (bits : Int) : S_key_Back ρ (I k) (I bits) (· = [I (if (isK k && decide (0 ≤ bits) && decide (bits ≤ 61)) = true then far (2 ^ bits.toNat) k else 0), I (if (isK k && decide (0 ≤ bits) && decide (bits ≤ 61)) = true then 0 else 1)]) := by
  unfold S_key_Back
  simp (disch := first | omega | assumption | exact ⟨by first | assumption | omega, by first | assumption | omega⟩ | (simp only [List.length_cons, List.length_nil]; omega)) only [↓S0, ↓ITE_bool, S1, eq_self, if_true, if_false, true_implies, false_implies, implies_true, ↓c_key_Far, ↓c_key_is]
  refine ⟨fun h => by simp [h], fun h => ⟨fun h2 => ?_, fun h2 => ⟨fun h3 => ?_, fun h3 => ?_⟩⟩⟩
  · have : ¬ 0 ≤ bits := by omega
    simp [h, this]
  · have : ¬ bits ≤ 61 := by omega
    simp [h, this]
  · have a := isK_iff.1 h
    have b : (1 : Int) ≤ 2 ^ bits.toNat ∧ (2 : Int) ^ bits.toNat < 4611686018427387904 := pow_bd ⟨bits.toNat, by omega⟩
    rw [OP_shl (by omega) (by omega)]
    simp (disch := first | omega | assumption | exact ⟨by first | assumption | omega, by first | assumption | omega⟩ | (simp only [List.length_cons, List.length_nil]; omega)) only [↓S0, ↓ITE_bool, S1, eq_self, if_true, if_false, true_implies, false_implies, implies_true, ↓c_key_Far, ↓c_key_is]
    have c : bits ≤ 61 := by omega
    have d : 0 ≤ bits := by omega
    simp [h, c, d]
theorem take_lastD {xs : List Int} {i : Nat} {x d : Int} (h : xs[i]? = some x) : (xs.take (i + 1)).getLastD d = x := by
  rw [← take_snoc h, List.getLastD_concat]
theorem w_route_Check (live : List Int) (self : Int) (hg : Goods [L live, I self]) : S_route_Check ρ (L live) (I self) (· = [I (chkL live self)]) := by
  unfold S_route_Check chkL
  simp only [Goods, good_L] at hg
  simp (disch := first | omega | assumption | exact ⟨by first | assumption | omega, by first | assumption | omega⟩ | (simp only [List.length_cons, List.length_nil]; omega)) only [↓S0, ↓ITE_bool, S1, eq_self, if_true, if_false, true_implies, false_implies, implies_true, ↓c_slices_Contains_int_int, ↓c_ring_Is]
  refine LOOP.rule (α := Nat) (fun i => [I i]) (fun i => i ≤ live.length ∧ okFrom (((live.take i).getLastD (-1))) (live.drop i) = okFrom (-1) live) (fun i => live.length - i) 0 rfl ⟨by simp, by simp⟩ (fun _ => rfl) ?_
  rintro i ⟨h4, h5⟩
  simp only [app] at *
  simp (disch := first | omega | assumption | exact ⟨by first | assumption | omega, by first | assumption | omega⟩ | (simp only [List.length_cons, List.length_nil]; omega)) only [↓S0, ↓ITE_bool, S1, eq_self, if_true, if_false, true_implies, false_implies, implies_true, ↓c_slices_Contains_int_int, ↓c_ring_Is]
  refine ⟨fun h6 => ?_, fun h6 => ?_⟩
  · obtain ⟨x, hx⟩ := get_ex h6
    rw [drop_eq hx, okFrom] at h5
    simp (disch := first | omega | assumption | exact ⟨by first | assumption | omega, by first | assumption | omega⟩ | (simp only [List.length_cons, List.length_nil]; omega)) only [↓S0, ↓ITE_bool, S1, eq_self, if_true, if_false, true_implies, false_implies, implies_true, ↓c_slices_Contains_int_int, ↓c_ring_Is, cell_L hx]
    refine ⟨fun h7 => ?_, fun h7 => ⟨fun h8 => ?_, fun h8 => ?_⟩⟩
    · rw [← h5]; simp [h7]
    · obtain ⟨j, rfl⟩ : ∃ j, i = j + 1 := ⟨i - 1, by omega⟩
      have hj : (((j + 1 : Nat) : Int) - 1) = (j : Nat) := by omega
      obtain ⟨y, hy⟩ := get_ex (xs := live) (i := j) (by omega)
      rw [take_lastD hy] at h5
      rw [hj]
      simp (disch := first | omega | assumption | exact ⟨by first | assumption | omega, by first | assumption | omega⟩ | (simp only [List.length_cons, List.length_nil]; omega)) only [↓S0, ↓ITE_bool, S1, eq_self, if_true, if_false, true_implies, false_implies, implies_true, ↓c_slices_Contains_int_int, ↓c_ring_Is, cell_L hx, cell_L hy]
      refine ⟨fun h9 => ?_, fun h9 => ⟨j + 2, by simp; omega, ⟨by omega, ?_⟩, by omega⟩⟩
      · have : ¬ y < x := by omega
        rw [← h5]; simp [this]
      · rw [take_lastD hx, ← h5]
        have : y < x := by omega
        simp [h7, this]
    · have : i = 0 := by omega
      subst this
      refine ⟨1, by simp, ⟨by omega, ?_⟩, by omega⟩
      rw [take_lastD hx, ← h5]
      have := isN_iff.1 h7
      have : (-1 : Int) < x := by omega
      simp [h7, this]
  · rw [drop_nil h6] at h5
    simp only [okFrom] at h5
    rw [← h5]
    refine ⟨fun h => by rw [h]; simp, fun h => by rw [h]; simp⟩
theorem w_route_first (live : List Int) (k : Int) (hp : live.all isN = true ∧ 0 ≤ k ∧ k < 4611686018427387904) (hg : Goods [L live, I k]) : S_route_first ρ (L live) (I k) (· = [I (firstN live k)]) := by
  unfold S_route_first firstN
  simp only [Goods, good_L] at hg
  obtain ⟨p1, p2, p3⟩ := hp
  rw [List.all_eq_true] at p1
  simp (disch := first | omega | assumption | exact ⟨by first | assumption | omega, by first | assumption | omega⟩ | (simp only [List.length_cons, List.length_nil]; omega)) only [↓S0, ↓ITE_bool, S1, eq_self, if_true, if_false, true_implies, false_implies, implies_true, ↓c_ring_Node, ↓c_key_Far]
  refine LOOP.rule (α := Nat × Int × Int) (fun a => [I a.2.1, I a.2.2, I a.1]) (fun a => a.1 ≤ live.length ∧ firstGo k a.2.1 a.2.2 (live.drop a.1) = firstGo k (-1) 0 live) (fun a => live.length - a.1) (0, -1, 0) rfl ⟨by simp, by simp⟩ (fun _ => rfl) ?_
  rintro ⟨i, b, d⟩ ⟨h4, h5⟩
  simp only [app] at *
  simp (disch := first | omega | assumption | exact ⟨by first | assumption | omega, by first | assumption | omega⟩ | (simp only [List.length_cons, List.length_nil]; omega)) only [↓S0, ↓ITE_bool, S1, eq_self, if_true, if_false, true_implies, false_implies, implies_true, ↓c_ring_Node, ↓c_key_Far]
  refine ⟨fun h6 => ?_, fun h6 => ?_⟩
  · obtain ⟨x, hx⟩ := get_ex h6
    rw [drop_eq hx, firstGo] at h5
    have hN := p1 x (List.mem_of_getElem? hx)
    have hb := nn_bd x
    simp (disch := first | omega | assumption | exact ⟨by first | assumption | omega, by first | assumption | omega⟩ | (simp only [List.length_cons, List.length_nil]; omega)) only [↓S0, ↓ITE_bool, S1, eq_self, if_true, if_false, true_implies, false_implies, implies_true, ↓c_ring_Node, ↓c_key_Far, cell_L hx, hN, if_true]
    refine ⟨fun h7 => ⟨(i + 1, x, far k (nn x)), by simp, ⟨by simp; omega, by simpa [h7] using h5⟩, by simp; omega⟩, fun h7 => ⟨fun h8 => ⟨(i + 1, x, far k (nn x)), by simp, ⟨by simp; omega, by simpa [h8] using h5⟩, by simp; omega⟩, fun h8 => ⟨(i + 1, b, d), by simp, ⟨by simp; omega, by simpa [h7, h8] using h5⟩, by simp; omega⟩⟩⟩
  · rw [drop_nil h6, firstGo] at h5
    simp [← h5]
theorem w_route_ahead (live : List Int) (self : Int) (hp : live.all isN = true ∧ isN self = true) (hg : Goods [L live, I self]) : S_route_ahead ρ (L live) (I self) (· = [I (aheadN live self)]) := by
  unfold S_route_ahead aheadN
  simp only [Goods, good_L] at hg
  obtain ⟨p1, p2⟩ := hp
  rw [List.all_eq_true] at p1
  simp (disch := first | omega | assumption | exact ⟨by first | assumption | omega, by first | assumption | omega⟩ | (simp only [List.length_cons, List.length_nil]; omega)) only [↓S0, ↓ITE_bool, S1, eq_self, if_true, if_false, true_implies, false_implies, implies_true, ↓c_ring_Node, ↓c_key_Far]
  refine LOOP.rule (α := Nat × Int × Int) (fun a => [I a.2.1, I a.2.2, I a.1]) (fun a => a.1 ≤ live.length ∧ aheadGo self a.2.1 a.2.2 (live.drop a.1) = aheadGo self (-1) 0 live) (fun a => live.length - a.1) (0, -1, 0) rfl ⟨by simp, by simp⟩ (fun _ => rfl) ?_
  rintro ⟨i, b, d⟩ ⟨h4, h5⟩
  simp only [app] at *
  simp (disch := first | omega | assumption | exact ⟨by first | assumption | omega, by first | assumption | omega⟩ | (simp only [List.length_cons, List.length_nil]; omega)) only [↓S0, ↓ITE_bool, S1, eq_self, if_true, if_false, true_implies, false_implies, implies_true, ↓c_ring_Node, ↓c_key_Far]
  refine ⟨fun h6 => ?_, fun h6 => ?_⟩
  · obtain ⟨x, hx⟩ := get_ex h6
    rw [drop_eq hx, aheadGo] at h5
    have hN := p1 x (List.mem_of_getElem? hx)
    have hb := nn_bd x
    have hb2 := nn_bd self
    simp (disch := first | omega | assumption | exact ⟨by first | assumption | omega, by first | assumption | omega⟩ | (simp only [List.length_cons, List.length_nil]; omega)) only [↓S0, ↓ITE_bool, S1, eq_self, if_true, if_false, true_implies, false_implies, implies_true, ↓c_ring_Node, ↓c_key_Far, cell_L hx, hN, p2, if_true]
    refine ⟨fun h7 => ⟨fun h8 => ⟨(i + 1, x, far (nn x) (nn self)), by simp, ⟨by simp; omega, by simpa [h7, h8] using h5⟩, by simp; omega⟩, fun h8 => ⟨fun h9 => ⟨(i + 1, x, far (nn x) (nn self)), by simp, ⟨by simp; omega, by simpa [h7, h8, h9] using h5⟩, by simp; omega⟩, fun h9 => ⟨(i + 1, b, d), by simp, ⟨by simp; omega, by simpa [h7, h8, h9] using h5⟩, by simp; omega⟩⟩⟩, fun h7 => ⟨(i + 1, b, d), by simp, ⟨by simp; omega, by simpa [h7] using h5⟩, by simp; omega⟩⟩
  · rw [drop_nil h6, aheadGo] at h5
    simp [← h5]
theorem okFrom_all : ∀ {l : List Int} {p : Int}, okFrom p l = true → l.all isN = true
  | [], _, _ => rfl
  | x :: r, p, h => by
    simp only [okFrom, Bool.and_eq_true] at h
    rw [List.all_cons, h.1.1, okFrom_all h.2]; rfl
theorem chkL_zero {live : List Int} {self : Int} (h : chkL live self = 0) : (live.all isN = true ∧ isN self = true) ∧ (live.all isN = true ∧ isN self = true ∧ live ≠ []) ∧ okFrom (-1) live = true ∧ live.contains self = true := by
  unfold chkL at h
  split at h
  · rename_i h1
    rw [Bool.and_eq_true] at h1
    have a := okFrom_all h1.1
    have b : isN self = true := by
      rw [List.all_eq_true] at a; exact a self (by simpa using h1.2)
    exact ⟨⟨a, b⟩, ⟨a, b, by rintro rfl; simp at h1⟩, h1.1, h1.2⟩
  · omega
theorem w_route_asked (t : Int) (live : List Int) (self : Int) (hg : Goods [I t, L live, I self]) : S_route_asked ρ (I t) (L live) (I self) (· = [I (askedN t live self)]) := by
  unfold S_route_asked askedN
  simp (disch := first | omega | assumption | exact ⟨by first | assumption | omega, by first | assumption | omega⟩ | (simp only [List.length_cons, List.length_nil]; omega)) only [↓S0, ↓ITE_bool, S1, eq_self, if_true, if_false, true_implies, false_implies, implies_true, ↓c_ring_Topic, ↓c_route_Check]
  refine ⟨fun h => by simp [h], fun h => by simp [h]⟩
end Go.Xt
end
section
set_option linter.unusedSimpArgs false
set_option linter.unusedVariables false
set_option maxRecDepth 100000
namespace Go.Xt
theorem ext_lt : ∀ {xs ys : List Int}, xs.Pairwise (· < ·) → ys.Pairwise (· < ·) → (∀ a, a ∈ xs ↔ a ∈ ys) → xs = ys
  | [], [], _, _, _ => rfl
  | [], y :: ys, _, _, h => by have := (h y).2 (by simp); simp at this
  | x :: xs, [], _, _, h => by have := (h x).1 (by simp); simp at this
  | x :: xs, y :: ys, h1, h2, h => by
    rw [List.pairwise_cons] at h1 h2
    have e : x = y := by
      have a := (h x).1 (by simp)
      have b := (h y).2 (by simp)
      rw [List.mem_cons] at a b
      rcases a with a | a
      · exact a
      · rcases b with b | b
        · exact b.symm
        · have := h2.1 x a; have := h1.1 y b; omega
    subst e
    rw [ext_lt h1.2 h2.2 fun a => ⟨fun ha => ?_, fun ha => ?_⟩]
    · have := (h a).1 (by simp [ha])
      rw [List.mem_cons] at this
      rcases this with e | e
      · have := h1.1 a ha; omega
      · exact e
    · have := (h a).2 (by simp [ha])
      rw [List.mem_cons] at this
      rcases this with e | e
      · have := h2.1 a ha; omega
      · exact e
theorem compGo_ok : ∀ {r : List Int} {p : Int}, r.Pairwise (· ≤ ·) → (∀ a ∈ r, p ≤ a) → (compGo p r).Pairwise (· < ·) ∧ (∀ a, a ∈ compGo p r ↔ a ∈ r ∧ a ≠ p)
  | [], p, _, _ => by simp [compGo]
  | y :: r, p, h1, h2 => by
    rw [List.pairwise_cons] at h1
    unfold compGo
    by_cases e : y = p
    · subst e
      obtain ⟨a, b⟩ := compGo_ok h1.2 h1.1
      rw [if_pos rfl]
      refine ⟨a, fun z => ?_⟩
      rw [b, List.mem_cons]
      exact ⟨fun h => ⟨.inr h.1, h.2⟩, fun h => ⟨h.1.resolve_left h.2, h.2⟩⟩
    · obtain ⟨a, b⟩ := compGo_ok h1.2 h1.1
      rw [if_neg e]
      refine ⟨List.pairwise_cons.2 ⟨fun z hz => ?_, a⟩, fun z => ?_⟩
      · have := (b z).1 hz
        have := h1.1 z this.1
        omega
      · have hy := h2 y (by simp)
        rw [List.mem_cons, b, List.mem_cons]
        constructor
        · rintro (rfl | ⟨h, h'⟩)
          · exact ⟨.inl rfl, e⟩
          · exact ⟨.inr h, by have := h1.1 z h; omega⟩
        · rintro ⟨rfl | h, h'⟩
          · exact .inl rfl
          · by_cases z = y
            · left; assumption
            · right; exact ⟨h, by assumption⟩
theorem comp_ok {l : List Int} (h : l.Pairwise (· ≤ ·)) : (compacted l).Pairwise (· < ·) ∧ ∀ a, a ∈ compacted l ↔ a ∈ l := by
  cases l with
  | nil => simp [compacted]
  | cons x r =>
    rw [List.pairwise_cons] at h
    obtain ⟨a, b⟩ := compGo_ok h.2 h.1
    unfold compacted
    refine ⟨List.pairwise_cons.2 ⟨fun z hz => ?_, a⟩, fun z => ?_⟩
    · have := (b z).1 hz
      have := h.1 z this.1
      omega
    · rw [List.mem_cons, b, List.mem_cons]
      by_cases e : z = x <;> simp [e]
theorem sorted_mem {l : List Int} {a : Int} : a ∈ sorted l ↔ a ∈ l := List.mem_mergeSort
theorem sorted_pw (l : List Int) : (sorted l).Pairwise (· ≤ ·) := by
  have := List.pairwise_mergeSort (le := fun x y : Int => decide (x ≤ y)) (by intro a b c; simp; omega) (by intro a b; simp; omega) l
  simpa [sorted] using this
theorem nodesL_mem {a : Int} : a ∈ nodesL ↔ isN a = true := by
  rw [isN_iff]; simp [nodesL]; omega
theorem nodes_pw : nodesL.Pairwise (· < ·) := by decide
theorem comp_sorted {l : List Int} (h : ∀ a ∈ l, isN a = true) : compacted (sorted l) = nodesL.filter fun n => l.contains n := by
  obtain ⟨a, b⟩ := comp_ok (sorted_pw l)
  refine ext_lt a (nodes_pw.filter _) fun z => ?_
  rw [b, sorted_mem, List.mem_filter, nodesL_mem]
  simp only [List.contains_eq_mem, decide_eq_true_eq]
  exact ⟨fun hz => ⟨h z hz, hz⟩, fun hz => hz.2⟩
theorem firstGo_mem {k : Int} : ∀ (l : List Int) (b d : Int), (firstGo k b d l = b ∧ (0 ≤ b ∨ l = [])) ∨ firstGo k b d l ∈ l
  | [], b, d => .inl ⟨rfl, .inr rfl⟩
  | x :: r, b, d => by
    unfold firstGo
    split
    · rcases firstGo_mem r x (far k (nn x)) with ⟨h, _⟩ | h
      · right; rw [h]; simp
      · right; simp [h]
    · rename_i hb
      rcases firstGo_mem r b d with ⟨h, _⟩ | h
      · left; exact ⟨h, .inl (by omega)⟩
      · right; simp [h]
theorem firstN_mem {live : List Int} {k : Int} (h : live ≠ []) : firstN live k ∈ live := by
  rcases firstGo_mem (k := k) live (-1) 0 with ⟨_, h1 | h1⟩ | h1
  · omega
  · exact absurd h1 h
  · exact h1
theorem fingL_succ (live : List Int) (self : Int) (k : Nat) : fingL live self (k + 1) = fingL live self k ++ if firstN live (backN self k) ≠ self then [firstN live (backN self k)] else [] := by
  unfold fingL
  rw [List.range_succ, List.map_append, List.filter_append]
  congr 1
  by_cases h : firstN live (backN self k) = self <;> simp [h]
theorem fingL_len (live : List Int) (self : Int) : ∀ k : Nat, (fingL live self k).length ≤ k
  | 0 => by simp [fingL]
  | k + 1 => by
    have := fingL_len live self k
    rw [fingL_succ, List.length_append]
    split <;> simp <;> omega
theorem fingL_mem {live : List Int} {self n : Int} {k : Nat} (h0 : live ≠ []) (h : n ∈ fingL live self k) : n ∈ live ∧ n ≠ self := by
  unfold fingL at h
  simp only [List.mem_filter, List.mem_map, decide_eq_true_eq] at h
  obtain ⟨⟨i, _, rfl⟩, h2⟩ := h
  exact ⟨firstN_mem h0, h2⟩
theorem backN_bd (self : Int) {i : Nat} (h : i < 62) : 0 ≤ backN self i ∧ backN self i < 4611686018427387904 := by
  have b : (1 : Int) ≤ 2 ^ i ∧ (2 : Int) ^ i < 4611686018427387904 := pow_bd ⟨i, h⟩
  exact far_bd (by omega) b.2 (nn_bd self).1 (nn_bd self).2
theorem fingers_of {live : List Int} {self : Int} (h1 : live.all isN = true) (h3 : live ≠ []) : compacted (sorted (fingL live self 62)) = fingers live self := by
  rw [List.all_eq_true] at h1
  rw [comp_sorted fun a ha => h1 a (fingL_mem h3 ha).1]; rfl
theorem sorted_len (l : List Int) : (sorted l).length = l.length := List.length_mergeSort ..
theorem w_route_fingers (live : List Int) (self : Int) (hp : live.all isN = true ∧ isN self = true ∧ live ≠ []) (hg : Goods [L live, I self]) : S_route_fingers ρ (L live) (I self) (· = [L (fingers live self)]) := by
  unfold S_route_fingers
  obtain ⟨p1, p2, p3⟩ := hp
  simp (disch := first | omega | assumption | exact ⟨by first | assumption | omega, by first | assumption | omega⟩ | (simp only [List.length_cons, List.length_nil]; omega)) only [↓S0, ↓ITE_bool, S1, eq_self, if_true, if_false, true_implies, false_implies, implies_true, ↓c_ring_Node, ↓c_key_Back, ↓c_route_first, ↓c_slices_Sort_int_int, ↓c_slices_Compact_int_int, p2, if_true]
  refine LOOP.rule (α := Nat) (fun i => [I i, L (fingL live self i)]) (fun i => i ≤ 62) (fun i => 62 - i) 0 rfl (by simp) (fun _ => rfl) ?_
  intro i h4
  simp only [app] at *
  have hl := fingL_len live self i
  simp (disch := first | omega | assumption | exact ⟨by first | assumption | omega, by first | assumption | omega⟩ | (simp only [List.length_cons, List.length_nil]; omega)) only [↓S0, ↓ITE_bool, S1, eq_self, if_true, if_false, true_implies, false_implies, implies_true, ↓c_ring_Node, ↓c_key_Back, ↓c_route_first, ↓c_slices_Sort_int_int, ↓c_slices_Compact_int_int]
  refine ⟨fun h6 => ?_, fun h6 => ?_⟩
  · have e : (isK (nn self) && decide (0 ≤ (i : Int)) && decide ((i : Int) ≤ 61)) = true := by simp [isK_nn]; omega
    have hb := backN_bd self (i := i) (by omega)
    have hk : live.all isN = true ∧ 0 ≤ backN self i ∧ backN self i < 4611686018427387904 := ⟨p1, hb⟩
    have e2 : far (2 ^ i) (nn self) = backN self i := rfl
    simp (disch := first | omega | assumption | exact ⟨by first | assumption | omega, by first | assumption | omega⟩ | (simp only [List.length_cons, List.length_nil]; omega)) only [↓S0, ↓ITE_bool, S1, eq_self, if_true, if_false, true_implies, false_implies, implies_true, ↓c_ring_Node, ↓c_key_Back, ↓c_route_first, ↓c_slices_Sort_int_int, ↓c_slices_Compact_int_int, e, if_true, Int.toNat_natCast, e2]
    refine ⟨fun h7 => ⟨i + 1, ?_, by omega, by omega⟩, fun h7 => ⟨i + 1, ?_, by omega, by omega⟩⟩
    · rw [fingL_succ]; simp [h7]
    · rw [fingL_succ]; simp [h7]
  · have e : i = 62 := by omega
    subst e
    have hs := sorted_len (fingL live self 62)
    simp (disch := first | omega | assumption | exact ⟨by first | assumption | omega, by first | assumption | omega⟩ | (simp only [List.length_cons, List.length_nil]; omega)) only [↓S0, ↓ITE_bool, S1, eq_self, if_true, if_false, true_implies, false_implies, implies_true, ↓c_ring_Node, ↓c_key_Back, ↓c_route_first, ↓c_slices_Sort_int_int, ↓c_slices_Compact_int_int, fingers_of p1 p3]
theorem aheadGo_mem {self : Int} : ∀ (l : List Int) (b d : Int), aheadGo self b d l = b ∨ (aheadGo self b d l ∈ l ∧ aheadGo self b d l ≠ self)
  | [], b, d => .inl rfl
  | x :: r, b, d => by
    unfold aheadGo
    split
    · rename_i h1
      rcases aheadGo_mem r x (far (nn x) (nn self)) with h | h
      · right; rw [h]; exact ⟨by simp, h1.1⟩
      · right; exact ⟨by simp [h], h.2⟩
    · rcases aheadGo_mem r b d with h | h
      · left; exact h
      · right; exact ⟨by simp [h], h.2⟩
theorem aheadN_mem (live : List Int) (self : Int) : aheadN live self = -1 ∨ (aheadN live self ∈ live ∧ aheadN live self ≠ self) := aheadGo_mem live (-1) 0
theorem fingers_len (live : List Int) (self : Int) : (fingers live self).length ≤ 8 := by
  have := List.length_filter_le (fun n => (fingL live self 62).contains n) nodesL
  exact this
theorem w_route_next (t : Int) (live : List Int) (self : Int) (hp : live.all isN = true ∧ isN self = true ∧ live ≠ []) (hg : Goods [I t, L live, I self]) : S_route_next ρ (I t) (L live) (I self) (· = [I (nextN t live self)]) := by
  unfold S_route_next nextN
  have hA : live.all isN = true ∧ isN self = true := ⟨hp.1, hp.2.1⟩
  have hl := fingers_len live self
  simp (disch := first | omega | assumption | exact ⟨by first | assumption | omega, by first | assumption | omega⟩ | (simp only [List.length_cons, List.length_nil]; omega)) only [↓S0, ↓ITE_bool, S1, eq_self, if_true, if_false, true_implies, false_implies, implies_true, ↓c_ring_Nearer, ↓c_route_fingers, ↓c_route_ahead]
  have hl2 : (fingers live self ++ [aheadN live self]).length ≤ 9 := by simp; omega
  generalize fingers live self ++ [aheadN live self] = l at hl2 ⊢
  refine LOOP.rule (α := Nat × Int) (fun a => [I a.2, I a.1]) (fun a => a.1 ≤ l.length ∧ ownGo t a.2 (l.drop a.1) = ownGo t self l) (fun a => l.length - a.1) (0, self) rfl ⟨by simp, by simp⟩ (fun _ => rfl) ?_
  rintro ⟨i, b⟩ ⟨h4, h5⟩
  simp only [app] at *
  simp (disch := first | omega | assumption | exact ⟨by first | assumption | omega, by first | assumption | omega⟩ | (simp only [List.length_cons, List.length_nil]; omega)) only [↓S0, ↓ITE_bool, S1, eq_self, if_true, if_false, true_implies, false_implies, implies_true, ↓c_ring_Nearer, ↓c_route_fingers, ↓c_route_ahead]
  refine ⟨fun h6 => ?_, fun h6 => ?_⟩
  · obtain ⟨x, hx⟩ := get_ex h6
    rw [drop_eq hx, ownGo] at h5
    simp (disch := first | omega | assumption | exact ⟨by first | assumption | omega, by first | assumption | omega⟩ | (simp only [List.length_cons, List.length_nil]; omega)) only [↓S0, ↓ITE_bool, S1, eq_self, if_true, if_false, true_implies, false_implies, implies_true, ↓c_ring_Nearer, ↓c_route_fingers, ↓c_route_ahead, cell_L hx]
    refine ⟨fun h7 => ⟨(i + 1, x), by simp, ⟨by simp; omega, by simpa [h7] using h5⟩, by simp; omega⟩, fun h7 => ⟨(i + 1, b), by simp, ⟨by simp; omega, by simpa [h7] using h5⟩, by simp; omega⟩⟩
  · rw [drop_nil h6, ownGo] at h5
    rw [← h5]
    refine ⟨fun h => by simp [h], fun h => by simp [h]⟩
theorem ownGo_near {t : Int} : ∀ (l : List Int) (b : Int), ownGo t b l = b ∨ (near t (ownGo t b l) b = true ∧ ownGo t b l ∈ l)
  | [], b => .inl rfl
  | x :: r, b => by
    unfold ownGo
    by_cases h : near t x b = true
    · rw [if_pos h]
      rcases ownGo_near r x (t := t) with e | e
      · right; rw [e]; exact ⟨h, by simp⟩
      · right; exact ⟨near_trans e.1 h, by simp [e.2]⟩
    · rw [if_neg h]
      rcases ownGo_near r b (t := t) with e | e
      · left; exact e
      · right; exact ⟨e.1, by simp [e.2]⟩
theorem next_cases (t : Int) (live : List Int) (self : Int) : nextN t live self = -1 ∨ (near t (nextN t live self) self = true ∧ nextN t live self ∈ fingers live self ++ [aheadN live self]) := by
  unfold nextN
  split
  · left; rfl
  · rename_i h
    exact .inr ((ownGo_near _ _).resolve_left h)
theorem next_near {t : Int} {live : List Int} {self : Int} (h : 0 ≤ nextN t live self) : near t (nextN t live self) self = true := by
  rcases next_cases t live self with e | e
  · omega
  · exact e.1
theorem rk_le (t b : Int) : rk t b ≤ 8 := by
  have := List.length_filter_le (fun (a : Nat) => near t a b) (List.range 8)
  simpa [rk] using this
theorem wayN_nil {t : Int} {live : List Int} {n : Int} (h : nextN t live n < 0) (k : Nat) : wayN t live k n = [] := by
  cases k <;> simp [wayN, h]
theorem w_route_Next (t : Int) (live : List Int) (self : Int) (hg : Goods [I t, L live, I self]) : S_route_Next ρ (I t) (L live) (I self) (· = [I (if askedN t live self = 0 then max (nextN t live self) 0 else 0), bb (decide (askedN t live self = 0) && decide (0 ≤ nextN t live self)), I (askedN t live self)]) := by
  unfold S_route_Next
  simp (disch := first | omega | assumption | exact ⟨by first | assumption | omega, by first | assumption | omega⟩ | (simp only [List.length_cons, List.length_nil]; omega)) only [↓S0, ↓ITE_bool, S1, eq_self, if_true, if_false, true_implies, false_implies, implies_true, ↓c_route_asked, ↓c_route_next]
  refine ⟨fun h => by simp [h], fun h => ?_⟩
  have hB : live.all isN = true ∧ isN self = true ∧ live ≠ [] := by
    unfold askedN at h
    by_cases h2 : chkL live self = 0
    · exact (chkL_zero h2).2.1
    · rw [if_neg h2] at h; exact absurd h h2
  simp (disch := first | omega | assumption | exact ⟨by first | assumption | omega, by first | assumption | omega⟩ | (simp only [List.length_cons, List.length_nil]; omega)) only [↓S0, ↓ITE_bool, S1, eq_self, if_true, if_false, true_implies, false_implies, implies_true, ↓c_route_asked, ↓c_route_next]
  refine ⟨fun h2 => ?_, fun h2 => ?_⟩
  · have : max (nextN t live self) 0 = 0 := by omega
    simp [h, this]; omega
  · have : max (nextN t live self) 0 = nextN t live self := by omega
    simp [h, this]; omega
end Go.Xt
end
section
set_option linter.unusedSimpArgs false
set_option linter.unusedVariables false
set_option maxRecDepth 100000
namespace Go.Xt
theorem take_cont {xs : List Int} {i : Nat} {x n : Int} (h : xs[i]? = some x) : (xs.take (i + 1)).contains n = ((xs.take i).contains n || decide (x = n)) := by
  rw [← take_snoc h, Bool.eq_iff_iff]
  simp only [List.contains_eq_mem, decide_eq_true_eq, Bool.or_eq_true, List.mem_append, List.mem_singleton]
  exact or_congr Iff.rfl eq_comm
theorem aheadGo_neg {self b d d' : Int} (h : b < 0) : ∀ l : List Int, aheadGo self b d l = aheadGo self b d' l
  | [] => rfl
  | x :: r => by
    unfold aheadGo
    simp only [h, true_or, and_true]
    rw [aheadGo_neg h r]
theorem firstGo_neg {k b d d' : Int} (h : b < 0) : ∀ l : List Int, firstGo k b d l = firstGo k b d' l
  | [] => rfl
  | x :: r => by
    unfold firstGo
    simp only [h, true_or, if_true]
def mk (live : List Int) (self : Int) (i : Nat) : List Bool := (List.range 8).map fun (n : Nat) => ((List.range i).map fun j => firstN live (backN self j)).contains (n : Int)
theorem map_set {k m : Nat} {f g : Nat → Bool} (h : ∀ n, g n = (f n || decide (m = n))) : (List.range k).map g = ((List.range k).map f).set m true := by
  refine List.ext_getElem (by simp) fun n h1 h2 => ?_
  rw [List.getElem_set]
  simp only [List.getElem_map, List.getElem_range, h]
  by_cases e : m = n <;> simp [e]
theorem mk_succ {live : List Int} {self : Int} {i m : Nat} (h : firstN live (backN self i) = m) : mk live self (i + 1) = (mk live self i).set m true := by
  refine map_set fun n => ?_
  rw [Bool.eq_iff_iff]
  simp only [List.contains_eq_mem, decide_eq_true_eq, Bool.or_eq_true, List.range_succ, List.map_append, List.map_cons, List.map_nil, h, List.mem_append, List.mem_singleton]
  exact or_congr Iff.rfl (by omega)
theorem mk_len (live : List Int) (self : Int) (i : Nat) : (mk live self i).length = 8 := by simp [mk]
theorem OP_repl8 {k : PV → Prop} : OP (.repl 1 [(.bool false)]) [I 8] k = k (L (List.replicate 8 false)) := OP_of (by simp [ev, roomy, L, Row.row, Lit.pv])
theorem nodesL_range : nodesL = (List.range 8).map fun (n : Nat) => (n : Int) := by decide
def fgo (live : List Int) (self : Int) (n : Nat) : List Int := ((List.range n).map fun (k : Nat) => (k : Int)).filter fun n => (fingL live self 62).contains n
theorem filter_one (p : Int → Bool) (n : Nat) : (List.map (fun (k : Nat) => (k : Int)) [n]).filter p = if p (n : Int) then [(n : Int)] else [] := by
  cases h : p (n : Int) <;> simp [h]
theorem fgo_succ (live : List Int) (self : Int) (n : Nat) : fgo live self (n + 1) = fgo live self n ++ if (fingL live self 62).contains (n : Int) then [(n : Int)] else [] := by
  unfold fgo
  rw [List.range_succ, List.map_append, List.filter_append]
  congr 1
  exact filter_one _ n
theorem fing_mk {live : List Int} {self : Int} {n : Nat} {x : Bool} (h : (mk live self 62)[n]? = some x) : (fingL live self 62).contains (n : Int) = (x && !decide ((n : Int) = self)) := by
  obtain ⟨h1, h2⟩ := List.getElem?_eq_some_iff.1 h
  rw [← h2, Bool.eq_iff_iff]
  simp only [mk, fingL, List.getElem_map, List.getElem_range, List.contains_eq_mem, List.mem_filter, decide_eq_true_eq, Bool.and_eq_true, Bool.not_eq_true', decide_eq_false_iff_not]
theorem fgo_len (live : List Int) (self : Int) (n : Nat) : (fgo live self n).length ≤ n := by
  have := List.length_filter_le (fun n => (fingL live self 62).contains n) ((List.range n).map fun (k : Nat) => (k : Int))
  simpa [fgo] using this
theorem ownR_neg {t b b' : Int} (h : b < 0) (h' : b' < 0) {l : List Int} (hl : l ≠ []) : ownR t b l = ownR t b' l := by
  cases l with
  | nil => exact absurd rfl hl
  | cons x r => simp only [ownR, h, h', true_or, if_true]
theorem ownR_ok {t : Int} : ∀ (l : List Int) (b : Int), (∀ x ∈ l, 0 ≤ x) → (ownR t b l = b ∧ (0 ≤ b ∨ l = []) ∨ ownR t b l ∈ l) ∧ (∀ x ∈ l, gap t (ownR t b l) ≤ gap t x) ∧ (0 ≤ b → gap t (ownR t b l) ≤ gap t b)
  | [], b, _ => ⟨.inl ⟨rfl, .inr rfl⟩, by simp, fun _ => Int.le_refl _⟩
  | x :: r, b, hl => by
    have hl2 : ∀ x ∈ r, 0 ≤ x := fun y hy => hl y (by simp [hy])
    have hx := hl x (by simp)
    unfold ownR
    split
    · rename_i hc
      obtain ⟨h1, h2, h3⟩ := ownR_ok r x hl2 (t := t)
      refine ⟨?_, ?_, fun hb => ?_⟩
      · rcases h1 with h | h
        · right; rw [h.1]; simp
        · right; simp [h]
      · intro y hy
        rcases List.mem_cons.1 hy with rfl | hy
        · exact h3 hx
        · exact h2 y hy
      · have := h3 hx; omega
    · rename_i hc
      obtain ⟨h1, h2, h3⟩ := ownR_ok r b hl2 (t := t)
      have hb : 0 ≤ b := by omega
      refine ⟨?_, ?_, h3⟩
      · rcases h1 with h | h
        · exact .inl ⟨h.1, .inl hb⟩
        · right; simp [h]
      · intro y hy
        rcases List.mem_cons.1 hy with rfl | hy
        · have := h3 hb; omega
        · exact h2 y hy
theorem ownerR_ok {t : Int} {l : List Int} (hl : l.all isN = true) (h : l ≠ []) : ownerR t l ∈ l ∧ ∀ x ∈ l, gap t (ownerR t l) ≤ gap t x := by
  rw [List.all_eq_true] at hl
  obtain ⟨h1, h2, _⟩ := ownR_ok l (-1) (fun x hx => (isN_iff.1 (hl x hx)).1) (t := t)
  refine ⟨?_, h2⟩
  rcases h1 with ⟨_, h3 | h3⟩ | h3
  · omega
  · exact absurd h3 h
  · exact h3
def refGo (t self : Int) : Int → List Int → Int
  | b, [] => b
  | b, x :: r => refGo t self (if 0 ≤ x ∧ near t x self = true ∧ (b < 0 ∨ near t x b = true) then x else b) r
theorem refGo_pos {t self : Int} : ∀ (l : List Int) (b : Int), near t b self = true → refGo t self b l = ownGo t b l
  | [], _, _ => rfl
  | x :: r, b, h => by
    have hb := (near_dom h).2.1.1
    unfold refGo ownGo
    by_cases e : near t x b = true
    · have e2 := near_trans e h
      have hx := (near_dom e).2.1.1
      rw [if_pos ⟨hx, e2, .inr e⟩, if_pos e, refGo_pos r x e2]
    · rw [if_neg, if_neg e, refGo_pos r b h]
      rintro ⟨_, _, h3 | h3⟩
      · omega
      · exact e h3
theorem refGo_neg {t self : Int} : ∀ (l : List Int), refGo t self (-1) l = if ownGo t self l = self then -1 else ownGo t self l
  | [] => by simp [refGo, ownGo]
  | x :: r => by
    unfold refGo ownGo
    by_cases e : near t x self = true
    · have hx := (near_dom e).2.1.1
      rw [if_pos ⟨hx, e, .inl (by omega)⟩, if_pos e, refGo_pos r x e, if_neg]
      rcases ownGo_near r x (t := t) with h | h
      · rw [h]; exact near_ne e
      · exact near_ne (near_trans h.1 e)
    · rw [if_neg (fun h => e h.2.1), if_neg e, refGo_neg r]
theorem known_live {live : List Int} {self x : Int} (h3 : live ≠ []) (h : x ∈ fingers live self ++ [aheadN live self]) : x = -1 ∨ (x ∈ live ∧ x ≠ self) := by
  rw [List.mem_append, List.mem_singleton] at h
  rcases h with h | h
  · right
    unfold fingers at h
    rw [List.mem_filter] at h
    exact fingL_mem h3 (by simpa using h.2)
  · rcases aheadN_mem live self with e | e
    · left; rw [h, e]
    · right; rw [h]; exact e
theorem ownGo_stay {t b : Int} : ∀ {l : List Int}, (∀ x ∈ l, near t x b = false) → ownGo t b l = b
  | [], _ => rfl
  | x :: r, h => by
    unfold ownGo
    rw [h x (by simp)]
    exact ownGo_stay fun y hy => h y (by simp [hy])
theorem next_owner {t : Int} {live : List Int} {self : Int} (h1 : live.all isN = true) (h3 : live ≠ []) (h : ownerR t live = self) : nextN t live self = -1 := by
  unfold nextN
  rw [ownGo_stay, if_pos rfl]
  intro x hx
  rcases known_live h3 hx with rfl | hx
  · simp [near, isN]
  · have := (ownerR_ok (t := t) h1 h3).2 x hx.1
    rw [h] at this
    simp only [near, Bool.and_eq_false_iff, decide_eq_false_iff_not]
    right; omega
theorem next_mem {t : Int} {live : List Int} {self : Int} (h3 : live ≠ []) (h : 0 ≤ nextN t live self) : nextN t live self ∈ live := by
  rcases next_cases t live self with e | e
  · omega
  · rcases known_live h3 e.2 with h1 | h1
    · omega
    · exact h1.1
theorem chkL_of {live : List Int} {n self : Int} (h : chkL live self = 0) (hn : n ∈ live) : chkL live n = 0 := by
  have := (chkL_zero h).2.2
  unfold chkL
  rw [this.1]; simp [hn]
end Go.Xt
end
section
set_option linter.unusedSimpArgs false
set_option linter.unusedVariables false
set_option maxRecDepth 100000
namespace Go.Xt
instance : FlatRow Call := ⟨fun a q hq => by simp [Row.row] at hq; rcases hq with rfl | rfl | rfl <;> rfl⟩
instance : FlatRow Mark := ⟨fun a q hq => by simp [Row.row] at hq; rcases hq with rfl | rfl | rfl <;> rfl⟩
instance : FlatRow Mark2 := ⟨fun a q hq => by simp [Row.row] at hq; rcases hq with rfl | rfl | rfl | rfl | rfl <;> rfl⟩
theorem OP_rowsN {w : Nat} {k : PV → Prop} (h : 0 < w) : OP (.rows w) [] k = k (.list []) := OP_of (by simp [ev, chunk]; omega)
theorem w_slices_Clone_api_Peer_api_Peer (l : List Peer) (hp : l.length ≤ 1000000) : S_slices_Clone_api_Peer_api_Peer ρ (L l) (· = [L l]) := by
  unfold S_slices_Clone_api_Peer_api_Peer
  rw [NILQ_L]
  refine ⟨fun h => ?_, ?_⟩
  · subst h; simp (disch := first | omega | assumption | exact ⟨by first | assumption | omega, by first | assumption | omega⟩ | (simp only [List.length_cons, List.length_nil]; omega)) only [↓S0, ↓ITE_bool, S1, eq_self, if_true, if_false, true_implies, false_implies, implies_true]
    rfl
  · simp (disch := first | omega | assumption | exact ⟨by first | assumption | omega, by first | assumption | omega⟩ | (simp only [List.length_cons, List.length_nil]; omega)) only [↓S0, ↓ITE_bool, S1, eq_self, if_true, if_false, true_implies, false_implies, implies_true, ↓OP_rowsN]
theorem w_slices_Clone_api_Call_api_Call (l : List Call) (hp : l.length ≤ 1000000) : S_slices_Clone_api_Call_api_Call ρ (L l) (· = [L l]) := by
  unfold S_slices_Clone_api_Call_api_Call
  rw [NILQ_L]
  refine ⟨fun h => ?_, ?_⟩
  · subst h; simp (disch := first | omega | assumption | exact ⟨by first | assumption | omega, by first | assumption | omega⟩ | (simp only [List.length_cons, List.length_nil]; omega)) only [↓S0, ↓ITE_bool, S1, eq_self, if_true, if_false, true_implies, false_implies, implies_true]
    rfl
  · simp (disch := first | omega | assumption | exact ⟨by first | assumption | omega, by first | assumption | omega⟩ | (simp only [List.length_cons, List.length_nil]; omega)) only [↓S0, ↓ITE_bool, S1, eq_self, if_true, if_false, true_implies, false_implies, implies_true, ↓OP_rowsN]
theorem w_slices_Clone_api_Mark_api_Mark (l : List Mark) (hp : l.length ≤ 1000000) : S_slices_Clone_api_Mark_api_Mark ρ (L l) (· = [L l]) := by
  unfold S_slices_Clone_api_Mark_api_Mark
  rw [NILQ_L]
  refine ⟨fun h => ?_, ?_⟩
  · subst h; simp (disch := first | omega | assumption | exact ⟨by first | assumption | omega, by first | assumption | omega⟩ | (simp only [List.length_cons, List.length_nil]; omega)) only [↓S0, ↓ITE_bool, S1, eq_self, if_true, if_false, true_implies, false_implies, implies_true]
    rfl
  · simp (disch := first | omega | assumption | exact ⟨by first | assumption | omega, by first | assumption | omega⟩ | (simp only [List.length_cons, List.length_nil]; omega)) only [↓S0, ↓ITE_bool, S1, eq_self, if_true, if_false, true_implies, false_implies, implies_true, ↓OP_rowsN]
theorem w_slices_Clone_api_Mark2_api_Mark2 (l : List Mark2) (hp : l.length ≤ 1000000) : S_slices_Clone_api_Mark2_api_Mark2 ρ (L l) (· = [L l]) := by
  unfold S_slices_Clone_api_Mark2_api_Mark2
  rw [NILQ_L]
  refine ⟨fun h => ?_, ?_⟩
  · subst h; simp (disch := first | omega | assumption | exact ⟨by first | assumption | omega, by first | assumption | omega⟩ | (simp only [List.length_cons, List.length_nil]; omega)) only [↓S0, ↓ITE_bool, S1, eq_self, if_true, if_false, true_implies, false_implies, implies_true]
    rfl
  · simp (disch := first | omega | assumption | exact ⟨by first | assumption | omega, by first | assumption | omega⟩ | (simp only [List.length_cons, List.length_nil]; omega)) only [↓S0, ↓ITE_bool, S1, eq_self, if_true, if_false, true_implies, false_implies, implies_true, ↓OP_rowsN]
theorem w_slices_Clone_api_Kid_api_Kid (l : List Kid) (hp : l.length ≤ 1000000) : S_slices_Clone_api_Kid_api_Kid ρ (L l) (· = [L l]) := by
  unfold S_slices_Clone_api_Kid_api_Kid
  rw [NILQ_L]
  refine ⟨fun h => ?_, ?_⟩
  · subst h; simp (disch := first | omega | assumption | exact ⟨by first | assumption | omega, by first | assumption | omega⟩ | (simp only [List.length_cons, List.length_nil]; omega)) only [↓S0, ↓ITE_bool, S1, eq_self, if_true, if_false, true_implies, false_implies, implies_true]
    rfl
  · simp (disch := first | omega | assumption | exact ⟨by first | assumption | omega, by first | assumption | omega⟩ | (simp only [List.length_cons, List.length_nil]; omega)) only [↓S0, ↓ITE_bool, S1, eq_self, if_true, if_false, true_implies, false_implies, implies_true, ↓OP_rowsN]
theorem w_slices_Clone_api_Event_api_Event (l : List Event) (hp : l.length ≤ 1000000) : S_slices_Clone_api_Event_api_Event ρ (L l) (· = [L l]) := by
  unfold S_slices_Clone_api_Event_api_Event
  rw [NILQ_L]
  refine ⟨fun h => ?_, ?_⟩
  · subst h; simp (disch := first | omega | assumption | exact ⟨by first | assumption | omega, by first | assumption | omega⟩ | (simp only [List.length_cons, List.length_nil]; omega)) only [↓S0, ↓ITE_bool, S1, eq_self, if_true, if_false, true_implies, false_implies, implies_true]
    rfl
  · simp (disch := first | omega | assumption | exact ⟨by first | assumption | omega, by first | assumption | omega⟩ | (simp only [List.length_cons, List.length_nil]; omega)) only [↓S0, ↓ITE_bool, S1, eq_self, if_true, if_false, true_implies, false_implies, implies_true, ↓OP_rowsN]
theorem w_slices_Clone_api_Item_api_Item (l : List Item) (hp : l.length ≤ 1000000) : S_slices_Clone_api_Item_api_Item ρ (L l) (· = [L l]) := by
  unfold S_slices_Clone_api_Item_api_Item
  rw [NILQ_L]
  refine ⟨fun h => ?_, ?_⟩
  · subst h; simp (disch := first | omega | assumption | exact ⟨by first | assumption | omega, by first | assumption | omega⟩ | (simp only [List.length_cons, List.length_nil]; omega)) only [↓S0, ↓ITE_bool, S1, eq_self, if_true, if_false, true_implies, false_implies, implies_true]
    rfl
  · simp (disch := first | omega | assumption | exact ⟨by first | assumption | omega, by first | assumption | omega⟩ | (simp only [List.length_cons, List.length_nil]; omega)) only [↓S0, ↓ITE_bool, S1, eq_self, if_true, if_false, true_implies, false_implies, implies_true, ↓OP_rowsN]
theorem w_slices_Clone_int_int (l : List Int) (hp : l.length ≤ 1000000) : S_slices_Clone_int_int ρ (L l) (· = [L l]) := by
  unfold S_slices_Clone_int_int
  rw [NILQ_L]
  refine ⟨fun h => ?_, ?_⟩
  · subst h; simp (disch := first | omega | assumption | exact ⟨by first | assumption | omega, by first | assumption | omega⟩ | (simp only [List.length_cons, List.length_nil]; omega)) only [↓S0, ↓ITE_bool, S1, eq_self, if_true, if_false, true_implies, false_implies, implies_true]
    rfl
  · simp (disch := first | omega | assumption | exact ⟨by first | assumption | omega, by first | assumption | omega⟩ | (simp only [List.length_cons, List.length_nil]; omega)) only [↓S0, ↓ITE_bool, S1, eq_self, if_true, if_false, true_implies, false_implies, implies_true, ↓OP_rowsN]
theorem w_graft_Has (x : Topic) : S_graft_Has ρ (bb x.made) (bb x.sub) (I x.top) (I x.root) (I x.parent) (I x.asked) (I x.other) (I x.age) (L x.path) (L x.kids) (I x.stream.epoch) (I x.stream.want) (I x.stream.known) (L x.stream.kept) (L x.stream.ahead) (L x.queue) (· = [bb (hasWay x)]) := by
  unfold S_graft_Has hasWay
  simp (disch := first | omega | assumption | exact ⟨by first | assumption | omega, by first | assumption | omega⟩ | (simp only [List.length_cons, List.length_nil]; omega)) only [↓S0, ↓ITE_bool, S1, eq_self, if_true, if_false, true_implies, false_implies, implies_true]
  refine ⟨fun h => ?_, fun h => ?_⟩ <;> simp [h]
theorem w_graft_Twin (x : Topic) (hp : heavy19 x = false) : S_graft_Twin ρ (bb x.made) (bb x.sub) (I x.top) (I x.root) (I x.parent) (I x.asked) (I x.other) (I x.age) (L x.path) (L x.kids) (I x.stream.epoch) (I x.stream.want) (I x.stream.known) (L x.stream.kept) (L x.stream.ahead) (L x.queue) (· = [bb x.made, bb x.sub, I x.top, I x.root, I x.parent, I x.asked, I x.other, I x.age, L x.path, L x.kids, I x.stream.epoch, I x.stream.want, I x.stream.known, L x.stream.kept, L x.stream.ahead, L x.queue]) := by
  unfold S_graft_Twin
  have hb := heavy19_bd hp
  simp (disch := first | omega | assumption | exact ⟨by first | assumption | omega, by first | assumption | omega⟩ | (simp only [List.length_cons, List.length_nil]; omega)) only [↓S0, ↓ITE_bool, S1, eq_self, if_true, if_false, true_implies, false_implies, implies_true, ↓c_slices_Clone_int_int, ↓c_slices_Clone_api_Kid_api_Kid, ↓c_slices_Clone_api_Event_api_Event, ↓c_slices_Clone_api_Item_api_Item]
theorem w_queue_gap (x : Event) : S_queue_gap ρ (I x.kind) (I x.epoch) (I x.seq) (I x.last) (I x.value) (I x.count) (· = [I (gapE x).kind, I (gapE x).epoch, I (gapE x).seq, I (gapE x).last, I (gapE x).value, I (gapE x).count, bb (ofStream x)]) := by
  unfold S_queue_gap gapE ofStream
  simp (disch := first | omega | assumption | exact ⟨by first | assumption | omega, by first | assumption | omega⟩ | (simp only [List.length_cons, List.length_nil]; omega)) only [↓S0, ↓ITE_bool, S1, eq_self, if_true, if_false, true_implies, false_implies, implies_true]
  refine ⟨fun h => ?_, fun h => ⟨fun h2 => ?_, fun h2 => ?_⟩⟩ <;> simp [*]
theorem w_queue_Fit (l : List Event) (limit : Int) (x : Event) (hp : l.length ≤ 1000000) (hg : Goods [L l, I limit, I x.kind, I x.epoch, I x.seq, I x.last, I x.value, I x.count]) : S_queue_Fit ρ (L l) (I limit) (I x.kind) (I x.epoch) (I x.seq) (I x.last) (I x.value) (I x.count) (· = [L (fitE l limit x)]) := by
  unfold S_queue_Fit fitE
  simp (disch := first | omega | assumption | exact ⟨by first | assumption | omega, by first | assumption | omega⟩ | (simp only [List.length_cons, List.length_nil]; omega)) only [↓S0, ↓ITE_bool, S1, eq_self, if_true, if_false, true_implies, false_implies, implies_true, ↓c_slices_Clone_api_Event_api_Event, ↓c_queue_Put]
  refine ⟨fun h => ?_, fun h => ?_⟩ <;> simp [h]
theorem queueOk_bd {l : List Event} {limit : Int} (h : queueOk l limit = true) : 2 ≤ limit ∧ limit ≤ 32 ∧ (l.length : Int) ≤ limit ∧ l.all evOk = true := by
  simp only [queueOk, Bool.and_eq_true, decide_eq_true_eq] at h
  obtain ⟨⟨⟨h1, h2⟩, h3⟩, _⟩ := h
  have := rng_bd h1
  exact ⟨this.1, this.2, h2, h3⟩
theorem w_queue_Put (l : List Event) (limit : Int) (x : Event) (hg : Goods [L l, I limit, I x.kind, I x.epoch, I x.seq, I x.last, I x.value, I x.count]) : S_queue_Put ρ (L l) (I limit) (I x.kind) (I x.epoch) (I x.seq) (I x.last) (I x.value) (I x.count) (· = [L (putE l limit x).1, I (putE l limit x).2]) := by
  unfold S_queue_Put
  generalize hE : putE l limit x = q
  refine SUB.v1 (bb (!(queueOk l limit && evOk x))) ?_ ?_
  · repeat' (first | apply And.intro | intro _ | simp (disch := first | omega | assumption | exact ⟨by first | assumption | omega, by first | assumption | omega⟩ | (simp only [List.length_cons, List.length_nil]; omega)) only [↓S0, ↓ITE_bool, S1, eq_self, if_true, if_false, true_implies, false_implies, implies_true, ↓c_slices_Clone_api_Event_api_Event, ↓c_queue_Check, ↓c_queue_Event, ↓c_queue_gap])
    all_goals simp_all
  unfold putE at hE
  cases h0 : (queueOk l limit && evOk x)
  · simp (disch := first | omega | assumption | exact ⟨by first | assumption | omega, by first | assumption | omega⟩ | (simp only [List.length_cons, List.length_nil]; omega)) only [↓S0, ↓ITE_bool, S1, eq_self, if_true, if_false, true_implies, false_implies, implies_true, ↓c_slices_Clone_api_Event_api_Event, ↓c_queue_Check, ↓c_queue_Event, ↓c_queue_gap]
    simp [h0] at hE; rw [← hE]; rfl
  · rw [if_pos h0] at hE
    simp only [Bool.and_eq_true] at h0
    have hb := queueOk_bd h0.1
    simp (disch := first | omega | assumption | exact ⟨by first | assumption | omega, by first | assumption | omega⟩ | (simp only [List.length_cons, List.length_nil]; omega)) only [↓S0, ↓ITE_bool, S1, eq_self, if_true, if_false, true_implies, false_implies, implies_true, ↓c_slices_Clone_api_Event_api_Event, ↓c_queue_Check, ↓c_queue_Event, ↓c_queue_gap]
    refine ⟨fun h1 => ?_, fun h1 => ?_⟩
    · rw [if_pos h1] at hE; rw [← hE]
    · rw [if_neg h1] at hE
      cases h2 : ofStream x
      · simp (disch := first | omega | assumption | exact ⟨by first | assumption | omega, by first | assumption | omega⟩ | (simp only [List.length_cons, List.length_nil]; omega)) only [↓S0, ↓ITE_bool, S1, eq_self, if_true, if_false, true_implies, false_implies, implies_true, ↓c_slices_Clone_api_Event_api_Event, ↓c_queue_Check, ↓c_queue_Event, ↓c_queue_gap, h2]
        simp [h2] at hE; rw [← hE]; rfl
      · simp (disch := first | omega | assumption | exact ⟨by first | assumption | omega, by first | assumption | omega⟩ | (simp only [List.length_cons, List.length_nil]; omega)) only [↓S0, ↓ITE_bool, S1, eq_self, if_true, if_false, true_implies, false_implies, implies_true, ↓c_slices_Clone_api_Event_api_Event, ↓c_queue_Check, ↓c_queue_Event, ↓c_queue_gap, h2]
        rw [if_pos h2] at hE
        refine ⟨fun h3 => ?_, fun h3 => ?_⟩
        · rw [if_pos h3] at hE; rw [← hE]
        · rw [if_neg h3] at hE
          obtain ⟨k, hk⟩ := Int.eq_ofNat_of_zero_le (show 0 ≤ limit - 1 by omega)
          obtain ⟨y, hy⟩ := get_ex (xs := l) (i := k) (by omega)
          rw [hk] at hE ⊢
          have hgd : l.getD k event0 = y := by simp [List.getD_eq_getElem?_getD, hy]
          simp only [Int.toNat_natCast, hgd] at hE
          simp (disch := first | omega | assumption | exact ⟨by first | assumption | omega, by first | assumption | omega⟩ | (simp only [List.length_cons, List.length_nil]; omega)) only [↓S0, ↓ITE_bool, S1, eq_self, if_true, if_false, true_implies, false_implies, implies_true, ↓c_slices_Clone_api_Event_api_Event, ↓c_queue_Check, ↓c_queue_Event, ↓c_queue_gap, cell_L hy, ↓OP_addW, ↓OP_set hy (j := 3) (v := I (gapE x).last) (y := { y with last := (gapE x).last }) (by simp [Event.row_eq, List.set])]
          refine ⟨fun h4 => ?_, fun h4 => ⟨fun h5 => ?_, fun h5 => ?_⟩⟩
          · rw [if_neg (fun h => h4 h.1)] at hE; rw [← hE]; rfl
          · rw [if_neg (fun h => h5 h.2)] at hE; rw [← hE]; rfl
          · rw [if_pos ⟨h4, h5⟩] at hE; rw [← hE]
theorem w_cast_Heed (n : Node) (o : Int) (hg : Goods [bb n.up, I n.inc, L n.peers, L n.topics, L n.calls, I n.pubs, I n.asks, L n.marks, L n.taken, I o]) : S_cast_Heed ρ (bb n.up) (I n.inc) (L n.peers) (L n.topics) (L n.calls) (I n.pubs) (I n.asks) (L n.marks) (L n.taken) (I o) (· = [bb (heed n o)]) := by
  unfold S_cast_Heed heed
  simp only [Goods, good_L] at hg
  simp (disch := first | omega | assumption | exact ⟨by first | assumption | omega, by first | assumption | omega⟩ | (simp only [List.length_cons, List.length_nil]; omega)) only [↓S0, ↓ITE_bool, S1, eq_self, if_true, if_false, true_implies, false_implies, implies_true, ↓c_cast_in]
  cases h : rng o 0 (n.peers.length - 1)
  · simp (disch := first | omega | assumption | exact ⟨by first | assumption | omega, by first | assumption | omega⟩ | (simp only [List.length_cons, List.length_nil]; omega)) only [↓S0, ↓ITE_bool, S1, eq_self, if_true, if_false, true_implies, false_implies, implies_true, ↓c_cast_in, h]
    simp
  · have hb := rng_bd h
    obtain ⟨k, rfl⟩ := Int.eq_ofNat_of_zero_le hb.1
    obtain ⟨y, hy⟩ := get_ex (xs := n.peers) (i := k) (by omega)
    simp (disch := first | omega | assumption | exact ⟨by first | assumption | omega, by first | assumption | omega⟩ | (simp only [List.length_cons, List.length_nil]; omega)) only [↓S0, ↓ITE_bool, S1, eq_self, if_true, if_false, true_implies, false_implies, implies_true, ↓c_cast_in, h, cell_L hy]
    simp [List.getD_eq_getElem?_getD, hy]
theorem w_view_place (l : List Peer) (n : Int) (hg : Goods [L l, I n]) : S_view_place ρ (L l) (I n) (· = [I (placeP l n)]) := by
  unfold S_view_place placeP
  cases h : peersOk l
  · simp (disch := first | omega | assumption | exact ⟨by first | assumption | omega, by first | assumption | omega⟩ | (simp only [List.length_cons, List.length_nil]; omega)) only [↓S0, ↓ITE_bool, S1, eq_self, if_true, if_false, true_implies, false_implies, implies_true, ↓c_view_Check, h]
    simp
  · simp (disch := first | omega | assumption | exact ⟨by first | assumption | omega, by first | assumption | omega⟩ | (simp only [List.length_cons, List.length_nil]; omega)) only [↓S0, ↓ITE_bool, S1, eq_self, if_true, if_false, true_implies, false_implies, implies_true, ↓c_view_Check, h]
    refine ⟨fun h1 => ?_, fun h1 => ⟨fun h2 => ?_, fun h2 => ?_⟩⟩
    · rw [if_neg (by omega)]
    · rw [if_neg (by omega)]
    · rw [if_pos (by omega)]
theorem place_z {l : List Peer} {n : Int} (h : placeP l n = 0) : peersOk l = true ∧ 0 ≤ n ∧ n < l.length := by
  unfold placeP at h
  split at h
  · split at h
    · rename_i h1 h2; exact ⟨h1, h2.1, h2.2⟩
    · omega
  · omega
theorem peers_len {l : List Peer} (h : peersOk l = true) : 1 ≤ l.length ∧ l.length ≤ 8 := by
  simp only [peersOk, Bool.and_eq_true, decide_eq_true_eq] at h; exact h.1
theorem w_view_Live (l : List Peer) (self : Int) (hg : Goods [L l, I self]) : S_view_Live ρ (L l) (I self) (· = [L (if placeP l self = 0 then liveP l self else []), I (placeP l self)]) := by
  unfold S_view_Live
  generalize hE : liveP l self = q
  simp (disch := first | omega | assumption | exact ⟨by first | assumption | omega, by first | assumption | omega⟩ | (simp only [List.length_cons, List.length_nil]; omega)) only [↓S0, ↓ITE_bool, S1, eq_self, if_true, if_false, true_implies, false_implies, implies_true, ↓c_view_place]
  refine ⟨fun h => ?_, fun h => ?_⟩
  · rw [if_neg h]; rfl
  obtain ⟨h1, h2, h3⟩ := place_z h
  have hb := peers_len h1
  refine LOOP.rule (α := Nat × List Int) (fun p => [I p.1, L p.2]) (fun p => p.1 ≤ l.length ∧ p.2.length ≤ p.1 ∧ p.2 ++ liveGo self p.1 (l.drop p.1) = q) (fun p => l.length - p.1) (0, []) rfl ⟨by simp, by simp, by simpa [liveP] using hE⟩ (fun _ => rfl) ?_
  rintro ⟨i, a⟩ ⟨hi, ha, hs⟩
  simp only at hi ha hs
  simp only [app]
  simp (disch := first | omega | assumption | exact ⟨by first | assumption | omega, by first | assumption | omega⟩ | (simp only [List.length_cons, List.length_nil]; omega)) only [↓S0, ↓ITE_bool, S1, eq_self, if_true, if_false, true_implies, false_implies, implies_true, ↓c_view_place]
  refine ⟨fun h4 => ?_, fun h4 => ?_⟩
  · obtain ⟨x, hx⟩ := get_ex h4
    rw [drop_eq hx, liveGo] at hs
    simp (disch := first | omega | assumption | exact ⟨by first | assumption | omega, by first | assumption | omega⟩ | (simp only [List.length_cons, List.length_nil]; omega)) only [↓S0, ↓ITE_bool, S1, eq_self, if_true, if_false, true_implies, false_implies, implies_true, ↓c_view_place, cell_L hx]
    refine ⟨fun h5 => ⟨(i + 1, a ++ [(i : Int)]), rfl, ⟨by simp; omega, by simp; omega, ?_⟩, by simp; omega⟩, fun h5 => ⟨fun h6 => ⟨fun h7 => ⟨(i + 1, a ++ [(i : Int)]), rfl, ⟨by simp; omega, by simp; omega, ?_⟩, by simp; omega⟩, fun h7 => ⟨(i + 1, a), rfl, ⟨by simp; omega, by simp; omega, ?_⟩, by simp; omega⟩⟩, fun h6 => ⟨(i + 1, a), rfl, ⟨by simp; omega, by simp; omega, ?_⟩, by simp; omega⟩⟩⟩
    · rw [if_pos (.inl h5)] at hs; simpa using hs
    · rw [if_pos (.inr ⟨h6, h7⟩)] at hs; simpa using hs
    · rw [if_neg (show ¬ ((i : Int) = self ∨ (0 < x.inc ∧ x.age < 4)) by omega)] at hs; simpa using hs
    · rw [if_neg (show ¬ ((i : Int) = self ∨ (0 < x.inc ∧ x.age < 4)) by omega)] at hs; simpa using hs
  · rw [drop_nil h4] at hs
    simp [liveGo] at hs; simp [h, hs]
theorem live_mem {self : Int} : ∀ (l : List Peer) (i x : Int), x ∈ liveGo self i l → i ≤ x ∧ x < i + l.length
  | [], _, _, h => by simp [liveGo] at h
  | p :: r, i, x, h => by
    rw [liveGo, List.mem_append] at h
    rcases h with h | h
    · split at h
      · rw [List.mem_singleton] at h; subst h; simp; omega
      · simp at h
    · have := live_mem r (i + 1) x h; simp; omega
theorem live_self {self : Int} : ∀ (l : List Peer) (i : Int), i ≤ self → self < i + l.length → self ∈ liveGo self i l
  | [], i, h0, h1 => by simp at h1; omega
  | p :: r, i, h0, h1 => by
    rw [liveGo, List.mem_append]
    by_cases e : i = self
    · left; rw [if_pos (.inl e), e]; simp
    · right; exact live_self r (i + 1) (by omega) (by simp at h1; omega)
theorem live_ok {self : Int} : ∀ (l : List Peer) (i p : Int), 0 ≤ i → p < i → i + l.length ≤ 8 → okFrom p (liveGo self i l) = true
  | [], _, _, _, _, _ => rfl
  | q :: r, i, p, h0, h1, h2 => by
    simp only [List.length_cons] at h2
    rw [liveGo]
    split
    · simp only [List.singleton_append, okFrom, Bool.and_eq_true, decide_eq_true_eq]
      exact ⟨⟨isN_iff.2 (by omega), h1⟩, live_ok r (i + 1) i (by omega) (by omega) (by omega)⟩
    · exact live_ok r (i + 1) p (by omega) (by omega) (by omega)
theorem live_chk {l : List Peer} {self : Int} (h : peersOk l = true) (h0 : 0 ≤ self) (h1 : self < l.length) : chkL (liveP l self) self = 0 := by
  have hb := peers_len h
  unfold chkL
  rw [if_pos]
  simp only [Bool.and_eq_true]
  exact ⟨live_ok l 0 (-1) (by omega) (by omega) (by omega), List.contains_iff_mem.2 (live_self l 0 h0 (by omega))⟩
theorem nextN_lo (t : Int) (live : List Int) (self : Int) : -1 ≤ nextN t live self := by
  rcases next_cases t live self with h | h
  · omega
  · have := (near_dom h.1).2.1; omega
theorem w_cast_Next (self : Int) (n : Node) (t : Int) (hp : peersOk n.peers = true ∧ rng self 0 (n.peers.length - 1) = true ∧ isT t = true) (hg : Goods [I self, bb n.up, I n.inc, L n.peers, L n.topics, L n.calls, I n.pubs, I n.asks, L n.marks, L n.taken, I t]) : S_cast_Next ρ (I self) (bb n.up) (I n.inc) (L n.peers) (L n.topics) (L n.calls) (I n.pubs) (I n.asks) (L n.marks) (L n.taken) (I t) (· = [I (nextN t (liveP n.peers self) self)]) := by
  unfold S_cast_Next
  obtain ⟨h1, h2, h3⟩ := hp
  have hb := peers_len h1
  have hr := rng_bd h2
  have hpl : placeP n.peers self = 0 := by unfold placeP; rw [if_pos h1, if_pos (by omega)]
  have hc := live_chk h1 hr.1 (by omega)
  have ha : askedN t (liveP n.peers self) self = 0 := by unfold askedN; rw [if_pos hc, if_pos h3]
  simp (disch := first | omega | assumption | exact ⟨by first | assumption | omega, by first | assumption | omega⟩ | (simp only [List.length_cons, List.length_nil]; omega)) only [↓S0, ↓ITE_bool, S1, eq_self, if_true, if_false, true_implies, false_implies, implies_true, ↓c_view_Live, ↓c_route_Next, hpl, ha]
  simp
  refine ⟨fun h => ?_, fun h => ?_⟩
  · have := nextN_lo t (liveP n.peers self) self; omega
  · omega
theorem w_cast_near (self : Int) (n : Node) (t : Int) (hp : peersOk n.peers = true ∧ rng self 0 (n.peers.length - 1) = true ∧ isT t = true ∧ t < n.topics.length ∧ (topAt n t).kids.length ≤ 8 ∧ (topAt n t).parent ≤ 8 ∧ 0 ≤ (topAt n t).parent) (hg : Goods [I self, bb n.up, I n.inc, L n.peers, L n.topics, L n.calls, I n.pubs, I n.asks, L n.marks, L n.taken, I t]) : S_cast_near ρ (I self) (bb n.up) (I n.inc) (L n.peers) (L n.topics) (L n.calls) (I n.pubs) (I n.asks) (L n.marks) (L n.taken) (I t) (· = [L (nearL self n t)]) := by
  unfold S_cast_near
  obtain ⟨h1, h2, h3, h4, h5, h6, h7⟩ := hp
  have ht := isT_iff.1 h3
  obtain ⟨k, rfl⟩ := Int.eq_ofNat_of_zero_le ht.1
  obtain ⟨y, hy⟩ := get_ex (xs := n.topics) (i := k) (by omega)
  have hgd : topAt n k = y := by simp [topAt, List.getD_eq_getElem?_getD, hy]
  simp only [nearL, hgd] at h5 h6 h7 ⊢
  generalize hE : (y.kids.map Kid.node ++ [y.parent - 1] ++ (if y.kids = [] ∧ hasWay y = false then [nextN k (liveP n.peers self) self] else [])) = q
  simp (disch := first | omega | assumption | exact ⟨by first | assumption | omega, by first | assumption | omega⟩ | (simp only [List.length_cons, List.length_nil]; omega)) only [↓S0, ↓ITE_bool, S1, eq_self, if_true, if_false, true_implies, false_implies, implies_true, ↓c_graft_Has, ↓c_cast_Next, cell_L hy]
  refine LOOP.rule (α := Nat) (fun i => [I i, L ((y.kids.take i).map Kid.node)]) (fun i => i ≤ y.kids.length) (fun i => y.kids.length - i) 0 rfl (by omega) (fun _ => rfl) ?_
  intro i hl
  simp only [app]
  have hlt : ((y.kids.take i).map Kid.node).length ≤ 8 := by simp; omega
  simp (disch := first | omega | assumption | exact ⟨by first | assumption | omega, by first | assumption | omega⟩ | (simp only [List.length_cons, List.length_nil]; omega)) only [↓S0, ↓ITE_bool, S1, eq_self, if_true, if_false, true_implies, false_implies, implies_true, ↓c_graft_Has, ↓c_cast_Next]
  refine ⟨fun h => ?_, fun h => ?_⟩
  · obtain ⟨x, hx⟩ := get_ex h
    simp (disch := first | omega | assumption | exact ⟨by first | assumption | omega, by first | assumption | omega⟩ | (simp only [List.length_cons, List.length_nil]; omega)) only [↓S0, ↓ITE_bool, S1, eq_self, if_true, if_false, true_implies, false_implies, implies_true, ↓c_graft_Has, ↓c_cast_Next, cell_L hx]
    refine ⟨i + 1, ?_, by omega, by omega⟩
    show [PV.int .i64 _, _] = _
    rw [List.take_add_one, hx]; simp
  · have hi : i = y.kids.length := by omega
    subst hi
    rw [List.take_length] at hlt ⊢
    have hl2 : (y.kids.map Kid.node ++ [y.parent - 1]).length ≤ 9 := by simp; omega
    have hcn := And.intro h1 (And.intro h2 h3)
    refine ⟨fun h8 => ?_, fun h8 => ?_⟩
    · have h9 : y.kids = [] := List.eq_nil_of_length_eq_zero (by omega)
      refine ⟨fun h10 => ?_, fun h10 => ?_⟩
      · rw [if_pos ⟨h9, h10⟩] at hE; rw [← hE]
        simp (disch := first | omega | assumption | exact ⟨by first | assumption | omega, by first | assumption | omega⟩ | (simp only [List.length_cons, List.length_nil]; omega)) only [↓S0, ↓ITE_bool, S1, eq_self, if_true, if_false, true_implies, false_implies, implies_true, ↓c_graft_Has, ↓c_cast_Next]
      · rw [if_neg (by rw [h10]; simp)] at hE; rw [← hE]; simp
    · rw [if_neg (by rintro ⟨h, _⟩; apply h8; rw [h]; rfl)] at hE; rw [← hE]; simp
end Go.Xt
end
section
set_option linter.unusedSimpArgs false
set_option linter.unusedVariables false
set_option maxRecDepth 100000
namespace Go.Xt
theorem endCall_miss {c : Config} {n : Node} {t count who : Int} (h : n.calls.any (isCall t count) = false) : endCall c n t count who = n := by
  unfold endCall; rw [if_neg (by simp [h])]
theorem erase_cut {α : Type} {p : α → Bool} : ∀ {l : List α} {i : Nat} {x : α}, (l.take i).any p = false → l[i]? = some x → p x = true → l.eraseP p = cutL l i (i + 1) ∧ l.any p = true
  | [], _, _, _, h, _ => by simp at h
  | a :: r, 0, x, _, h, hp => by
    simp at h; subst h
    simp [List.eraseP_cons, hp, cutL]
  | a :: r, i + 1, x, h1, h, hp => by
    simp only [List.take_succ_cons, List.any_cons, Bool.or_eq_false_iff] at h1
    simp only [List.getElem?_cons_succ] at h
    obtain ⟨h2, h3⟩ := erase_cut h1.2 h hp
    refine ⟨?_, by simp [h3]⟩
    rw [List.eraseP_cons, h1.1, h2]; simp [cutL]
theorem endCall_hit {c : Config} {n : Node} {t count who : Int} {i k : Nat} {x : Call} {y : Topic} (h1 : (n.calls.take i).any (isCall t count) = false) (hx : n.calls[i]? = some x) (hp : isCall t count x = true) (ht : t = k) (hy : n.topics[k]? = some y) :
    endCall c n t count who = { n with calls := cutL n.calls i (i + 1), topics := n.topics.set k { y with queue := fitE y.queue c.queue (evCall count who) } } := by
  obtain ⟨h2, h3⟩ := erase_cut h1 hx hp
  subst ht
  unfold endCall
  rw [if_pos h3, h2]
  simp [putQ, List.getD_eq_getElem?_getD, hy]
theorem OP_rowMsg0 {k : PV → Prop} {a b d e f g h i j l m o p q : Int} : OP (.rows 16) [I a, I b, I d, I e, I f, I g, I h, I i, I j, I l, I m, I o, I p, I q, .list [], .list []] k = k (L [(⟨a, b, d, e, f, g, h, i, j, l, m, o, p, q, [], []⟩ : Msg)]) := OP_rowMsg (a_path := []) (a_todo := [])
theorem any_take {α : Type} {p : α → Bool} {l : List α} {i : Nat} {x : α} (h : (l.take i).any p = false) (hx : l[i]? = some x) (hp : p x = false) : (l.take (i + 1)).any p = false := by
  rw [List.take_add_one, hx]; simp [List.any_append, h, hp]
theorem todo_len {n : Node} {path : List Int} : ∀ (l a : List Int), (todoGo n path a l).length ≤ a.length + l.length
  | [], a => by simp [todoGo]
  | k :: r, a => by
    rw [todoGo]
    refine Nat.le_trans (todo_len r _) ?_
    split <;> simp <;> omega
theorem erase_not {α : Type} {p : α → Bool} {l : List α} (h : l.any p = false) : l.eraseP p = l :=
  List.eraseP_of_forall_not fun a ha hp => by
    have : l.any p = true := List.any_eq_true.2 ⟨a, ha, hp⟩
    rw [h] at this; cases this
theorem endCall_true {c : Config} {n : Node} {t count who : Int} {k : Nat} {y : Topic} (h : n.calls.any (isCall t count) = true) (ht : t = k) (hy : n.topics[k]? = some y) :
    endCall c n t count who = { n with calls := n.calls.eraseP (isCall t count), topics := n.topics.set k { y with queue := fitE y.queue c.queue (evCall count who) } } := by
  subst ht
  unfold endCall
  rw [if_pos h]
  simp [putQ, List.getD_eq_getElem?_getD, hy]
/-- what a visit asks of a node -/
structure DoesOk (self : Int) (n : Node) (t : Int) : Prop where
  ht : isT t = true
  hl : t < n.topics.length
  hp : peersOk n.peers = true
  hs : rng self 0 (n.peers.length - 1) = true
  hk : (topAt n t).kids.length ≤ 8
  h8 : (topAt n t).parent ≤ 8
  h0 : 0 ≤ (topAt n t).parent
  hc : n.calls.length ≤ 100
  hm : n.taken.length ≤ 100
  hq : (topAt n t).queue.length ≤ 1000
end Go.Xt
end
section
set_option linter.unusedSimpArgs false
set_option linter.unusedVariables false
set_option maxRecDepth 100000
namespace Go.Xt
/-! ### a right node's parts -/
structure NOk (c : Config) (me : Int) (n : Node) : Prop where
  inc : cnt n.inc = true
  pubs : rng n.pubs 0 1073741824 = true
  asks : rng n.asks 0 40 = true
  calls : callsGo c n.asks 0 n.calls = true
  cl : n.calls.length ≤ 40
  pl : (n.peers.length : Int) = c.nodes
  tl : (n.topics.length : Int) = c.topics
  ml : (n.marks.length : Int) = c.nodes
  kl : n.taken.length ≤ 64
  tops : topicsGo c me 0 n.topics = true
  peers : peersOk n.peers = true
  marks : n.marks.all markOk = true
  taken : n.taken.all (takenOk c) = true
theorem nodeOk_iff {c : Config} {self : Int} {n : Node} : nodeOk c self n = true ↔ NOk c self n := by
  constructor
  · intro h
    simp only [nodeOk, Bool.and_eq_true, decide_eq_true_eq] at h
    obtain ⟨⟨⟨⟨⟨⟨⟨⟨⟨⟨⟨⟨a, b⟩, d⟩, e⟩, f⟩, g⟩, i⟩, j⟩, k⟩, l⟩, m⟩, o⟩, p⟩ := h
    exact ⟨a, b, d, e, f, g, i, j, k, l, m, o, p⟩
  · rintro ⟨a, b, d, e, f, g, i, j, k, l, m, o, p⟩
    simp only [nodeOk, Bool.and_eq_true, decide_eq_true_eq]
    exact ⟨⟨⟨⟨⟨⟨⟨⟨⟨⟨⟨⟨a, b⟩, d⟩, e⟩, f⟩, g⟩, i⟩, j⟩, k⟩, l⟩, m⟩, o⟩, p⟩
theorem why_zero {c : Config} {self : Int} {n : Node} (h : nodeWhy c self n = 0) : cfgOk c = true ∧ rng self 0 (c.nodes - 1) = true ∧ n.up = true ∧ NOk c self n := by
  unfold nodeWhy at h
  split at h
  · split at h
    · split at h
      · rename_i h1 h2 h3
        rw [Bool.and_eq_true] at h2
        exact ⟨h1, h2.1, h2.2, nodeOk_iff.1 h3⟩
      · omega
    · omega
  · omega
theorem why_of {c : Config} {self : Int} {n : Node} (h1 : cfgOk c = true) (h2 : rng self 0 (c.nodes - 1) = true) (h3 : n.up = true) (h4 : NOk c self n) : nodeWhy c self n = 0 := by
  unfold nodeWhy; rw [if_pos h1, if_pos (by simp [h2, h3]), if_pos (nodeOk_iff.2 h4)]
theorem tops_get {c : Config} {self : Int} : ∀ {l : List Topic} {t : Int} {k : Nat} {x : Topic}, topicsGo c self t l = true → l[k]? = some x → topicOk c (t + k) self x = true
  | [], _, _, _, _, h => by simp at h
  | y :: r, t, 0, x, h, hx => by
    rw [topicsGo, Bool.and_eq_true] at h
    simp at hx; subst hx; simpa using h.1
  | y :: r, t, k + 1, x, h, hx => by
    rw [topicsGo, Bool.and_eq_true] at h
    have := tops_get (k := k) (x := x) h.2 (by simpa using hx)
    rw [show t + 1 + (k : Int) = t + ((k + 1 : Nat) : Int) by omega] at this; exact this
theorem tops_set {c : Config} {self : Int} : ∀ {l : List Topic} {t : Int} {k : Nat} {x : Topic}, topicsGo c self t l = true → topicOk c (t + k) self x = true → topicsGo c self t (l.set k x) = true
  | [], _, _, _, _, h => rfl
  | y :: r, t, 0, x, h, hx => by
    rw [topicsGo, Bool.and_eq_true] at h
    rw [List.set_cons_zero, topicsGo, Bool.and_eq_true]
    exact ⟨by simpa using hx, h.2⟩
  | y :: r, t, k + 1, x, h, hx => by
    rw [topicsGo, Bool.and_eq_true] at h
    rw [List.set_cons_succ, topicsGo, Bool.and_eq_true]
    exact ⟨h.1, tops_set h.2 (by rw [show t + 1 + (k : Int) = t + ((k + 1 : Nat) : Int) by omega]; exact hx)⟩
theorem chk_len {t n c : Int} {xs : List Int} (h : chk t n xs c = 0) : (xs.length : Int) ≤ c := by
  unfold chk at h
  split at h
  · split at h
    · omega
    · omega
  · omega
structure TBd (c : Config) (x : Topic) : Prop where
  path : x.path.length ≤ 8
  kids : x.kids.length ≤ 4
  kept : x.stream.kept.length ≤ 16
  ahead : x.stream.ahead.length ≤ 16
  queue : x.queue.length ≤ 32
theorem topic_sz {c : Config} {t self : Int} {x : Topic} (hc : cfgOk c = true) (h : topicOk c t self x = true) : TBd c x ∧ 0 ≤ x.parent ∧ x.parent ≤ 8 := by
  have hb := cfg_bd hc
  have hf := topic_full hc h
  simp only [fullT, Bool.or_eq_false_iff, decide_eq_false_iff_not] at hf
  obtain ⟨⟨⟨f1, f2⟩, f3⟩, f4⟩ := hf
  simp only [topicOk, Bool.and_eq_true, decide_eq_true_eq] at h
  have hp := chk_len h.1.1.2
  have hl := link_bd h.1.1.1.1.1.1.1.2
  exact ⟨⟨by omega, by omega, by omega, by omega, by omega⟩, hl⟩
theorem topic_light {c : Config} {t self : Int} {x : Topic} (hc : cfgOk c = true) (h : topicOk c t self x = true) : heavy19 x = false := by
  obtain ⟨⟨a, b, d, e, f⟩, _⟩ := topic_sz hc h
  simp [heavy19, heavy18]; omega
theorem node_light {c : Config} {self : Int} {n : Node} (hc : cfgOk c = true) (h : NOk c self n) {k : Nat} {x : Topic} (hx : n.topics[k]? = some x) : heavy19 x = false :=
  topic_light hc (tops_get h.tops hx)
theorem does_of {c : Config} {self : Int} {n m : Node} {t : Int} (hc : cfgOk c = true) (hs : rng self 0 (c.nodes - 1) = true) (h : NOk c self n) (ht : rng t 0 (c.topics - 1) = true) (e1 : m.topics = n.topics) (e2 : m.peers = n.peers) (e3 : m.calls.length ≤ 100) (e4 : m.taken.length ≤ 100) : DoesOk self m t := by
  have hb := cfg_bd hc
  have h1 := rng_bd ht; have h2 := rng_bd hs
  obtain ⟨k, rfl⟩ := Int.eq_ofNat_of_zero_le h1.1
  have htl := h.tl
  obtain ⟨x, hx⟩ := get_ex (xs := n.topics) (i := k) (by omega)
  have hgd : topAt m k = x := by simp [topAt, e1, List.getD_eq_getElem?_getD, hx]
  obtain ⟨⟨a, b, d, e, f⟩, g, g2⟩ := topic_sz hc (tops_get h.tops hx)
  refine ⟨isT_iff.2 (by omega), by rw [e1]; omega, by rw [e2]; exact h.peers, by rw [e2, h.pl]; exact hs, by rw [hgd]; omega, by rw [hgd]; omega, by rw [hgd]; omega, e3, e4, by rw [hgd]; omega⟩
/-! ### bits -/
theorem OP_shr {a b : Int} {k : PV → Prop} (h0 : 0 ≤ b) (h1 : b ≤ 62) : OP (.bin .shr) [I a, I b] k = k (I (a / 2 ^ b.toNat)) := OP_of (by
  have h2 : ¬ b < 0 := by omega
  have h3 : min b.toNat 64 = b.toNat := by omega
  simp [ev, evBin, h2, IntKind.bits, h3]
  rw [Int.fdiv_eq_ediv_of_nonneg]
  exact Int.le_of_lt (Int.pow_pos (by decide)))
theorem ofInt_nat (m : Nat) : BitVec.ofInt 64 (m : Int) = BitVec.ofNat 64 m := by simp
theorem OP_and1 {a : Int} {k : PV → Prop} (h0 : 0 ≤ a) : OP (.bin .and) [I a, I 1] k = k (I (a % 2)) := OP_of (by
  obtain ⟨m, rfl⟩ := Int.eq_ofNat_of_zero_le h0
  have e : (BitVec.ofInt 64 (m : Int) &&& BitVec.ofInt 64 (1 : Int)).toNat = m % 2 := by
    rw [BitVec.toNat_and, ofInt_nat, show BitVec.ofInt 64 (1 : Int) = BitVec.ofNat 64 1 from rfl, BitVec.toNat_ofNat, BitVec.toNat_ofNat, show 1 % 2 ^ 64 = 1 from rfl, Nat.and_one_is_mod]
    omega
  show some (PV.int .i64 (IntKind.i64.wrap ((BitVec.ofInt 64 (m : Int) &&& BitVec.ofInt 64 (1 : Int)).toNat : Int))) = _
  rw [e, wr (by omega) (by omega)]; simp)
theorem or_pow {m b : Nat} (h : m / 2 ^ b % 2 = 0) : m ||| 2 ^ b = m + 2 ^ b := by
  have e1 : m = 2 ^ (b + 1) * (m / 2 ^ (b + 1)) + m % 2 ^ b := by
    have h1 := Nat.div_add_mod m (2 ^ (b + 1))
    have h2 : m % 2 ^ (b + 1) = m % 2 ^ b := by
      rw [Nat.mod_pow_succ, h]; omega
    rw [h2] at h1; exact h1.symm
  have h3 : m % 2 ^ b < 2 ^ b := Nat.mod_lt _ (Nat.two_pow_pos b)
  have h4 : 2 ^ b + m % 2 ^ b < 2 ^ (b + 1) := by rw [Nat.pow_succ]; omega
  have e2 : 2 ^ b + m % 2 ^ b = 2 ^ b ||| m % 2 ^ b := by
    have := Nat.two_pow_add_eq_or_of_lt h3 1
    rwa [Nat.mul_one] at this
  have e3 := Nat.two_pow_add_eq_or_of_lt h4 (m / 2 ^ (b + 1))
  have e4 := Nat.two_pow_add_eq_or_of_lt (show m % 2 ^ b < 2 ^ (b + 1) by omega) (m / 2 ^ (b + 1))
  rw [← e1] at e4
  have e5 : m ||| 2 ^ b = 2 ^ (b + 1) * (m / 2 ^ (b + 1)) ||| (2 ^ b + m % 2 ^ b) := by
    rw [e2]
    conv => lhs; rw [e4]
    rw [Nat.or_assoc, Nat.or_comm (m % 2 ^ b)]
  rw [e5, ← e3]; omega
theorem OP_or_pow {a b : Int} {k : PV → Prop} (h0 : 0 ≤ a) (h1 : a < 4611686018427387904) (h2 : 0 ≤ b) (h3 : b ≤ 61) (h : a / 2 ^ b.toNat % 2 = 0) : OP (.bin .or) [I a, I (2 ^ b.toNat)] k = k (I (a + 2 ^ b.toNat)) := OP_of (by
  obtain ⟨m, rfl⟩ := Int.eq_ofNat_of_zero_le h0
  obtain ⟨d, rfl⟩ := Int.eq_ofNat_of_zero_le h2
  simp only [Int.toNat_natCast] at h ⊢
  have e0 : ((2 : Int) ^ d) = ((2 ^ d : Nat) : Int) := (Int.natCast_pow 2 d).symm
  have h4 : m / 2 ^ d % 2 = 0 := by
    rw [e0] at h
    have : ((m / 2 ^ d % 2 : Nat) : Int) = 0 := by rw [Int.natCast_emod, Int.natCast_ediv]; exact h
    omega
  have h5 : 2 ^ d ≤ 2305843009213693952 := Nat.pow_le_pow_right (n := 2) (show 0 < 2 by decide) (show d ≤ 61 by omega)
  have e : (BitVec.ofInt 64 (m : Int) ||| BitVec.ofInt 64 ((2 ^ d : Nat) : Int)).toNat = m + 2 ^ d := by
    rw [BitVec.toNat_or, ofInt_nat, ofInt_nat, BitVec.toNat_ofNat, BitVec.toNat_ofNat, Nat.mod_eq_of_lt (by omega), Nat.mod_eq_of_lt (by omega), or_pow h4]
  rw [e0]
  show some (PV.int .i64 (IntKind.i64.wrap ((BitVec.ofInt 64 (m : Int) ||| BitVec.ofInt 64 ((2 ^ d : Nat) : Int)).toNat : Int))) = _
  rw [e, wr (by omega) (by omega)]; simp)
end Go.Xt
end
section
set_option linter.unusedSimpArgs false
set_option linter.unusedVariables false
set_option maxRecDepth 100000
namespace Go.Xt
theorem set_same {α : Type} {l : List α} {k : Nat} {x : α} (h : l[k]? = some x) : l.set k x = l := by
  obtain ⟨h1, h2⟩ := List.getElem?_eq_some_iff.1 h
  rw [← h2]; exact List.set_getElem_self h1
theorem mark_bd {n : Node} {k : Nat} {y : Mark} (h : n.marks.all markOk = true) (hy : n.marks[k]? = some y) : 0 ≤ y.met ∧ y.met ≤ 2199023255551 := by
  rw [List.all_eq_true] at h
  have := h y (List.mem_of_getElem? hy)
  simp only [markOk, Bool.and_eq_true] at this
  exact rng_bd this.2
theorem w_cast_Begin (c : Config) (self : Int) (n : Node) (t : Int) (value : Int) (hg : Goods [I c.nodes, I c.topics, I c.kids, I c.depth, I c.keep, I c.window, I c.queue, I self, bb n.up, I n.inc, L n.peers, L n.topics, L n.calls, I n.pubs, I n.asks, L n.marks, L n.taken, I t, I value]) : S_cast_Begin ρ (I c.nodes) (I c.topics) (I c.kids) (I c.depth) (I c.keep) (I c.window) (I c.queue) (I self) (bb n.up) (I n.inc) (L n.peers) (L n.topics) (L n.calls) (I n.pubs) (I n.asks) (L n.marks) (L n.taken) (I t) (I value) (· = [bb (beginN c self n t value).1.up, I (beginN c self n t value).1.inc, L (beginN c self n t value).1.peers, L (beginN c self n t value).1.topics, L (beginN c self n t value).1.calls, I (beginN c self n t value).1.pubs, I (beginN c self n t value).1.asks, L (beginN c self n t value).1.marks, L (beginN c self n t value).1.taken, L (beginN c self n t value).2.1, I (beginN c self n t value).2.2.1, I (beginN c self n t value).2.2.2]) := by
  unfold S_cast_Begin
  simp only [Goods, good_L] at hg
  generalize hE : beginN c self n t value = q
  unfold beginN at hE
  simp (disch := first | omega | assumption | exact ⟨by first | assumption | omega, by first | assumption | omega⟩ | (simp only [List.length_cons, List.length_nil]; omega)) only [↓S0, ↓ITE_bool, S1, eq_self, if_true, if_false, true_implies, false_implies, implies_true, ↓c_cast_Check, ↓c_cast_in, ↓c_msg_Value, ↓c_slices_Contains_int_int, ↓c_graft_Twin, ↓c_slices_Clone_api_Peer_api_Peer, ↓c_slices_Clone_api_Call_api_Call, ↓c_slices_Clone_api_Mark_api_Mark, ↓c_slices_Clone_api_Mark2_api_Mark2, ↓c_slices_Clone_int_int, ↓c_cast_near, ↓c_cast_Heed, ↓c_slices_Delete_api_Call_api_Call, ↓c_queue_Fit]
  refine ⟨fun hw => ?_, fun hw => ?_⟩
  · rw [if_neg hw] at hE; rw [← hE]; rfl
  rw [if_pos hw] at hE
  obtain ⟨hc, hsr, hu, H⟩ := why_zero hw
  have hb := cfg_bd hc
  have hsb := rng_bd hsr
  refine SUB.v1 (bb (!(rng t 0 (c.topics - 1) && val value))) ?_ ?_
  · repeat' (first | apply And.intro | intro _ | simp (disch := first | omega | assumption | exact ⟨by first | assumption | omega, by first | assumption | omega⟩ | (simp only [List.length_cons, List.length_nil]; omega)) only [↓S0, ↓ITE_bool, S1, eq_self, if_true, if_false, true_implies, false_implies, implies_true, ↓c_cast_Check, ↓c_cast_in, ↓c_msg_Value, ↓c_slices_Contains_int_int, ↓c_graft_Twin, ↓c_slices_Clone_api_Peer_api_Peer, ↓c_slices_Clone_api_Call_api_Call, ↓c_slices_Clone_api_Mark_api_Mark, ↓c_slices_Clone_api_Mark2_api_Mark2, ↓c_slices_Clone_int_int, ↓c_cast_near, ↓c_cast_Heed, ↓c_slices_Delete_api_Call_api_Call, ↓c_queue_Fit])
    all_goals simp [*]
  cases htv : (rng t 0 (c.topics - 1) && val value)
  · simp (disch := first | omega | assumption | exact ⟨by first | assumption | omega, by first | assumption | omega⟩ | (simp only [List.length_cons, List.length_nil]; omega)) only [↓S0, ↓ITE_bool, S1, eq_self, if_true, if_false, true_implies, false_implies, implies_true, ↓c_cast_Check, ↓c_cast_in, ↓c_msg_Value, ↓c_slices_Contains_int_int, ↓c_graft_Twin, ↓c_slices_Clone_api_Peer_api_Peer, ↓c_slices_Clone_api_Call_api_Call, ↓c_slices_Clone_api_Mark_api_Mark, ↓c_slices_Clone_api_Mark2_api_Mark2, ↓c_slices_Clone_int_int, ↓c_cast_near, ↓c_cast_Heed, ↓c_slices_Delete_api_Call_api_Call, ↓c_queue_Fit]
    rw [htv, if_neg (by simp)] at hE; rw [← hE]; rfl
  rw [if_pos htv] at hE
  rw [Bool.and_eq_true] at htv
  simp (disch := first | omega | assumption | exact ⟨by first | assumption | omega, by first | assumption | omega⟩ | (simp only [List.length_cons, List.length_nil]; omega)) only [↓S0, ↓ITE_bool, S1, eq_self, if_true, if_false, true_implies, false_implies, implies_true, ↓c_cast_Check, ↓c_cast_in, ↓c_msg_Value, ↓c_slices_Contains_int_int, ↓c_graft_Twin, ↓c_slices_Clone_api_Peer_api_Peer, ↓c_slices_Clone_api_Call_api_Call, ↓c_slices_Clone_api_Mark_api_Mark, ↓c_slices_Clone_api_Mark2_api_Mark2, ↓c_slices_Clone_int_int, ↓c_cast_near, ↓c_cast_Heed, ↓c_slices_Delete_api_Call_api_Call, ↓c_queue_Fit]
  refine ⟨fun ha => ?_, fun ha => ?_⟩
  · rw [if_neg (by omega)] at hE; rw [← hE]; rfl
  rw [if_pos (by omega)] at hE
  have hab := rng_bd H.asks
  have hpl := H.pl; have hml := H.ml; have hkl := H.kl; have hcl := H.cl
  have htl := H.tl
  refine SUB.val [L n.taken, L n.marks, L n.calls, L n.peers, L n.topics] rfl ?_ ?_
  · refine LOOP.rule (α := Nat) (fun i => [I i, L (n.topics.take i)]) (fun i => i ≤ n.topics.length) (fun i => n.topics.length - i) 0 rfl (by omega) (fun _ => rfl) ?_
    intro i hl
    simp only [app]
    simp (disch := first | omega | assumption | exact ⟨by first | assumption | omega, by first | assumption | omega⟩ | (simp only [List.length_cons, List.length_nil]; omega)) only [↓S0, ↓ITE_bool, S1, eq_self, if_true, if_false, true_implies, false_implies, implies_true, ↓c_cast_Check, ↓c_cast_in, ↓c_msg_Value, ↓c_slices_Contains_int_int, ↓c_graft_Twin, ↓c_slices_Clone_api_Peer_api_Peer, ↓c_slices_Clone_api_Call_api_Call, ↓c_slices_Clone_api_Mark_api_Mark, ↓c_slices_Clone_api_Mark2_api_Mark2, ↓c_slices_Clone_int_int, ↓c_cast_near, ↓c_cast_Heed, ↓c_slices_Delete_api_Call_api_Call, ↓c_queue_Fit]
    refine ⟨fun hcc => ?_, fun hcc => ?_⟩
    · obtain ⟨x, hx⟩ := get_ex hcc
      have hx9 := node_light hc H hx
      have hlt : (n.topics.take i).length = i := by simp; omega
      simp (disch := first | omega | assumption | exact ⟨by first | assumption | omega, by first | assumption | omega⟩ | (simp only [List.length_cons, List.length_nil]; omega)) only [↓S0, ↓ITE_bool, S1, eq_self, if_true, if_false, true_implies, false_implies, implies_true, ↓c_cast_Check, ↓c_cast_in, ↓c_msg_Value, ↓c_slices_Contains_int_int, ↓c_graft_Twin, ↓c_slices_Clone_api_Peer_api_Peer, ↓c_slices_Clone_api_Call_api_Call, ↓c_slices_Clone_api_Mark_api_Mark, ↓c_slices_Clone_api_Mark2_api_Mark2, ↓c_slices_Clone_int_int, ↓c_cast_near, ↓c_cast_Heed, ↓c_slices_Delete_api_Call_api_Call, ↓c_queue_Fit, cell_L hx]
      exact ⟨i + 1, by simp [take_one hx], by omega, by omega⟩
    rw [List.take_of_length_le (by omega)]
  simp only [app]
  simp (disch := first | omega | assumption | exact ⟨by first | assumption | omega, by first | assumption | omega⟩ | (simp only [List.length_cons, List.length_nil]; omega)) only [↓S0, ↓ITE_bool, S1, eq_self, if_true, if_false, true_implies, false_implies, implies_true, ↓c_cast_Check, ↓c_cast_in, ↓c_msg_Value, ↓c_slices_Contains_int_int, ↓c_graft_Twin, ↓c_slices_Clone_api_Peer_api_Peer, ↓c_slices_Clone_api_Call_api_Call, ↓c_slices_Clone_api_Mark_api_Mark, ↓c_slices_Clone_api_Mark2_api_Mark2, ↓c_slices_Clone_int_int, ↓c_cast_near, ↓c_cast_Heed, ↓c_slices_Delete_api_Call_api_Call, ↓c_queue_Fit]
  rw [show L [(⟨n.asks + 1, t, 0⟩ : Kid)] = L [(⟨n.asks + 1, t, 0⟩ : Call)] from rfl]
  simp (disch := first | omega | assumption | exact ⟨by first | assumption | omega, by first | assumption | omega⟩ | (simp only [List.length_cons, List.length_nil]; omega)) only [↓S0, ↓ITE_bool, S1, eq_self, if_true, if_false, true_implies, false_implies, implies_true, ↓c_cast_Check, ↓c_cast_in, ↓c_msg_Value, ↓c_slices_Contains_int_int, ↓c_graft_Twin, ↓c_slices_Clone_api_Peer_api_Peer, ↓c_slices_Clone_api_Call_api_Call, ↓c_slices_Clone_api_Mark_api_Mark, ↓c_slices_Clone_api_Mark2_api_Mark2, ↓c_slices_Clone_int_int, ↓c_cast_near, ↓c_cast_Heed, ↓c_slices_Delete_api_Call_api_Call, ↓c_queue_Fit]
  obtain ⟨s, hk⟩ := Int.eq_ofNat_of_zero_le hsb.1
  subst hk
  obtain ⟨mk, hmk⟩ := get_ex (xs := n.marks) (i := s) (by omega)
  have hmd : n.marks.getD s mark0 = mk := by simp [List.getD_eq_getElem?_getD, hmk]
  have hmb := mark_bd H.marks hmk
  have hml2 : meetL n.marks s n.inc (n.asks + 1) = if meets n.marks s n.inc (n.asks + 1) = true then n.marks.set s { newer mk n.inc with met := (newer mk n.inc).met + 2 ^ (n.asks + 1).toNat } else n.marks := by
    unfold meetL; rw [Int.toNat_natCast, hmd]
  have hme : meets n.marks s n.inc (n.asks + 1) = (decide (mk.inc ≤ n.inc) && !metYet (newer mk n.inc) (n.asks + 1)) := by unfold meets; rw [Int.toNat_natCast, hmd]
  refine SUB.v2 (bb (meets n.marks s n.inc (n.asks + 1))) (L (meetL n.marks s n.inc (n.asks + 1))) ?_ ?_
  · rw [hml2, hme]
    simp (disch := first | omega | assumption | exact ⟨by first | assumption | omega, by first | assumption | omega⟩ | (simp only [List.length_cons, List.length_nil]; omega)) only [↓S0, ↓ITE_bool, S1, eq_self, if_true, if_false, true_implies, false_implies, implies_true, ↓c_cast_Check, ↓c_cast_in, ↓c_msg_Value, ↓c_slices_Contains_int_int, ↓c_graft_Twin, ↓c_slices_Clone_api_Peer_api_Peer, ↓c_slices_Clone_api_Call_api_Call, ↓c_slices_Clone_api_Mark_api_Mark, ↓c_slices_Clone_api_Mark2_api_Mark2, ↓c_slices_Clone_int_int, ↓c_cast_near, ↓c_cast_Heed, ↓c_slices_Delete_api_Call_api_Call, ↓c_queue_Fit, cell_L hmk]
    refine ⟨fun hgt => ?_, fun hle => ⟨fun hlt => ?_, fun hge => ?_⟩⟩
    · have e : decide (mk.inc ≤ n.inc) = false := by simp; omega
      simp [e]
    · have e : newer mk n.inc = ⟨n.inc, 0, 0⟩ := by unfold newer; rw [if_pos hlt]
      have hsz := (List.getElem?_eq_some_iff.1 hmk).1
      have h1 : (n.marks.set s ⟨n.inc, mk.pubs, mk.met⟩)[s]? = some ⟨n.inc, mk.pubs, mk.met⟩ := by simp [hsz]
      have h2 : ((n.marks.set s ⟨n.inc, mk.pubs, mk.met⟩).set s ⟨n.inc, 0, mk.met⟩)[s]? = some ⟨n.inc, 0, mk.met⟩ := by simp [hsz]
      have h3 : (n.marks.set s ⟨n.inc, 0, 0⟩)[s]? = some ⟨n.inc, 0, 0⟩ := by simp [hsz]
      rw [OP_set hmk (y := ⟨n.inc, mk.pubs, mk.met⟩) rfl, OP_set h1 (y := ⟨n.inc, 0, mk.met⟩) rfl, OP_set h2 (y := ⟨n.inc, 0, 0⟩) rfl, List.set_set, List.set_set, e]
      simp (disch := first | omega | assumption | exact ⟨by first | assumption | omega, by first | assumption | omega⟩ | (simp only [List.length_cons, List.length_nil]; omega)) only [↓S0, ↓ITE_bool, S1, eq_self, if_true, if_false, true_implies, false_implies, implies_true, ↓c_cast_Check, ↓c_cast_in, ↓c_msg_Value, ↓c_slices_Contains_int_int, ↓c_graft_Twin, ↓c_slices_Clone_api_Peer_api_Peer, ↓c_slices_Clone_api_Call_api_Call, ↓c_slices_Clone_api_Mark_api_Mark, ↓c_slices_Clone_api_Mark2_api_Mark2, ↓c_slices_Clone_int_int, ↓c_cast_near, ↓c_cast_Heed, ↓c_slices_Delete_api_Call_api_Call, ↓c_queue_Fit, cell_L h3]
      rw [OP_shr (by omega) (by omega), OP_and1 (Int.ediv_nonneg (by decide) (Int.le_of_lt (Int.pow_pos (by decide))))]
      simp (disch := first | omega | assumption | exact ⟨by first | assumption | omega, by first | assumption | omega⟩ | (simp only [List.length_cons, List.length_nil]; omega)) only [↓S0, ↓ITE_bool, S1, eq_self, if_true, if_false, true_implies, false_implies, implies_true, ↓c_cast_Check, ↓c_cast_in, ↓c_msg_Value, ↓c_slices_Contains_int_int, ↓c_graft_Twin, ↓c_slices_Clone_api_Peer_api_Peer, ↓c_slices_Clone_api_Call_api_Call, ↓c_slices_Clone_api_Mark_api_Mark, ↓c_slices_Clone_api_Mark2_api_Mark2, ↓c_slices_Clone_int_int, ↓c_cast_near, ↓c_cast_Heed, ↓c_slices_Delete_api_Call_api_Call, ↓c_queue_Fit]
      have hz : (0 : Int) / 2 ^ (n.asks + 1).toNat % 2 = 0 := by simp
      refine ⟨fun hm => by rw [hz] at hm; omega, fun hm => ?_⟩
      rw [OP_shl (by omega) (by omega), OP_or_pow (by omega) (by omega) (by omega) (by omega) hz, OP_set h3 (y := ⟨n.inc, 0, 0 + 2 ^ (n.asks + 1).toNat⟩) rfl, List.set_set]
      have e5 : decide (mk.inc ≤ n.inc) = true := by simp; omega
      simp [e5, metYet]
    · have e : newer mk n.inc = mk := by unfold newer; rw [if_neg hge]
      rw [OP_shr (by omega) (by omega), OP_and1 (Int.ediv_nonneg hmb.1 (Int.le_of_lt (Int.pow_pos (by decide)))), e]
      simp (disch := first | omega | assumption | exact ⟨by first | assumption | omega, by first | assumption | omega⟩ | (simp only [List.length_cons, List.length_nil]; omega)) only [↓S0, ↓ITE_bool, S1, eq_self, if_true, if_false, true_implies, false_implies, implies_true, ↓c_cast_Check, ↓c_cast_in, ↓c_msg_Value, ↓c_slices_Contains_int_int, ↓c_graft_Twin, ↓c_slices_Clone_api_Peer_api_Peer, ↓c_slices_Clone_api_Call_api_Call, ↓c_slices_Clone_api_Mark_api_Mark, ↓c_slices_Clone_api_Mark2_api_Mark2, ↓c_slices_Clone_int_int, ↓c_cast_near, ↓c_cast_Heed, ↓c_slices_Delete_api_Call_api_Call, ↓c_queue_Fit]
      have e5 : decide (mk.inc ≤ n.inc) = true := by simp; omega
      refine ⟨fun hm => by simp [e5, metYet, hm], fun hm => ?_⟩
      have h0 : mk.met / 2 ^ (n.asks + 1).toNat % 2 = 0 := by omega
      rw [OP_shl (by omega) (by omega), OP_or_pow hmb.1 (by omega) (by omega) (by omega) h0, OP_set hmk (y := { mk with met := mk.met + 2 ^ (n.asks + 1).toNat }) rfl]
      simp [e5, metYet, hm]
  have hcl2 : (n.calls ++ [(⟨n.asks + 1, t, 0⟩ : Call)]).length ≤ 100 := by simp; omega
  have HD : DoesOk (s : Int) (⟨n.up, n.inc, n.peers, n.topics, n.calls ++ [⟨n.asks + 1, t, 0⟩], n.pubs, n.asks + 1, meetL n.marks s n.inc (n.asks + 1), n.taken⟩ : Node) t := does_of hc hsr H htv.1 rfl rfl hcl2 (by show n.taken.length ≤ 100; omega)
  dsimp only at hE
  generalize n.calls ++ [(⟨n.asks + 1, t, 0⟩ : Call)] = calls at hE HD ⊢
  generalize hcnt : n.asks + 1 = cnt at hE HD ⊢
  generalize meetL n.marks s n.inc cnt = marks at hE HD ⊢
  obtain ⟨h1, h2, h3, h4, h5, h6, h7, h8, h9, h10⟩ := HD
  have hbt := isT_iff.1 h1
  have hs := rng_bd h4
  obtain ⟨k, rfl⟩ := Int.eq_ofNat_of_zero_le hbt.1
  obtain ⟨y, hy⟩ := get_ex (xs := n.topics) (i := k) (by omega)
  have hgd : ∀ (a : Bool) (b : Int) (d : List Peer) (e : List Call) (f g : Int) (i : List Mark) (j : List Mark2), topAt (⟨a, b, d, n.topics, e, f, g, i, j⟩ : Node) k = y := by intros; simp [topAt, List.getD_eq_getElem?_getD, hy]
  have hbc : (calls.length : Int) ≤ 100 := by have := h8; dsimp only at this; omega
  rw [hgd] at h5 h6 h7 h10
  dsimp only at h2 h3 h4 h9
  generalize hr : visitN c s (⟨n.up, n.inc, n.peers, n.topics, calls, n.pubs, cnt, marks, n.taken⟩ : Node) { msg0 with topic := (k : Int), node := (s : Int), inc := n.inc, count := cnt, value := value } = r at hE
  have hQ : [bb r.1.up, I r.1.inc, L r.1.peers, L r.1.topics, L r.1.calls, I r.1.pubs, I r.1.asks, L r.1.marks, L r.1.taken, L r.2, I cnt, I 0] = [bb q.fst.up, I q.fst.inc, L q.fst.peers, L q.fst.topics, L q.fst.calls, I q.fst.pubs, I q.fst.asks, L q.fst.marks, L q.fst.taken, L q.snd.fst, I q.snd.snd.fst, I q.snd.snd.snd] := by rw [← hE]
  clear hE
  generalize [bb q.fst.up, I q.fst.inc, L q.fst.peers, L q.fst.topics, L q.fst.calls, I q.fst.pubs, I q.fst.asks, L q.fst.marks, L q.fst.taken, L q.snd.fst, I q.snd.snd.fst, I q.snd.snd.snd] = z at hQ ⊢
  simp only [visitN, msg0, hgd, List.nil_append] at hr
  cases hsub : y.sub
  · simp (disch := first | omega | assumption | exact ⟨by first | assumption | omega, by first | assumption | omega⟩ | (simp only [List.length_cons, List.length_nil]; omega)) only [↓S0, ↓ITE_bool, S1, eq_self, if_true, if_false, true_implies, false_implies, implies_true, ↓c_cast_Check, ↓c_cast_in, ↓c_msg_Value, ↓c_slices_Contains_int_int, ↓c_graft_Twin, ↓c_slices_Clone_api_Peer_api_Peer, ↓c_slices_Clone_api_Call_api_Call, ↓c_slices_Clone_api_Mark_api_Mark, ↓c_slices_Clone_api_Mark2_api_Mark2, ↓c_slices_Clone_int_int, ↓c_cast_near, ↓c_cast_Heed, ↓c_slices_Delete_api_Call_api_Call, ↓c_queue_Fit, cell_L hy, hsub]
    simp only [hsub, Bool.false_eq_true, if_false] at hr
    refine SUB.v3 (L ([] : List Int)) (L [(s : Int)]) (L [(s : Int)]) ?_ ?_
    · simp (disch := first | omega | assumption | exact ⟨by first | assumption | omega, by first | assumption | omega⟩ | (simp only [List.length_cons, List.length_nil]; omega)) only [↓S0, ↓ITE_bool, S1, eq_self, if_true, if_false, true_implies, false_implies, implies_true, ↓c_cast_Check, ↓c_cast_in, ↓c_msg_Value, ↓c_slices_Contains_int_int, ↓c_graft_Twin, ↓c_slices_Clone_api_Peer_api_Peer, ↓c_slices_Clone_api_Call_api_Call, ↓c_slices_Clone_api_Mark_api_Mark, ↓c_slices_Clone_api_Mark2_api_Mark2, ↓c_slices_Clone_int_int, ↓c_cast_near, ↓c_cast_Heed, ↓c_slices_Delete_api_Call_api_Call, ↓c_queue_Fit, List.nil_append]
    have hcn : peersOk (⟨n.up, n.inc, n.peers, n.topics, calls, n.pubs, cnt, marks, n.taken⟩ : Node).peers = true ∧ rng (s : Int) 0 (n.peers.length - 1) = true ∧ isT (k : Int) = true ∧ (k : Int) < n.topics.length ∧ (topAt (⟨n.up, n.inc, n.peers, n.topics, calls, n.pubs, cnt, marks, n.taken⟩ : Node) k).kids.length ≤ 8 ∧ (topAt (⟨n.up, n.inc, n.peers, n.topics, calls, n.pubs, cnt, marks, n.taken⟩ : Node) k).parent ≤ 8 ∧ 0 ≤ (topAt (⟨n.up, n.inc, n.peers, n.topics, calls, n.pubs, cnt, marks, n.taken⟩ : Node) k).parent :=
      ⟨h3, h4, h1, h2, by rw [hgd]; exact h5, by rw [hgd]; exact h6, by rw [hgd]; exact h7⟩
    have hnl : (nearL s (⟨n.up, n.inc, n.peers, n.topics, calls, n.pubs, cnt, marks, n.taken⟩ : Node) k).length ≤ 10 := by
      simp only [nearL, hgd, List.length_append, List.length_map, List.length_singleton]
      split <;> simp <;> omega
    rw [c_cast_near hcn]
    generalize hNL : nearL s (⟨n.up, n.inc, n.peers, n.topics, calls, n.pubs, cnt, marks, n.taken⟩ : Node) k = nl at hnl hr ⊢
    simp (disch := first | omega | assumption | exact ⟨by first | assumption | omega, by first | assumption | omega⟩ | (simp only [List.length_cons, List.length_nil]; omega)) only [↓S0, ↓ITE_bool, S1, eq_self, if_true, if_false, true_implies, false_implies, implies_true, ↓c_cast_Check, ↓c_cast_in, ↓c_msg_Value, ↓c_slices_Contains_int_int, ↓c_graft_Twin, ↓c_slices_Clone_api_Peer_api_Peer, ↓c_slices_Clone_api_Call_api_Call, ↓c_slices_Clone_api_Mark_api_Mark, ↓c_slices_Clone_api_Mark2_api_Mark2, ↓c_slices_Clone_int_int, ↓c_cast_near, ↓c_cast_Heed, ↓c_slices_Delete_api_Call_api_Call, ↓c_queue_Fit]
    generalize hT : todoGo (⟨n.up, n.inc, n.peers, n.topics, calls, n.pubs, cnt, marks, n.taken⟩ : Node) [(s : Int)] [] nl = todo at hr
    refine LOOP.rule (α := Nat × List Int) (fun p => [I p.1, L p.2]) (fun p => p.1 ≤ nl.length ∧ p.2.length ≤ p.1 ∧ todoGo (⟨n.up, n.inc, n.peers, n.topics, calls, n.pubs, cnt, marks, n.taken⟩ : Node) [(s : Int)] p.2 (nl.drop p.1) = todo) (fun p => nl.length - p.1) (0, []) rfl ⟨by simp, by simp, by simpa using hT⟩ (fun _ => rfl) ?_
    rintro ⟨i, a⟩ ⟨hi, ha, hs2⟩
    simp only at hi ha hs2
    simp only [app]
    simp (disch := first | omega | assumption | exact ⟨by first | assumption | omega, by first | assumption | omega⟩ | (simp only [List.length_cons, List.length_nil]; omega)) only [↓S0, ↓ITE_bool, S1, eq_self, if_true, if_false, true_implies, false_implies, implies_true, ↓c_cast_Check, ↓c_cast_in, ↓c_msg_Value, ↓c_slices_Contains_int_int, ↓c_graft_Twin, ↓c_slices_Clone_api_Peer_api_Peer, ↓c_slices_Clone_api_Call_api_Call, ↓c_slices_Clone_api_Mark_api_Mark, ↓c_slices_Clone_api_Mark2_api_Mark2, ↓c_slices_Clone_int_int, ↓c_cast_near, ↓c_cast_Heed, ↓c_slices_Delete_api_Call_api_Call, ↓c_queue_Fit]
    refine ⟨fun h => ?_, fun h => ?_⟩
    · obtain ⟨x, hx⟩ := get_ex h
      rw [drop_eq hx, todoGo] at hs2
      simp (disch := first | omega | assumption | exact ⟨by first | assumption | omega, by first | assumption | omega⟩ | (simp only [List.length_cons, List.length_nil]; omega)) only [↓S0, ↓ITE_bool, S1, eq_self, if_true, if_false, true_implies, false_implies, implies_true, ↓c_cast_Check, ↓c_cast_in, ↓c_msg_Value, ↓c_slices_Contains_int_int, ↓c_graft_Twin, ↓c_slices_Clone_api_Peer_api_Peer, ↓c_slices_Clone_api_Call_api_Call, ↓c_slices_Clone_api_Mark_api_Mark, ↓c_slices_Clone_api_Mark2_api_Mark2, ↓c_slices_Clone_int_int, ↓c_cast_near, ↓c_cast_Heed, ↓c_slices_Delete_api_Call_api_Call, ↓c_queue_Fit, cell_L hx]
      refine ⟨fun e1 => ⟨fun e2 => ⟨fun e3 => ⟨(i + 1, a ++ [x]), rfl, ⟨by simp; omega, by simp; omega, ?_⟩, by simp; omega⟩, fun e3 => ⟨(i + 1, a), rfl, ⟨by simp; omega, by simp; omega, ?_⟩, by simp; omega⟩⟩, fun e2 => ⟨(i + 1, a), rfl, ⟨by simp; omega, by simp; omega, ?_⟩, by simp; omega⟩⟩, fun e1 => ⟨(i + 1, a), rfl, ⟨by simp; omega, by simp; omega, ?_⟩, by simp; omega⟩⟩
      · simp only [e1, e2, e3, Bool.not_false, Bool.and_self, if_true] at hs2; exact hs2
      · simp only [e1, e2, e3, Bool.not_false, Bool.not_true, Bool.and_false, Bool.false_eq_true, if_false] at hs2; exact hs2
      · simp only [e1, e2, Bool.not_false, Bool.not_true, Bool.and_false, Bool.false_and, Bool.false_eq_true, if_false] at hs2; exact hs2
      · simp only [e1, Bool.false_and, Bool.false_eq_true, if_false] at hs2; exact hs2
    rw [drop_nil h, todoGo] at hs2
    subst hs2
    unfold goN at hr
    refine SUB.v1 (bb (decide (a = []))) ?_ ?_
    · simp (disch := first | omega | assumption | exact ⟨by first | assumption | omega, by first | assumption | omega⟩ | (simp only [List.length_cons, List.length_nil]; omega)) only [↓S0, ↓ITE_bool, S1, eq_self, if_true, if_false, true_implies, false_implies, implies_true, ↓c_cast_Check, ↓c_cast_in, ↓c_msg_Value, ↓c_slices_Contains_int_int, ↓c_graft_Twin, ↓c_slices_Clone_api_Peer_api_Peer, ↓c_slices_Clone_api_Call_api_Call, ↓c_slices_Clone_api_Mark_api_Mark, ↓c_slices_Clone_api_Mark2_api_Mark2, ↓c_slices_Clone_int_int, ↓c_cast_near, ↓c_cast_Heed, ↓c_slices_Delete_api_Call_api_Call, ↓c_queue_Fit]
      refine ⟨fun h => ?_, fun h => ?_⟩
      · have : a = [] := List.eq_nil_of_length_eq_zero (by omega)
        simp [this]
      · have : a ≠ [] := by intro h'; subst h'; simp at h
        simp [this]
    by_cases ha0 : a = []
    · rw [if_pos (.inl ha0)] at hr
      unfold tellN at hr
      rw [if_pos rfl] at hr
      dsimp only at hr
      subst ha0
      simp (disch := first | omega | assumption | exact ⟨by first | assumption | omega, by first | assumption | omega⟩ | (simp only [List.length_cons, List.length_nil]; omega)) only [↓S0, ↓ITE_bool, S1, eq_self, if_true, if_false, true_implies, false_implies, implies_true, ↓c_cast_Check, ↓c_cast_in, ↓c_msg_Value, ↓c_slices_Contains_int_int, ↓c_graft_Twin, ↓c_slices_Clone_api_Peer_api_Peer, ↓c_slices_Clone_api_Call_api_Call, ↓c_slices_Clone_api_Mark_api_Mark, ↓c_slices_Clone_api_Mark2_api_Mark2, ↓c_slices_Clone_int_int, ↓c_cast_near, ↓c_cast_Heed, ↓c_slices_Delete_api_Call_api_Call, ↓c_queue_Fit]
      refine SUB.v3 (bb (calls.any (isCall k cnt))) (bb (!calls.any (isCall k cnt))) (L (calls.eraseP (isCall k cnt))) ?_ ?_
      · simp (disch := first | omega | assumption | exact ⟨by first | assumption | omega, by first | assumption | omega⟩ | (simp only [List.length_cons, List.length_nil]; omega)) only [↓S0, ↓ITE_bool, S1, eq_self, if_true, if_false, true_implies, false_implies, implies_true, ↓c_cast_Check, ↓c_cast_in, ↓c_msg_Value, ↓c_slices_Contains_int_int, ↓c_graft_Twin, ↓c_slices_Clone_api_Peer_api_Peer, ↓c_slices_Clone_api_Call_api_Call, ↓c_slices_Clone_api_Mark_api_Mark, ↓c_slices_Clone_api_Mark2_api_Mark2, ↓c_slices_Clone_int_int, ↓c_cast_near, ↓c_cast_Heed, ↓c_slices_Delete_api_Call_api_Call, ↓c_queue_Fit]
        refine LOOP.rule (α := Nat) (fun i => [I i]) (fun i => i ≤ calls.length ∧ (calls.take i).any (isCall k cnt) = false) (fun i => calls.length - i) 0 rfl ⟨by omega, by simp⟩ (fun _ => rfl) ?_
        rintro i ⟨hi3, hs3⟩
        simp only [app]
        simp (disch := first | omega | assumption | exact ⟨by first | assumption | omega, by first | assumption | omega⟩ | (simp only [List.length_cons, List.length_nil]; omega)) only [↓S0, ↓ITE_bool, S1, eq_self, if_true, if_false, true_implies, false_implies, implies_true, ↓c_cast_Check, ↓c_cast_in, ↓c_msg_Value, ↓c_slices_Contains_int_int, ↓c_graft_Twin, ↓c_slices_Clone_api_Peer_api_Peer, ↓c_slices_Clone_api_Call_api_Call, ↓c_slices_Clone_api_Mark_api_Mark, ↓c_slices_Clone_api_Mark2_api_Mark2, ↓c_slices_Clone_int_int, ↓c_cast_near, ↓c_cast_Heed, ↓c_slices_Delete_api_Call_api_Call, ↓c_queue_Fit]
        refine ⟨fun h => ?_, fun h => ⟨fun _ => ?_, fun h9 => absurd (show (-1 : Int) < 0 by omega) h9⟩⟩
        · obtain ⟨u, hu1⟩ := get_ex h
          simp (disch := first | omega | assumption | exact ⟨by first | assumption | omega, by first | assumption | omega⟩ | (simp only [List.length_cons, List.length_nil]; omega)) only [↓S0, ↓ITE_bool, S1, eq_self, if_true, if_false, true_implies, false_implies, implies_true, ↓c_cast_Check, ↓c_cast_in, ↓c_msg_Value, ↓c_slices_Contains_int_int, ↓c_graft_Twin, ↓c_slices_Clone_api_Peer_api_Peer, ↓c_slices_Clone_api_Call_api_Call, ↓c_slices_Clone_api_Mark_api_Mark, ↓c_slices_Clone_api_Mark2_api_Mark2, ↓c_slices_Clone_int_int, ↓c_cast_near, ↓c_cast_Heed, ↓c_slices_Delete_api_Call_api_Call, ↓c_queue_Fit, cell_L hu1]
          refine SUB.v1 (bb (isCall k cnt u)) ?_ ?_
          · unfold isCall; repeat' (first | apply And.intro | intro _ | simp (disch := first | omega | assumption | exact ⟨by first | assumption | omega, by first | assumption | omega⟩ | (simp only [List.length_cons, List.length_nil]; omega)) only [↓S0, ↓ITE_bool, S1, eq_self, if_true, if_false, true_implies, false_implies, implies_true, ↓c_cast_Check, ↓c_cast_in, ↓c_msg_Value, ↓c_slices_Contains_int_int, ↓c_graft_Twin, ↓c_slices_Clone_api_Peer_api_Peer, ↓c_slices_Clone_api_Call_api_Call, ↓c_slices_Clone_api_Mark_api_Mark, ↓c_slices_Clone_api_Mark2_api_Mark2, ↓c_slices_Clone_int_int, ↓c_cast_near, ↓c_cast_Heed, ↓c_slices_Delete_api_Call_api_Call, ↓c_queue_Fit])
            all_goals simp [*]
          cases hcx : isCall k cnt u
          · simp (disch := first | omega | assumption | exact ⟨by first | assumption | omega, by first | assumption | omega⟩ | (simp only [List.length_cons, List.length_nil]; omega)) only [↓S0, ↓ITE_bool, S1, eq_self, if_true, if_false, true_implies, false_implies, implies_true, ↓c_cast_Check, ↓c_cast_in, ↓c_msg_Value, ↓c_slices_Contains_int_int, ↓c_graft_Twin, ↓c_slices_Clone_api_Peer_api_Peer, ↓c_slices_Clone_api_Call_api_Call, ↓c_slices_Clone_api_Mark_api_Mark, ↓c_slices_Clone_api_Mark2_api_Mark2, ↓c_slices_Clone_int_int, ↓c_cast_near, ↓c_cast_Heed, ↓c_slices_Delete_api_Call_api_Call, ↓c_queue_Fit]
            exact ⟨i + 1, rfl, ⟨by omega, any_take hs3 hu1 hcx⟩, by omega⟩
          · have hpre : (0 : Int) ≤ (i : Int) ∧ (i : Int) ≤ (i : Int) + 1 ∧ (i : Int) + 1 ≤ calls.length ∧ calls.length < 4611686018427387904 := ⟨by omega, by omega, by omega, by omega⟩
            obtain ⟨e5, e6⟩ := erase_cut hs3 hu1 hcx
            simp (disch := first | omega | assumption | exact ⟨by first | assumption | omega, by first | assumption | omega⟩ | (simp only [List.length_cons, List.length_nil]; omega)) only [↓S0, ↓ITE_bool, S1, eq_self, if_true, if_false, true_implies, false_implies, implies_true, ↓c_cast_Check, ↓c_cast_in, ↓c_msg_Value, ↓c_slices_Contains_int_int, ↓c_graft_Twin, ↓c_slices_Clone_api_Peer_api_Peer, ↓c_slices_Clone_api_Call_api_Call, ↓c_slices_Clone_api_Mark_api_Mark, ↓c_slices_Clone_api_Mark2_api_Mark2, ↓c_slices_Clone_int_int, ↓c_cast_near, ↓c_cast_Heed, ↓c_slices_Delete_api_Call_api_Call, ↓c_queue_Fit]
            refine ⟨fun h => by omega, fun _ => ?_⟩
            rw [e5, e6]; rfl
        · have hi4 : i = calls.length := by omega
          subst hi4
          rw [List.take_length] at hs3
          rw [hs3, erase_not hs3]; rfl
      simp (disch := first | omega | assumption | exact ⟨by first | assumption | omega, by first | assumption | omega⟩ | (simp only [List.length_cons, List.length_nil]; omega)) only [↓S0, ↓ITE_bool, S1, eq_self, if_true, if_false, true_implies, false_implies, implies_true, ↓c_cast_Check, ↓c_cast_in, ↓c_msg_Value, ↓c_slices_Contains_int_int, ↓c_graft_Twin, ↓c_slices_Clone_api_Peer_api_Peer, ↓c_slices_Clone_api_Call_api_Call, ↓c_slices_Clone_api_Mark_api_Mark, ↓c_slices_Clone_api_Mark2_api_Mark2, ↓c_slices_Clone_int_int, ↓c_cast_near, ↓c_cast_Heed, ↓c_slices_Delete_api_Call_api_Call, ↓c_queue_Fit]
      cases hany : calls.any (isCall k cnt)
      · rw [endCall_miss (n := ⟨n.up, n.inc, n.peers, n.topics, calls, n.pubs, cnt, marks, n.taken⟩) hany] at hr
        rw [erase_not hany]
        simp (disch := first | omega | assumption | exact ⟨by first | assumption | omega, by first | assumption | omega⟩ | (simp only [List.length_cons, List.length_nil]; omega)) only [↓S0, ↓ITE_bool, S1, eq_self, if_true, if_false, true_implies, false_implies, implies_true, ↓c_cast_Check, ↓c_cast_in, ↓c_msg_Value, ↓c_slices_Contains_int_int, ↓c_graft_Twin, ↓c_slices_Clone_api_Peer_api_Peer, ↓c_slices_Clone_api_Call_api_Call, ↓c_slices_Clone_api_Mark_api_Mark, ↓c_slices_Clone_api_Mark2_api_Mark2, ↓c_slices_Clone_int_int, ↓c_cast_near, ↓c_cast_Heed, ↓c_slices_Delete_api_Call_api_Call, ↓c_queue_Fit]
        subst hr
        exact hQ
      · rw [endCall_true (n := ⟨n.up, n.inc, n.peers, n.topics, calls, n.pubs, cnt, marks, n.taken⟩) hany rfl hy] at hr
        simp (disch := first | omega | assumption | exact ⟨by first | assumption | omega, by first | assumption | omega⟩ | (simp only [List.length_cons, List.length_nil]; omega)) only [↓S0, ↓ITE_bool, S1, eq_self, if_true, if_false, true_implies, false_implies, implies_true, ↓c_cast_Check, ↓c_cast_in, ↓c_msg_Value, ↓c_slices_Contains_int_int, ↓c_graft_Twin, ↓c_slices_Clone_api_Peer_api_Peer, ↓c_slices_Clone_api_Call_api_Call, ↓c_slices_Clone_api_Mark_api_Mark, ↓c_slices_Clone_api_Mark2_api_Mark2, ↓c_slices_Clone_int_int, ↓c_cast_near, ↓c_cast_Heed, ↓c_slices_Delete_api_Call_api_Call, ↓c_queue_Fit, cell_L hy, ↓OP_set hy (j := 15) (v := L (fitE y.queue c.queue ⟨4, 0, 0, 0, 0, cnt⟩)) (y := { y with queue := fitE y.queue c.queue ⟨4, 0, 0, 0, 0, cnt⟩ }) rfl]
        rw [show evCall cnt (-1) = ⟨4, 0, 0, 0, 0, cnt⟩ from rfl] at hr
        subst hr
        refine ⟨fun h => by omega, fun _ => ?_⟩
        exact hQ
    · rw [if_neg (by rintro (h | h); exact ha0 h; simp at h)] at hr
      have hpos : 0 < a.length := List.length_pos_iff.2 ha0
      obtain ⟨j, hj⟩ : ∃ j, a.length = j + 1 := ⟨a.length - 1, by omega⟩
      have e1 : ((a.length : Int) - 1) = (j : Nat) := by omega
      obtain ⟨w, hw2⟩ := get_ex (xs := a) (i := j) (by omega)
      have e2 : a.take j = a.dropLast := by rw [List.dropLast_eq_take]; congr 1; omega
      have e3 : a.getLastD 0 = w := by
        rw [List.getLastD_eq_getLast?, List.getLast?_eq_getElem?, hj, Nat.add_sub_cancel, hw2]; rfl
      have e4 : (a.take j).length ≤ 1000000 := by simp; omega
      simp (disch := first | omega | assumption | exact ⟨by first | assumption | omega, by first | assumption | omega⟩ | (simp only [List.length_cons, List.length_nil]; omega)) only [↓S0, ↓ITE_bool, S1, eq_self, if_true, if_false, true_implies, false_implies, implies_true, ↓c_cast_Check, ↓c_cast_in, ↓c_msg_Value, ↓c_slices_Contains_int_int, ↓c_graft_Twin, ↓c_slices_Clone_api_Peer_api_Peer, ↓c_slices_Clone_api_Call_api_Call, ↓c_slices_Clone_api_Mark_api_Mark, ↓c_slices_Clone_api_Mark2_api_Mark2, ↓c_slices_Clone_int_int, ↓c_cast_near, ↓c_cast_Heed, ↓c_slices_Delete_api_Call_api_Call, ↓c_queue_Fit, ha0, e1, cell_L hw2, Int.toNat_natCast, ↓OP_rowMsg]
      rw [e3] at hr
      rw [e2]
      subst hr
      exact hQ
  · simp only [hsub, if_true] at hr
    unfold tellN at hr
    rw [if_pos rfl] at hr
    dsimp only at hr
    have e1 : ((n.taken ++ [(⟨s, n.inc, cnt, k, value⟩ : Mark2)]).length : Int) ≤ 101 := by simp; omega
    have e2 : (max (((n.taken ++ [(⟨s, n.inc, cnt, k, value⟩ : Mark2)]).length : Int) - 64) 0).toNat = (n.taken ++ [(⟨s, n.inc, cnt, k, value⟩ : Mark2)]).length - 64 := by omega
    have e3 : (lastN (n.taken ++ [(⟨s, n.inc, cnt, k, value⟩ : Mark2)]) 64).length ≤ 1000000 := by unfold lastN; simp; omega
    simp (disch := first | omega | assumption | exact ⟨by first | assumption | omega, by first | assumption | omega⟩ | (simp only [List.length_cons, List.length_nil]; omega)) only [↓S0, ↓ITE_bool, S1, eq_self, if_true, if_false, true_implies, false_implies, implies_true, ↓c_cast_Check, ↓c_cast_in, ↓c_msg_Value, ↓c_slices_Contains_int_int, ↓c_graft_Twin, ↓c_slices_Clone_api_Peer_api_Peer, ↓c_slices_Clone_api_Call_api_Call, ↓c_slices_Clone_api_Mark_api_Mark, ↓c_slices_Clone_api_Mark2_api_Mark2, ↓c_slices_Clone_int_int, ↓c_cast_near, ↓c_cast_Heed, ↓c_slices_Delete_api_Call_api_Call, ↓c_queue_Fit, cell_L hy, hsub]
    rw [e2]
    show CALL _ _ [L (lastN _ 64)] _ _
    simp (disch := first | omega | assumption | exact ⟨by first | assumption | omega, by first | assumption | omega⟩ | (simp only [List.length_cons, List.length_nil]; omega)) only [↓S0, ↓ITE_bool, S1, eq_self, if_true, if_false, true_implies, false_implies, implies_true, ↓c_cast_Check, ↓c_cast_in, ↓c_msg_Value, ↓c_slices_Contains_int_int, ↓c_graft_Twin, ↓c_slices_Clone_api_Peer_api_Peer, ↓c_slices_Clone_api_Call_api_Call, ↓c_slices_Clone_api_Mark_api_Mark, ↓c_slices_Clone_api_Mark2_api_Mark2, ↓c_slices_Clone_int_int, ↓c_cast_near, ↓c_cast_Heed, ↓c_slices_Delete_api_Call_api_Call, ↓c_queue_Fit]
    refine SUB.v3 (bb (calls.any (isCall k cnt))) (bb (!calls.any (isCall k cnt))) (L (calls.eraseP (isCall k cnt))) ?_ ?_
    · simp (disch := first | omega | assumption | exact ⟨by first | assumption | omega, by first | assumption | omega⟩ | (simp only [List.length_cons, List.length_nil]; omega)) only [↓S0, ↓ITE_bool, S1, eq_self, if_true, if_false, true_implies, false_implies, implies_true, ↓c_cast_Check, ↓c_cast_in, ↓c_msg_Value, ↓c_slices_Contains_int_int, ↓c_graft_Twin, ↓c_slices_Clone_api_Peer_api_Peer, ↓c_slices_Clone_api_Call_api_Call, ↓c_slices_Clone_api_Mark_api_Mark, ↓c_slices_Clone_api_Mark2_api_Mark2, ↓c_slices_Clone_int_int, ↓c_cast_near, ↓c_cast_Heed, ↓c_slices_Delete_api_Call_api_Call, ↓c_queue_Fit]
      refine LOOP.rule (α := Nat) (fun i => [I i]) (fun i => i ≤ calls.length ∧ (calls.take i).any (isCall k cnt) = false) (fun i => calls.length - i) 0 rfl ⟨by omega, by simp⟩ (fun _ => rfl) ?_
      rintro i ⟨hi3, hs3⟩
      simp only [app]
      simp (disch := first | omega | assumption | exact ⟨by first | assumption | omega, by first | assumption | omega⟩ | (simp only [List.length_cons, List.length_nil]; omega)) only [↓S0, ↓ITE_bool, S1, eq_self, if_true, if_false, true_implies, false_implies, implies_true, ↓c_cast_Check, ↓c_cast_in, ↓c_msg_Value, ↓c_slices_Contains_int_int, ↓c_graft_Twin, ↓c_slices_Clone_api_Peer_api_Peer, ↓c_slices_Clone_api_Call_api_Call, ↓c_slices_Clone_api_Mark_api_Mark, ↓c_slices_Clone_api_Mark2_api_Mark2, ↓c_slices_Clone_int_int, ↓c_cast_near, ↓c_cast_Heed, ↓c_slices_Delete_api_Call_api_Call, ↓c_queue_Fit]
      refine ⟨fun h => ?_, fun h => ⟨fun _ => ?_, fun h9 => absurd (show (-1 : Int) < 0 by omega) h9⟩⟩
      · obtain ⟨u, hu1⟩ := get_ex h
        simp (disch := first | omega | assumption | exact ⟨by first | assumption | omega, by first | assumption | omega⟩ | (simp only [List.length_cons, List.length_nil]; omega)) only [↓S0, ↓ITE_bool, S1, eq_self, if_true, if_false, true_implies, false_implies, implies_true, ↓c_cast_Check, ↓c_cast_in, ↓c_msg_Value, ↓c_slices_Contains_int_int, ↓c_graft_Twin, ↓c_slices_Clone_api_Peer_api_Peer, ↓c_slices_Clone_api_Call_api_Call, ↓c_slices_Clone_api_Mark_api_Mark, ↓c_slices_Clone_api_Mark2_api_Mark2, ↓c_slices_Clone_int_int, ↓c_cast_near, ↓c_cast_Heed, ↓c_slices_Delete_api_Call_api_Call, ↓c_queue_Fit, cell_L hu1]
        refine SUB.v1 (bb (isCall k cnt u)) ?_ ?_
        · unfold isCall; repeat' (first | apply And.intro | intro _ | simp (disch := first | omega | assumption | exact ⟨by first | assumption | omega, by first | assumption | omega⟩ | (simp only [List.length_cons, List.length_nil]; omega)) only [↓S0, ↓ITE_bool, S1, eq_self, if_true, if_false, true_implies, false_implies, implies_true, ↓c_cast_Check, ↓c_cast_in, ↓c_msg_Value, ↓c_slices_Contains_int_int, ↓c_graft_Twin, ↓c_slices_Clone_api_Peer_api_Peer, ↓c_slices_Clone_api_Call_api_Call, ↓c_slices_Clone_api_Mark_api_Mark, ↓c_slices_Clone_api_Mark2_api_Mark2, ↓c_slices_Clone_int_int, ↓c_cast_near, ↓c_cast_Heed, ↓c_slices_Delete_api_Call_api_Call, ↓c_queue_Fit])
          all_goals simp [*]
        cases hcx : isCall k cnt u
        · simp (disch := first | omega | assumption | exact ⟨by first | assumption | omega, by first | assumption | omega⟩ | (simp only [List.length_cons, List.length_nil]; omega)) only [↓S0, ↓ITE_bool, S1, eq_self, if_true, if_false, true_implies, false_implies, implies_true, ↓c_cast_Check, ↓c_cast_in, ↓c_msg_Value, ↓c_slices_Contains_int_int, ↓c_graft_Twin, ↓c_slices_Clone_api_Peer_api_Peer, ↓c_slices_Clone_api_Call_api_Call, ↓c_slices_Clone_api_Mark_api_Mark, ↓c_slices_Clone_api_Mark2_api_Mark2, ↓c_slices_Clone_int_int, ↓c_cast_near, ↓c_cast_Heed, ↓c_slices_Delete_api_Call_api_Call, ↓c_queue_Fit]
          exact ⟨i + 1, rfl, ⟨by omega, any_take hs3 hu1 hcx⟩, by omega⟩
        · have hpre : (0 : Int) ≤ (i : Int) ∧ (i : Int) ≤ (i : Int) + 1 ∧ (i : Int) + 1 ≤ calls.length ∧ calls.length < 4611686018427387904 := ⟨by omega, by omega, by omega, by omega⟩
          obtain ⟨e5, e6⟩ := erase_cut hs3 hu1 hcx
          simp (disch := first | omega | assumption | exact ⟨by first | assumption | omega, by first | assumption | omega⟩ | (simp only [List.length_cons, List.length_nil]; omega)) only [↓S0, ↓ITE_bool, S1, eq_self, if_true, if_false, true_implies, false_implies, implies_true, ↓c_cast_Check, ↓c_cast_in, ↓c_msg_Value, ↓c_slices_Contains_int_int, ↓c_graft_Twin, ↓c_slices_Clone_api_Peer_api_Peer, ↓c_slices_Clone_api_Call_api_Call, ↓c_slices_Clone_api_Mark_api_Mark, ↓c_slices_Clone_api_Mark2_api_Mark2, ↓c_slices_Clone_int_int, ↓c_cast_near, ↓c_cast_Heed, ↓c_slices_Delete_api_Call_api_Call, ↓c_queue_Fit]
          refine ⟨fun h => by omega, fun _ => ?_⟩
          rw [e5, e6]; rfl
      · have hi4 : i = calls.length := by omega
        subst hi4
        rw [List.take_length] at hs3
        rw [hs3, erase_not hs3]; rfl
    simp (disch := first | omega | assumption | exact ⟨by first | assumption | omega, by first | assumption | omega⟩ | (simp only [List.length_cons, List.length_nil]; omega)) only [↓S0, ↓ITE_bool, S1, eq_self, if_true, if_false, true_implies, false_implies, implies_true, ↓c_cast_Check, ↓c_cast_in, ↓c_msg_Value, ↓c_slices_Contains_int_int, ↓c_graft_Twin, ↓c_slices_Clone_api_Peer_api_Peer, ↓c_slices_Clone_api_Call_api_Call, ↓c_slices_Clone_api_Mark_api_Mark, ↓c_slices_Clone_api_Mark2_api_Mark2, ↓c_slices_Clone_int_int, ↓c_cast_near, ↓c_cast_Heed, ↓c_slices_Delete_api_Call_api_Call, ↓c_queue_Fit]
    cases hany : calls.any (isCall k cnt)
    · rw [endCall_miss (n := ⟨n.up, n.inc, n.peers, n.topics, calls, n.pubs, cnt, marks, lastN (n.taken ++ [(⟨s, n.inc, cnt, k, value⟩ : Mark2)]) 64⟩) hany] at hr
      rw [erase_not hany]
      simp (disch := first | omega | assumption | exact ⟨by first | assumption | omega, by first | assumption | omega⟩ | (simp only [List.length_cons, List.length_nil]; omega)) only [↓S0, ↓ITE_bool, S1, eq_self, if_true, if_false, true_implies, false_implies, implies_true, ↓c_cast_Check, ↓c_cast_in, ↓c_msg_Value, ↓c_slices_Contains_int_int, ↓c_graft_Twin, ↓c_slices_Clone_api_Peer_api_Peer, ↓c_slices_Clone_api_Call_api_Call, ↓c_slices_Clone_api_Mark_api_Mark, ↓c_slices_Clone_api_Mark2_api_Mark2, ↓c_slices_Clone_int_int, ↓c_cast_near, ↓c_cast_Heed, ↓c_slices_Delete_api_Call_api_Call, ↓c_queue_Fit]
      subst hr
      exact hQ
    · rw [endCall_true (n := ⟨n.up, n.inc, n.peers, n.topics, calls, n.pubs, cnt, marks, lastN (n.taken ++ [(⟨s, n.inc, cnt, k, value⟩ : Mark2)]) 64⟩) hany rfl hy] at hr
      simp (disch := first | omega | assumption | exact ⟨by first | assumption | omega, by first | assumption | omega⟩ | (simp only [List.length_cons, List.length_nil]; omega)) only [↓S0, ↓ITE_bool, S1, eq_self, if_true, if_false, true_implies, false_implies, implies_true, ↓c_cast_Check, ↓c_cast_in, ↓c_msg_Value, ↓c_slices_Contains_int_int, ↓c_graft_Twin, ↓c_slices_Clone_api_Peer_api_Peer, ↓c_slices_Clone_api_Call_api_Call, ↓c_slices_Clone_api_Mark_api_Mark, ↓c_slices_Clone_api_Mark2_api_Mark2, ↓c_slices_Clone_int_int, ↓c_cast_near, ↓c_cast_Heed, ↓c_slices_Delete_api_Call_api_Call, ↓c_queue_Fit, cell_L hy, ↓OP_set hy (j := 15) (v := L (fitE y.queue c.queue ⟨3, 0, 0, 0, s, cnt⟩)) (y := { y with queue := fitE y.queue c.queue ⟨3, 0, 0, 0, s, cnt⟩ }) rfl]
      rw [show evCall cnt s = ⟨3, 0, 0, 0, s, cnt⟩ from if_pos hs.1] at hr
      subst hr
      refine ⟨fun _ => ?_, fun h => by omega⟩
      exact hQ
end Go.Xt
end
section
set_option linter.unusedSimpArgs false
set_option linter.unusedVariables false
set_option maxRecDepth 100000
namespace Go.Xt
/-! ### queues stay right -/
theorem queueOk_iff {l : List Event} {limit : Int} : queueOk l limit = true ↔ rng limit 2 32 = true ∧ (l.length : Int) ≤ limit ∧ l.all evOk = true ∧ ((l.length : Int) < limit ∨ lastGap l = true) := by
  simp only [queueOk, Bool.and_eq_true, Bool.or_eq_true, decide_eq_true_eq, and_assoc]
theorem gap_ok {x : Event} (h : evOk x = true) (hs : ofStream x = true) : evOk (gapE x) = true ∧ (gapE x).kind = 2 ∧ (gapE x).seq ≤ (gapE x).last ∧ (gapE x).last ≤ 1073741824 ∧ 1 ≤ (gapE x).seq := by
  simp only [ofStream, Bool.or_eq_true, decide_eq_true_eq] at hs
  unfold evOk at h
  unfold gapE
  by_cases h1 : x.kind = 1
  · rw [if_pos h1] at h ⊢
    simp only [Bool.and_eq_true, decide_eq_true_eq, cnt, rng] at h
    obtain ⟨⟨⟨⟨h2, h3⟩, _⟩, _⟩, _⟩ := h
    simp [evOk, h2, cnt, rng, h3]
  · have h2 : x.kind = 2 := by omega
    rw [if_neg h1, if_pos h2] at h
    rw [if_neg h1, if_pos h2]
    refine ⟨by unfold evOk; rw [if_neg h1, if_pos h2]; exact h, h2, ?_⟩
    simp only [Bool.and_eq_true, decide_eq_true_eq, cnt, rng] at h
    omega
theorem lastGap_app {l : List Event} {x : Event} (h : x.kind = 2) : lastGap (l ++ [x]) = true := by simp [lastGap, h]
theorem put_ok {l : List Event} {limit : Int} {x : Event} (h : (putE l limit x).2 = 0) : queueOk (putE l limit x).1 limit = true := by
  unfold putE at h ⊢
  split at h
  · rename_i h0
    rw [if_pos h0]
    rw [Bool.and_eq_true] at h0
    obtain ⟨hr, hl, ha, hg⟩ := queueOk_iff.1 h0.1
    have hrb := rng_bd hr
    split at h
    · rename_i h1
      rw [if_pos h1]
      refine queueOk_iff.2 ⟨hr, by simp; omega, by simp only [List.all_append, ha, List.all_cons, List.all_nil, h0.2, Bool.and_self], .inl (by simp; omega)⟩
    · rename_i h1
      rw [if_neg h1]
      split at h
      · rename_i h2
        rw [if_pos h2]
        obtain ⟨g1, g2, g3, g4, g5⟩ := gap_ok h0.2 h2
        split at h
        · rename_i h3
          rw [if_pos h3]
          refine queueOk_iff.2 ⟨hr, by simp; omega, by simp only [List.all_append, ha, List.all_cons, List.all_nil, g1, Bool.and_self], .inr (lastGap_app g2)⟩
        · rename_i h3
          rw [if_neg h3]
          split at h
          · rename_i h4
            rw [if_pos h4]
            have hlen : (l.length : Int) = limit := by omega
            obtain ⟨j, hj⟩ : ∃ j, l.length = j + 1 := ⟨l.length - 1, by omega⟩
            have e1 : (limit - 1).toNat = j := by omega
            rw [e1] at h4 ⊢
            have hjl : j < l.length := by omega
            have hy : l.getD j event0 = l[j] := by simp [List.getD_eq_getElem?_getD, hjl]
            rw [hy] at h4 ⊢
            have hlg : lastGap l = true := by rcases hg with hg | hg; omega; exact hg
            have hk : l[j].kind = 2 := by
              have : l.getLast? = some l[j] := by rw [List.getLast?_eq_getElem?, hj, Nat.add_sub_cancel]; simp [hjl]
              simp only [lastGap, this, decide_eq_true_eq] at hlg; exact hlg
            rw [List.all_eq_true] at ha
            have hev := ha l[j] (List.getElem_mem hjl)
            unfold evOk at hev
            rw [if_neg (by omega), if_pos hk] at hev
            simp only [Bool.and_eq_true, decide_eq_true_eq, cnt, rng] at hev
            have hw : IntKind.i64.wrap (l[j].last + 1) = l[j].last + 1 := wr (by omega) (by omega)
            rw [hw] at h4
            have hnew : evOk { l[j] with last := (gapE x).last } = true := by
              unfold evOk
              rw [if_neg (by show ¬ l[j].kind = 1; omega), if_pos hk]
              simp only [Bool.and_eq_true, decide_eq_true_eq, cnt, rng]
              obtain ⟨⟨⟨⟨d1, d2⟩, d3⟩, d4⟩, d5⟩ := hev
              exact ⟨⟨⟨⟨d1, d2⟩, by omega, by omega⟩, d4⟩, d5⟩
            refine queueOk_iff.2 ⟨hr, by simpa using hl, ?_, .inr ?_⟩
            · rw [List.all_eq_true]
              intro y hy
              rcases List.mem_or_eq_of_mem_set hy with hy | hy
              · exact ha y hy
              · rw [hy]; exact hnew
            · have : (l.set j { l[j] with last := (gapE x).last }).getLast? = some { l[j] with last := (gapE x).last } := by
                rw [List.getLast?_eq_getElem?, List.length_set, hj, Nat.add_sub_cancel]; simp [hjl]
              unfold lastGap; rw [this]; exact decide_eq_true hk
          · omega
      · omega
  · omega
theorem fit_ok {l : List Event} {limit : Int} {x : Event} (h : queueOk l limit = true) : queueOk (fitE l limit x) limit = true := by
  unfold fitE
  split
  · rename_i h0; exact put_ok h0
  · exact h
theorem topic_queue {c : Config} {t self : Int} {x : Topic} {q : List Event} (h : topicOk c t self x = true) (hq : queueOk q c.queue = true) : topicOk c t self { x with queue := q } = true := by
  simp only [topicOk, flowOk, Bool.and_eq_true] at h ⊢
  exact ⟨h.1, h.2.1, hq⟩
theorem topic_q {c : Config} {t self : Int} {x : Topic} (h : topicOk c t self x = true) : queueOk x.queue c.queue = true := by
  simp only [topicOk, flowOk, Bool.and_eq_true] at h; exact h.2.2
theorem putQ_ok {c : Config} {self : Int} {l : List Topic} {t : Int} {x : Event} (h : topicsGo c self 0 l = true) (h0 : 0 ≤ t) (h1 : t < l.length) : topicsGo c self 0 (putQ c l t x) = true ∧ (putQ c l t x).length = l.length := by
  obtain ⟨k, rfl⟩ := Int.eq_ofNat_of_zero_le h0
  obtain ⟨y, hy⟩ := get_ex h1
  have hgd : l.getD k topic0 = y := by simp [List.getD_eq_getElem?_getD, hy]
  unfold putQ
  rw [Int.toNat_natCast, hgd]
  refine ⟨tops_set h ?_, by simp⟩
  have := tops_get h hy
  exact topic_queue this (fit_ok (topic_q this))
/-! ### calls -/
theorem calls_mono {c : Config} {a b : Int} : ∀ {l : List Call} {p q : Int}, callsGo c a p l = true → a ≤ b → q ≤ p → callsGo c b q l = true
  | [], _, _, _, _, _ => rfl
  | x :: r, p, q, h, hab, hqp => by
    simp only [callsGo, Bool.and_eq_true, decide_eq_true_eq] at h ⊢
    obtain ⟨⟨⟨⟨h1, h2⟩, h3⟩, h4⟩, h5⟩ := h
    exact ⟨⟨⟨⟨by omega, by omega⟩, h3⟩, h4⟩, calls_mono h5 hab (Int.le_refl _)⟩
theorem calls_len {c : Config} {a : Int} : ∀ {l : List Call} {p : Int}, p ≤ a → callsGo c a p l = true → (l.length : Int) ≤ a - p
  | [], p, h0, _ => by simp; omega
  | x :: r, p, h0, h => by
    simp only [callsGo, Bool.and_eq_true, decide_eq_true_eq] at h
    have := calls_len (by omega) h.2
    simp only [List.length_cons]; omega
theorem calls_erase {c : Config} {a : Int} {f : Call → Bool} : ∀ {l : List Call} {p : Int}, callsGo c a p l = true → callsGo c a p (l.eraseP f) = true
  | [], _, _ => rfl
  | x :: r, p, h => by
    have h' := h
    simp only [callsGo, Bool.and_eq_true, decide_eq_true_eq] at h
    rw [List.eraseP_cons]
    cases f x
    · simp only [cond_false]
      simp only [callsGo, Bool.and_eq_true, decide_eq_true_eq]
      exact ⟨h.1, calls_erase h.2⟩
    · exact calls_mono h.2 (Int.le_refl _) (by omega)
theorem calls_app {c : Config} {a b t : Int} : ∀ {l : List Call} {p : Int}, p ≤ a → callsGo c a p l = true → a < b → rng t 0 (c.topics - 1) = true → callsGo c b p (l ++ [⟨b, t, 0⟩]) = true
  | [], p, h0, _, hab, ht => by
    simp only [List.nil_append, callsGo, Bool.and_eq_true, decide_eq_true_eq]
    exact ⟨⟨⟨⟨by omega, by omega⟩, ht⟩, by unfold rng; simp⟩, trivial⟩
  | x :: r, p, h0, h, hab, ht => by
    simp only [callsGo, Bool.and_eq_true, decide_eq_true_eq] at h
    simp only [List.cons_append, callsGo, Bool.and_eq_true, decide_eq_true_eq]
    obtain ⟨⟨⟨⟨h1, h2⟩, h3⟩, h4⟩, h5⟩ := h
    exact ⟨⟨⟨⟨by omega, by omega⟩, h3⟩, h4⟩, calls_app (by omega) h5 hab ht⟩
theorem endCall_ok {c : Config} {self : Int} {n : Node} {t count who : Int} (H : NOk c self n) (ht : rng t 0 (c.topics - 1) = true) :
    NOk c self (endCall c n t count who) ∧ (endCall c n t count who).asks = n.asks ∧ (endCall c n t count who).inc = n.inc ∧ (endCall c n t count who).up = n.up := by
  unfold endCall
  split
  · have hb := rng_bd ht
    have htl := H.tl
    obtain ⟨h1, h2⟩ := putQ_ok (x := evCall count who) (t := t) H.tops hb.1 (by omega)
    refine ⟨⟨H.inc, H.pubs, H.asks, calls_erase H.calls, ?_, H.pl, by rw [← H.tl]; exact congrArg _ h2, H.ml, H.kl, h1, H.peers, H.marks, H.taken⟩, rfl, rfl, rfl⟩
    have := List.length_eraseP_le (p := isCall t count) (l := n.calls)
    have := H.cl
    show (n.calls.eraseP _).length ≤ 40
    omega
  · exact ⟨H, rfl, rfl, rfl⟩
/-! ### marks -/
theorem met_lt {m b : Int} (h0 : 0 ≤ m) (h1 : m ≤ 2199023255551) (h2 : 0 ≤ b) (h3 : b ≤ 40) (h : m / 2 ^ b.toNat % 2 = 0) : 0 ≤ m + 2 ^ b.toNat ∧ m + 2 ^ b.toNat ≤ 2199023255551 := by
  obtain ⟨m, rfl⟩ := Int.eq_ofNat_of_zero_le h0
  obtain ⟨d, rfl⟩ := Int.eq_ofNat_of_zero_le h2
  simp only [Int.toNat_natCast] at h ⊢
  have e0 : ((2 : Int) ^ d) = ((2 ^ d : Nat) : Int) := (Int.natCast_pow 2 d).symm
  rw [e0] at h ⊢
  have h4 : m / 2 ^ d % 2 = 0 := by
    have : ((m / 2 ^ d % 2 : Nat) : Int) = 0 := by rw [Int.natCast_emod, Int.natCast_ediv]; exact h
    omega
  have h5 : 2 ^ d < 2199023255552 := Nat.pow_lt_pow_right (a := 2) (n := 41) (by decide) (by omega)
  have h6 : m ||| 2 ^ d < 2 ^ 41 := Nat.or_lt_two_pow (by omega) (by omega)
  rw [or_pow h4] at h6
  generalize 2 ^ d = P at h6 ⊢
  omega
theorem meet_ok {l : List Mark} {o inc count : Int} (h : l.all markOk = true) (hi : cnt inc = true) (h0 : 0 ≤ count) (h1 : count ≤ 40) : (meetL l o inc count).all markOk = true ∧ (meetL l o inc count).length = l.length := by
  unfold meetL
  split
  · rename_i hm
    refine ⟨?_, by simp⟩
    simp only [meets, Bool.and_eq_true, Bool.not_eq_true'] at hm
    have hmk : markOk (l.getD o.toNat mark0) = true := by
      rw [List.getD_eq_getElem?_getD]
      cases hx : l[o.toNat]? with
      | none => rfl
      | some x => exact (List.all_eq_true.1 h) x (List.mem_of_getElem? hx)
    generalize l.getD o.toNat mark0 = y at hm hmk ⊢
    have hnw : markOk (newer y inc) = true := by
      unfold newer; split
      · simp only [cnt] at hi
        have := rng_bd hi
        simp [markOk, rng]; omega
      · exact hmk
    generalize newer y inc = z at hm hnw ⊢
    simp only [markOk, Bool.and_eq_true] at hnw
    have hb := rng_bd hnw.2
    have hz : z.met / 2 ^ count.toNat % 2 = 0 := by
      have := hm.2
      simp only [metYet, decide_eq_false_iff_not] at this
      omega
    have := met_lt hb.1 hb.2 h0 h1 hz
    rw [List.all_eq_true]
    intro x hx
    rcases List.mem_or_eq_of_mem_set hx with hx | hx
    · exact (List.all_eq_true.1 h) x hx
    · rw [hx]
      simp only [markOk, Bool.and_eq_true]
      exact ⟨hnw.1, by unfold rng; simp; omega⟩
  · exact ⟨h, rfl⟩
end Go.Xt
end
