/- Steps towards the statements of this seat; the conditions stand in each theorem. -/
import Derived.Test.YtbobikmalojafaaGreatDoorT
import Derived.Test.YtbobikmalojafaaGreatDoorRho
section
set_option linter.unusedSimpArgs false
set_option linter.unusedVariables false
set_option maxRecDepth 100000
namespace Go.Xt
set_option linter.defProp false
theorem nn_bd (v : Int) : 0 ≤ nn v ∧ nn v < 4611686018427387904 := by
  unfold nn NN
  match v.toNat with
  | 0 => simp | 1 => simp | 2 => simp | 3 => simp | 4 => simp | 5 => simp | 6 => simp | 7 => simp
  | n + 8 => simp
theorem tt_bd (v : Int) : 0 ≤ tt v ∧ tt v < 4611686018427387904 := by
  unfold tt TT
  match v.toNat with
  | 0 => simp | 1 => simp | 2 => simp | 3 => simp
  | n + 4 => simp
theorem isN_iff {v : Int} : isN v = true ↔ 0 ≤ v ∧ v < 8 := by simp [isN]
theorem isT_iff {v : Int} : isT v = true ↔ 0 ≤ v ∧ v < 4 := by simp [isT]
theorem OP_nn {v : Int} {k : PV → Prop} (h0 : 0 ≤ v) (h1 : v < 8) : OP .pickA [I v,I 2342812313538366385,I 1863050908023769503,I 81111313352671826,I 2434324899588211290,I 2454816673080883147,I 1342378062264523301,I 820659310660760249,I 2006264061484817761] k = k (I (nn v)) := by
  obtain ⟨n,rfl⟩ := Int.eq_ofNat_of_zero_le h0
  have : n < 8 := by omega
  match n with
  | 0 => exact OP_of rfl | 1 => exact OP_of rfl | 2 => exact OP_of rfl | 3 => exact OP_of rfl | 4 => exact OP_of rfl | 5 => exact OP_of rfl | 6 => exact OP_of rfl | 7 => exact OP_of rfl
  | n + 8 => omega
theorem OP_tt {v : Int} {k : PV → Prop} (h0 : 0 ≤ v) (h1 : v < 4) : OP .pickA [I v,I 1462484242049070477,I 1775212608919665246,I 3535639072113518480,I 3725500155902745375] k = k (I (tt v)) := by
  obtain ⟨n,rfl⟩ := Int.eq_ofNat_of_zero_le h0
  have : n < 4 := by omega
  match n with
  | 0 => exact OP_of rfl | 1 => exact OP_of rfl | 2 => exact OP_of rfl | 3 => exact OP_of rfl
  | n + 4 => omega
theorem w_ring_Is (n : Int) : WW ρ 1 S_ring_Is F_ring_Is n := by
  dsimp only [WW,appV,F_ring_Is]
  unfold S_ring_Is
  simp (disch:=first|omega|assumption|(constructor<;>first|assumption|omega)|simp only[LN];omega) only [↓SB,S1]
  refine ⟨fun h => ?_,fun h => ?_⟩ <;> simp [isN,h]
  try omega
theorem w_ring_Node (n : Int) : WW ρ 1 S_ring_Node F_ring_Node n := by
  dsimp only [WW,appV,F_ring_Node]
  unfold S_ring_Node
  simp (disch:=first|omega|assumption|(constructor<;>first|assumption|omega)|simp only[LN];omega) only [↓SB,S1,↓c_ring_Is]
  refine ⟨fun h => ?_,fun h => ?_⟩
  · simp [h]
  · rw [isN_iff] at h
    rw [OP_nn h.1 h.2];simp [isN_iff,h]
theorem w_ring_Topic (t : Int) : WW ρ 1 S_ring_Topic F_ring_Topic t := by
  dsimp only [WW,appV,F_ring_Topic]
  unfold S_ring_Topic
  simp (disch:=first|omega|assumption|(constructor<;>first|assumption|omega)|simp only[LN];omega) only [↓SB,S1]
  refine ⟨fun h => ⟨fun h2 => ?_,fun h2 => ?_⟩,fun h => ?_⟩
  · simp [isT,h];try omega
  · rw [OP_tt h (by omega)];simp [isT_iff,h];try omega
  · simp [isT,h];try omega
theorem w_key_Far (k : Int) (n : Int) (hp : 0 ≤ k ∧ k < 4611686018427387904 ∧ 0 ≤ n ∧ n < 4611686018427387904) : WW ρ 2 S_key_Far F_key_Far (k,n) := by
  dsimp only [WW,appV,F_key_Far]
  unfold S_key_Far far
  obtain ⟨h1,h2,h3,h4⟩ := hp
  simp (disch:=first|omega|assumption|(constructor<;>first|assumption|omega)|simp only[LN];omega) only [↓SB,S1]
  refine ⟨fun h => ?_,fun h => ?_⟩
  · simp [h]
  · simp [h];try omega
theorem w_ref01_Node (n : Int) (hp : isN n = true) : WW ρ 1 S_ref01_Node F_ref01_Node n := by
  dsimp only [WW,appV,F_ref01_Node]
  unfold S_ref01_Node
  rw [isN_iff] at hp
  simp (disch:=first|omega|assumption|(constructor<;>first|assumption|omega)|simp only[LN];omega) only [↓SB,S1]
  rw [cell_I hp.1 (by simp only [List.length_cons,List.length_nil];omega)];rfl
theorem w_ref01_Topic (t : Int) (hp : isT t = true) : WW ρ 1 S_ref01_Topic F_ref01_Topic t := by
  dsimp only [WW,appV,F_ref01_Topic]
  unfold S_ref01_Topic
  rw [isT_iff] at hp
  simp (disch:=first|omega|assumption|(constructor<;>first|assumption|omega)|simp only[LN];omega) only [↓SB,S1]
  rw [cell_I hp.1 (by simp only [List.length_cons,List.length_nil];omega)];rfl
theorem w_ref01_Behind (k : Int) (n : Int) (hp : 0 ≤ k ∧ k < 4611686018427387904 ∧ 0 ≤ n ∧ n < 4611686018427387904) : WW ρ 2 S_ref01_Behind F_ref01_Behind (k,n) := by
  dsimp only [WW,appV,F_ref01_Behind]
  unfold S_ref01_Behind far
  obtain ⟨h1,h2,h3,h4⟩ := hp
  simp (disch:=first|omega|assumption|(constructor<;>first|assumption|omega)|simp only[LN];omega) only [↓SB,S1]
  refine ⟨fun h => ?_,fun h => ?_⟩
  · simp;omega
  · simp;omega
theorem w_ref01_IsTopic (t : Int) : WW ρ 1 S_ref01_IsTopic F_ref01_IsTopic t := by
  dsimp only [WW,appV,F_ref01_IsTopic]
  unfold S_ref01_IsTopic
  simp (disch:=first|omega|assumption|(constructor<;>first|assumption|omega)|simp only[LN];omega) only [↓SB,S1,↓c_ref01_In]
  first
  | (refine ⟨fun h => ?_,fun h => ?_⟩ <;> simp [isT,h] <;> omega)
  | (simp only [isT,List.cons.injEq,PV.bool.injEq,and_true];rw [Bool.eq_iff_iff];simp;omega)
theorem w_ref01_IsNode (n : Int) : WW ρ 1 S_ref01_IsNode F_ref01_IsNode n := by
  dsimp only [WW,appV,F_ref01_IsNode]
  unfold S_ref01_IsNode
  simp (disch:=first|omega|assumption|(constructor<;>first|assumption|omega)|simp only[LN];omega) only [↓SB,S1,↓c_ref01_In]
  first
  | (refine ⟨fun h => ?_,fun h => ?_⟩ <;> simp [isN,h] <;> omega)
  | (simp only [isN,List.cons.injEq,PV.bool.injEq,and_true];rw [Bool.eq_iff_iff];simp;omega)
def K_ring_Gap := And.intro @c_ring_Topic (And.intro @c_ring_Node (@c_key_Far))
theorem w_ring_Gap (t : Int) (n : Int) : WW ρ 2 S_ring_Gap F_ring_Gap (t,n) := by
  dsimp only [WW,appV,F_ring_Gap]
  unfold S_ring_Gap gap
  have := tt_bd t;have := nn_bd n
  simp (disch:=first|omega|assumption|(constructor<;>first|assumption|omega)|simp only[LN];omega) only [↓SB,S1,↓K_ring_Gap]
  cases h1 : isT t <;> cases h2 : isN n <;> simp
theorem w_ring_Nearer (t : Int) (a : Int) (b : Int) : WW ρ 3 S_ring_Nearer F_ring_Nearer (t,a,b) := by
  dsimp only [WW,appV,F_ring_Nearer]
  unfold S_ring_Nearer near
  simp (disch:=first|omega|assumption|(constructor<;>first|assumption|omega)|simp only[LN];omega) only [↓SB,S1,↓c_ring_Gap]
  cases h1 : isT t <;> cases h2 : isN a <;> cases h3 : isN b <;> simp
theorem w_ref01_Gap (t : Int) (n : Int) (hp : isT t = true ∧ isN n = true) : WW ρ 2 S_ref01_Gap F_ref01_Gap (t,n) := by
  dsimp only [WW,appV,F_ref01_Gap]
  unfold S_ref01_Gap gap
  have := tt_bd t;have := nn_bd n
  obtain ⟨h1,h2⟩ := hp
  rw [c_ref01_Topic h1,c_ref01_Node h2,c_ref01_Behind (by omega)]
def K_ref01_Nearer := And.intro @c_ref01_IsNode (And.intro @c_ref01_IsTopic (@c_ref01_Gap))
theorem w_ref01_Nearer (t : Int) (a : Int) (b : Int) : WW ρ 3 S_ref01_Nearer F_ref01_Nearer (t,a,b) := by
  dsimp only [WW,appV,F_ref01_Nearer]
  unfold S_ref01_Nearer near
  simp (disch:=first|omega|assumption|(constructor<;>first|assumption|omega)|simp only[LN];omega) only [↓SB,S1,↓K_ref01_Nearer]
  cases h1 : isT t <;> cases h2 : isN a <;> cases h3 : isN b <;> simp
  rw [c_ref01_Gap ⟨h1,h2⟩,c_ref01_Gap ⟨h1,h3⟩]
  simp (disch:=first|omega|assumption|(constructor<;>first|assumption|omega)|simp only[LN];omega) only [↓SB,S1,↓K_ref01_Nearer]
theorem near_dom {t a b : Int} (h : near t a b = true) : (0 ≤ t ∧ t < 4) ∧ (0 ≤ a ∧ a < 8) ∧ (0 ≤ b ∧ b < 8) ∧ gap t a < gap t b := by
  simp only [near,Bool.and_eq_true,decide_eq_true_eq,isT_iff,isN_iff] at h
  exact ⟨h.1.1.1,h.1.1.2,h.1.2,h.2⟩
end Go.Xt
end
section
set_option linter.unusedSimpArgs false
set_option linter.unusedVariables false
set_option maxRecDepth 100000
namespace Go.Xt
set_option linter.defProp false
theorem w_ring_All (l : List Int) (hg : Goods (F_ring_All l).2.1) : WW ρ 1 S_ring_All F_ring_All l := by
  dsimp only [WW,appV,F_ring_All] at hg ⊢
  unfold S_ring_All
  simp only [Goods,good_L] at hg
  simp (disch:=first|omega|assumption|(constructor<;>first|assumption|omega)|simp only[LN];omega) only [↓SB,S1,↓c_ring_Is]
  refine LOOP.rule (α := Nat) (fun i => [I i]) (fun i => i ≤ l.length ∧ (l.drop i).all isN = l.all isN) (fun i => l.length - i) 0 rfl ⟨by omega,rfl⟩ (fun _ => rfl) ?_
  rintro i ⟨h1,h2⟩
  simp only [app]
  simp (disch:=first|omega|assumption|(constructor<;>first|assumption|omega)|simp only[LN];omega) only [↓SB,S1,↓c_ring_Is]
  refine ⟨fun h => ?_,fun h => ?_⟩
  · obtain ⟨x,hx⟩ := get_ex h
    rw [drop_eq hx,List.all_cons] at h2
    simp (disch:=first|omega|assumption|(constructor<;>first|assumption|omega)|simp only[LN];omega) only [↓SB,S1,↓c_ring_Is,cell_L hx]
    refine ⟨fun h3 => ?_,fun h3 => ⟨i + 1,rfl,⟨by omega,by simpa [h3] using h2⟩,by omega⟩⟩
    rw [h3] at h2;simp [← h2]
  · rw [drop_nil h] at h2
    simp [← h2]
theorem w_path_rises (t : Int) (self : Int) (l : List Int) (hg : Goods (F_path_rises (t,self,l)).2.1) : WW ρ 3 S_path_rises F_path_rises (t,self,l) := by
  dsimp only [WW,appV,F_path_rises] at hg ⊢
  unfold S_path_rises
  simp only [Goods,good_L] at hg
  simp (disch:=first|omega|assumption|(constructor<;>first|assumption|omega)|simp only[LN];omega) only [↓SB,S1,↓c_ring_Nearer]
  refine LOOP.rule (α := Nat × Int) (fun a => [I a.2,I a.1]) (fun a => a.1 ≤ l.length ∧ rises t a.2 (l.drop a.1) = rises t self l) (fun a => l.length - a.1) (0,self) rfl ⟨by simp,rfl⟩ (fun _ => rfl) ?_
  rintro ⟨i,s⟩ ⟨h1,h2⟩
  simp only [app] at *
  simp (disch:=first|omega|assumption|(constructor<;>first|assumption|omega)|simp only[LN];omega) only [↓SB,S1,↓c_ring_Nearer]
  refine ⟨fun h => ?_,fun h => ?_⟩
  · obtain ⟨x,hx⟩ := get_ex h
    rw [drop_eq hx,rises] at h2
    simp (disch:=first|omega|assumption|(constructor<;>first|assumption|omega)|simp only[LN];omega) only [↓SB,S1,↓c_ring_Nearer,cell_L hx]
    refine ⟨fun h3 => ?_,fun h3 => ⟨(i + 1,x),rfl,⟨by simp;omega,by simpa [h3] using h2⟩,by simp;omega⟩⟩
    rw [h3] at h2;simp [← h2]
  · rw [drop_nil h] at h2
    simp [← h2,rises]
def K_path_Check := And.intro @c_ring_All (And.intro @c_ring_Gap (@c_path_rises))
theorem w_path_Check (t : Int) (self : Int) (l : List Int) (depth : Int) (hg : Goods (F_path_Check (t,self,l,depth)).2.1) : WW ρ 4 S_path_Check F_path_Check (t,self,l,depth) := by
  dsimp only [WW,appV,F_path_Check] at hg ⊢
  unfold S_path_Check chk
  rw [c_ring_Gap]
  refine SUB.v1 (bb (!(isT t && isN self && decide (1 ≤ depth) && decide (depth ≤ 8) && l.all isN))) ?_ ?_
  · simp (disch:=first|omega|assumption|(constructor<;>first|assumption|omega)|simp only[LN];omega) only [↓SB,S1,↓K_path_Check]
    by_cases h3 : 1 ≤ depth <;> by_cases h4 : depth ≤ 8 <;> cases h1 : isT t <;> cases h2 : isN self <;> simp [h3,h4] <;> omega
  simp (disch:=first|omega|assumption|(constructor<;>first|assumption|omega)|simp only[LN];omega) only [↓SB,S1,↓K_path_Check]
  by_cases h : (isT t && isN self && decide (1 ≤ depth) && decide (depth ≤ 8) && l.all isN) = true
  · rw [if_pos h];simp only [h]
    cases h5 : rises t self l <;> simp <;> omega
  · rw [if_neg h];simp [h]
theorem w_bkeep_TwinInts (l : List Int) (hp : l.length ≤ 1000000) : WW ρ 1 S_bkeep_TwinInts F_bkeep_TwinInts l := by
  dsimp only [WW,appV,F_bkeep_TwinInts]
  unfold S_bkeep_TwinInts
  simp (disch:=first|omega|assumption|(constructor<;>first|assumption|omega)|simp only[LN];omega) only [↓SB,S1]
theorem w_bkeep_Ints (a : List Int) (b : List Int) (hg : Goods (F_bkeep_Ints (a,b)).2.1) : WW ρ 2 S_bkeep_Ints F_bkeep_Ints (a,b) := by
  dsimp only [WW,appV,F_bkeep_Ints] at hg ⊢
  unfold S_bkeep_Ints
  simp only [Goods,good_L] at hg
  simp (disch:=first|omega|assumption|(constructor<;>first|assumption|omega)|simp only[LN];omega) only [↓SB,S1]
  refine ⟨fun h => ?_,fun h => ?_⟩
  · have : a ≠ b := by rintro rfl;simp at h
    simp [this]
  have hl : a.length = b.length := by omega
  refine LOOP.rule (α := Nat) (fun i => [I i]) (fun i => i ≤ a.length ∧ ((a = b) = (a.drop i = b.drop i))) (fun i => a.length - i) 0 rfl ⟨by omega,by simp⟩ (fun _ => rfl) ?_
  rintro i ⟨h1,h2⟩
  simp only [app]
  simp (disch:=first|omega|assumption|(constructor<;>first|assumption|omega)|simp only[LN];omega) only [↓SB,S1]
  refine ⟨fun h => ?_,fun h => ?_⟩
  · obtain ⟨x,hx⟩ := get_ex h
    obtain ⟨y,hy⟩ := get_ex (xs := b) (i := i) (by omega)
    simp (disch:=first|omega|assumption|(constructor<;>first|assumption|omega)|simp only[LN];omega) only [↓SB,S1,cell_L hx,cell_L hy]
    rw [drop_eq hx,drop_eq hy,List.cons.injEq] at h2
    refine ⟨fun h3 => ?_,fun h3 => ⟨i + 1,rfl,⟨by omega,?_⟩,by omega⟩⟩
    · simp [h2,h3]
    · simpa [h3] using h2
  · rw [drop_nil h,drop_nil (by omega)] at h2
    simp [h2]
def K_ref10_Path := And.intro @c_ref01_IsNode (@c_ref01_Nearer)
theorem w_ref10_Path (t : Int) (self : Int) (l : List Int) (depth : Int) (hp : isT t = true ∧ isN self = true) (hg : Goods (F_ref10_Path (t,self,l,depth)).2.1) : WW ρ 4 S_ref10_Path F_ref10_Path (t,self,l,depth) := by
  dsimp only [WW,appV,F_ref10_Path] at hg ⊢
  unfold S_ref10_Path chkR
  simp only [Goods,good_L] at hg
  refine LOOP.rule (α := Nat) (fun i => [I i]) (fun i => i ≤ l.length ∧ (l.drop i).all isN = l.all isN) (fun i => l.length - i) 0 rfl ⟨by omega,by simp⟩ (fun _ => rfl) ?_
  rintro i ⟨h1,h2⟩
  simp only [app]
  simp (disch:=first|omega|assumption|(constructor<;>first|assumption|omega)|simp only[LN];omega) only [↓SB,S1,↓K_ref10_Path]
  refine ⟨fun h => ?_,fun h => ?_⟩
  · obtain ⟨x,hx⟩ := get_ex h
    rw [drop_eq hx,List.all_cons] at h2
    simp (disch:=first|omega|assumption|(constructor<;>first|assumption|omega)|simp only[LN];omega) only [↓SB,S1,↓K_ref10_Path,cell_L hx]
    refine ⟨fun h3 => ?_,fun h3 => ⟨i + 1,rfl,⟨by omega,by simpa [h3] using h2⟩,by omega⟩⟩
    rw [h3] at h2;simp [← h2]
  · rw [drop_nil h] at h2
    simp only [← h2,List.all_nil,if_true]
    refine ⟨fun h3 => by simp [h3],fun h3 => ?_⟩
    rw [if_neg (by omega)]
    refine LOOP.rule (α := Nat × Int) (fun a => [I a.2,I a.1]) (fun a => a.1 ≤ l.length ∧ rises t a.2 (l.drop a.1) = rises t self l) (fun a => l.length - a.1) (0,self) rfl ⟨by simp,rfl⟩ (fun _ => rfl) ?_
    rintro ⟨i,s⟩ ⟨h1,h2⟩
    simp only [app] at *
    simp (disch:=first|omega|assumption|(constructor<;>first|assumption|omega)|simp only[LN];omega) only [↓SB,S1,↓K_ref10_Path]
    refine ⟨fun h => ?_,fun h => ?_⟩
    · obtain ⟨x,hx⟩ := get_ex h
      rw [drop_eq hx,rises] at h2
      simp (disch:=first|omega|assumption|(constructor<;>first|assumption|omega)|simp only[LN];omega) only [↓SB,S1,↓K_ref10_Path,cell_L hx]
      refine ⟨fun h3 => ?_,fun h3 => ⟨(i + 1,x),rfl,⟨by simp;omega,by simpa [h3] using h2⟩,by simp;omega⟩⟩
      rw [h3] at h2;simp [← h2]
    · rw [drop_nil h] at h2
      simp [← h2,rises]
end Go.Xt
end
section
set_option linter.unusedSimpArgs false
set_option linter.unusedVariables false
set_option maxRecDepth 100000
namespace Go.Xt
set_option linter.defProp false
theorem w_ref01_In (n : Int) (lo : Int) (hi : Int) : WW ρ 3 S_ref01_In F_ref01_In (n,lo,hi) := by
  dsimp only [WW,appV,F_ref01_In]
  unfold S_ref01_In
  simp (disch:=first|omega|assumption|(constructor<;>first|assumption|omega)|simp only[LN];omega) only [↓S0,S3,S2,S1]
  simp
theorem w_ref01_Config (c : Config) : WW ρ 7 S_ref01_Config F_ref01_Config c := by
  dsimp only [WW,appV,F_ref01_Config]
  unfold S_ref01_Config
  simp (disch:=first|omega|assumption|(constructor<;>first|assumption|omega)|simp only[LN];omega) only [↓S0,S3,S2,S1,↓c_ref01_In]
  simp [cfgOk,rng,Bool.and_assoc]
def K_script_config := And.intro @c_errors_Join (@c_script_field)
theorem w_script_config (c : Config) : WW ρ 7 S_script_config F_script_config c := by
  dsimp only [WW,appV,F_script_config]
  unfold S_script_config
  simp (disch:=first|omega|assumption|(constructor<;>first|assumption|omega)|simp only[LN];omega) only [↓SB,S1,↓K_script_config]
  rw [c_errors_Join]
  · simp [cfgErrs,errOf]
  · simp
theorem errno13 : ∀ {l : List Int},(∀ e ∈ l,e = 13) → errnoOf l = if l = [] then 0 else 13
  | [],_ => by simp [errnoOf]
  | e :: r,h => by
    have h9 : ¬ 9 ∈ e :: r := fun h' => absurd (h 9 h') (by decide)
    simp only [errnoOf,if_neg h9]
    simp [h e (by simp)]
theorem errOf_nil {n lo hi why : Int} : (errOf n lo hi why = []) = (rng n lo hi = true) := by
  unfold errOf rng
  by_cases h : n < lo ∨ hi < n
  · rw [if_pos h];simp;omega
  · rw [if_neg h];simp;omega
theorem errOf_mem {n lo hi why e : Int} (h : e ∈ errOf n lo hi why) : e = why := by
  unfold errOf at h;split at h <;> simp at h;exact h
theorem errOf_len {n lo hi why : Int} : (errOf n lo hi why).length ≤ 1 := by unfold errOf;split <;> simp
theorem cfg_errno (c : Config) : errnoOf (cfgErrs c) = if cfgOk c = true then 0 else 13 := by
  rw [errno13]
  · have : (cfgErrs c = []) = (cfgOk c = true) := by
      simp only [cfgErrs,List.append_eq_nil_iff,errOf_nil,cfgOk,Bool.and_eq_true]
    simp only [this]
  · intro e h
    simp only [cfgErrs,List.mem_append] at h
    rcases h with (((((h | h) | h) | h) | h) | h) | h <;> exact errOf_mem h
def K_script_Config := And.intro @c_script_errno (@c_script_config)
theorem w_script_Config (c : Config) : WW ρ 7 S_script_Config F_script_Config c := by
  dsimp only [WW,appV,F_script_Config]
  unfold S_script_Config
  have h : (cfgErrs c).length ≤ 1000 := by
    have h1 := @errOf_len c.nodes 1 8 13;have h2 := @errOf_len c.topics 1 4 13;have h3 := @errOf_len c.kids 1 4 13;have h4 := @errOf_len c.depth 1 8 13
    have h5 := @errOf_len c.keep 1 16 13;have h6 := @errOf_len c.window 1 16 13;have h7 := @errOf_len c.queue 2 32 13
    simp only [cfgErrs,List.length_append];omega
  simp (disch:=first|omega|assumption|(constructor<;>first|assumption|omega)|simp only[LN];omega) only [↓SB,S1,↓K_script_Config]
  exact congrArg (fun x => [I x]) (cfg_errno c)
end Go.Xt
end
section
set_option linter.unusedSimpArgs false
set_option linter.unusedVariables false
set_option maxRecDepth 100000
namespace Go.Xt
set_option linter.defProp false
theorem w_msg_in (n : Int) (lo : Int) (hi : Int) : WW ρ 3 S_msg_in F_msg_in (n,lo,hi) := by
  dsimp only [WW,appV,F_msg_in]
  unfold S_msg_in rng
  simp (disch:=first|omega|assumption|(constructor<;>first|assumption|omega)|simp only[LN];omega) only [↓S0,S3,S2,S1]
  simp
theorem w_cast_in (n : Int) (lo : Int) (hi : Int) : WW ρ 3 S_cast_in F_cast_in (n,lo,hi) := by
  dsimp only [WW,appV,F_cast_in]
  unfold S_cast_in rng
  simp (disch:=first|omega|assumption|(constructor<;>first|assumption|omega)|simp only[LN];omega) only [↓S0,S3,S2,S1]
  simp
theorem w_ref19_in (n : Int) (lo : Int) (hi : Int) : WW ρ 3 S_ref19_in F_ref19_in (n,lo,hi) := by
  dsimp only [WW,appV,F_ref19_in]
  unfold S_ref19_in rng
  simp (disch:=first|omega|assumption|(constructor<;>first|assumption|omega)|simp only[LN];omega) only [↓S0,S3,S2,S1]
  simp
theorem w_ref10_in (n : Int) (lo : Int) (hi : Int) : WW ρ 3 S_ref10_in F_ref10_in (n,lo,hi) := by
  dsimp only [WW,appV,F_ref10_in]
  unfold S_ref10_in rng
  simp (disch:=first|omega|assumption|(constructor<;>first|assumption|omega)|simp only[LN];omega) only [↓S0,S3,S2,S1]
  simp
theorem w_msg_Counted (n : Int) : WW ρ 1 S_msg_Counted F_msg_Counted n := by
  dsimp only [WW,appV,F_msg_Counted]
  unfold S_msg_Counted cnt
  simp (disch:=first|omega|assumption|(constructor<;>first|assumption|omega)|simp only[LN];omega) only [↓S0,S3,S2,S1,↓c_msg_in]
theorem w_msg_Value (n : Int) : WW ρ 1 S_msg_Value F_msg_Value n := by
  dsimp only [WW,appV,F_msg_Value]
  unfold S_msg_Value val
  simp (disch:=first|omega|assumption|(constructor<;>first|assumption|omega)|simp only[LN];omega) only [↓S0,S3,S2,S1,↓c_msg_in]
theorem w_ref01_Value (n : Int) : WW ρ 1 S_ref01_Value F_ref01_Value n := by
  dsimp only [WW,appV,F_ref01_Value]
  unfold S_ref01_Value val
  simp (disch:=first|omega|assumption|(constructor<;>first|assumption|omega)|simp only[LN];omega) only [↓S0,S3,S2,S1,↓c_ref01_In]
  try simp [rng]
theorem w_ref10_count (n : Int) : WW ρ 1 S_ref10_count F_ref10_count n := by
  dsimp only [WW,appV,F_ref10_count]
  unfold S_ref10_count cnt
  simp (disch:=first|omega|assumption|(constructor<;>first|assumption|omega)|simp only[LN];omega) only [↓S0,S3,S2,S1,↓c_ref10_in]
theorem w_epoch_Check (e : Int) : WW ρ 1 S_epoch_Check F_epoch_Check e := by
  dsimp only [WW,appV,F_epoch_Check]
  unfold S_epoch_Check
  repeat' (first | apply And.intro | intro _ | simp (disch:=first|omega|assumption|(constructor<;>first|assumption|omega)|simp only[LN];omega) only [↓SB,S1,↓c_ring_Is])
  all_goals (simp_all [ep,rng];try omega)
theorem w_epoch_Who (e : Int) : WW ρ 1 S_epoch_Who F_epoch_Who e := by
  dsimp only [WW,appV,F_epoch_Who]
  unfold S_epoch_Who
  cases he : ep e
  · simp (disch:=first|omega|assumption|(constructor<;>first|assumption|omega)|simp only[LN];omega) only [↓SB,S1,↓c_epoch_Check]
    simp [he]
  · have h0 : 0 ≤ e := by simp only [ep,rng,Bool.and_eq_true,decide_eq_true_eq] at he;omega
    simp (disch:=first|omega|assumption|(constructor<;>first|assumption|omega)|simp only[LN];omega) only [↓SB,S1,↓c_epoch_Check]
    simp [he]
theorem w_ref10_Epoch (e : Int) : WW ρ 1 S_ref10_Epoch F_ref10_Epoch e := by
  dsimp only [WW,appV,F_ref10_Epoch]
  unfold S_ref10_Epoch
  cases he : rng e 1 1073741824
  · simp (disch:=first|omega|assumption|(constructor<;>first|assumption|omega)|simp only[LN];omega) only [↓SB,S1,↓c_ref10_in]
    simp [he,ep]
  · have h0 : 0 ≤ e := by simp only [rng,Bool.and_eq_true,decide_eq_true_eq] at he;omega
    simp (disch:=first|omega|assumption|(constructor<;>first|assumption|omega)|simp only[LN];omega) only [↓SB,S1,↓c_ref10_in]
    simp [he,ep,isN];omega
theorem w_view_right (p : Peer) : WW ρ 2 S_view_right F_view_right p := by
  dsimp only [WW,appV,F_view_right]
  unfold S_view_right
  simp (disch:=first|omega|assumption|(constructor<;>first|assumption|omega)|simp only[LN];omega) only [↓S0,S3,S2,S1]
  simp [peerOk,rng,Bool.and_assoc]
def K_kids_right := And.intro @c_ring_Nearer (@c_msg_Counted)
theorem w_kids_right (t : Int) (self : Int) (k : Kid) : WW ρ 5 S_kids_right F_kids_right (t,self,k) := by
  dsimp only [WW,appV,F_kids_right]
  unfold S_kids_right
  simp (disch:=first|omega|assumption|(constructor<;>first|assumption|omega)|simp only[LN];omega) only [↓S0,S3,S2,S1,↓K_kids_right]
  simp [rng,Bool.and_assoc]
theorem w_ahead_fits (seq : Int) (want : Int) (window : Int) (hp : cnt want = true ∧ rng window 1 16 = true) : WW ρ 3 S_ahead_fits F_ahead_fits (seq,want,window) := by
  dsimp only [WW,appV,F_ahead_fits]
  unfold S_ahead_fits
  obtain ⟨h1,h2⟩ := hp
  simp only [cnt,rng,Bool.and_eq_true,decide_eq_true_eq] at h1 h2
  simp (disch:=first|omega|assumption|(constructor<;>first|assumption|omega)|simp only[LN];omega) only [↓S0,S3,S2,S1]
  simp [Bool.and_assoc]
theorem w_graft_link (t : Int) (self : Int) (n : Int) (hg : Goods (F_graft_link (t,self,n)).2.1) : WW ρ 3 S_graft_link F_graft_link (t,self,n) := by
  dsimp only [WW,appV,F_graft_link] at hg ⊢
  unfold S_graft_link
  simp only [Goods,good_I] at hg
  repeat' (first | apply And.intro | intro _ | simp (disch:=first|omega|assumption|(constructor<;>first|assumption|omega)|simp only[LN];omega) only [↓SB,S1,↓c_ring_Nearer])
  all_goals (simp_all [link];try omega)
def K_ref10_near := And.intro @c_ref01_Nearer (@c_ref10_in)
theorem w_ref10_near (t : Int) (self : Int) (n : Int) (hg : Goods (F_ref10_near (t,self,n)).2.1) : WW ρ 3 S_ref10_near F_ref10_near (t,self,n) := by
  dsimp only [WW,appV,F_ref10_near] at hg ⊢
  unfold S_ref10_near
  simp only [Goods,good_I] at hg
  cases h2 : rng n 1 8
  · simp (disch:=first|omega|assumption|(constructor<;>first|assumption|omega)|simp only[LN];omega) only [↓SB,S1,↓K_ref10_near,h2]
    refine ⟨fun h1 => by simp [link,h1],fun h1 => ?_⟩
    have h9 : ¬ (0 < n ∧ near t (n - 1) self = true) := by
      rintro ⟨h3,h4⟩
      have := (near_dom h4).2.1
      simp [rng] at h2;omega
    simp only [link,h1]
    cases h3 : decide (0 < n) <;> cases h4 : near t (n - 1) self <;> simp_all <;> omega
  · have h3 : 1 ≤ n ∧ n ≤ 8 := by simpa [rng] using h2
    simp (disch:=first|omega|assumption|(constructor<;>first|assumption|omega)|simp only[LN];omega) only [↓SB,S1,↓K_ref10_near,h2]
    refine ⟨fun h1 => by omega,fun h1 => ?_⟩
    simp [link,h1];omega
theorem w_graft_rooted (self : Int) (x : Topic) : WW ρ 17 S_graft_rooted F_graft_rooted (self,x) := by
  dsimp only [WW,appV,F_graft_rooted]
  unfold S_graft_rooted
  simp (disch:=first|omega|assumption|(constructor<;>first|assumption|omega)|simp only[LN];omega) only [↓S0,S3,S2,S1,↓c_epoch_Who]
  cases h0 : decide (x.root = 0) <;> cases h1 : ep x.root <;> simp_all [rootOk,Bool.and_assoc]
theorem w_graft_placed (x : Topic) (hp : 0 ≤ x.parent ∧ x.parent ≤ 8) (hg : Goods (F_graft_placed x).2.1) : WW ρ 16 S_graft_placed F_graft_placed x := by
  dsimp only [WW,appV,F_graft_placed] at hg ⊢
  unfold S_graft_placed placedOk
  simp only [Goods,good_I,good_L] at hg
  cases hx : x.path with
  | nil => simp (disch:=first|omega|assumption|(constructor<;>first|assumption|omega)|simp only[LN];omega) only [↓SB,S1];simp
  | cons p r =>
    have h1 : ¬ ((r.length : Int) + 1 = 0) := by omega
    simp (disch:=first|omega|assumption|(constructor<;>first|assumption|omega)|simp only[LN];omega) only [↓SB,S1,OP_addW,List.length_cons,Int.natCast_add,Int.cast_ofNat_Int,h1]
theorem w_flow_zero (s : Stream) : WW ρ 5 S_flow_zero F_flow_zero s := by
  dsimp only [WW,appV,F_flow_zero]
  unfold S_flow_zero streamZ
  simp (disch:=first|omega|assumption|(constructor<;>first|assumption|omega)|simp only[LN];omega) only [↓S0,S3,S2,S1]
  simp [Bool.and_assoc]
end Go.Xt
end
section
set_option linter.unusedSimpArgs false
set_option linter.unusedVariables false
set_option maxRecDepth 100000
namespace Go.Xt
set_option linter.defProp false
theorem w_view_Check (l : List Peer) (hg : Goods (F_view_Check l).2.1) : WW ρ 1 S_view_Check F_view_Check l := by
  dsimp only [WW,appV,F_view_Check] at hg ⊢
  unfold S_view_Check peersOk
  simp only [Goods,good_L] at hg
  simp (disch:=first|omega|assumption|(constructor<;>first|assumption|omega)|simp only[LN];omega) only [↓SB,S1,↓c_view_right]
  refine ⟨fun h => ?_,fun h => ⟨fun h2 => ?_,fun h2 => ?_⟩⟩
  · simp [show ¬ 1 ≤ l.length by omega]
  · simp [show ¬ l.length ≤ 8 by omega]
  have e1 : decide (1 ≤ l.length) = true := by simp;omega
  have e2 : decide (l.length ≤ 8) = true := by simp;omega
  have e3 : decide ((8 : Int) < l.length) = false := by simp;omega
  simp only [e1,e2,e3,Bool.true_and]
  refine LOOP.rule (α := Nat) (fun i => [I i]) (fun i => i ≤ l.length ∧ (l.drop i).all (peerOk) = l.all (peerOk)) (fun i => l.length - i) 0 rfl ⟨by omega,by simp⟩ (fun _ => rfl) ?_
  rintro i ⟨hl_i,hs_i⟩
  simp only [app]
  simp (disch:=first|omega|assumption|(constructor<;>first|assumption|omega)|simp only[LN];omega) only [↓SB,S1,↓c_view_right]
  refine ⟨fun hc_i => ?_,fun hc_i => ?_⟩
  · obtain ⟨x,hx⟩ := get_ex hc_i
    rw [drop_eq hx,List.all_cons] at hs_i
    simp (disch:=first|omega|assumption|(constructor<;>first|assumption|omega)|simp only[LN];omega) only [↓SB,S1,↓c_view_right,cell_L hx]
    refine ⟨fun h3 => ?_,fun h3 => ⟨i + 1,rfl,⟨by omega,by simpa [h3] using hs_i⟩,by omega⟩⟩
    rw [h3,Bool.false_and] at hs_i;simp [← hs_i,ITE_true]
  · rw [drop_nil hc_i] at hs_i
    simp only [← hs_i];simp [h2,ITE_false]
theorem w_ref10_Peers (l : List Peer) (hg : Goods (F_ref10_Peers l).2.1) : WW ρ 1 S_ref10_Peers F_ref10_Peers l := by
  dsimp only [WW,appV,F_ref10_Peers] at hg ⊢
  unfold S_ref10_Peers peersOk
  simp only [Goods,good_L] at hg
  simp (disch:=first|omega|assumption|(constructor<;>first|assumption|omega)|simp only[LN];omega) only [↓SB,S1,↓c_ref10_in]
  refine ⟨fun h => ?_,fun h => ?_⟩
  · simp only [rng,Bool.and_eq_false_iff,decide_eq_false_iff_not] at h
    by_cases h1 : 1 ≤ l.length <;> by_cases h2 : l.length ≤ 8 <;> simp [h1,h2] <;> omega
  simp only [rng,Bool.and_eq_true,decide_eq_true_eq] at h
  have e1 : decide (1 ≤ l.length) = true := by simp;omega
  have e2 : decide (l.length ≤ 8) = true := by simp;omega
  simp only [e1,e2,Bool.true_and]
  refine LOOP.rule (α := Nat) (fun i => [I i]) (fun i => i ≤ l.length ∧ (l.drop i).all (peerOk) = l.all (peerOk)) (fun i => l.length - i) 0 rfl ⟨by omega,by simp⟩ (fun _ => rfl) ?_
  rintro i ⟨hl_i,hs_i⟩
  simp only [app]
  simp (disch:=first|omega|assumption|(constructor<;>first|assumption|omega)|simp only[LN];omega) only [↓SB,S1,↓c_ref10_in]
  refine ⟨fun hc_i => ?_,fun hc_i => ?_⟩
  · obtain ⟨x,hx⟩ := get_ex hc_i
    rw [drop_eq hx,List.all_cons] at hs_i
    simp (disch:=first|omega|assumption|(constructor<;>first|assumption|omega)|simp only[LN];omega) only [↓SB,S1,↓c_ref10_in,cell_L hx]
    refine ⟨fun h3 => ?_,fun h3 => ⟨fun h4 => ?_,fun h4 => ⟨i + 1,rfl,⟨by omega,by simpa [peerOk,h3,h4] using hs_i⟩,by omega⟩⟩⟩
    · rw [← hs_i];simp [peerOk,h3]
    · rw [← hs_i];simp [peerOk,h4]
  · rw [drop_nil hc_i] at hs_i
    simp only [← hs_i];simp
theorem dlt (a b : Int) : decide (a < b) = !decide (b ≤ a) := by rw [Bool.eq_iff_iff];simp
theorem near_trans {t a b c : Int} (h1 : near t a b = true) (h2 : near t b c = true) : near t a c = true := by
  obtain ⟨a1,a2,a3,a4⟩ := near_dom h1
  obtain ⟨b1,b2,b3,b4⟩ := near_dom h2
  simp only [near,Bool.and_eq_true,decide_eq_true_eq,isT_iff,isN_iff]
  exact ⟨⟨⟨a1,a2⟩,b3⟩,by omega⟩
theorem kidsGo_cons {t a : Int} {k : Kid} {r : List Kid} : kidsGo t a (k :: r) = (near t a k.node && cnt k.inc && rng k.age 0 6 && kidsGo t k.node r) := rfl
def K_kids_Check := And.intro @c_ring_Nearer (And.intro @c_ring_Gap (@c_kids_right))
theorem w_kids_Check (t : Int) (self : Int) (limit : Int) (l : List Kid) (hg : Goods (F_kids_Check (t,self,limit,l)).2.1) : WW ρ 4 S_kids_Check F_kids_Check (t,self,limit,l) := by
  dsimp only [WW,appV,F_kids_Check] at hg ⊢
  unfold S_kids_Check kidsOk
  simp only [Goods,good_I,good_L] at hg
  rw [c_ring_Gap]
  refine SUB.v1 (bb (!(isT t && isN self && rng limit 1 4 && decide ((l.length : Int) ≤ limit)))) ?_ ?_
  · cases h1 : (isT t && isN self)
    · simp (disch:=first|omega|assumption|(constructor<;>first|assumption|omega)|simp only[LN];omega) only [↓SB,S1,↓K_kids_Check,h1]
      simp
    · repeat' (first | apply And.intro | intro _ | simp (disch:=first|omega|assumption|(constructor<;>first|assumption|omega)|simp only[LN];omega) only [↓SB,S1,↓K_kids_Check])
      all_goals (simp_all [rng];try (first | omega | exact dlt _ _))
  simp (disch:=first|omega|assumption|(constructor<;>first|assumption|omega)|simp only[LN];omega) only [↓SB,S1,↓K_kids_Check]
  refine ⟨fun h => by simp [h],fun h => ?_⟩
  simp only [h,Bool.true_and]
  refine LOOP.rule (α := Nat) (fun i => [I i]) (fun i => i ≤ l.length ∧ ∃ p,(i = 0 → p = self) ∧ (0 < i → ∃ k,l[i - 1]? = some k ∧ p = k.node ∧ near t self p = true) ∧ kidsGo t p (l.drop i) = kidsGo t self l) (fun i => l.length - i) 0 rfl ⟨by omega,self,by simp⟩ (fun _ => rfl) ?_
  rintro i ⟨hl,p,hp0,hp1,hs⟩
  simp only [app]
  simp (disch:=first|omega|assumption|(constructor<;>first|assumption|omega)|simp only[LN];omega) only [↓SB,S1,↓K_kids_Check]
  refine ⟨fun hc => ?_,fun hc => ?_⟩
  · obtain ⟨x,hx⟩ := get_ex hc
    rw [drop_eq hx,kidsGo_cons] at hs
    simp (disch:=first|omega|assumption|(constructor<;>first|assumption|omega)|simp only[LN];omega) only [↓SB,S1,↓K_kids_Check,cell_L hx]
    refine ⟨fun h3 => ?_,fun h3 => ⟨fun h4 => ?_,fun h4 => ?_⟩⟩
    · have hf : kidsGo t self l = false := by
        rw [← hs]
        cases hn : near t p x.node with
        | false => simp
        | true =>
          have hns : near t self x.node = true := by
            rcases Nat.eq_zero_or_pos i with h0 | h0
            · rw [← hp0 h0];exact hn
            · obtain ⟨k,_,_,hk⟩ := hp1 h0;exact near_trans hk hn
          rw [hns] at h3
          cases h5 : cnt x.inc <;> cases h6 : rng x.age 0 6 <;> simp_all
      rw [hf];simp
    · simp only [Bool.and_eq_true] at h3
      obtain ⟨⟨h5,h6⟩,h7⟩ := h3
      obtain ⟨k,hk,rfl,hnk⟩ := hp1 (by omega)
      have e1 : ((i : Int) - 1) = ((i - 1 : Nat) : Int) := by omega
      simp (disch:=first|omega|assumption|(constructor<;>first|assumption|omega)|simp only[LN];omega) only [↓SB,S1,↓K_kids_Check,e1,cell_L hk]
      refine ⟨fun h8 => ?_,fun h8 => ⟨i + 1,by simp,⟨by omega,x.node,by simp,fun _ => ⟨x,by simpa using hx,rfl,h5⟩,?_⟩,by omega⟩⟩
      · rw [← hs,h8];simp
      · rw [← hs,h8,h6,h7];simp
    · simp only [Bool.and_eq_true] at h3
      obtain ⟨⟨h5,h6⟩,h7⟩ := h3
      have h0 : i = 0 := by omega
      rw [hp0 h0] at hs
      refine ⟨i + 1,by simp,⟨by omega,x.node,by simp,fun _ => ⟨x,by simpa using hx,rfl,h5⟩,?_⟩,by omega⟩
      rw [← hs,h5,h6,h7];simp
  · rw [drop_nil hc] at hs
    simp [← hs,kidsGo]
def K_ref10_Kids := And.intro @c_ref01_IsNode (And.intro @c_ref01_IsTopic (And.intro @c_ref01_Nearer (@c_ref10_in)))
theorem w_ref10_Kids (t : Int) (self : Int) (limit : Int) (l : List Kid) (hg : Goods (F_ref10_Kids (t,self,limit,l)).2.1) : WW ρ 4 S_ref10_Kids F_ref10_Kids (t,self,limit,l) := by
  dsimp only [WW,appV,F_ref10_Kids] at hg ⊢
  unfold S_ref10_Kids kidsOk
  simp only [Goods,good_I,good_L] at hg
  refine SUB.v1 (bb (!(isT t && isN self && rng limit 1 4 && decide ((l.length : Int) ≤ limit)))) ?_ ?_
  · repeat' (first | apply And.intro | intro _ | simp (disch:=first|omega|assumption|(constructor<;>first|assumption|omega)|simp only[LN];omega) only [↓SB,S1,↓K_ref10_Kids])
    all_goals (simp_all;try (first | omega | exact dlt _ _))
  simp (disch:=first|omega|assumption|(constructor<;>first|assumption|omega)|simp only[LN];omega) only [↓SB,S1,↓K_ref10_Kids]
  refine ⟨fun h => by simp [h],fun h => ?_⟩
  simp only [h,Bool.true_and]
  refine LOOP.rule (α := Nat × Int) (fun a => [I a.2,I a.1]) (fun a => a.1 ≤ l.length ∧ kidsGo t a.2 (l.drop a.1) = kidsGo t self l) (fun a => l.length - a.1) (0,self) rfl ⟨by simp,by simp⟩ (fun _ => rfl) ?_
  rintro ⟨i,p⟩ ⟨hl,hs⟩
  simp only [app] at *
  simp (disch:=first|omega|assumption|(constructor<;>first|assumption|omega)|simp only[LN];omega) only [↓SB,S1,↓K_ref10_Kids]
  refine ⟨fun hc => ?_,fun hc => ?_⟩
  · obtain ⟨x,hx⟩ := get_ex hc
    rw [drop_eq hx,kidsGo_cons] at hs
    simp (disch:=first|omega|assumption|(constructor<;>first|assumption|omega)|simp only[LN];omega) only [↓SB,S1,↓K_ref10_Kids,cell_L hx]
    refine ⟨fun h3 => ?_,fun h3 => ⟨fun h4 => ?_,fun h4 => ⟨fun h5 => ?_,fun h5 => ⟨fun h6 => ?_,fun h6 => ⟨(i + 1,x.node),by simp,⟨by omega,?_⟩,by simp;omega⟩⟩⟩⟩⟩
    · have : near t p x.node = false := by
        cases hn : near t p x.node with
        | false => rfl
        | true => have := (near_dom hn).2.2.1;rw [isN_iff.2 this] at h3;cases h3
      rw [← hs,this];simp
    · rw [← hs,h4];simp
    · rw [← hs];simp [cnt,h5]
    · rw [← hs,h6];simp
    · rw [← hs,h4,h6];simp [cnt,h5]
  · rw [drop_nil hc] at hs
    simp [← hs,kidsGo]
end Go.Xt
end
section
set_option linter.unusedSimpArgs false
set_option linter.unusedVariables false
set_option maxRecDepth 100000
namespace Go.Xt
set_option linter.defProp false
theorem keptGo_cons {n : Int} {x : Item} {r : List Item} : keptGo n (x :: r) = (decide (x.seq = n) && val x.value && keptGo (n + 1) r) := rfl
theorem ahdGo_cons {m p : Int} {x : Item} {r : List Item} : ahdGo m p (x :: r) = (decide (p < x.seq) && decide (x.seq < m) && decide (x.seq < 1073741824) && val x.value && ahdGo m x.seq r) := rfl
theorem cnt_bd {n : Int} (h : cnt n = true) : 1 ≤ n ∧ n ≤ 1073741824 := by simpa [cnt,rng] using h
theorem rng_bd {n a b : Int} (h : rng n a b = true) : a ≤ n ∧ n ≤ b := by simpa [rng] using h
theorem w_keep_right (l : List Item) (want : Int) (hp : cnt want = true ∧ l.length ≤ 16) (hg : Goods (F_keep_right (l,want)).2.1) : WW ρ 2 S_keep_right F_keep_right (l,want) := by
  dsimp only [WW,appV,F_keep_right] at hg ⊢
  unfold S_keep_right
  obtain ⟨hw,hl16⟩ := hp
  have hw := cnt_bd hw
  simp (disch:=first|omega|assumption|(constructor<;>first|assumption|omega)|simp only[LN];omega) only [↓SB,S1,↓c_msg_Value]
  refine LOOP.rule (α := Nat) (fun i => [I i]) (fun i => i ≤ l.length ∧ (0 < i → (l.length : Int) < want) ∧ keptGo (want - l.length + i) (l.drop i) = keptGo (want - l.length) l) (fun i => l.length - i) 0 rfl ⟨by omega,by omega,by simp⟩ (fun _ => rfl) ?_
  rintro i ⟨hl,hpos,hs⟩
  simp only [app]
  simp (disch:=first|omega|assumption|(constructor<;>first|assumption|omega)|simp only[LN];omega) only [↓SB,S1,↓c_msg_Value]
  refine ⟨fun hc => ?_,fun hc => ?_⟩
  · obtain ⟨x,hx⟩ := get_ex hc
    rw [drop_eq hx,keptGo_cons] at hs
    simp (disch:=first|omega|assumption|(constructor<;>first|assumption|omega)|simp only[LN];omega) only [↓SB,S1,↓c_msg_Value,cell_L hx]
    refine ⟨fun h1 => ?_,fun h1 => ⟨fun h2 => ?_,fun h2 => ⟨fun h3 => ?_,fun h3 => ⟨i + 1,by simp,⟨by omega,fun _ => ?_,?_⟩,by omega⟩⟩⟩⟩
    · rw [← hs]
      by_cases h2 : x.seq = want - l.length + i
      · have : ¬ (l.length : Int) < want := fun h => by omega
        simp [this]
      · simp [h2]
    · rw [← hs];simp [h2]
    · rw [← hs];simp [h3]
    · rcases Nat.eq_zero_or_pos i with h0 | h0
      · subst h0;omega
      · exact hpos h0
    · rw [← hs,h3];simp [h2,Int.add_assoc]
  · rw [drop_nil hc] at hs
    rw [← hs]
    have : (l.length : Int) < want := by
      rcases Nat.eq_zero_or_pos i with h0 | h0
      · omega
      · exact hpos h0
    simp [this,keptGo]
def K_keep_Check := And.intro @c_msg_Counted (@c_keep_right)
theorem w_keep_Check (l : List Item) (want : Int) (limit : Int) (hg : Goods (F_keep_Check (l,want,limit)).2.1) : WW ρ 3 S_keep_Check F_keep_Check (l,want,limit) := by
  dsimp only [WW,appV,F_keep_Check] at hg ⊢
  unfold S_keep_Check keptOk
  simp only [Goods,good_I,good_L] at hg
  cases h1 : cnt want
  · simp (disch:=first|omega|assumption|(constructor<;>first|assumption|omega)|simp only[LN];omega) only [↓SB,S1,↓K_keep_Check,h1]
    simp
  cases h2 : (rng limit 1 16 && decide ((l.length : Int) ≤ limit))
  · repeat' (first | apply And.intro | intro _ | simp (disch:=first|omega|assumption|(constructor<;>first|assumption|omega)|simp only[LN];omega) only [↓SB,S1,↓K_keep_Check])
    all_goals (simp_all [rng];try omega)
  · simp only [Bool.and_eq_true,decide_eq_true_eq] at h2
    have h3 := rng_bd h2.1
    rw [h2.1]
    simp (disch:=first|omega|assumption|(constructor<;>first|assumption|omega)|simp only[LN];omega) only [↓SB,S1,↓K_keep_Check,h1]
    have e1 : ¬ limit < 1 := by omega
    have e2 : ¬ 16 < limit := by omega
    have e3 : ¬ limit < (l.length : Int) := by omega
    have e4 : decide ((l.length : Int) ≤ limit) = true := by simp;omega
    refine ⟨fun h => absurd h e1,fun _ => ⟨fun h => absurd h e2,fun _ => ⟨fun h => absurd h e3,fun _ => ?_⟩⟩⟩
    cases h5 : (decide ((l.length : Int) < want) && keptGo (want - l.length) l) <;> simp_all
def K_ref10_Kept := And.intro @c_ref01_Value (@c_ref10_in)
theorem w_ref10_Kept (l : List Item) (want : Int) (limit : Int) (hg : Goods (F_ref10_Kept (l,want,limit)).2.1) : WW ρ 3 S_ref10_Kept F_ref10_Kept (l,want,limit) := by
  dsimp only [WW,appV,F_ref10_Kept] at hg ⊢
  unfold S_ref10_Kept keptOk
  simp only [Goods,good_I,good_L] at hg
  refine SUB.v1 (bb (!(cnt want && rng limit 1 16 && decide ((l.length : Int) ≤ limit) && decide ((l.length : Int) < want)))) ?_ ?_
  · repeat' (first | apply And.intro | intro _ | simp (disch:=first|omega|assumption|(constructor<;>first|assumption|omega)|simp only[LN];omega) only [↓SB,S1,↓K_ref10_Kept])
    all_goals (simp_all [cnt];try (first | omega | exact dlt _ _))
    all_goals (rw [Bool.eq_iff_iff];simp)
  simp (disch:=first|omega|assumption|(constructor<;>first|assumption|omega)|simp only[LN];omega) only [↓SB,S1,↓K_ref10_Kept]
  refine ⟨fun h => by simp [h],fun h => ?_⟩
  simp only [h,Bool.true_and]
  simp only [Bool.and_eq_true,decide_eq_true_eq] at h
  obtain ⟨⟨⟨h1,h2⟩,h3⟩,h4⟩ := h
  have h1 := cnt_bd h1
  have h2 := rng_bd h2
  refine LOOP.rule (α := Nat) (fun i => [I i]) (fun i => i ≤ l.length ∧ keptGo (want - l.length + i) (l.drop i) = keptGo (want - l.length) l) (fun i => l.length - i) 0 rfl ⟨by omega,by simp⟩ (fun _ => rfl) ?_
  rintro i ⟨hl,hs⟩
  simp only [app]
  simp (disch:=first|omega|assumption|(constructor<;>first|assumption|omega)|simp only[LN];omega) only [↓SB,S1,↓K_ref10_Kept]
  refine ⟨fun hc => ?_,fun hc => ?_⟩
  · obtain ⟨x,hx⟩ := get_ex hc
    rw [drop_eq hx,keptGo_cons] at hs
    simp (disch:=first|omega|assumption|(constructor<;>first|assumption|omega)|simp only[LN];omega) only [↓SB,S1,↓K_ref10_Kept,cell_L hx]
    refine ⟨fun h2 => ?_,fun h2 => ⟨fun h3 => ?_,fun h3 => ⟨i + 1,by simp,⟨by omega,?_⟩,by omega⟩⟩⟩
    · rw [← hs];simp [h2]
    · rw [← hs];simp [h3]
    · rw [← hs,h3];simp [h2,Int.add_assoc]
  · rw [drop_nil hc] at hs
    rw [← hs];simp [keptGo]
def K_ahead_Check := And.intro @c_msg_Value (And.intro @c_msg_Counted (@c_ahead_fits))
theorem w_ahead_Check (l : List Item) (want : Int) (window : Int) (hg : Goods (F_ahead_Check (l,want,window)).2.1) : WW ρ 3 S_ahead_Check F_ahead_Check (l,want,window) := by
  dsimp only [WW,appV,F_ahead_Check] at hg ⊢
  unfold S_ahead_Check aheadOk
  simp only [Goods,good_I,good_L] at hg
  refine SUB.v1 (bb (!(cnt want && rng window 1 16))) ?_ ?_
  · repeat' (first | apply And.intro | intro _ | simp (disch:=first|omega|assumption|(constructor<;>first|assumption|omega)|simp only[LN];omega) only [↓SB,S1,↓K_ahead_Check])
    all_goals (simp_all [rng];try (first | omega | exact dlt _ _))
  simp (disch:=first|omega|assumption|(constructor<;>first|assumption|omega)|simp only[LN];omega) only [↓SB,S1,↓K_ahead_Check]
  refine ⟨fun h => by simp [h],fun h => ?_⟩
  simp only [h,Bool.true_and]
  simp only [Bool.and_eq_true,decide_eq_true_eq] at h
  obtain ⟨h1',h2'⟩ := h
  have h1 := cnt_bd h1'
  have h2 := rng_bd h2'
  refine LOOP.rule (α := Nat) (fun i => [I i]) (fun i => i ≤ l.length ∧ ∃ p,(i = 0 → p = want) ∧ (0 < i → ∃ k,l[i - 1]? = some k ∧ p = k.seq) ∧ want ≤ p ∧ ahdGo (want + window) p (l.drop i) = ahdGo (want + window) want l) (fun i => l.length - i) 0 rfl ⟨by omega,want,by simp⟩ (fun _ => rfl) ?_
  rintro i ⟨hl,p,hp0,hp1,hwp,hs⟩
  simp only [app]
  simp (disch:=first|omega|assumption|(constructor<;>first|assumption|omega)|simp only[LN];omega) only [↓SB,S1,↓K_ahead_Check]
  refine ⟨fun hc => ?_,fun hc => ?_⟩
  · obtain ⟨x,hx⟩ := get_ex hc
    rw [drop_eq hx,ahdGo_cons] at hs
    simp (disch:=first|omega|assumption|(constructor<;>first|assumption|omega)|simp only[LN];omega) only [↓SB,S1,↓K_ahead_Check,cell_L hx]
    refine ⟨fun h3 => ?_,fun h3 => ⟨fun h4 => ?_,fun h4 => ⟨fun h5 => ?_,fun h5 => ?_⟩⟩⟩
    · have : (decide (p < x.seq) && decide (x.seq < want + window) && decide (x.seq < 1073741824)) = false := by
        rw [Bool.eq_false_iff] at h3 ⊢
        intro h6;apply h3
        simp only [Bool.and_eq_true,decide_eq_true_eq] at h6 ⊢
        omega
      rw [← hs,this];simp
    · rw [← hs,h4];simp
    · obtain ⟨k,hk,rfl⟩ := hp1 (by omega)
      have e1 : ((i : Int) - 1) = ((i - 1 : Nat) : Int) := by omega
      simp (disch:=first|omega|assumption|(constructor<;>first|assumption|omega)|simp only[LN];omega) only [↓SB,S1,↓K_ahead_Check,e1,cell_L hk]
      simp only [Bool.and_eq_true,decide_eq_true_eq] at h3
      refine ⟨fun h8 => ?_,fun h8 => ⟨i + 1,by simp,⟨by omega,x.seq,by simp,fun _ => ⟨x,by simpa using hx,rfl⟩,by omega,?_⟩,by omega⟩⟩
      · rw [← hs];simp [show ¬ k.seq < x.seq by omega]
      · rw [← hs,h4];simp [show k.seq < x.seq by omega,h3]
    · have h0 : i = 0 := by omega
      rw [hp0 h0] at hs
      simp only [Bool.and_eq_true,decide_eq_true_eq] at h3
      refine ⟨i + 1,by simp,⟨by omega,x.seq,by simp,fun _ => ⟨x,by simpa using hx,rfl⟩,by omega,?_⟩,by omega⟩
      rw [← hs,h4];simp [h3]
  · rw [drop_nil hc] at hs
    simp [← hs,ahdGo]
def K_ref10_Ahead2 := And.intro @c_ref01_Value (@c_ref10_in)
theorem w_ref10_Ahead2 (l : List Item) (want : Int) (window : Int) (hg : Goods (F_ref10_Ahead2 (l,want,window)).2.1) : WW ρ 3 S_ref10_Ahead2 F_ref10_Ahead2 (l,want,window) := by
  dsimp only [WW,appV,F_ref10_Ahead2] at hg ⊢
  unfold S_ref10_Ahead2 aheadOk
  simp only [Goods,good_I,good_L] at hg
  refine SUB.v1 (bb (!(cnt want && rng window 1 16))) ?_ ?_
  · repeat' (first | apply And.intro | intro _ | simp (disch:=first|omega|assumption|(constructor<;>first|assumption|omega)|simp only[LN];omega) only [↓SB,S1,↓K_ref10_Ahead2])
    all_goals (simp_all [cnt];try (first | omega | exact dlt _ _))
  simp (disch:=first|omega|assumption|(constructor<;>first|assumption|omega)|simp only[LN];omega) only [↓SB,S1,↓K_ref10_Ahead2]
  refine ⟨fun h => by simp [h],fun h => ?_⟩
  simp only [h,Bool.true_and]
  simp only [Bool.and_eq_true,decide_eq_true_eq] at h
  obtain ⟨h1',h2'⟩ := h
  have h1 := cnt_bd h1'
  have h2 := rng_bd h2'
  refine LOOP.rule (α := Nat) (fun i => [I i]) (fun i => i ≤ l.length ∧ ∃ p,(i = 0 → p = want) ∧ (0 < i → ∃ k,l[i - 1]? = some k ∧ p = k.seq) ∧ want ≤ p ∧ ahdGo (want + window) p (l.drop i) = ahdGo (want + window) want l) (fun i => l.length - i) 0 rfl ⟨by omega,want,by simp⟩ (fun _ => rfl) ?_
  rintro i ⟨hl,p,hp0,hp1,hwp,hs⟩
  simp only [app]
  simp (disch:=first|omega|assumption|(constructor<;>first|assumption|omega)|simp only[LN];omega) only [↓SB,S1,↓K_ref10_Ahead2]
  refine ⟨fun hc => ?_,fun hc => ?_⟩
  · obtain ⟨x,hx⟩ := get_ex hc
    rw [drop_eq hx,ahdGo_cons] at hs
    simp (disch:=first|omega|assumption|(constructor<;>first|assumption|omega)|simp only[LN];omega) only [↓SB,S1,↓K_ref10_Ahead2,cell_L hx]
    refine ⟨fun h3 => ?_,fun h3 => ⟨fun h4 => ?_,fun h4 => ⟨fun h5 => ?_,fun h5 => ⟨fun h6 => ?_,fun h6 => ?_⟩⟩⟩⟩
    · rw [← hs];simp [show ¬ p < x.seq by omega]
    · rw [← hs];simp [show ¬ x.seq < want + window by omega]
    · rw [← hs];simp [show ¬ x.seq < 1073741824 by omega]
    · obtain ⟨k,hk,rfl⟩ := hp1 (by omega)
      have e1 : ((i : Int) - 1) = ((i - 1 : Nat) : Int) := by omega
      simp (disch:=first|omega|assumption|(constructor<;>first|assumption|omega)|simp only[LN];omega) only [↓SB,S1,↓K_ref10_Ahead2,e1,cell_L hk]
      refine ⟨fun h8 => ?_,fun h8 => ⟨fun h9 => ?_,fun h9 => ⟨i + 1,by simp,⟨by omega,x.seq,by simp,fun _ => ⟨x,by simpa using hx,rfl⟩,by omega,?_⟩,by omega⟩⟩⟩
      · rw [← hs];simp [show ¬ k.seq < x.seq by omega]
      · rw [← hs,h9];simp
      · rw [← hs,h9];simp [show k.seq < x.seq by omega,show x.seq < want + window by omega,show x.seq < 1073741824 by omega]
    · have h0 : i = 0 := by omega
      rw [hp0 h0] at hs
      refine ⟨fun h9 => ?_,fun h9 => ⟨i + 1,by simp,⟨by omega,x.seq,by simp,fun _ => ⟨x,by simpa using hx,rfl⟩,by omega,?_⟩,by omega⟩⟩
      · rw [← hs,h9];simp
      · rw [← hs,h9];simp [show want < x.seq by omega,show x.seq < want + window by omega,show x.seq < 1073741824 by omega]
  · rw [drop_nil hc] at hs
    simp [← hs,ahdGo]
end Go.Xt
end
section
set_option linter.unusedSimpArgs false
set_option linter.unusedVariables false
set_option maxRecDepth 100000
namespace Go.Xt
set_option linter.defProp false
def K_queue_Event := And.intro @c_msg_Value (And.intro @c_msg_Counted (And.intro @c_ring_Is (@c_epoch_Check)))
theorem w_queue_Event (x : Event) : WW ρ 6 S_queue_Event F_queue_Event x := by
  dsimp only [WW,appV,F_queue_Event]
  unfold S_queue_Event
  generalize hE : evOk x = q
  unfold evOk at hE
  by_cases k1 : x.kind = 1
  · rw [OP_eql,decide_eq_true k1,ITE_true]
    simp (disch:=first|omega|assumption|(constructor<;>first|assumption|omega)|simp only[LN];omega) only [↓S0,S3,S2,S1,↓K_queue_Event,k1]
    simp only [k1,if_true] at hE
    subst hE
    cases ep x.epoch <;> cases cnt x.seq <;> cases val x.value <;> by_cases h1 : x.last = 0 <;> by_cases h2 : x.count = 0 <;> simp [h1,h2]
  by_cases k2 : x.kind = 2
  · rw [OP_eql,decide_eq_false k1,ITE_false,OP_eql,decide_eq_true k2,ITE_true]
    simp (disch:=first|omega|assumption|(constructor<;>first|assumption|omega)|simp only[LN];omega) only [↓S0,S3,S2,S1,↓K_queue_Event,k2]
    simp only [k2,if_true] at hE
    simp at hE
    subst hE
    cases ep x.epoch <;> cases cnt x.seq <;> by_cases h3 : x.seq ≤ x.last <;> by_cases h4 : x.last ≤ 1073741824 <;> by_cases h1 : x.value = 0 <;> by_cases h2 : x.count = 0 <;> simp [h1,h2,h3,h4,rng]
  by_cases k3 : x.kind = 3
  · rw [OP_eql,decide_eq_false k1,ITE_false,OP_eql,decide_eq_false k2,ITE_false,OP_eql,decide_eq_true k3,ITE_true]
    simp (disch:=first|omega|assumption|(constructor<;>first|assumption|omega)|simp only[LN];omega) only [↓S0,S3,S2,S1,↓K_queue_Event,k3]
    simp [k3] at hE
    subst hE
    cases isN x.value <;> by_cases h3 : 1 ≤ x.count <;> by_cases h4 : x.count ≤ 40 <;> by_cases h1 : x.epoch = 0 <;> by_cases h2 : x.seq = 0 <;> by_cases h5 : x.last = 0 <;> simp [h1,h2,h3,h4,h5,rng]
  by_cases k4 : x.kind = 4
  · rw [OP_eql,decide_eq_false k1,ITE_false,OP_eql,decide_eq_false k2,ITE_false,OP_eql,decide_eq_false k3,ITE_false,OP_eql,decide_eq_true k4,ITE_true]
    simp (disch:=first|omega|assumption|(constructor<;>first|assumption|omega)|simp only[LN];omega) only [↓S0,S3,S2,S1,↓K_queue_Event,k4]
    simp [k4] at hE
    subst hE
    by_cases h3 : 1 ≤ x.count <;> by_cases h4 : x.count ≤ 40 <;> by_cases h1 : x.epoch = 0 <;> by_cases h2 : x.seq = 0 <;> by_cases h5 : x.last = 0 <;> by_cases h6 : x.value = 0 <;> simp [h1,h2,h3,h4,h5,h6,rng]
  by_cases k5 : x.kind = 5
  · rw [OP_eql,decide_eq_false k1,ITE_false,OP_eql,decide_eq_false k2,ITE_false,OP_eql,decide_eq_false k3,ITE_false,OP_eql,decide_eq_false k4,ITE_false,OP_eql,decide_eq_true k5,ITE_true]
    simp (disch:=first|omega|assumption|(constructor<;>first|assumption|omega)|simp only[LN];omega) only [↓S0,S3,S2,S1,↓K_queue_Event,k5]
    simp [k5] at hE
    subst hE
    by_cases h3 : x.count = 0 <;> by_cases h1 : x.epoch = 0 <;> by_cases h2 : x.seq = 0 <;> by_cases h5 : x.last = 0 <;> by_cases h6 : x.value = 0 <;> simp [h1,h2,h3,h5,h6]
  · rw [OP_eql,decide_eq_false k1,ITE_false,OP_eql,decide_eq_false k2,ITE_false,OP_eql,decide_eq_false k3,ITE_false,OP_eql,decide_eq_false k4,ITE_false,OP_eql,decide_eq_false k5,ITE_false]
    simp (disch:=first|omega|assumption|(constructor<;>first|assumption|omega)|simp only[LN];omega) only [↓S0,S3,S2,S1,↓K_queue_Event]
    simp [k1,k2,k3,k4,k5] at hE
    subst hE
    simp
def K_ref10_Event := And.intro @c_ref01_Value (And.intro @c_ref01_IsNode (And.intro @c_ref10_in (And.intro @c_ref10_Epoch (@c_ref10_count))))
theorem w_ref10_Event (x : Event) : WW ρ 6 S_ref10_Event F_ref10_Event x := by
  dsimp only [WW,appV,F_ref10_Event]
  unfold S_ref10_Event
  generalize hE : evOk x = q
  unfold evOk at hE
  by_cases k1 : x.kind = 1
  · simp (disch:=first|omega|assumption|(constructor<;>first|assumption|omega)|simp only[LN];omega) only [↓S0,S3,S2,S1,↓K_ref10_Event,k1]
    simp only [k1,if_true] at hE
    subst hE
    cases ep x.epoch <;> cases cnt x.seq <;> cases val x.value <;> simp
  by_cases k2 : x.kind = 2
  · simp (disch:=first|omega|assumption|(constructor<;>first|assumption|omega)|simp only[LN];omega) only [↓S0,S3,S2,S1,↓K_ref10_Event,k2]
    simp [k2] at hE
    subst hE
    cases ep x.epoch <;> cases cnt x.seq <;> cases rng x.last x.seq 1073741824 <;> simp
  by_cases k3 : x.kind = 3
  · simp (disch:=first|omega|assumption|(constructor<;>first|assumption|omega)|simp only[LN];omega) only [↓S0,S3,S2,S1,↓K_ref10_Event,k3]
    simp [k3] at hE
    subst hE
    cases isN x.value <;> cases rng x.count 1 40 <;> simp [Bool.and_assoc]
  by_cases k4 : x.kind = 4
  · simp (disch:=first|omega|assumption|(constructor<;>first|assumption|omega)|simp only[LN];omega) only [↓S0,S3,S2,S1,↓K_ref10_Event,k4]
    simp [k4] at hE
    subst hE
    cases rng x.count 1 40 <;> simp [Bool.and_assoc]
  by_cases k5 : x.kind = 5
  · simp (disch:=first|omega|assumption|(constructor<;>first|assumption|omega)|simp only[LN];omega) only [↓S0,S3,S2,S1,↓K_ref10_Event,k5]
    simp [k5] at hE
    subst hE
    simp [Bool.and_assoc]
  · simp (disch:=first|omega|assumption|(constructor<;>first|assumption|omega)|simp only[LN];omega) only [↓S0,S3,S2,S1,↓K_ref10_Event,k1,k2,k3,k4,k5]
    simp [k1,k2,k3,k4,k5] at hE
    subst hE
    simp
end Go.Xt
end
section
set_option linter.unusedSimpArgs false
set_option linter.unusedVariables false
set_option maxRecDepth 100000
namespace Go.Xt
set_option linter.defProp false
theorem lastGap_get {l : List Event} {x : Event} (h : l[l.length - 1]? = some x) : lastGap l = decide (x.kind = 2) := by
  unfold lastGap
  rw [List.getLast?_eq_getElem?,h]
theorem get_last {α : Type} {l : List α} (h : 0 < l.length) : ∃ x,l[l.length - 1]? = some x := ⟨l[l.length - 1]'(by omega),by simp [show l.length - 1 < l.length by omega]⟩
theorem w_queue_Check (l : List Event) (limit : Int) (hg : Goods (F_queue_Check (l,limit)).2.1) : WW ρ 2 S_queue_Check F_queue_Check (l,limit) := by
  dsimp only [WW,appV,F_queue_Check] at hg ⊢
  unfold S_queue_Check
  simp only [Goods,good_I,good_L] at hg
  refine SUB.v1 (bb (!(rng limit 2 32 && decide ((l.length : Int) ≤ limit)))) ?_ ?_
  · repeat' (first | apply And.intro | intro _ | simp (disch:=first|omega|assumption|(constructor<;>first|assumption|omega)|simp only[LN];omega) only [↓SB,S1,↓c_queue_Event])
    all_goals (simp_all [rng];try (first | omega | exact dlt _ _))
  cases hr : (rng limit 2 32 && decide ((l.length : Int) ≤ limit))
  · refine SUB.v1 (bb true) (by simp (disch:=first|omega|assumption|(constructor<;>first|assumption|omega)|simp only[LN];omega) only [↓SB,S1,↓c_queue_Event]) ?_
    simp (disch:=first|omega|assumption|(constructor<;>first|assumption|omega)|simp only[LN];omega) only [↓SB,S1,↓c_queue_Event]
    simp [queueOk,hr]
  simp only [Bool.and_eq_true,decide_eq_true_eq] at hr
  have hb := rng_bd hr.1
  refine SUB.v1 (bb (!(l.all evOk))) ?_ ?_
  · simp (disch:=first|omega|assumption|(constructor<;>first|assumption|omega)|simp only[LN];omega) only [↓SB,S1,↓c_queue_Event]
    refine LOOP.rule (α := Nat) (fun i => [I i]) (fun i => i ≤ l.length ∧ (l.drop i).all (evOk) = l.all (evOk)) (fun i => l.length - i) 0 rfl ⟨by omega,by simp⟩ (fun _ => rfl) ?_
    rintro i ⟨hl_i,hs_i⟩
    simp only [app]
    simp (disch:=first|omega|assumption|(constructor<;>first|assumption|omega)|simp only[LN];omega) only [↓SB,S1,↓c_queue_Event]
    refine ⟨fun hc_i => ?_,fun hc_i => ?_⟩
    · obtain ⟨x,hx⟩ := get_ex hc_i
      rw [drop_eq hx,List.all_cons] at hs_i
      simp (disch:=first|omega|assumption|(constructor<;>first|assumption|omega)|simp only[LN];omega) only [↓SB,S1,↓c_queue_Event,cell_L hx]
      refine ⟨fun h3 => ?_,fun h3 => ⟨i + 1,rfl,⟨by omega,by rw [← hs_i];cases he : evOk x <;> simp_all⟩,by omega⟩⟩
      have : evOk x = false := by cases he : evOk x <;> simp_all
      rw [← hs_i,this];simp
    · rw [drop_nil hc_i] at hs_i
      rw [← hs_i];simp
  simp (disch:=first|omega|assumption|(constructor<;>first|assumption|omega)|simp only[LN];omega) only [↓SB,S1,↓c_queue_Event]
  unfold queueOk
  refine ⟨fun h => by simp [h],fun h => ⟨fun h2 => ?_,fun h2 => ?_⟩⟩
  · have h0 : 0 < l.length := by omega
    obtain ⟨x,hx⟩ := get_last h0
    have e1 : limit - 1 = ((l.length - 1 : Nat) : Int) := by omega
    simp (disch:=first|omega|assumption|(constructor<;>first|assumption|omega)|simp only[LN];omega) only [↓SB,S1,↓c_queue_Event,e1,cell_L hx]
    have e2 : decide ((l.length : Int) < limit) = false := by simp;omega
    rw [lastGap_get hx,hr.1,e2,h]
    by_cases hk : x.kind = 2 <;> simp [hk] <;> omega
  · have e2 : decide ((l.length : Int) < limit) = true := by simp;omega
    have e3 : decide ((l.length : Int) ≤ limit) = true := by simp;omega
    rw [hr.1,e2,e3,h];simp
def K_ref10_Queue := And.intro @c_ref10_in (@c_ref10_Event)
theorem w_ref10_Queue (l : List Event) (limit : Int) (hg : Goods (F_ref10_Queue (l,limit)).2.1) : WW ρ 2 S_ref10_Queue F_ref10_Queue (l,limit) := by
  dsimp only [WW,appV,F_ref10_Queue] at hg ⊢
  unfold S_ref10_Queue
  simp only [Goods,good_I,good_L] at hg
  refine SUB.v1 (bb (!(rng limit 2 32 && decide ((l.length : Int) ≤ limit)))) ?_ ?_
  · repeat' (first | apply And.intro | intro _ | simp (disch:=first|omega|assumption|(constructor<;>first|assumption|omega)|simp only[LN];omega) only [↓SB,S1,↓K_ref10_Queue])
    all_goals (simp_all;try (first | omega | exact dlt _ _))
  cases hr : (rng limit 2 32 && decide ((l.length : Int) ≤ limit))
  · simp (disch:=first|omega|assumption|(constructor<;>first|assumption|omega)|simp only[LN];omega) only [↓SB,S1,↓K_ref10_Queue]
    simp [queueOk,hr]
  simp only [Bool.and_eq_true,decide_eq_true_eq] at hr
  have hb := rng_bd hr.1
  have e3 : decide ((l.length : Int) ≤ limit) = true := by simp;omega
  unfold queueOk
  rw [hr.1,e3]
  simp (disch:=first|omega|assumption|(constructor<;>first|assumption|omega)|simp only[LN];omega) only [↓SB,S1,↓K_ref10_Queue]
  refine LOOP.rule (α := Nat) (fun i => [I i]) (fun i => i ≤ l.length ∧ (l.drop i).all (evOk) = l.all (evOk)) (fun i => l.length - i) 0 rfl ⟨by omega,by simp⟩ (fun _ => rfl) ?_
  rintro i ⟨hl_i,hs_i⟩
  simp only [app]
  simp (disch:=first|omega|assumption|(constructor<;>first|assumption|omega)|simp only[LN];omega) only [↓SB,S1,↓K_ref10_Queue]
  refine ⟨fun hc_i => ?_,fun hc_i => ?_⟩
  · obtain ⟨x,hx⟩ := get_ex hc_i
    rw [drop_eq hx,List.all_cons] at hs_i
    simp (disch:=first|omega|assumption|(constructor<;>first|assumption|omega)|simp only[LN];omega) only [↓SB,S1,↓K_ref10_Queue,cell_L hx]
    refine ⟨fun h3 => ?_,fun h3 => ⟨i + 1,rfl,⟨by omega,by rw [← hs_i,h3];simp⟩,by omega⟩⟩
    rw [← hs_i,h3];simp
  · rw [drop_nil hc_i] at hs_i
    rw [← hs_i]
    refine ⟨fun h => by simp [h],fun h => ?_⟩
    have h0 : 0 < l.length := by omega
    obtain ⟨x,hx⟩ := get_last h0
    have e1 : (l.length : Int) - 1 = ((l.length - 1 : Nat) : Int) := by omega
    have e2 : decide ((l.length : Int) < limit) = false := by simp;omega
    simp (disch:=first|omega|assumption|(constructor<;>first|assumption|omega)|simp only[LN];omega) only [↓SB,S1,↓K_ref10_Queue,e1,cell_L hx]
    rw [lastGap_get hx,e2];simp
def K_flow_right := And.intro @c_msg_Counted (And.intro @c_epoch_Check (And.intro @c_flow_zero (And.intro @c_keep_Check (@c_ahead_Check))))
theorem w_flow_right (c : Config) (s : Stream) (hg : Goods (F_flow_right (c,s)).2.1) : WW ρ 12 S_flow_right F_flow_right (c,s) := by
  dsimp only [WW,appV,F_flow_right] at hg ⊢
  unfold S_flow_right
  simp (disch:=first|omega|assumption|(constructor<;>first|assumption|omega)|simp only[LN];omega) only [↓S0,S3,S2,S1,↓K_flow_right]
  unfold streamOk
  cases streamZ s <;> cases ep s.epoch <;> cases cnt s.want <;> cases keptOk s.kept s.want c.keep <;> cases aheadOk s.ahead s.want c.window <;> simp [rng]
def K_flow_Check := And.intro @c_script_Config (And.intro @c_queue_Check (@c_flow_right))
theorem w_flow_Check (c : Config) (s : Stream) (q : List Event) (hg : Goods (F_flow_Check (c,s,q)).2.1) : WW ρ 13 S_flow_Check F_flow_Check (c,s,q) := by
  dsimp only [WW,appV,F_flow_Check] at hg ⊢
  unfold S_flow_Check
  simp (disch:=first|omega|assumption|(constructor<;>first|assumption|omega)|simp only[LN];omega) only [↓S0,S3,S2,S1,↓K_flow_Check]
  unfold flowOk
  cases cfgOk c <;> cases streamOk c s <;> cases queueOk q c.queue <;> simp
theorem streamZ_eq (s : Stream) : decide (s = ⟨0,0,0,[],[]⟩) = streamZ s := by
  rw [Bool.eq_iff_iff];simp [streamZ,Stream.eq_iff,and_assoc]
def K_ref10_Stream := And.intro @c_bkeep_Stream (And.intro @c_ref10_in (And.intro @c_ref10_Epoch (And.intro @c_ref10_count (And.intro @c_ref10_Kept (@c_ref10_Ahead2)))))
theorem w_ref10_Stream (c : Config) (s : Stream) (hg : Goods (F_ref10_Stream (c,s)).2.1) : WW ρ 12 S_ref10_Stream F_ref10_Stream (c,s) := by
  dsimp only [WW,appV,F_ref10_Stream] at hg ⊢
  unfold S_ref10_Stream
  simp (disch:=first|omega|assumption|(constructor<;>first|assumption|omega)|simp only[LN];omega) only [↓S0,S3,S2,S1,↓K_ref10_Stream,streamZ_eq]
  unfold streamOk
  cases streamZ s <;> simp [Bool.and_assoc]
def K_ref10_Flow := And.intro @c_ref10_Stream (@c_ref10_Queue)
theorem w_ref10_Flow (c : Config) (s : Stream) (q : List Event) (hg : Goods (F_ref10_Flow (c,s,q)).2.1) : WW ρ 13 S_ref10_Flow F_ref10_Flow (c,s,q) := by
  dsimp only [WW,appV,F_ref10_Flow] at hg ⊢
  unfold S_ref10_Flow
  simp (disch:=first|omega|assumption|(constructor<;>first|assumption|omega)|simp only[LN];omega) only [↓S0,S3,S2,S1,↓K_ref10_Flow]
  unfold flowOk
  try simp
def K_graft_right := And.intro @c_kids_Check (And.intro @c_graft_link (And.intro @c_graft_rooted (And.intro @c_graft_placed (And.intro @c_path_Check (@c_flow_Check)))))
theorem w_graft_right (c : Config) (t : Int) (self : Int) (x : Topic) (hp : cfgOk c = true) (hg : Goods (F_graft_right (c,t,self,x)).2.1) : WW ρ 25 S_graft_right F_graft_right (c,t,self,x) := by
  dsimp only [WW,appV,F_graft_right] at hg ⊢
  unfold S_graft_right
  generalize hE : topicOk c t self x = q
  refine SUB.v1 (bb (!(rng x.top 0 1073741824 && rng x.age 0 1000))) ?_ ?_
  · repeat' (first | apply And.intro | intro _ | simp (disch:=first|omega|assumption|(constructor<;>first|assumption|omega)|simp only[LN];omega) only [↓SB,S1,↓K_graft_right])
    all_goals (simp_all [rng];try (first | omega | exact dlt _ _))
  unfold topicOk at hE
  cases h1 : (rng x.top 0 1073741824 && rng x.age 0 1000)
  · rw [h1] at hE
    simp (disch:=first|omega|assumption|(constructor<;>first|assumption|omega)|simp only[LN];omega) only [↓SB,S1,↓K_graft_right]
    simp [← hE]
  rw [Bool.not_true,ITE_false]
  refine SUB.v1 (bb (link t self x.parent && link t self x.asked && link t self x.other)) ?_ ?_
  · simp (disch:=first|omega|assumption|(constructor<;>first|assumption|omega)|simp only[LN];omega) only [↓S0,S3,S2,S1,↓K_graft_right]
    simp [Bool.and_assoc]
  cases h2 : (link t self x.parent && link t self x.asked && link t self x.other)
  · simp (disch:=first|omega|assumption|(constructor<;>first|assumption|omega)|simp only[LN];omega) only [↓SB,S1,↓K_graft_right]
    rw [← hE]
    cases h3 : link t self x.parent <;> cases h4 : link t self x.asked <;> cases h5 : link t self x.other <;> simp_all
  simp only [Bool.and_eq_true] at h2
  have hpar : 0 ≤ x.parent ∧ x.parent ≤ 8 := by
    have := h2.1.1
    simp only [link,Bool.or_eq_true,Bool.and_eq_true,decide_eq_true_eq] at this
    rcases this with h | ⟨h,h'⟩
    · omega
    · have := (near_dom h').2.1;omega
  rw [h1] at hE
  rw [h2.1.1,h2.1.2,h2.2] at hE
  simp (disch:=first|omega|assumption|(constructor<;>first|assumption|omega)|simp only[LN];omega) only [↓S0,S3,S2,S1,↓K_graft_right,hp]
  rw [← hE]
  cases rootOk self x <;> cases placedOk x <;> cases kidsOk t self c.kids x.kids <;> cases flowOk c x.stream x.queue <;> by_cases h9 : chk t self x.path c.depth = 0 <;> simp [h9]
def K_graft_Check := And.intro @c_script_Config (@c_graft_right)
theorem w_graft_Check (c : Config) (t : Int) (self : Int) (x : Topic) (hg : Goods (F_graft_Check (c,t,self,x)).2.1) : WW ρ 25 S_graft_Check F_graft_Check (c,t,self,x) := by
  dsimp only [WW,appV,F_graft_Check] at hg ⊢
  unfold S_graft_Check
  cases hc : cfgOk c
  · simp (disch:=first|omega|assumption|(constructor<;>first|assumption|omega)|simp only[LN];omega) only [↓SB,S1,↓K_graft_Check,hc]
    simp
  · simp (disch:=first|omega|assumption|(constructor<;>first|assumption|omega)|simp only[LN];omega) only [↓SB,S1,↓K_graft_Check,hc]
    unfold place
    refine ⟨fun h => ?_,fun h => ⟨fun h1 => ?_,fun h1 => ⟨fun h2 => ?_,fun h2 => ⟨fun h3 => ?_,fun h3 => ?_⟩⟩⟩⟩
    · simp [rng,show ¬ 0 ≤ t by omega]
    · simp [rng,show ¬ t ≤ c.topics - 1 by omega]
    · simp [rng,show ¬ 0 ≤ self by omega]
    · simp [rng,show ¬ self ≤ c.nodes - 1 by omega]
    · have e1 : rng t 0 (c.topics - 1) = true := by simp [rng];omega
      have e2 : rng self 0 (c.nodes - 1) = true := by simp [rng];omega
      rw [e1,e2]
      cases topicOk c t self x <;> simp
end Go.Xt
end
section
set_option linter.unusedSimpArgs false
set_option linter.unusedVariables false
set_option maxRecDepth 100000
namespace Go.Xt
set_option linter.defProp false
theorem cfg_bd {c : Config} (h : cfgOk c = true) : (1 ≤ c.nodes ∧ c.nodes ≤ 8) ∧ (1 ≤ c.topics ∧ c.topics ≤ 4) ∧ (1 ≤ c.kids ∧ c.kids ≤ 4) ∧ (1 ≤ c.depth ∧ c.depth ≤ 8) ∧ (1 ≤ c.keep ∧ c.keep ≤ 16) ∧ (1 ≤ c.window ∧ c.window ≤ 16) ∧ (2 ≤ c.queue ∧ c.queue ≤ 32) := by
  simp only [cfgOk,rng,Bool.and_eq_true,decide_eq_true_eq] at h
  obtain ⟨⟨⟨⟨⟨⟨a,b⟩,d⟩,e⟩,f⟩,g⟩,i⟩ := h
  exact ⟨a,b,d,e,f,g,i⟩
theorem place_bd {c : Config} {t self : Int} (hc : cfgOk c = true) (h : place c t self = true) : isT t = true ∧ isN self = true ∧ (0 ≤ t ∧ t < c.topics) ∧ (0 ≤ self ∧ self < c.nodes) := by
  have hb := cfg_bd hc
  simp only [place,Bool.and_eq_true] at h
  have h1 := rng_bd h.1;have h2 := rng_bd h.2
  exact ⟨isT_iff.2 (by omega),isN_iff.2 (by omega),by omega,by omega⟩
theorem chk_chkR {t self c : Int} {l : List Int} (ht : isT t = true) (hs : isN self = true) (h1 : 1 ≤ c) (h2 : c ≤ 8) : chk t self l c = chkR t self l c := by
  simp [chk,chkR,ht,hs,h1,h2]
theorem chkR_all {t self c : Int} {l : List Int} (h : chkR t self l c = 0) : l.all isN = true := by
  unfold chkR at h
  by_cases e : l.all isN = true
  · exact e
  · rw [if_neg e] at h;omega
theorem link_bd {t self n : Int} (h : link t self n = true) : 0 ≤ n ∧ n ≤ 8 := by
  simp only [link,Bool.or_eq_true,Bool.and_eq_true,decide_eq_true_eq] at h
  rcases h with h | ⟨h,h'⟩
  · omega
  · have := (near_dom h').2.1;omega
def placed2 (x : Topic) : Bool := (decide (0 < x.path.length) == decide (0 < x.parent)) && match x.path with | [] => true | p :: _ => decide (p = x.parent - 1)
theorem placed2_eq {t self : Int} {x : Topic} (hl : link t self x.parent = true) (hp : x.path.all isN = true) : placedOk x = placed2 x := by
  have hb := link_bd hl
  unfold placedOk placed2
  cases hx : x.path with
  | nil =>
    rw [Bool.eq_iff_iff];simp;omega
  | cons p r =>
    rw [hx,List.all_cons,Bool.and_eq_true] at hp
    have := isN_iff.1 hp.1
    have hw : IntKind.i64.wrap (p + 1) = p + 1 := wr (by omega) (by omega)
    simp only [hw]
    rw [Bool.eq_iff_iff];simp;omega
def K_ref10_Topic := And.intro @c_ref10_in (And.intro @c_ref10_Epoch (And.intro @c_ref10_near (And.intro @c_ref10_Path (And.intro @c_ref10_Kids (@c_ref10_Flow)))))
theorem w_ref10_Topic (c : Config) (t : Int) (self : Int) (x : Topic) (hp : cfgOk c = true ∧ place c t self = true) (hg : Goods (F_ref10_Topic (c,t,self,x)).2.1) : WW ρ 25 S_ref10_Topic F_ref10_Topic (c,t,self,x) := by
  dsimp only [WW,appV,F_ref10_Topic] at hg ⊢
  unfold S_ref10_Topic
  generalize hE : topicOk c t self x = q
  obtain ⟨hc,hpl⟩ := hp
  have hb := cfg_bd hc
  obtain ⟨ht,hs,ht2,hs2⟩ := place_bd hc hpl
  simp only [Goods,good_I,good_L] at hg
  unfold topicOk at hE
  rw [chk_chkR ht hs hb.2.2.2.1.1 hb.2.2.2.1.2] at hE
  have hroot : rootOk self x = ((decide (x.root = 0) || (ep x.root && decide (x.root % 16 = self) && decide (x.root ≤ x.top))) && (decide (x.root = 0) || (decide (x.parent = 0) && decide (x.stream.epoch = x.root)))) := by
    unfold rootOk
    cases h : decide (x.root = 0) <;> simp [Bool.and_assoc]
  rw [hroot] at hE
  refine SUB.v1 (bb (!(rng x.top 0 1073741824 && (decide (x.root = 0) || (ep x.root && decide (x.root % 16 = self) && decide (x.root ≤ x.top))) && link t self x.parent && link t self x.asked && link t self x.other && rng x.age 0 1000))) ?_ ?_
  · cases he : ep x.root
    · repeat' (first | apply And.intro | intro _ | simp (disch:=first|omega|assumption|(constructor<;>first|assumption|omega)|simp only[LN];omega) only [↓SB,S1,↓K_ref10_Topic])
      all_goals simp_all
    · have h0 : 0 ≤ x.root := by simp only [ep,rng,Bool.and_eq_true,decide_eq_true_eq] at he;omega
      repeat' (first | apply And.intro | intro _ | simp (disch:=first|omega|assumption|(constructor<;>first|assumption|omega)|simp only[LN];omega) only [↓SB,S1,↓K_ref10_Topic])
      all_goals simp_all
      all_goals omega
  cases hA : (rng x.top 0 1073741824 && (decide (x.root = 0) || (ep x.root && decide (x.root % 16 = self) && decide (x.root ≤ x.top))) && link t self x.parent && link t self x.asked && link t self x.other && rng x.age 0 1000)
  · simp (disch:=first|omega|assumption|(constructor<;>first|assumption|omega)|simp only[LN];omega) only [↓SB,S1,↓K_ref10_Topic]
    rw [← hE]
    clear hE hroot
    revert hA
    cases rng x.top 0 1073741824 <;> cases rng x.age 0 1000 <;> cases link t self x.parent <;> cases link t self x.asked <;> cases link t self x.other <;> cases (decide (x.root = 0) || (ep x.root && decide (x.root % 16 = self) && decide (x.root ≤ x.top))) <;> simp
  simp only [Bool.and_eq_true] at hA
  obtain ⟨⟨⟨⟨⟨A1,A2⟩,A3⟩,A4⟩,A5⟩,A6⟩ := hA
  rw [A1,A2,A3,A4,A5,A6] at hE
  simp only [Bool.true_and] at hE
  have hlb := link_bd A3
  simp (disch:=first|omega|assumption|(constructor<;>first|assumption|omega)|simp only[LN];omega) only [↓SB,S1,↓K_ref10_Topic]
  refine ⟨fun h => ?_,fun h => ?_⟩
  · rw [← hE];simp [h]
  have h0 := chkR_all h
  rw [placed2_eq A3 h0] at hE
  simp only [h,eq_self,decide_true,Bool.and_true] at hE
  refine ⟨fun h1 => ?_,fun h1 => ?_⟩
  · rw [← hE]
    have : placed2 x = false := by
      unfold placed2
      rw [Bool.and_eq_false_iff];left
      revert h1
      by_cases a : 0 < x.path.length <;> by_cases b : 0 < x.parent <;> simp [a,b]
    rw [this];simp
  have fin : placed2 x = true → (¬ x.root = 0 → (¬ x.parent = 0 → [bb false] = [bb q]) ∧ (x.parent = 0 → (¬ x.stream.epoch = x.root → [bb false] = [bb q]) ∧ (x.stream.epoch = x.root →
      (kidsOk t self c.kids x.kids = true → [bb (flowOk c x.stream x.queue)] = [bb q]) ∧ (kidsOk t self c.kids x.kids = false → [bb false] = [bb q])))) ∧
      (x.root = 0 → (kidsOk t self c.kids x.kids = true → [bb (flowOk c x.stream x.queue)] = [bb q]) ∧ (kidsOk t self c.kids x.kids = false → [bb false] = [bb q])) := by
    intro hp2
    rw [← hE,hp2]
    by_cases r0 : x.root = 0 <;> by_cases p0 : x.parent = 0 <;> by_cases e0 : x.stream.epoch = x.root <;> cases kidsOk t self c.kids x.kids <;> simp [r0,p0,e0]
  refine ⟨fun h2 => ?_,fun h2 => fin ?_⟩
  · cases hx : x.path with
    | nil => rw [hx] at h2;simp at h2
    | cons p r =>
      have h3 : (0 : Int) < ((p :: r).length : Nat) := by simp
      have hp3 : 0 < x.parent := by
        revert h1;rw [hx]
        by_cases b : 0 < x.parent <;> simp [b]
      simp (disch:=first|omega|assumption|(constructor<;>first|assumption|omega)|simp only[LN];omega) only [↓SB,S1,↓K_ref10_Topic]
      refine ⟨fun h4 => ?_,fun h4 => fin ?_⟩
      · rw [← hE]
        have : placed2 x = false := by unfold placed2;rw [hx];simp [h4]
        rw [this];simp
      · unfold placed2;rw [hx];simp [hp3,h4]
  · unfold placed2
    cases hx : x.path with
    | nil =>
      revert h1;rw [hx]
      by_cases b : 0 < x.parent <;> simp [b]
    | cons p r => rw [hx] at h2;simp at h2
theorem w_cast_mark (m : Mark) : WW ρ 3 S_cast_mark F_cast_mark m := by
  dsimp only [WW,appV,F_cast_mark]
  unfold S_cast_mark
  simp (disch:=first|omega|assumption|(constructor<;>first|assumption|omega)|simp only[LN];omega) only [↓S0,S3,S2,S1,↓c_cast_in]
  simp [markOk,Bool.and_assoc]
def K_cast_taken := And.intro @c_cast_in (And.intro @c_msg_Value (@c_msg_Counted))
theorem w_cast_taken (c : Config) (x : Mark2) (hp : cfgOk c = true) : WW ρ 12 S_cast_taken F_cast_taken (c,x) := by
  dsimp only [WW,appV,F_cast_taken]
  unfold S_cast_taken
  have hb := cfg_bd hp
  simp (disch:=first|omega|assumption|(constructor<;>first|assumption|omega)|simp only[LN];omega) only [↓S0,S3,S2,S1,↓K_cast_taken]
  simp [takenOk,Bool.and_assoc]
theorem callsGo_cons {c : Config} {asks p : Int} {x : Call} {r : List Call} : callsGo c asks p (x :: r) = (decide (p < x.count) && decide (x.count ≤ asks) && rng x.topic 0 (c.topics - 1) && rng x.age 0 20 && callsGo c asks x.count r) := rfl
theorem w_cast_calls (c : Config) (n : Node) (hp : cfgOk c = true) (hg : Goods (F_cast_calls (c,n)).2.1) : WW ρ 16 S_cast_calls F_cast_calls (c,n) := by
  dsimp only [WW,appV,F_cast_calls] at hg ⊢
  unfold S_cast_calls
  have hb := cfg_bd hp
  simp only [Goods,good_I,good_L] at hg
  simp (disch:=first|omega|assumption|(constructor<;>first|assumption|omega)|simp only[LN];omega) only [↓SB,S1,↓c_cast_in]
  refine LOOP.rule (α := Nat × Int) (fun a => [I a.2,I a.1]) (fun a => a.1 ≤ n.calls.length ∧ callsGo c n.asks a.2 (n.calls.drop a.1) = callsGo c n.asks 0 n.calls) (fun a => n.calls.length - a.1) (0,0) rfl ⟨by simp,by simp⟩ (fun _ => rfl) ?_
  rintro ⟨i,p⟩ ⟨hl,hs⟩
  simp only [app] at *
  simp (disch:=first|omega|assumption|(constructor<;>first|assumption|omega)|simp only[LN];omega) only [↓SB,S1,↓c_cast_in]
  refine ⟨fun h => ?_,fun h => ?_⟩
  · obtain ⟨x,hx⟩ := get_ex h
    rw [drop_eq hx,callsGo_cons] at hs
    simp (disch:=first|omega|assumption|(constructor<;>first|assumption|omega)|simp only[LN];omega) only [↓SB,S1,↓c_cast_in,cell_L hx]
    refine ⟨fun h1 => ?_,fun h1 => ⟨fun h2 => ?_,fun h2 => ⟨fun h3 => ?_,fun h3 => ⟨fun h4 => ?_,fun h4 => ⟨(i + 1,x.count),by simp,⟨by omega,?_⟩,by simp;omega⟩⟩⟩⟩⟩
    · rw [← hs];simp [show ¬ p < x.count by omega]
    · rw [← hs];simp [show ¬ x.count ≤ n.asks by omega]
    · rw [← hs,h3];simp
    · rw [← hs,h4];simp
    · rw [← hs,h3,h4];simp [show p < x.count by omega,show x.count ≤ n.asks by omega]
  · rw [drop_nil h] at hs
    rw [← hs]
    simp [callsGo];omega
end Go.Xt
end
section
set_option linter.unusedSimpArgs false
set_option linter.unusedVariables false
set_option maxRecDepth 100000
namespace Go.Xt
set_option linter.defProp false
theorem topicsGo_cons {c : Config} {self t : Int} {x : Topic} {r : List Topic} : topicsGo c self t (x :: r) = (topicOk c t self x && topicsGo c self (t + 1) r) := rfl
theorem place_of {c : Config} {t self : Int} (h0 : 0 ≤ t) (h1 : t < c.topics) (hs : rng self 0 (c.nodes - 1) = true) : place c t self = true := by
  simp only [place,hs,Bool.and_true];simp [rng];omega
def K_cast_right := And.intro @c_cast_in (And.intro @c_msg_Counted (And.intro @c_cast_calls (And.intro @c_graft_Check (And.intro @c_cast_mark (And.intro @c_view_Check (@c_cast_taken))))))
theorem w_cast_right (c : Config) (self : Int) (n : Node) (hp : cfgOk c = true ∧ rng self 0 (c.nodes - 1) = true) (hg : Goods (F_cast_right (c,self,n)).2.1) : WW ρ 17 S_cast_right F_cast_right (c,self,n) := by
  dsimp only [WW,appV,F_cast_right] at hg ⊢
  unfold S_cast_right
  generalize hE : nodeOk c self n = q
  obtain ⟨hc,hself⟩ := hp
  have hb := cfg_bd hc
  simp only [Goods,good_I,good_L] at hg
  unfold nodeOk at hE
  refine SUB.v1 (bb (!(cnt n.inc && rng n.pubs 0 1073741824 && rng n.asks 0 40 && (callsGo c n.asks 0 n.calls && decide (n.calls.length ≤ 40))))) ?_ ?_
  · simp (disch:=first|omega|assumption|(constructor<;>first|assumption|omega)|simp only[LN];omega) only [↓S0,S3,S2,S1,↓K_cast_right]
    simp [Bool.and_assoc]
  cases hA : (cnt n.inc && rng n.pubs 0 1073741824 && rng n.asks 0 40 && (callsGo c n.asks 0 n.calls && decide (n.calls.length ≤ 40)))
  · simp (disch:=first|omega|assumption|(constructor<;>first|assumption|omega)|simp only[LN];omega) only [↓SB,S1,↓K_cast_right]
    rw [← hE]
    simp only [← Bool.and_assoc] at hA
    rw [hA];simp
  simp only [← Bool.and_assoc] at hA
  rw [hA] at hE
  rw [Bool.not_true,ITE_false]
  refine SUB.v1 (bb (!(decide ((n.peers.length : Int) = c.nodes) && decide ((n.topics.length : Int) = c.topics) && decide ((n.marks.length : Int) = c.nodes) && decide (n.taken.length ≤ 64)))) ?_ ?_
  · simp (disch:=first|omega|assumption|(constructor<;>first|assumption|omega)|simp only[LN];omega) only [↓S0,S3,S2,S1,↓K_cast_right]
    by_cases h1 : (n.peers.length : Int) = c.nodes <;> by_cases h2 : (n.topics.length : Int) = c.topics <;> by_cases h3 : (n.marks.length : Int) = c.nodes <;> by_cases h4 : n.taken.length ≤ 64 <;> simp [h1,h2,h3,h4] <;> omega
  cases hB : (decide ((n.peers.length : Int) = c.nodes) && decide ((n.topics.length : Int) = c.topics) && decide ((n.marks.length : Int) = c.nodes) && decide (n.taken.length ≤ 64))
  · simp (disch:=first|omega|assumption|(constructor<;>first|assumption|omega)|simp only[LN];omega) only [↓SB,S1,↓K_cast_right]
    rw [← hE]
    revert hB
    by_cases h1 : (n.peers.length : Int) = c.nodes <;> by_cases h2 : (n.topics.length : Int) = c.topics <;> by_cases h3 : (n.marks.length : Int) = c.nodes <;> by_cases h4 : n.taken.length ≤ 64 <;> simp [h1,h2,h3,h4]
  simp only [Bool.and_eq_true,decide_eq_true_eq] at hB
  obtain ⟨⟨⟨B1,B2⟩,B3⟩,B4⟩ := hB
  have e1 : decide ((n.peers.length : Int) = c.nodes) = true := by simp [B1]
  have e2 : decide ((n.topics.length : Int) = c.topics) = true := by simp [B2]
  have e3 : decide ((n.marks.length : Int) = c.nodes) = true := by simp [B3]
  have e4 : decide (n.taken.length ≤ 64) = true := by simp [B4]
  rw [e1,e2,e3,e4] at hE
  simp only [Bool.true_and] at hE
  simp (disch:=first|omega|assumption|(constructor<;>first|assumption|omega)|simp only[LN];omega) only [↓SB,S1,↓K_cast_right]
  refine LOOP.rule (α := Nat) (fun i => [I i]) (fun i => i ≤ n.topics.length ∧ topicsGo c self i (n.topics.drop i) = topicsGo c self 0 n.topics) (fun i => n.topics.length - i) 0 rfl ⟨by omega,by simp⟩ (fun _ => rfl) ?_
  rintro i ⟨hl,hs⟩
  simp only [app]
  simp (disch:=first|omega|assumption|(constructor<;>first|assumption|omega)|simp only[LN];omega) only [↓SB,S1,↓K_cast_right]
  refine ⟨fun h => ?_,fun h => ?_⟩
  · obtain ⟨x,hx⟩ := get_ex h
    rw [drop_eq hx,topicsGo_cons] at hs
    have hpl := place_of (c := c) (t := i) (by omega) (by omega) hself
    simp (disch:=first|omega|assumption|(constructor<;>first|assumption|omega)|simp only[LN];omega) only [↓SB,S1,↓K_cast_right,cell_L hx,hc,hpl]
    cases ht : topicOk c i self x
    · simp
      rw [← hE,← hs,ht];simp
    · simp
      exact ⟨i + 1,by simp,⟨by omega,by rw [← hs,ht];simp⟩,by omega⟩
  rw [drop_nil h] at hs
  have hT : topicsGo c self 0 n.topics = true := by rw [← hs];rfl
  rw [hT] at hE
  simp only [Bool.true_and] at hE
  refine LOOP.rule (α := Nat) (fun i => [I i]) (fun i => i ≤ n.marks.length ∧ (n.marks.drop i).all (markOk) = n.marks.all (markOk)) (fun i => n.marks.length - i) 0 rfl ⟨by omega,by simp⟩ (fun _ => rfl) ?_
  rintro i ⟨hl_i,hs_i⟩
  simp only [app]
  simp (disch:=first|omega|assumption|(constructor<;>first|assumption|omega)|simp only[LN];omega) only [↓SB,S1,↓K_cast_right]
  refine ⟨fun hc_i => ?_,fun hc_i => ?_⟩
  · obtain ⟨m,hm⟩ := get_ex hc_i
    rw [drop_eq hm,List.all_cons] at hs_i
    simp (disch:=first|omega|assumption|(constructor<;>first|assumption|omega)|simp only[LN];omega) only [↓SB,S1,↓K_cast_right,cell_L hm]
    refine ⟨fun h3 => ?_,fun h3 => ⟨i + 1,rfl,⟨by omega,by simpa [h3] using hs_i⟩,by omega⟩⟩
    rw [h3,Bool.false_and] at hs_i
    simp only [Int.natCast_nonneg,decide_true,Bool.not_true,ITE_false]
    simp (disch:=first|omega|assumption|(constructor<;>first|assumption|omega)|simp only[LN];omega) only [↓SB,S1,↓K_cast_right]
    rw [← hE,← hs_i]
    simp
  rw [drop_nil hc_i] at hs_i
  have hM : n.marks.all markOk = true := by rw [← hs_i];rfl
  rw [hM] at hE
  refine ⟨fun h5 => ?_,fun h5 => ?_⟩
  · cases hp5 : peersOk n.peers
    · rw [hp5] at h5;simp at h5
    rw [hp5] at hE
    simp only [Bool.true_and] at hE
    clear hs_i
    simp only [show ¬ (0 : Int) ≤ -1 by decide,not_false_eq_true,true_implies,false_implies,and_true]
    refine LOOP.rule (α := Nat) (fun i => [I i]) (fun i => i ≤ n.taken.length ∧ (n.taken.drop i).all (takenOk c) = n.taken.all (takenOk c)) (fun i => n.taken.length - i) 0 rfl ⟨by omega,by simp⟩ (fun _ => rfl) ?_
    rintro i ⟨hl_i,hs_i⟩
    simp only [app]
    simp (disch:=first|omega|assumption|(constructor<;>first|assumption|omega)|simp only[LN];omega) only [↓SB,S1,↓K_cast_right]
    refine ⟨fun hc_i => ?_,fun hc_i => ?_⟩
    · obtain ⟨m,hm⟩ := get_ex hc_i
      rw [drop_eq hm,List.all_cons] at hs_i
      simp (disch:=first|omega|assumption|(constructor<;>first|assumption|omega)|simp only[LN];omega) only [↓SB,S1,↓K_cast_right,cell_L hm]
      refine ⟨fun h3 => ?_,fun h3 => ⟨i + 1,rfl,⟨by omega,by simpa [h3] using hs_i⟩,by omega⟩⟩
      rw [h3,Bool.false_and] at hs_i
      rw [← hE,← hs_i]
      simp
    · rw [drop_nil hc_i] at hs_i
      rw [← hE,← hs_i];simp
  · cases hp5 : peersOk n.peers
    · rw [← hE,hp5];simp
    · rw [hp5] at h5;simp at h5
def K_cast_Check := And.intro @c_cast_in (And.intro @c_script_Config (@c_cast_right))
theorem w_cast_Check (c : Config) (self : Int) (n : Node) (hg : Goods (F_cast_Check (c,self,n)).2.1) : WW ρ 17 S_cast_Check F_cast_Check (c,self,n) := by
  dsimp only [WW,appV,F_cast_Check] at hg ⊢
  unfold S_cast_Check nodeWhy
  cases hc : cfgOk c
  · simp (disch:=first|omega|assumption|(constructor<;>first|assumption|omega)|simp only[LN];omega) only [↓SB,S1,↓K_cast_Check,hc]
    simp
  have hb := cfg_bd hc
  simp (disch:=first|omega|assumption|(constructor<;>first|assumption|omega)|simp only[LN];omega) only [↓SB,S1,↓K_cast_Check,hc]
  cases hs : rng self 0 (c.nodes - 1)
  · simp (disch:=first|omega|assumption|(constructor<;>first|assumption|omega)|simp only[LN];omega) only [↓SB,S1,↓K_cast_Check,hs]
    simp
  · simp (disch:=first|omega|assumption|(constructor<;>first|assumption|omega)|simp only[LN];omega) only [↓SB,S1,↓K_cast_Check,hs]
    cases hu : n.up
    · simp (disch:=first|omega|assumption|(constructor<;>first|assumption|omega)|simp only[LN];omega) only [↓SB,S1,↓K_cast_Check]
      simp
    · simp (disch:=first|omega|assumption|(constructor<;>first|assumption|omega)|simp only[LN];omega) only [↓SB,S1,↓K_cast_Check]
      cases nodeOk c self n <;> simp
end Go.Xt
end
section
set_option linter.unusedSimpArgs false
set_option linter.unusedVariables false
set_option maxRecDepth 100000
namespace Go.Xt
set_option linter.defProp false
def K_ref19_Node := And.intro @c_ref01_Value (And.intro @c_ref19_in (And.intro @c_ref10_Peers (@c_ref10_Topic)))
theorem w_ref19_Node (c : Config) (self : Int) (n : Node) (hp : cfgOk c = true ∧ rng self 0 (c.nodes - 1) = true) (hg : Goods (F_ref19_Node (c,self,n)).2.1) : WW ρ 17 S_ref19_Node F_ref19_Node (c,self,n) := by
  dsimp only [WW,appV,F_ref19_Node] at hg ⊢
  unfold S_ref19_Node
  generalize hE : nodeOk c self n = q
  obtain ⟨hc,hself⟩ := hp
  have hb := cfg_bd hc
  simp only [Goods,good_I,good_L] at hg
  unfold nodeOk at hE
  refine SUB.v1 (bb (!(cnt n.inc && decide ((n.peers.length : Int) = c.nodes) && peersOk n.peers && decide ((n.topics.length : Int) = c.topics) && decide (n.calls.length ≤ 40) && rng n.pubs 0 1073741824 && rng n.asks 0 40 && decide ((n.marks.length : Int) = c.nodes) && decide (n.taken.length ≤ 64)))) ?_ ?_
  · simp (disch:=first|omega|assumption|(constructor<;>first|assumption|omega)|simp only[LN];omega) only [↓S0,S3,S2,S1,↓K_ref19_Node]
    by_cases h1 : (n.peers.length : Int) = c.nodes <;> by_cases h2 : (n.topics.length : Int) = c.topics <;> by_cases h3 : (n.marks.length : Int) = c.nodes <;> by_cases h4 : n.taken.length ≤ 64 <;> by_cases h5 : n.calls.length ≤ 40 <;> cases peersOk n.peers <;> cases rng n.asks 0 40 <;> cases rng n.pubs 0 1073741824 <;> simp [h1,h2,h3,h4,h5,cnt] <;> omega
  cases hA : (cnt n.inc && decide ((n.peers.length : Int) = c.nodes) && peersOk n.peers && decide ((n.topics.length : Int) = c.topics) && decide (n.calls.length ≤ 40) && rng n.pubs 0 1073741824 && rng n.asks 0 40 && decide ((n.marks.length : Int) = c.nodes) && decide (n.taken.length ≤ 64))
  · simp (disch:=first|omega|assumption|(constructor<;>first|assumption|omega)|simp only[LN];omega) only [↓SB,S1,↓K_ref19_Node]
    rw [← hE]
    revert hA
    by_cases h1 : (n.peers.length : Int) = c.nodes <;> by_cases h2 : (n.topics.length : Int) = c.topics <;> by_cases h3 : (n.marks.length : Int) = c.nodes <;> by_cases h4 : n.taken.length ≤ 64 <;> by_cases h5 : n.calls.length ≤ 40 <;> cases peersOk n.peers <;> cases rng n.asks 0 40 <;> cases rng n.pubs 0 1073741824 <;> cases cnt n.inc <;> simp [h1,h2,h3,h4,h5]
  simp only [Bool.and_eq_true,decide_eq_true_eq] at hA
  obtain ⟨⟨⟨⟨⟨⟨⟨⟨A1,A2⟩,A3⟩,A4⟩,A5⟩,A6⟩,A7⟩,A8⟩,A9⟩ := hA
  have e1 : decide ((n.peers.length : Int) = c.nodes) = true := by simp [A2]
  have e2 : decide ((n.topics.length : Int) = c.topics) = true := by simp [A4]
  have e3 : decide ((n.marks.length : Int) = c.nodes) = true := by simp [A8]
  have e4 : decide (n.taken.length ≤ 64) = true := by simp [A9]
  have e5 : decide (n.calls.length ≤ 40) = true := by simp [A5]
  rw [A1,A3,A6,A7,e1,e2,e3,e4,e5] at hE
  simp only [Bool.true_and,Bool.and_true] at hE
  rw [Bool.not_true,ITE_false]
  refine LOOP.rule (α := Nat) (fun i => [I i]) (fun i => i ≤ n.topics.length ∧ topicsGo c self i (n.topics.drop i) = topicsGo c self 0 n.topics) (fun i => n.topics.length - i) 0 rfl ⟨by omega,by simp⟩ (fun _ => rfl) ?_
  rintro i ⟨hl,hs⟩
  simp only [app]
  simp (disch:=first|omega|assumption|(constructor<;>first|assumption|omega)|simp only[LN];omega) only [↓SB,S1,↓K_ref19_Node]
  refine ⟨fun h => ?_,fun h => ?_⟩
  · have h' : (i : Int) < n.topics.length := by omega
    obtain ⟨x,hx⟩ := get_ex h'
    rw [drop_eq hx,topicsGo_cons] at hs
    have hpl := place_of (c := c) (t := i) (by omega) (by omega) hself
    simp (disch:=first|omega|assumption|(constructor<;>first|assumption|omega)|simp only[LN];omega) only [↓SB,S1,↓K_ref19_Node,cell_L hx]
    refine ⟨fun ht => ?_,fun ht => ⟨i + 1,by simp,⟨by omega,by rw [← hs,ht];simp⟩,by omega⟩⟩
    rw [← hE,← hs,ht];simp
  rw [drop_nil (by omega)] at hs
  have hT : topicsGo c self 0 n.topics = true := by rw [← hs];rfl
  rw [hT] at hE
  simp only [Bool.true_and,Bool.and_true] at hE
  refine LOOP.rule (α := Nat) (fun i => [I i]) (fun i => i ≤ n.calls.length ∧ ∃ p,(i = 0 → p = 0) ∧ (0 < i → ∃ k,n.calls[i - 1]? = some k ∧ p = k.count) ∧ 0 ≤ p ∧ callsGo c n.asks p (n.calls.drop i) = callsGo c n.asks 0 n.calls) (fun i => n.calls.length - i) 0 rfl ⟨by omega,0,by simp⟩ (fun _ => rfl) ?_
  rintro i ⟨hl,p,hp0,hp1,hp2,hs⟩
  simp only [app]
  simp (disch:=first|omega|assumption|(constructor<;>first|assumption|omega)|simp only[LN];omega) only [↓SB,S1,↓K_ref19_Node]
  refine ⟨fun h => ?_,fun h => ?_⟩
  · obtain ⟨x,hx⟩ := get_ex h
    rw [drop_eq hx,callsGo_cons] at hs
    simp (disch:=first|omega|assumption|(constructor<;>first|assumption|omega)|simp only[LN];omega) only [↓SB,S1,↓K_ref19_Node,cell_L hx]
    refine ⟨fun h1 => ?_,fun h1 => ⟨fun h2 => ?_,fun h2 => ?_⟩⟩
    · rw [← hE,← hs]
      have : (decide (p < x.count) && decide (x.count ≤ n.asks)) = false := by
        rw [Bool.eq_false_iff] at h1 ⊢
        simp only [rng,Bool.and_eq_true,decide_eq_true_eq,ne_eq] at h1 ⊢
        omega
      rw [this];simp
    · have h1 := rng_bd h1
      obtain ⟨k,hk,rfl⟩ := hp1 (by omega)
      have e1 : ((i : Int) - 1) = ((i - 1 : Nat) : Int) := by omega
      simp (disch:=first|omega|assumption|(constructor<;>first|assumption|omega)|simp only[LN];omega) only [↓SB,S1,↓K_ref19_Node,e1,cell_L hk]
      refine ⟨fun h8 => ?_,fun h8 => ⟨fun h9 => ?_,fun h9 => ⟨fun h10 => ?_,fun h10 => ⟨i + 1,by simp,⟨by omega,x.count,by simp,fun _ => ⟨x,by simpa using hx,rfl⟩,by omega,?_⟩,by omega⟩⟩⟩⟩
      · rw [← hE,← hs];simp [show ¬ k.count < x.count by omega]
      · rw [← hE,← hs,h9];simp
      · rw [← hE,← hs,h10];simp
      · rw [← hs,h9,h10];simp [show k.count < x.count by omega,h1]
    · have h1 := rng_bd h1
      have h0 : i = 0 := by omega
      rw [hp0 h0] at hs
      refine ⟨fun h9 => ?_,fun h9 => ⟨fun h10 => ?_,fun h10 => ⟨i + 1,by simp,⟨by omega,x.count,by simp,fun _ => ⟨x,by simpa using hx,rfl⟩,by omega,?_⟩,by omega⟩⟩⟩
      · rw [← hE,← hs,h9];simp
      · rw [← hE,← hs,h10];simp
      · rw [← hs,h9,h10];simp [show 0 < x.count by omega,h1]
  rw [drop_nil h] at hs
  have hC : callsGo c n.asks 0 n.calls = true := by rw [← hs];rfl
  rw [hC] at hE
  simp only [Bool.true_and,Bool.and_true] at hE
  refine LOOP.rule (α := Nat) (fun i => [I i]) (fun i => i ≤ n.marks.length ∧ (n.marks.drop i).all (markOk) = n.marks.all (markOk)) (fun i => n.marks.length - i) 0 rfl ⟨by omega,by simp⟩ (fun _ => rfl) ?_
  rintro i ⟨hl_i,hs_i⟩
  simp only [app]
  simp (disch:=first|omega|assumption|(constructor<;>first|assumption|omega)|simp only[LN];omega) only [↓SB,S1,↓K_ref19_Node]
  refine ⟨fun hc_i => ?_,fun hc_i => ?_⟩
  · obtain ⟨m,hm⟩ := get_ex hc_i
    rw [drop_eq hm,List.all_cons] at hs_i
    simp (disch:=first|omega|assumption|(constructor<;>first|assumption|omega)|simp only[LN];omega) only [↓SB,S1,↓K_ref19_Node,cell_L hm]
    have hm : markOk m = (rng m.inc 0 1073741824 && rng m.pubs 0 1073741824 && rng m.met 0 2199023255551) := rfl
    refine ⟨fun h1 => ?_,fun h1 => ⟨fun h2 => ?_,fun h2 => ⟨fun h3 => ?_,fun h3 => ⟨i + 1,rfl,⟨by omega,by rw [← hs_i,hm,h1,h2,h3];simp⟩,by omega⟩⟩⟩⟩
    · rw [← hE,← hs_i,hm,h1];simp
    · rw [← hE,← hs_i,hm,h2];simp
    · rw [← hE,← hs_i,hm,h3];simp
  rw [drop_nil hc_i] at hs_i
  have hM : n.marks.all markOk = true := by rw [← hs_i];rfl
  rw [hM] at hE
  simp only [Bool.true_and,Bool.and_true] at hE
  clear hs_i
  refine LOOP.rule (α := Nat) (fun i => [I i]) (fun i => i ≤ n.taken.length ∧ (n.taken.drop i).all (takenOk c) = n.taken.all (takenOk c)) (fun i => n.taken.length - i) 0 rfl ⟨by omega,by simp⟩ (fun _ => rfl) ?_
  rintro i ⟨hl_i,hs_i⟩
  simp only [app]
  simp (disch:=first|omega|assumption|(constructor<;>first|assumption|omega)|simp only[LN];omega) only [↓SB,S1,↓K_ref19_Node]
  refine ⟨fun hc_i => ?_,fun hc_i => ?_⟩
  · obtain ⟨m,hm⟩ := get_ex hc_i
    rw [drop_eq hm,List.all_cons] at hs_i
    simp (disch:=first|omega|assumption|(constructor<;>first|assumption|omega)|simp only[LN];omega) only [↓SB,S1,↓K_ref19_Node,cell_L hm]
    have hm : takenOk c m = (rng m.node 0 (c.nodes - 1) && rng m.topic 0 (c.topics - 1) && cnt m.inc && cnt m.count && val m.value) := rfl
    refine ⟨fun h1 => ?_,fun h1 => ⟨fun h2 => ?_,fun h2 => ⟨fun h3 => ?_,fun h3 => ⟨fun h4 => ?_,fun h4 => ⟨fun h5 => ?_,fun h5 => ⟨i + 1,rfl,⟨by omega,by rw [← hs_i,hm,h1,h4,h5];simp [cnt,h2,h3]⟩,by omega⟩⟩⟩⟩⟩⟩
    · rw [← hE,← hs_i,hm,h1];simp
    · rw [← hE,← hs_i,hm];simp [cnt,h2]
    · rw [← hE,← hs_i,hm];simp [cnt,h3]
    · rw [← hE,← hs_i,hm,h4];simp
    · rw [← hE,← hs_i,hm,h5];simp
  · rw [drop_nil hc_i] at hs_i
    rw [← hE,← hs_i];simp
end Go.Xt
end
section
set_option linter.unusedSimpArgs false
set_option linter.unusedVariables false
set_option maxRecDepth 100000
namespace Go.Xt
set_option linter.defProp false
theorem len_ne {α : Type} {a b : List α} (h : ¬ (a.length : Int) = b.length) : ¬ a = b := by rintro rfl;exact h rfl
theorem w_bkeep_Peers (a : List Peer) (b : List Peer) (hg : Goods (F_bkeep_Peers (a,b)).2.1) : WW ρ 2 S_bkeep_Peers F_bkeep_Peers (a,b) := by
  dsimp only [WW,appV,F_bkeep_Peers] at hg ⊢
  unfold S_bkeep_Peers
  simp only [Goods,good_L] at hg
  simp (disch:=first|omega|assumption|(constructor<;>first|assumption|omega)|simp only[LN];omega) only [↓SB,S1]
  refine ⟨fun h => by simp [len_ne h],fun h => ?_⟩
  have hl : a.length = b.length := by omega
  refine LOOP.rule (α := Nat) (fun i => [I i]) (fun i => i ≤ a.length ∧ ((a = b) = (a.drop i = b.drop i))) (fun i => a.length - i) 0 rfl ⟨by omega,by simp⟩ (fun _ => rfl) ?_
  rintro i ⟨hl_i,hs_i⟩
  simp only [app]
  simp (disch:=first|omega|assumption|(constructor<;>first|assumption|omega)|simp only[LN];omega) only [↓SB,S1]
  refine ⟨fun hc_i => ?_,fun hc_i => ?_⟩
  · obtain ⟨x,hx⟩ := get_ex hc_i
    obtain ⟨y,hy⟩ := get_ex (xs := b) (i := i) (by omega)
    rw [drop_eq hx,drop_eq hy,List.cons.injEq] at hs_i
    simp (disch:=first|omega|assumption|(constructor<;>first|assumption|omega)|simp only[LN];omega) only [↓SB,S1,cell_L hx,cell_L hy,Peer.deq]
    refine ⟨fun h3 => ?_,fun h3 => ⟨i + 1,rfl,⟨by omega,by simpa [h3] using hs_i⟩,by omega⟩⟩
    have hn : ¬ a = b := fun e => h3 (hs_i.mp e).1
    simp [hn]
  · rw [drop_nil hc_i,drop_nil (by omega)] at hs_i
    simp [hs_i]
theorem w_bkeep_Kids (a : List Kid) (b : List Kid) (hg : Goods (F_bkeep_Kids (a,b)).2.1) : WW ρ 2 S_bkeep_Kids F_bkeep_Kids (a,b) := by
  dsimp only [WW,appV,F_bkeep_Kids] at hg ⊢
  unfold S_bkeep_Kids
  simp only [Goods,good_L] at hg
  simp (disch:=first|omega|assumption|(constructor<;>first|assumption|omega)|simp only[LN];omega) only [↓SB,S1]
  refine ⟨fun h => by simp [len_ne h],fun h => ?_⟩
  have hl : a.length = b.length := by omega
  refine LOOP.rule (α := Nat) (fun i => [I i]) (fun i => i ≤ a.length ∧ ((a = b) = (a.drop i = b.drop i))) (fun i => a.length - i) 0 rfl ⟨by omega,by simp⟩ (fun _ => rfl) ?_
  rintro i ⟨hl_i,hs_i⟩
  simp only [app]
  simp (disch:=first|omega|assumption|(constructor<;>first|assumption|omega)|simp only[LN];omega) only [↓SB,S1]
  refine ⟨fun hc_i => ?_,fun hc_i => ?_⟩
  · obtain ⟨x,hx⟩ := get_ex hc_i
    obtain ⟨y,hy⟩ := get_ex (xs := b) (i := i) (by omega)
    rw [drop_eq hx,drop_eq hy,List.cons.injEq] at hs_i
    simp (disch:=first|omega|assumption|(constructor<;>first|assumption|omega)|simp only[LN];omega) only [↓SB,S1,cell_L hx,cell_L hy,Kid.deq]
    refine ⟨fun h3 => ?_,fun h3 => ⟨i + 1,rfl,⟨by omega,by simpa [h3] using hs_i⟩,by omega⟩⟩
    have hn : ¬ a = b := fun e => h3 (hs_i.mp e).1
    simp [hn]
  · rw [drop_nil hc_i,drop_nil (by omega)] at hs_i
    simp [hs_i]
theorem w_bkeep_Items (a : List Item) (b : List Item) (hg : Goods (F_bkeep_Items (a,b)).2.1) : WW ρ 2 S_bkeep_Items F_bkeep_Items (a,b) := by
  dsimp only [WW,appV,F_bkeep_Items] at hg ⊢
  unfold S_bkeep_Items
  simp only [Goods,good_L] at hg
  simp (disch:=first|omega|assumption|(constructor<;>first|assumption|omega)|simp only[LN];omega) only [↓SB,S1]
  refine ⟨fun h => by simp [len_ne h],fun h => ?_⟩
  have hl : a.length = b.length := by omega
  refine LOOP.rule (α := Nat) (fun i => [I i]) (fun i => i ≤ a.length ∧ ((a = b) = (a.drop i = b.drop i))) (fun i => a.length - i) 0 rfl ⟨by omega,by simp⟩ (fun _ => rfl) ?_
  rintro i ⟨hl_i,hs_i⟩
  simp only [app]
  simp (disch:=first|omega|assumption|(constructor<;>first|assumption|omega)|simp only[LN];omega) only [↓SB,S1]
  refine ⟨fun hc_i => ?_,fun hc_i => ?_⟩
  · obtain ⟨x,hx⟩ := get_ex hc_i
    obtain ⟨y,hy⟩ := get_ex (xs := b) (i := i) (by omega)
    rw [drop_eq hx,drop_eq hy,List.cons.injEq] at hs_i
    simp (disch:=first|omega|assumption|(constructor<;>first|assumption|omega)|simp only[LN];omega) only [↓SB,S1,cell_L hx,cell_L hy,Item.deq]
    refine ⟨fun h3 => ?_,fun h3 => ⟨i + 1,rfl,⟨by omega,by simpa [h3] using hs_i⟩,by omega⟩⟩
    have hn : ¬ a = b := fun e => h3 (hs_i.mp e).1
    simp [hn]
  · rw [drop_nil hc_i,drop_nil (by omega)] at hs_i
    simp [hs_i]
theorem w_bkeep_Events (a : List Event) (b : List Event) (hg : Goods (F_bkeep_Events (a,b)).2.1) : WW ρ 2 S_bkeep_Events F_bkeep_Events (a,b) := by
  dsimp only [WW,appV,F_bkeep_Events] at hg ⊢
  unfold S_bkeep_Events
  simp only [Goods,good_L] at hg
  simp (disch:=first|omega|assumption|(constructor<;>first|assumption|omega)|simp only[LN];omega) only [↓SB,S1]
  refine ⟨fun h => by simp [len_ne h],fun h => ?_⟩
  have hl : a.length = b.length := by omega
  refine LOOP.rule (α := Nat) (fun i => [I i]) (fun i => i ≤ a.length ∧ ((a = b) = (a.drop i = b.drop i))) (fun i => a.length - i) 0 rfl ⟨by omega,by simp⟩ (fun _ => rfl) ?_
  rintro i ⟨hl_i,hs_i⟩
  simp only [app]
  simp (disch:=first|omega|assumption|(constructor<;>first|assumption|omega)|simp only[LN];omega) only [↓SB,S1]
  refine ⟨fun hc_i => ?_,fun hc_i => ?_⟩
  · obtain ⟨x,hx⟩ := get_ex hc_i
    obtain ⟨y,hy⟩ := get_ex (xs := b) (i := i) (by omega)
    rw [drop_eq hx,drop_eq hy,List.cons.injEq] at hs_i
    simp (disch:=first|omega|assumption|(constructor<;>first|assumption|omega)|simp only[LN];omega) only [↓SB,S1,cell_L hx,cell_L hy,Event.deq]
    refine ⟨fun h3 => ?_,fun h3 => ⟨i + 1,rfl,⟨by omega,by simpa [h3] using hs_i⟩,by omega⟩⟩
    have hn : ¬ a = b := fun e => h3 (hs_i.mp e).1
    simp [hn]
  · rw [drop_nil hc_i,drop_nil (by omega)] at hs_i
    simp [hs_i]
theorem w_bkeep_Stream (a : Stream) (b : Stream) (hg : Goods (F_bkeep_Stream (a,b)).2.1) : WW ρ 10 S_bkeep_Stream F_bkeep_Stream (a,b) := by
  dsimp only [WW,appV,F_bkeep_Stream] at hg ⊢
  unfold S_bkeep_Stream
  simp (disch:=first|omega|assumption|(constructor<;>first|assumption|omega)|simp only[LN];omega) only [↓S0,S3,S2,S1,↓c_bkeep_Items]
  simp [Stream.eq_iff,Bool.decide_and]
def K_bkeep_Topic := And.intro @c_bkeep_Stream (And.intro @c_bkeep_Ints (And.intro @c_bkeep_Kids (@c_bkeep_Events)))
theorem w_bkeep_Topic (a : Topic) (b : Topic) (hg : Goods (F_bkeep_Topic (a,b)).2.1) : WW ρ 32 S_bkeep_Topic F_bkeep_Topic (a,b) := by
  dsimp only [WW,appV,F_bkeep_Topic] at hg ⊢
  unfold S_bkeep_Topic
  generalize hE : decide (a = b) = q
  repeat' (first | apply And.intro | intro _ | simp (disch:=first|omega|assumption|(constructor<;>first|assumption|omega)|simp only[LN];omega) only [↓SB,S1,↓K_bkeep_Topic])
  all_goals (rw [← hE];clear hE;simp_all [Topic.eq_iff])
def K_bkeep_Node := And.intro @c_bkeep_Peers (@c_bkeep_Topic)
theorem w_bkeep_Node (a : Node) (b : Node) (hg : Goods (F_bkeep_Node (a,b)).2.1) : WW ρ 18 S_bkeep_Node F_bkeep_Node (a,b) := by
  dsimp only [WW,appV,F_bkeep_Node] at hg ⊢
  unfold S_bkeep_Node
  simp only [Goods,good_L] at hg
  generalize hE : decide (a = b) = q
  refine SUB.v1 (bb (!((a.up == b.up) && decide (a.inc = b.inc) && decide (a.peers = b.peers) && decide (a.topics.length = b.topics.length) && decide (a.calls.length = b.calls.length) && decide (a.pubs = b.pubs) && decide (a.asks = b.asks) && decide (a.marks.length = b.marks.length) && decide (a.taken.length = b.taken.length)))) ?_ ?_
  · repeat' (first | apply And.intro | intro _ | simp (disch:=first|omega|assumption|(constructor<;>first|assumption|omega)|simp only[LN];omega) only [↓SB,S1,↓K_bkeep_Node])
    all_goals (simp_all;try omega)
    all_goals (rw [Bool.eq_iff_iff];simp;omega)
  cases hA : ((a.up == b.up) && decide (a.inc = b.inc) && decide (a.peers = b.peers) && decide (a.topics.length = b.topics.length) && decide (a.calls.length = b.calls.length) && decide (a.pubs = b.pubs) && decide (a.asks = b.asks) && decide (a.marks.length = b.marks.length) && decide (a.taken.length = b.taken.length))
  · simp (disch:=first|omega|assumption|(constructor<;>first|assumption|omega)|simp only[LN];omega) only [↓SB,S1,↓K_bkeep_Node]
    have : ¬ a = b := by rintro rfl;simp at hA
    rw [← hE];simp [this]
  simp only [Bool.and_eq_true,decide_eq_true_eq,beq_iff_eq] at hA
  obtain ⟨⟨⟨⟨⟨⟨⟨⟨A1,A2⟩,A3⟩,A4⟩,A5⟩,A6⟩,A7⟩,A8⟩,A9⟩ := hA
  have hN : (a = b) = (a.topics = b.topics ∧ a.calls = b.calls ∧ a.marks = b.marks ∧ a.taken = b.taken) := by
    rw [Node.eq_iff];simp [A1,A2,A3,A6,A7]
  rw [Bool.not_true,ITE_false]
  refine LOOP.rule (α := Nat) (fun i => [I i]) (fun i => i ≤ a.topics.length ∧ ((a.topics = b.topics) = (a.topics.drop i = b.topics.drop i))) (fun i => a.topics.length - i) 0 rfl ⟨by omega,by simp⟩ (fun _ => rfl) ?_
  rintro i ⟨hl_i,hs_i⟩
  simp only [app]
  simp (disch:=first|omega|assumption|(constructor<;>first|assumption|omega)|simp only[LN];omega) only [↓SB,S1,↓K_bkeep_Node]
  refine ⟨fun hc_i => ?_,fun hc_i => ?_⟩
  · obtain ⟨x,hx⟩ := get_ex hc_i
    obtain ⟨y,hy⟩ := get_ex (xs := b.topics) (i := i) (by omega)
    rw [drop_eq hx,drop_eq hy,List.cons.injEq] at hs_i
    simp (disch:=first|omega|assumption|(constructor<;>first|assumption|omega)|simp only[LN];omega) only [↓SB,S1,↓K_bkeep_Node,cell_L hx,cell_L hy]
    refine ⟨fun h3 => ?_,fun h3 => ⟨i + 1,rfl,⟨by omega,by simpa [h3] using hs_i⟩,by omega⟩⟩
    have hn : ¬ a.topics = b.topics := fun e => h3 (hs_i.mp e).1
    have : ¬ a = b := by rw [hN];exact fun h => hn h.1
    rw [← hE];simp [this]
  rw [drop_nil hc_i,drop_nil (by omega)] at hs_i
  have E1 : a.topics = b.topics := by rw [hs_i]
  clear hs_i hl_i hc_i i
  refine LOOP.rule (α := Nat) (fun i => [I i]) (fun i => i ≤ a.calls.length ∧ ((a.calls = b.calls) = (a.calls.drop i = b.calls.drop i))) (fun i => a.calls.length - i) 0 rfl ⟨by omega,by simp⟩ (fun _ => rfl) ?_
  rintro i ⟨hl_i,hs_i⟩
  simp only [app]
  simp (disch:=first|omega|assumption|(constructor<;>first|assumption|omega)|simp only[LN];omega) only [↓SB,S1,↓K_bkeep_Node]
  refine ⟨fun hc_i => ?_,fun hc_i => ?_⟩
  · obtain ⟨x,hx⟩ := get_ex hc_i
    obtain ⟨y,hy⟩ := get_ex (xs := b.calls) (i := i) (by omega)
    rw [drop_eq hx,drop_eq hy,List.cons.injEq] at hs_i
    simp (disch:=first|omega|assumption|(constructor<;>first|assumption|omega)|simp only[LN];omega) only [↓SB,S1,↓K_bkeep_Node,cell_L hx,cell_L hy,Call.deq]
    refine ⟨fun h3 => ?_,fun h3 => ⟨i + 1,rfl,⟨by omega,by simpa [h3] using hs_i⟩,by omega⟩⟩
    have hn : ¬ a.calls = b.calls := fun e => h3 (hs_i.mp e).1
    have : ¬ a = b := by rw [hN];exact fun h => hn h.2.1
    rw [← hE];simp [this]
  rw [drop_nil hc_i,drop_nil (by omega)] at hs_i
  have E2 : a.calls = b.calls := by rw [hs_i]
  clear hs_i hl_i hc_i i
  refine LOOP.rule (α := Nat) (fun i => [I i]) (fun i => i ≤ a.marks.length ∧ ((a.marks = b.marks) = (a.marks.drop i = b.marks.drop i))) (fun i => a.marks.length - i) 0 rfl ⟨by omega,by simp⟩ (fun _ => rfl) ?_
  rintro i ⟨hl_i,hs_i⟩
  simp only [app]
  simp (disch:=first|omega|assumption|(constructor<;>first|assumption|omega)|simp only[LN];omega) only [↓SB,S1,↓K_bkeep_Node]
  refine ⟨fun hc_i => ?_,fun hc_i => ?_⟩
  · obtain ⟨x,hx⟩ := get_ex hc_i
    obtain ⟨y,hy⟩ := get_ex (xs := b.marks) (i := i) (by omega)
    rw [drop_eq hx,drop_eq hy,List.cons.injEq] at hs_i
    simp (disch:=first|omega|assumption|(constructor<;>first|assumption|omega)|simp only[LN];omega) only [↓SB,S1,↓K_bkeep_Node,cell_L hx,cell_L hy,Mark.deq]
    refine ⟨fun h3 => ?_,fun h3 => ⟨i + 1,rfl,⟨by omega,by simpa [h3] using hs_i⟩,by omega⟩⟩
    have hn : ¬ a.marks = b.marks := fun e => h3 (hs_i.mp e).1
    have : ¬ a = b := by rw [hN];exact fun h => hn h.2.2.1
    rw [← hE];simp [this]
  rw [drop_nil hc_i,drop_nil (by omega)] at hs_i
  have E3 : a.marks = b.marks := by rw [hs_i]
  clear hs_i hl_i hc_i i
  refine LOOP.rule (α := Nat) (fun i => [I i]) (fun i => i ≤ a.taken.length ∧ ((a.taken = b.taken) = (a.taken.drop i = b.taken.drop i))) (fun i => a.taken.length - i) 0 rfl ⟨by omega,by simp⟩ (fun _ => rfl) ?_
  rintro i ⟨hl_i,hs_i⟩
  simp only [app]
  simp (disch:=first|omega|assumption|(constructor<;>first|assumption|omega)|simp only[LN];omega) only [↓SB,S1,↓K_bkeep_Node]
  refine ⟨fun hc_i => ?_,fun hc_i => ?_⟩
  · obtain ⟨x,hx⟩ := get_ex hc_i
    obtain ⟨y,hy⟩ := get_ex (xs := b.taken) (i := i) (by omega)
    rw [drop_eq hx,drop_eq hy,List.cons.injEq] at hs_i
    simp (disch:=first|omega|assumption|(constructor<;>first|assumption|omega)|simp only[LN];omega) only [↓SB,S1,↓K_bkeep_Node,cell_L hx,cell_L hy,Mark2.deq]
    refine ⟨fun h3 => ?_,fun h3 => ⟨i + 1,rfl,⟨by omega,by simpa [h3] using hs_i⟩,by omega⟩⟩
    have hn : ¬ a.taken = b.taken := fun e => h3 (hs_i.mp e).1
    have : ¬ a = b := by rw [hN];exact fun h => hn h.2.2.2
    rw [← hE];simp [this]
  · rw [drop_nil hc_i,drop_nil (by omega)] at hs_i
    have E4 : a.taken = b.taken := by rw [hs_i]
    have : a = b := by rw [hN];exact ⟨E1,E2,E3,E4⟩
    rw [← hE];simp [this]
end Go.Xt
end
section
set_option linter.unusedSimpArgs false
set_option linter.unusedVariables false
set_option maxRecDepth 100000
namespace Go.Xt
set_option linter.defProp false
instance : FlatRow Kid := ⟨fun a q hq => by simp [Row.row] at hq;rcases hq with rfl | rfl | rfl <;> rfl⟩
instance : FlatRow Item := ⟨fun a q hq => by simp [Row.row] at hq;rcases hq with rfl | rfl <;> rfl⟩
instance : FlatRow Event := ⟨fun a q hq => by simp [Row.row] at hq;rcases hq with rfl | rfl | rfl | rfl | rfl | rfl <;> rfl⟩
instance : FlatRow Peer := ⟨fun a q hq => by simp [Row.row] at hq;rcases hq with rfl | rfl <;> rfl⟩
instance : FlatRow By := ⟨fun a q hq => by simp [Row.row] at hq;subst hq;rfl⟩
theorem take_one {α : Type} {xs : List α} {i : Nat} {x : α} (h : xs[i]? = some x) : xs.take (i + 1) = xs.take i ++ [x] := by rw [List.take_add_one,h];rfl
theorem w_law18_Heavy (s : Stream) (q : List Event) (hg : Goods (F_law18_Heavy (s,q)).2.1) : WW ρ 6 S_law18_Heavy F_law18_Heavy (s,q) := by
  dsimp only [WW,appV,F_law18_Heavy] at hg ⊢
  unfold S_law18_Heavy heavy18
  simp (disch:=first|omega|assumption|(constructor<;>first|assumption|omega)|simp only[LN];omega) only [↓S0,S3,S2,S1]
  simp only [List.cons.injEq,PV.bool.injEq,and_true]
  rw [Bool.eq_iff_iff];simp;omega
theorem w_law19_Heavy (x : Topic) (hg : Goods (F_law19_Heavy x).2.1) : WW ρ 16 S_law19_Heavy F_law19_Heavy x := by
  dsimp only [WW,appV,F_law19_Heavy] at hg ⊢
  unfold S_law19_Heavy heavy19
  repeat' (first | apply And.intro | intro _ | simp (disch:=first|omega|assumption|(constructor<;>first|assumption|omega)|simp only[LN];omega) only [↓SB,S1,↓c_law18_Heavy])
  all_goals (simp_all;try omega)
theorem w_law21_Heavy (n : Node) (hg : Goods (F_law21_Heavy n).2.1) : WW ρ 9 S_law21_Heavy F_law21_Heavy n := by
  dsimp only [WW,appV,F_law21_Heavy] at hg ⊢
  unfold S_law21_Heavy
  simp only [Goods,good_L] at hg
  generalize hE : heavy21 n = q
  unfold heavy21 at hE
  refine SUB.v1 (bb (decide (n.peers.length > 12) || decide (n.topics.length > 8) || decide (n.calls.length > 60) || decide (n.marks.length > 12) || decide (n.taken.length > 80))) ?_ ?_
  · repeat' (first | apply And.intro | intro _ | simp (disch:=first|omega|assumption|(constructor<;>first|assumption|omega)|simp only[LN];omega) only [↓SB,S1,↓c_law19_Heavy])
    all_goals (simp_all;try omega)
    all_goals (rw [Bool.eq_iff_iff];simp;omega)
  cases hA : (decide (n.peers.length > 12) || decide (n.topics.length > 8) || decide (n.calls.length > 60) || decide (n.marks.length > 12) || decide (n.taken.length > 80))
  · rw [hA] at hE
    simp only [Bool.false_or] at hE
    simp (disch:=first|omega|assumption|(constructor<;>first|assumption|omega)|simp only[LN];omega) only [↓SB,S1,↓c_law19_Heavy]
    refine LOOP.rule (α := Nat) (fun i => [I i]) (fun i => i ≤ n.topics.length ∧ (n.topics.drop i).any (heavy19) = n.topics.any (heavy19)) (fun i => n.topics.length - i) 0 rfl ⟨by omega,by simp⟩ (fun _ => rfl) ?_
    rintro i ⟨hl_i,hs_i⟩
    simp only [app]
    simp (disch:=first|omega|assumption|(constructor<;>first|assumption|omega)|simp only[LN];omega) only [↓SB,S1,↓c_law19_Heavy]
    refine ⟨fun hc_i => ?_,fun hc_i => ?_⟩
    · obtain ⟨x,hx⟩ := get_ex hc_i
      rw [drop_eq hx,List.any_cons] at hs_i
      simp (disch:=first|omega|assumption|(constructor<;>first|assumption|omega)|simp only[LN];omega) only [↓SB,S1,↓c_law19_Heavy,cell_L hx]
      refine ⟨fun h3 => ?_,fun h3 => ⟨i + 1,rfl,⟨by omega,by simpa [h3] using hs_i⟩,by omega⟩⟩
      rw [← hE,← hs_i,h3];simp
    · rw [drop_nil hc_i] at hs_i
      rw [← hE,← hs_i];simp
  · rw [hA] at hE
    simp (disch:=first|omega|assumption|(constructor<;>first|assumption|omega)|simp only[LN];omega) only [↓SB,S1,↓c_law19_Heavy]
    rw [← hE];simp
theorem w_bkeep_TwinKids (l : List Kid) (hp : l.length ≤ 1000000) : WW ρ 1 S_bkeep_TwinKids F_bkeep_TwinKids l := by
  dsimp only [WW,appV,F_bkeep_TwinKids]
  unfold S_bkeep_TwinKids
  simp (disch:=first|omega|assumption|(constructor<;>first|assumption|omega)|simp only[LN];omega) only [↓SB,S1]
theorem w_bkeep_TwinItems (l : List Item) (hp : l.length ≤ 1000000) : WW ρ 1 S_bkeep_TwinItems F_bkeep_TwinItems l := by
  dsimp only [WW,appV,F_bkeep_TwinItems]
  unfold S_bkeep_TwinItems
  simp (disch:=first|omega|assumption|(constructor<;>first|assumption|omega)|simp only[LN];omega) only [↓SB,S1]
theorem w_bkeep_TwinEvents (l : List Event) (hp : l.length ≤ 1000000) : WW ρ 1 S_bkeep_TwinEvents F_bkeep_TwinEvents l := by
  dsimp only [WW,appV,F_bkeep_TwinEvents]
  unfold S_bkeep_TwinEvents
  simp (disch:=first|omega|assumption|(constructor<;>first|assumption|omega)|simp only[LN];omega) only [↓SB,S1]
theorem w_bkeep_TwinPeers (l : List Peer) (hp : l.length ≤ 1000000) : WW ρ 1 S_bkeep_TwinPeers F_bkeep_TwinPeers l := by
  dsimp only [WW,appV,F_bkeep_TwinPeers]
  unfold S_bkeep_TwinPeers
  simp (disch:=first|omega|assumption|(constructor<;>first|assumption|omega)|simp only[LN];omega) only [↓SB,S1]
theorem w_bkeep_TwinStream (s : Stream) (hp : s.kept.length ≤ 1000000 ∧ s.ahead.length ≤ 1000000) : WW ρ 5 S_bkeep_TwinStream F_bkeep_TwinStream s := by
  dsimp only [WW,appV,F_bkeep_TwinStream]
  unfold S_bkeep_TwinStream
  simp (disch:=first|omega|assumption|(constructor<;>first|assumption|omega)|simp only[LN];omega) only [↓SB,S1,↓c_bkeep_TwinItems]
theorem heavy19_bd {x : Topic} (h : heavy19 x = false) : x.path.length ≤ 20 ∧ x.kids.length ≤ 20 ∧ x.stream.kept.length ≤ 30 ∧ x.stream.ahead.length ≤ 30 ∧ x.queue.length ≤ 50 := by
  simp [heavy19,heavy18] at h;omega
theorem heavy21_bd {n : Node} (h : heavy21 n = false) : n.peers.length ≤ 12 ∧ n.topics.length ≤ 8 ∧ n.calls.length ≤ 60 ∧ n.marks.length ≤ 12 ∧ n.taken.length ≤ 80 ∧ n.topics.any heavy19 = false := by
  simp only [heavy21,Bool.or_eq_false_iff,decide_eq_false_iff_not] at h
  obtain ⟨⟨⟨⟨⟨a,b⟩,d⟩,e⟩,f⟩,g⟩ := h
  exact ⟨by omega,by omega,by omega,by omega,by omega,g⟩
def K_bkeep_TwinTopic := And.intro @c_bkeep_TwinInts (And.intro @c_bkeep_TwinKids (And.intro @c_bkeep_TwinStream (@c_bkeep_TwinEvents)))
theorem w_bkeep_TwinTopic (x : Topic) (hp : heavy19 x = false) : WW ρ 16 S_bkeep_TwinTopic F_bkeep_TwinTopic x := by
  dsimp only [WW,appV,F_bkeep_TwinTopic]
  unfold S_bkeep_TwinTopic
  have hb := heavy19_bd hp
  simp (disch:=first|omega|assumption|(constructor<;>first|assumption|omega)|simp only[LN];omega) only [↓SB,S1,↓K_bkeep_TwinTopic]
end Go.Xt
end
section
set_option linter.unusedSimpArgs false
set_option linter.unusedVariables false
set_option maxRecDepth 100000
namespace Go.Xt
theorem w_slices_Contains_int_int (l : List Int) (n : Int) (hg : Goods (F_slices_Contains_int_int (l,n)).2.1) : WW ρ 2 S_slices_Contains_int_int F_slices_Contains_int_int (l,n) := by
  dsimp only [WW,appV,F_slices_Contains_int_int] at hg ⊢
  unfold S_slices_Contains_int_int
  simp only [Goods,good_L,good_I] at hg
  simp (disch:=first|omega|assumption|(constructor<;>first|assumption|omega)|simp only[LN];omega) only [↓SB,S1]
  refine LOOP.rule (α := Nat) (fun i => [I i]) (fun i => i ≤ l.length ∧ (l.drop i).contains n = l.contains n) (fun i => l.length - i) 0 rfl ⟨by omega,by simp⟩ (fun _ => rfl) ?_
  rintro i ⟨hl,hs⟩
  simp only [app]
  simp (disch:=first|omega|assumption|(constructor<;>first|assumption|omega)|simp only[LN];omega) only [↓SB,S1]
  refine ⟨fun hc => ?_,fun hc => ?_⟩
  · obtain ⟨x,hx⟩ := get_ex hc
    rw [drop_eq hx,List.contains_cons] at hs
    simp (disch:=first|omega|assumption|(constructor<;>first|assumption|omega)|simp only[LN];omega) only [↓SB,S1,cell_L hx]
    refine ⟨fun h3 => ?_,fun h3 => ⟨i + 1,rfl,⟨by omega,?_⟩,by omega⟩⟩
    · rw [← hs];simp [h3]
    · rw [← hs];simp [h3]
  · rw [drop_nil hc] at hs
    rw [← hs];simp
theorem ahd_len {m : Int} : ∀ (l : List Item) (p : Int),ahdGo m p l = true → (l.length : Int) ≤ max 0 (m - 1 - p)
  | [],p,_ => by simp;omega
  | x :: r,p,h => by
    simp only [ahdGo,Bool.and_eq_true,decide_eq_true_eq] at h
    have := ahd_len r x.seq h.2
    simp only [List.length_cons]
    omega
theorem topic_full {c : Config} {t self : Int} {x : Topic} (hc : cfgOk c = true) (h : topicOk c t self x = true) : fullT c x = false := by
  have hb := cfg_bd hc
  simp only [topicOk,Bool.and_eq_true,flowOk,kidsOk,queueOk,streamOk,Bool.or_eq_true,streamZ,keptOk,aheadOk,decide_eq_true_eq] at h
  obtain ⟨⟨_,hk⟩,hs,hq⟩ := h
  have h1 : ¬ (x.kids.length : Int) > c.kids := by have := hk.1.2;omega
  have h2 : ¬ (x.queue.length : Int) > c.queue := by have := hq.1.1.2;omega
  have h3 : ¬ (x.stream.kept.length : Int) > c.keep := by
    rcases hs with hs | hs
    · rw [hs.1.2];simp;omega
    · have := hs.1.2.1.1.2;omega
  have h4 : ¬ (x.stream.ahead.length : Int) > c.window := by
    rcases hs with hs | hs
    · rw [hs.2];simp;omega
    · have := ahd_len _ _ hs.2.2;omega
  simp [fullT,h1,h2,h3,h4]
end Go.Xt
end
section
set_option linter.unusedSimpArgs false
set_option linter.unusedVariables false
set_option maxRecDepth 100000
namespace Go.Xt
theorem w_law19_Full  : WW ρ 0 S_law19_Full F_law19_Full () := by
  dsimp only [WW,appV,F_law19_Full]
  unfold S_law19_Full
  rfl
end Go.Xt
end
section
set_option linter.unusedSimpArgs false
set_option linter.unusedVariables false
set_option maxRecDepth 100000
namespace Go.Xt
set_option linter.defProp false
theorem near_ne {t a b : Int} (h : near t a b = true) : a ≠ b := by
  rintro rfl;have := (near_dom h).2.2.2;omega
theorem take_snoc {α : Type} {l : List α} {i : Nat} {x : α} (h : l[i]? = some x) : l.take i ++ [x] = l.take (i + 1) := by
  rw [List.take_add_one,h];rfl
theorem isK_iff {v : Int} : isK v = true ↔ 0 ≤ v ∧ v < 4611686018427387904 := by simp [isK]
theorem isK_nn (n : Int) : isK (nn n) = true := isK_iff.2 (nn_bd n)
theorem far_bd {k n : Int} (h1 : 0 ≤ k) (h2 : k < 4611686018427387904) (h3 : 0 ≤ n) (h4 : n < 4611686018427387904) : 0 ≤ far k n ∧ far k n < 4611686018427387904 := by
  unfold far;split <;> omega
theorem w_key_is (k : Int) : WW ρ 1 S_key_is F_key_is k := by
  dsimp only [WW,appV,F_key_is]
  unfold S_key_is
  simp (disch:=first|omega|assumption|(constructor<;>first|assumption|omega)|simp only[LN];omega) only [↓SB,S1]
  refine ⟨fun h => ?_,fun h => ?_⟩ <;> simp [isK,h]
theorem pow_bd : ∀ n : Fin 62,(1 : Int) ≤ 2 ^ n.val ∧ (2 : Int) ^ n.val < 4611686018427387904 := by decide +kernel
theorem OP_shl {b : Int} {k : PV → Prop} (h0 : 0 ≤ b) (h1 : b ≤ 61) : OP (.bin .shl) [I 1,I b] k = k (I (2 ^ b.toNat)) := OP_of (by
  have h : (1 : Int) ≤ 2 ^ b.toNat ∧ (2 : Int) ^ b.toNat < 4611686018427387904 := pow_bd ⟨b.toNat,by omega⟩
  have h2 : min b.toNat IntKind.i64.bits = b.toNat := Nat.min_eq_left (by simp only [IntKind.bits];omega)
  have h3 : ¬ b < 0 := by omega
  simp only [ev,evBin,h2,h3,if_false,Int.one_mul,Option.some.injEq,PV.int.injEq,true_and]
  exact wr (by omega) (by omega))
def K_key_Back := And.intro @c_key_Far (@c_key_is)
theorem w_key_Back (k : Int) (bits : Int) : WW ρ 2 S_key_Back F_key_Back (k,bits) := by
  dsimp only [WW,appV,F_key_Back]
  unfold S_key_Back
  simp (disch:=first|omega|assumption|(constructor<;>first|assumption|omega)|simp only[LN];omega) only [↓SB,S1,↓K_key_Back]
  refine ⟨fun h => by simp [h],fun h => ⟨fun h2 => ?_,fun h2 => ⟨fun h3 => ?_,fun h3 => ?_⟩⟩⟩
  · have : ¬ 0 ≤ bits := by omega
    simp [h,this]
  · have : ¬ bits ≤ 61 := by omega
    simp [h,this]
  · have a := isK_iff.1 h
    have b : (1 : Int) ≤ 2 ^ bits.toNat ∧ (2 : Int) ^ bits.toNat < 4611686018427387904 := pow_bd ⟨bits.toNat,by omega⟩
    rw [OP_shl (by omega) (by omega)]
    simp (disch:=first|omega|assumption|(constructor<;>first|assumption|omega)|simp only[LN];omega) only [↓SB,S1,↓K_key_Back]
    have c : bits ≤ 61 := by omega
    have d : 0 ≤ bits := by omega
    simp [h,c,d]
def K_ring_Owner := And.intro @c_ring_Nearer (And.intro @c_ring_Topic (@c_ring_All))
theorem w_ring_Owner (t : Int) (l : List Int) (hg : Goods (F_ring_Owner (t,l)).2.1) : WW ρ 2 S_ring_Owner F_ring_Owner (t,l) := by
  dsimp only [WW,appV,F_ring_Owner] at hg ⊢
  unfold S_ring_Owner owner
  simp only [Goods,good_L] at hg
  simp (disch:=first|omega|assumption|(constructor<;>first|assumption|omega)|simp only[LN];omega) only [↓SB,S1,↓K_ring_Owner]
  rcases Bool.eq_false_or_eq_true (isT t) with h | h
  case inr => simp [h]
  simp only [h,if_true,Bool.true_eq_false,forall_const,if_false,Int.reduceEq,not_true_eq_false,false_implies,not_false_eq_true,true_and]
  refine ⟨fun h2 => by simp [h2],fun h2 => ⟨fun h3 => ?_,fun h3 => ?_⟩⟩
  · have : l = [] := List.eq_nil_of_length_eq_zero (by omega)
    subst this;simp
  · cases l with
    | nil => simp at h3
    | cons y l0 =>
      simp only [h2,if_true]
      rw [OP_idx (by omega) (by simp)]
      simp (disch:=first|omega|assumption|(constructor<;>first|assumption|omega)|simp only[LN];omega) only [↓SB,S1,↓K_ring_Owner]
      generalize hl : y :: l0 = l at *
      refine LOOP.rule (α := Nat × Int) (fun a => [I a.2,I a.1]) (fun a => a.1 ≤ l.length ∧ ownGo t a.2 (l.drop a.1) = ownGo t y l) (fun a => l.length - a.1) (0,y) rfl ⟨by simp,by simp⟩ (fun _ => rfl) ?_
      rintro ⟨i,b⟩ ⟨h4,h5⟩
      simp only [app] at *
      simp (disch:=first|omega|assumption|(constructor<;>first|assumption|omega)|simp only[LN];omega) only [↓SB,S1,↓K_ring_Owner]
      refine ⟨fun h6 => ?_,fun h6 => ?_⟩
      · obtain ⟨x,hx⟩ := get_ex h6
        rw [drop_eq hx,ownGo] at h5
        simp (disch:=first|omega|assumption|(constructor<;>first|assumption|omega)|simp only[LN];omega) only [↓SB,S1,↓K_ring_Owner,cell_L hx]
        refine ⟨fun h7 => ⟨(i + 1,x),by simp,⟨by simp;omega,by simpa [h7] using h5⟩,by simp;omega⟩,fun h7 => ⟨(i + 1,b),by simp,⟨by simp;omega,by simpa [h7] using h5⟩,by simp;omega⟩⟩
      · rw [drop_nil h6] at h5
        simp [← h5,ownGo]
theorem take_lastD {xs : List Int} {i : Nat} {x d : Int} (h : xs[i]? = some x) : (xs.take (i + 1)).getLastD d = x := by
  rw [← take_snoc h,List.getLastD_concat]
def K_route_Check := And.intro @c_slices_Contains_int_int (@c_ring_Is)
theorem w_route_Check (live : List Int) (self : Int) (hg : Goods (F_route_Check (live,self)).2.1) : WW ρ 2 S_route_Check F_route_Check (live,self) := by
  dsimp only [WW,appV,F_route_Check] at hg ⊢
  unfold S_route_Check chkL
  simp only [Goods,good_L] at hg
  simp (disch:=first|omega|assumption|(constructor<;>first|assumption|omega)|simp only[LN];omega) only [↓SB,S1,↓K_route_Check]
  refine LOOP.rule (α := Nat) (fun i => [I i]) (fun i => i ≤ live.length ∧ okFrom (((live.take i).getLastD (-1))) (live.drop i) = okFrom (-1) live) (fun i => live.length - i) 0 rfl ⟨by simp,by simp⟩ (fun _ => rfl) ?_
  rintro i ⟨h4,h5⟩
  simp only [app] at *
  simp (disch:=first|omega|assumption|(constructor<;>first|assumption|omega)|simp only[LN];omega) only [↓SB,S1,↓K_route_Check]
  refine ⟨fun h6 => ?_,fun h6 => ?_⟩
  · obtain ⟨x,hx⟩ := get_ex h6
    rw [drop_eq hx,okFrom] at h5
    simp (disch:=first|omega|assumption|(constructor<;>first|assumption|omega)|simp only[LN];omega) only [↓SB,S1,↓K_route_Check,cell_L hx]
    refine ⟨fun h7 => ?_,fun h7 => ⟨fun h8 => ?_,fun h8 => ?_⟩⟩
    · rw [← h5];simp [h7]
    · obtain ⟨j,rfl⟩ : ∃ j,i = j + 1 := ⟨i - 1,by omega⟩
      have hj : (((j + 1 : Nat) : Int) - 1) = (j : Nat) := by omega
      obtain ⟨y,hy⟩ := get_ex (xs := live) (i := j) (by omega)
      rw [take_lastD hy] at h5
      rw [hj]
      simp (disch:=first|omega|assumption|(constructor<;>first|assumption|omega)|simp only[LN];omega) only [↓SB,S1,↓K_route_Check,cell_L hx,cell_L hy]
      refine ⟨fun h9 => ?_,fun h9 => ⟨j + 2,by simp;omega,⟨by omega,?_⟩,by omega⟩⟩
      · have : ¬ y < x := by omega
        rw [← h5];simp [this]
      · rw [take_lastD hx,← h5]
        have : y < x := by omega
        simp [h7,this]
    · have : i = 0 := by omega
      subst this
      refine ⟨1,by simp,⟨by omega,?_⟩,by omega⟩
      rw [take_lastD hx,← h5]
      have := isN_iff.1 h7
      have : (-1 : Int) < x := by omega
      simp [h7,this]
  · rw [drop_nil h6] at h5
    simp only [okFrom] at h5
    rw [← h5]
    refine ⟨fun h => by rw [h];simp,fun h => by rw [h];simp⟩
def K_route_first := And.intro @c_ring_Node (@c_key_Far)
theorem w_route_first (live : List Int) (k : Int) (hp : live.all isN = true ∧ 0 ≤ k ∧ k < 4611686018427387904) (hg : Goods (F_route_first (live,k)).2.1) : WW ρ 2 S_route_first F_route_first (live,k) := by
  dsimp only [WW,appV,F_route_first] at hg ⊢
  unfold S_route_first firstN
  simp only [Goods,good_L] at hg
  obtain ⟨p1,p2,p3⟩ := hp
  rw [List.all_eq_true] at p1
  simp (disch:=first|omega|assumption|(constructor<;>first|assumption|omega)|simp only[LN];omega) only [↓SB,S1,↓K_route_first]
  refine LOOP.rule (α := Nat × Int × Int) (fun a => [I a.2.1,I a.2.2,I a.1]) (fun a => a.1 ≤ live.length ∧ firstGo k a.2.1 a.2.2 (live.drop a.1) = firstGo k (-1) 0 live) (fun a => live.length - a.1) (0,-1,0) rfl ⟨by simp,by simp⟩ (fun _ => rfl) ?_
  rintro ⟨i,b,d⟩ ⟨h4,h5⟩
  simp only [app] at *
  simp (disch:=first|omega|assumption|(constructor<;>first|assumption|omega)|simp only[LN];omega) only [↓SB,S1,↓K_route_first]
  refine ⟨fun h6 => ?_,fun h6 => ?_⟩
  · obtain ⟨x,hx⟩ := get_ex h6
    rw [drop_eq hx,firstGo] at h5
    have hN := p1 x (List.mem_of_getElem? hx)
    have hb := nn_bd x
    simp (disch:=first|omega|assumption|(constructor<;>first|assumption|omega)|simp only[LN];omega) only [↓SB,S1,↓K_route_first,cell_L hx,hN,if_true]
    refine ⟨fun h7 => ⟨(i + 1,x,far k (nn x)),by simp,⟨by simp;omega,by simpa [h7] using h5⟩,by simp;omega⟩,fun h7 => ⟨fun h8 => ⟨(i + 1,x,far k (nn x)),by simp,⟨by simp;omega,by simpa [h8] using h5⟩,by simp;omega⟩,fun h8 => ⟨(i + 1,b,d),by simp,⟨by simp;omega,by simpa [h7,h8] using h5⟩,by simp;omega⟩⟩⟩
  · rw [drop_nil h6,firstGo] at h5
    simp [← h5]
def K_route_ahead := And.intro @c_ring_Node (@c_key_Far)
theorem w_route_ahead (live : List Int) (self : Int) (hp : live.all isN = true ∧ isN self = true) (hg : Goods (F_route_ahead (live,self)).2.1) : WW ρ 2 S_route_ahead F_route_ahead (live,self) := by
  dsimp only [WW,appV,F_route_ahead] at hg ⊢
  unfold S_route_ahead aheadN
  simp only [Goods,good_L] at hg
  obtain ⟨p1,p2⟩ := hp
  rw [List.all_eq_true] at p1
  simp (disch:=first|omega|assumption|(constructor<;>first|assumption|omega)|simp only[LN];omega) only [↓SB,S1,↓K_route_ahead]
  refine LOOP.rule (α := Nat × Int × Int) (fun a => [I a.2.1,I a.2.2,I a.1]) (fun a => a.1 ≤ live.length ∧ aheadGo self a.2.1 a.2.2 (live.drop a.1) = aheadGo self (-1) 0 live) (fun a => live.length - a.1) (0,-1,0) rfl ⟨by simp,by simp⟩ (fun _ => rfl) ?_
  rintro ⟨i,b,d⟩ ⟨h4,h5⟩
  simp only [app] at *
  simp (disch:=first|omega|assumption|(constructor<;>first|assumption|omega)|simp only[LN];omega) only [↓SB,S1,↓K_route_ahead]
  refine ⟨fun h6 => ?_,fun h6 => ?_⟩
  · obtain ⟨x,hx⟩ := get_ex h6
    rw [drop_eq hx,aheadGo] at h5
    have hN := p1 x (List.mem_of_getElem? hx)
    have hb := nn_bd x
    have hb2 := nn_bd self
    simp (disch:=first|omega|assumption|(constructor<;>first|assumption|omega)|simp only[LN];omega) only [↓SB,S1,↓K_route_ahead,cell_L hx,hN,p2,if_true]
    refine ⟨fun h7 => ⟨fun h8 => ⟨(i + 1,x,far (nn x) (nn self)),by simp,⟨by simp;omega,by simpa [h7,h8] using h5⟩,by simp;omega⟩,fun h8 => ⟨fun h9 => ⟨(i + 1,x,far (nn x) (nn self)),by simp,⟨by simp;omega,by simpa [h7,h8,h9] using h5⟩,by simp;omega⟩,fun h9 => ⟨(i + 1,b,d),by simp,⟨by simp;omega,by simpa [h7,h8,h9] using h5⟩,by simp;omega⟩⟩⟩,fun h7 => ⟨(i + 1,b,d),by simp,⟨by simp;omega,by simpa [h7] using h5⟩,by simp;omega⟩⟩
  · rw [drop_nil h6,aheadGo] at h5
    simp [← h5]
theorem okFrom_all : ∀ {l : List Int} {p : Int},okFrom p l = true → l.all isN = true
  | [],_,_ => rfl
  | x :: r,p,h => by
    simp only [okFrom,Bool.and_eq_true] at h
    rw [List.all_cons,h.1.1,okFrom_all h.2];rfl
theorem chkL_zero {live : List Int} {self : Int} (h : chkL live self = 0) : (live.all isN = true ∧ isN self = true) ∧ (live.all isN = true ∧ isN self = true ∧ live ≠ []) ∧ okFrom (-1) live = true ∧ live.contains self = true := by
  unfold chkL at h
  split at h
  · rename_i h1
    rw [Bool.and_eq_true] at h1
    have a := okFrom_all h1.1
    have b : isN self = true := by
      rw [List.all_eq_true] at a;exact a self (by simpa using h1.2)
    exact ⟨⟨a,b⟩,⟨a,b,by rintro rfl;simp at h1⟩,h1.1,h1.2⟩
  · omega
def K_route_asked := And.intro @c_ring_Topic (@c_route_Check)
theorem w_route_asked (t : Int) (live : List Int) (self : Int) (hg : Goods (F_route_asked (t,live,self)).2.1) : WW ρ 3 S_route_asked F_route_asked (t,live,self) := by
  dsimp only [WW,appV,F_route_asked] at hg ⊢
  unfold S_route_asked askedN
  simp (disch:=first|omega|assumption|(constructor<;>first|assumption|omega)|simp only[LN];omega) only [↓SB,S1,↓K_route_asked]
  refine ⟨fun h => by simp [h],fun h => by simp [h]⟩
end Go.Xt
end
section
set_option linter.unusedSimpArgs false
set_option linter.unusedVariables false
set_option maxRecDepth 100000
namespace Go.Xt
set_option linter.defProp false
theorem ext_lt : ∀ {xs ys : List Int},xs.Pairwise (· < ·) → ys.Pairwise (· < ·) → (∀ a,a ∈ xs ↔ a ∈ ys) → xs = ys
  | [],[],_,_,_ => rfl
  | [],y :: ys,_,_,h => by have := (h y).2 (by simp);simp at this
  | x :: xs,[],_,_,h => by have := (h x).1 (by simp);simp at this
  | x :: xs,y :: ys,h1,h2,h => by
    rw [List.pairwise_cons] at h1 h2
    have e : x = y := by
      have a := (h x).1 (by simp)
      have b := (h y).2 (by simp)
      rw [List.mem_cons] at a b
      rcases a with a | a
      · exact a
      · rcases b with b | b
        · exact b.symm
        · have := h2.1 x a;have := h1.1 y b;omega
    subst e
    rw [ext_lt h1.2 h2.2 fun a => ⟨fun ha => ?_,fun ha => ?_⟩]
    · have := (h a).1 (by simp [ha])
      rw [List.mem_cons] at this
      rcases this with e | e
      · have := h1.1 a ha;omega
      · exact e
    · have := (h a).2 (by simp [ha])
      rw [List.mem_cons] at this
      rcases this with e | e
      · have := h2.1 a ha;omega
      · exact e
theorem compGo_ok : ∀ {r : List Int} {p : Int},r.Pairwise (· ≤ ·) → (∀ a ∈ r,p ≤ a) → (compGo p r).Pairwise (· < ·) ∧ (∀ a,a ∈ compGo p r ↔ a ∈ r ∧ a ≠ p)
  | [],p,_,_ => by simp [compGo]
  | y :: r,p,h1,h2 => by
    rw [List.pairwise_cons] at h1
    unfold compGo
    by_cases e : y = p
    · subst e
      obtain ⟨a,b⟩ := compGo_ok h1.2 h1.1
      rw [if_pos rfl]
      refine ⟨a,fun z => ?_⟩
      rw [b,List.mem_cons]
      exact ⟨fun h => ⟨.inr h.1,h.2⟩,fun h => ⟨h.1.resolve_left h.2,h.2⟩⟩
    · obtain ⟨a,b⟩ := compGo_ok h1.2 h1.1
      rw [if_neg e]
      refine ⟨List.pairwise_cons.2 ⟨fun z hz => ?_,a⟩,fun z => ?_⟩
      · have := (b z).1 hz
        have := h1.1 z this.1
        omega
      · have hy := h2 y (by simp)
        rw [List.mem_cons,b,List.mem_cons]
        constructor
        · rintro (rfl | ⟨h,h'⟩)
          · exact ⟨.inl rfl,e⟩
          · exact ⟨.inr h,by have := h1.1 z h;omega⟩
        · rintro ⟨rfl | h,h'⟩
          · exact .inl rfl
          · by_cases z = y
            · left;assumption
            · right;exact ⟨h,by assumption⟩
theorem comp_ok {l : List Int} (h : l.Pairwise (· ≤ ·)) : (compacted l).Pairwise (· < ·) ∧ ∀ a,a ∈ compacted l ↔ a ∈ l := by
  cases l with
  | nil => simp [compacted]
  | cons x r =>
    rw [List.pairwise_cons] at h
    obtain ⟨a,b⟩ := compGo_ok h.2 h.1
    unfold compacted
    refine ⟨List.pairwise_cons.2 ⟨fun z hz => ?_,a⟩,fun z => ?_⟩
    · have := (b z).1 hz
      have := h.1 z this.1
      omega
    · rw [List.mem_cons,b,List.mem_cons]
      by_cases e : z = x <;> simp [e]
theorem sorted_mem {l : List Int} {a : Int} : a ∈ sorted l ↔ a ∈ l := List.mem_mergeSort
theorem sorted_pw (l : List Int) : (sorted l).Pairwise (· ≤ ·) := by
  have := List.pairwise_mergeSort (le := fun x y : Int => decide (x ≤ y)) (by intro a b c;simp;omega) (by intro a b;simp;omega) l
  simpa [sorted] using this
theorem nodesL_mem {a : Int} : a ∈ nodesL ↔ isN a = true := by
  rw [isN_iff];simp [nodesL];omega
theorem nodes_pw : nodesL.Pairwise (· < ·) := by decide
theorem comp_sorted {l : List Int} (h : ∀ a ∈ l,isN a = true) : compacted (sorted l) = nodesL.filter fun n => l.contains n := by
  obtain ⟨a,b⟩ := comp_ok (sorted_pw l)
  refine ext_lt a (nodes_pw.filter _) fun z => ?_
  rw [b,sorted_mem,List.mem_filter,nodesL_mem]
  simp only [List.contains_eq_mem,decide_eq_true_eq]
  exact ⟨fun hz => ⟨h z hz,hz⟩,fun hz => hz.2⟩
theorem firstGo_mem {k : Int} : ∀ (l : List Int) (b d : Int),(firstGo k b d l = b ∧ (0 ≤ b ∨ l = [])) ∨ firstGo k b d l ∈ l
  | [],b,d => .inl ⟨rfl,.inr rfl⟩
  | x :: r,b,d => by
    unfold firstGo
    split
    · rcases firstGo_mem r x (far k (nn x)) with ⟨h,_⟩ | h
      · right;rw [h];simp
      · right;simp [h]
    · rename_i hb
      rcases firstGo_mem r b d with ⟨h,_⟩ | h
      · left;exact ⟨h,.inl (by omega)⟩
      · right;simp [h]
theorem firstN_mem {live : List Int} {k : Int} (h : live ≠ []) : firstN live k ∈ live := by
  rcases firstGo_mem (k := k) live (-1) 0 with ⟨_,h1 | h1⟩ | h1
  · omega
  · exact absurd h1 h
  · exact h1
theorem fingL_succ (live : List Int) (self : Int) (k : Nat) : fingL live self (k + 1) = fingL live self k ++ if firstN live (backN self k) ≠ self then [firstN live (backN self k)] else [] := by
  unfold fingL
  rw [List.range_succ,List.map_append,List.filter_append]
  congr 1
  by_cases h : firstN live (backN self k) = self <;> simp [h]
theorem fingL_len (live : List Int) (self : Int) : ∀ k : Nat,(fingL live self k).length ≤ k
  | 0 => by simp [fingL]
  | k + 1 => by
    have := fingL_len live self k
    rw [fingL_succ,List.length_append]
    split <;> simp <;> omega
theorem fingL_mem {live : List Int} {self n : Int} {k : Nat} (h0 : live ≠ []) (h : n ∈ fingL live self k) : n ∈ live ∧ n ≠ self := by
  unfold fingL at h
  simp only [List.mem_filter,List.mem_map,decide_eq_true_eq] at h
  obtain ⟨⟨i,_,rfl⟩,h2⟩ := h
  exact ⟨firstN_mem h0,h2⟩
theorem backN_bd (self : Int) {i : Nat} (h : i < 62) : 0 ≤ backN self i ∧ backN self i < 4611686018427387904 := by
  have b : (1 : Int) ≤ 2 ^ i ∧ (2 : Int) ^ i < 4611686018427387904 := pow_bd ⟨i,h⟩
  exact far_bd (by omega) b.2 (nn_bd self).1 (nn_bd self).2
theorem fingers_of {live : List Int} {self : Int} (h1 : live.all isN = true) (h3 : live ≠ []) : compacted (sorted (fingL live self 62)) = fingers live self := by
  rw [List.all_eq_true] at h1
  rw [comp_sorted fun a ha => h1 a (fingL_mem h3 ha).1];rfl
theorem sorted_len (l : List Int) : (sorted l).length = l.length := List.length_mergeSort ..
def K_route_fingers := And.intro @c_ring_Node (And.intro @c_key_Back (And.intro @c_route_first (And.intro @c_slices_Sort_int_int (@c_slices_Compact_int_int))))
theorem w_route_fingers (live : List Int) (self : Int) (hp : live.all isN = true ∧ isN self = true ∧ live ≠ []) (hg : Goods (F_route_fingers (live,self)).2.1) : WW ρ 2 S_route_fingers F_route_fingers (live,self) := by
  dsimp only [WW,appV,F_route_fingers] at hg ⊢
  unfold S_route_fingers
  obtain ⟨p1,p2,p3⟩ := hp
  simp (disch:=first|omega|assumption|(constructor<;>first|assumption|omega)|simp only[LN];omega) only [↓SB,S1,↓K_route_fingers,p2,if_true]
  refine LOOP.rule (α := Nat) (fun i => [I i,L (fingL live self i)]) (fun i => i ≤ 62) (fun i => 62 - i) 0 rfl (by simp) (fun _ => rfl) ?_
  intro i h4
  simp only [app] at *
  have hl := fingL_len live self i
  simp (disch:=first|omega|assumption|(constructor<;>first|assumption|omega)|simp only[LN];omega) only [↓SB,S1,↓K_route_fingers]
  refine ⟨fun h6 => ?_,fun h6 => ?_⟩
  · have e : (isK (nn self) && decide (0 ≤ (i : Int)) && decide ((i : Int) ≤ 61)) = true := by simp [isK_nn];omega
    have hb := backN_bd self (i := i) (by omega)
    have hk : live.all isN = true ∧ 0 ≤ backN self i ∧ backN self i < 4611686018427387904 := ⟨p1,hb⟩
    have e2 : far (2 ^ i) (nn self) = backN self i := rfl
    simp (disch:=first|omega|assumption|(constructor<;>first|assumption|omega)|simp only[LN];omega) only [↓SB,S1,↓K_route_fingers,e,if_true,Int.toNat_natCast,e2]
    refine ⟨fun h7 => ⟨i + 1,?_,by omega,by omega⟩,fun h7 => ⟨i + 1,?_,by omega,by omega⟩⟩
    · rw [fingL_succ];simp [h7]
    · rw [fingL_succ];simp [h7]
  · have e : i = 62 := by omega
    subst e
    have hs := sorted_len (fingL live self 62)
    simp (disch:=first|omega|assumption|(constructor<;>first|assumption|omega)|simp only[LN];omega) only [↓SB,S1,↓K_route_fingers,fingers_of p1 p3]
theorem aheadGo_mem {self : Int} : ∀ (l : List Int) (b d : Int),aheadGo self b d l = b ∨ (aheadGo self b d l ∈ l ∧ aheadGo self b d l ≠ self)
  | [],b,d => .inl rfl
  | x :: r,b,d => by
    unfold aheadGo
    split
    · rename_i h1
      rcases aheadGo_mem r x (far (nn x) (nn self)) with h | h
      · right;rw [h];exact ⟨by simp,h1.1⟩
      · right;exact ⟨by simp [h],h.2⟩
    · rcases aheadGo_mem r b d with h | h
      · left;exact h
      · right;exact ⟨by simp [h],h.2⟩
theorem aheadN_mem (live : List Int) (self : Int) : aheadN live self = -1 ∨ (aheadN live self ∈ live ∧ aheadN live self ≠ self) := aheadGo_mem live (-1) 0
theorem fingers_len (live : List Int) (self : Int) : (fingers live self).length ≤ 8 := by
  have := List.length_filter_le (fun n => (fingL live self 62).contains n) nodesL
  exact this
def K_route_next := And.intro @c_ring_Nearer (And.intro @c_route_fingers (@c_route_ahead))
theorem w_route_next (t : Int) (live : List Int) (self : Int) (hp : live.all isN = true ∧ isN self = true ∧ live ≠ []) (hg : Goods (F_route_next (t,live,self)).2.1) : WW ρ 3 S_route_next F_route_next (t,live,self) := by
  dsimp only [WW,appV,F_route_next] at hg ⊢
  unfold S_route_next nextN
  have hA : live.all isN = true ∧ isN self = true := ⟨hp.1,hp.2.1⟩
  have hl := fingers_len live self
  simp (disch:=first|omega|assumption|(constructor<;>first|assumption|omega)|simp only[LN];omega) only [↓SB,S1,↓K_route_next]
  have hl2 : (fingers live self ++ [aheadN live self]).length ≤ 9 := by simp;omega
  generalize fingers live self ++ [aheadN live self] = l at hl2 ⊢
  refine LOOP.rule (α := Nat × Int) (fun a => [I a.2,I a.1]) (fun a => a.1 ≤ l.length ∧ ownGo t a.2 (l.drop a.1) = ownGo t self l) (fun a => l.length - a.1) (0,self) rfl ⟨by simp,by simp⟩ (fun _ => rfl) ?_
  rintro ⟨i,b⟩ ⟨h4,h5⟩
  simp only [app] at *
  simp (disch:=first|omega|assumption|(constructor<;>first|assumption|omega)|simp only[LN];omega) only [↓SB,S1,↓K_route_next]
  refine ⟨fun h6 => ?_,fun h6 => ?_⟩
  · obtain ⟨x,hx⟩ := get_ex h6
    rw [drop_eq hx,ownGo] at h5
    simp (disch:=first|omega|assumption|(constructor<;>first|assumption|omega)|simp only[LN];omega) only [↓SB,S1,↓K_route_next,cell_L hx]
    refine ⟨fun h7 => ⟨(i + 1,x),by simp,⟨by simp;omega,by simpa [h7] using h5⟩,by simp;omega⟩,fun h7 => ⟨(i + 1,b),by simp,⟨by simp;omega,by simpa [h7] using h5⟩,by simp;omega⟩⟩
  · rw [drop_nil h6,ownGo] at h5
    rw [← h5]
    refine ⟨fun h => by simp [h],fun h => by simp [h]⟩
theorem ownGo_near {t : Int} : ∀ (l : List Int) (b : Int),ownGo t b l = b ∨ (near t (ownGo t b l) b = true ∧ ownGo t b l ∈ l)
  | [],b => .inl rfl
  | x :: r,b => by
    unfold ownGo
    by_cases h : near t x b = true
    · rw [if_pos h]
      rcases ownGo_near r x (t := t) with e | e
      · right;rw [e];exact ⟨h,by simp⟩
      · right;exact ⟨near_trans e.1 h,by simp [e.2]⟩
    · rw [if_neg h]
      rcases ownGo_near r b (t := t) with e | e
      · left;exact e
      · right;exact ⟨e.1,by simp [e.2]⟩
theorem next_cases (t : Int) (live : List Int) (self : Int) : nextN t live self = -1 ∨ (near t (nextN t live self) self = true ∧ nextN t live self ∈ fingers live self ++ [aheadN live self]) := by
  unfold nextN
  split
  · left;rfl
  · rename_i h
    exact .inr ((ownGo_near _ _).resolve_left h)
theorem next_near {t : Int} {live : List Int} {self : Int} (h : 0 ≤ nextN t live self) : near t (nextN t live self) self = true := by
  rcases next_cases t live self with e | e
  · omega
  · exact e.1
def K_route_Next := And.intro @c_route_asked (@c_route_next)
theorem w_route_Next (t : Int) (live : List Int) (self : Int) (hg : Goods (F_route_Next (t,live,self)).2.1) : WW ρ 3 S_route_Next F_route_Next (t,live,self) := by
  dsimp only [WW,appV,F_route_Next] at hg ⊢
  unfold S_route_Next
  simp (disch:=first|omega|assumption|(constructor<;>first|assumption|omega)|simp only[LN];omega) only [↓SB,S1,↓K_route_Next]
  refine ⟨fun h => by simp [h],fun h => ?_⟩
  have hB : live.all isN = true ∧ isN self = true ∧ live ≠ [] := by
    unfold askedN at h
    by_cases h2 : chkL live self = 0
    · exact (chkL_zero h2).2.1
    · rw [if_neg h2] at h;exact absurd h h2
  simp (disch:=first|omega|assumption|(constructor<;>first|assumption|omega)|simp only[LN];omega) only [↓SB,S1,↓K_route_Next]
  refine ⟨fun h2 => ?_,fun h2 => ?_⟩
  · have : max (nextN t live self) 0 = 0 := by omega
    simp [h,this];omega
  · have : max (nextN t live self) 0 = nextN t live self := by omega
    simp [h,this];omega
end Go.Xt
end
section
set_option linter.unusedSimpArgs false
set_option linter.unusedVariables false
set_option maxRecDepth 100000
namespace Go.Xt
set_option linter.defProp false
def K_ref10_behind := And.intro @c_ref01_Behind (@c_ref01_Node)
theorem w_ref10_behind (n : Int) (self : Int) (hp : isN n = true ∧ isN self = true) : WW ρ 2 S_ref10_behind F_ref10_behind (n,self) := by
  dsimp only [WW,appV,F_ref10_behind]
  unfold S_ref10_behind
  have h1 := nn_bd n
  have h2 := nn_bd self
  obtain ⟨h3,h4⟩ := hp
  simp (disch:=first|omega|assumption|(constructor<;>first|assumption|omega)|simp only[LN];omega) only [↓SB,S1,↓K_ref10_behind]
theorem aheadGo_neg {self b d d' : Int} (h : b < 0) : ∀ l : List Int,aheadGo self b d l = aheadGo self b d' l
  | [] => rfl
  | x :: r => by
    unfold aheadGo
    simp only [h,true_or,and_true]
    rw [aheadGo_neg h r]
theorem w_ref10_Ahead (live : List Int) (self : Int) (hp : live.all isN = true ∧ isN self = true) (hg : Goods (F_ref10_Ahead (live,self)).2.1) : WW ρ 2 S_ref10_Ahead F_ref10_Ahead (live,self) := by
  dsimp only [WW,appV,F_ref10_Ahead] at hg ⊢
  unfold S_ref10_Ahead aheadN
  simp only [Goods,good_L] at hg
  obtain ⟨p1,p2⟩ := hp
  rw [List.all_eq_true] at p1
  refine LOOP.rule (α := Nat × Int) (fun a => [I a.2,I a.1]) (fun a => a.1 ≤ live.length ∧ (a.2 < 0 ∨ isN a.2 = true) ∧ aheadGo self a.2 (far (nn a.2) (nn self)) (live.drop a.1) = aheadGo self (-1) 0 live) (fun a => live.length - a.1) (0,-1) rfl ⟨by simp,by simp,aheadGo_neg (by omega) live⟩ (fun _ => rfl) ?_
  rintro ⟨i,b⟩ ⟨h4,hb,h5⟩
  simp only [app] at *
  simp (disch:=first|omega|assumption|(constructor<;>first|assumption|omega)|simp only[LN];omega) only [↓SB,S1,↓c_ref10_behind]
  refine ⟨fun h6 => ?_,fun h6 => ?_⟩
  · obtain ⟨x,hx⟩ := get_ex h6
    rw [drop_eq hx,aheadGo] at h5
    have hN := p1 x (List.mem_of_getElem? hx)
    have hp1 : isN x = true ∧ isN self = true := ⟨hN,p2⟩
    simp (disch:=first|omega|assumption|(constructor<;>first|assumption|omega)|simp only[LN];omega) only [↓SB,S1,↓c_ref10_behind,cell_L hx]
    refine ⟨fun h7 => ⟨fun h8 => ⟨(i + 1,x),by simp,⟨by simp;omega,.inr hN,by simpa [h7,h8] using h5⟩,by simp;omega⟩,fun h8 => ?_⟩,fun h7 => ⟨(i + 1,b),by simp,⟨by simp;omega,hb,by simpa [h7] using h5⟩,by simp;omega⟩⟩
    have hp2 : isN b = true ∧ isN self = true := ⟨hb.resolve_left h8,p2⟩
    simp (disch:=first|omega|assumption|(constructor<;>first|assumption|omega)|simp only[LN];omega) only [↓SB,S1,↓c_ref10_behind]
    refine ⟨fun h9 => ⟨(i + 1,x),by simp,⟨by simp;omega,.inr hN,by simpa [h7,h8,h9] using h5⟩,by simp;omega⟩,fun h9 => ⟨(i + 1,b),by simp,⟨by simp;omega,hb,by simpa [h7,h8,h9] using h5⟩,by simp;omega⟩⟩
  · rw [drop_nil h6,aheadGo] at h5
    simp [← h5]
theorem firstGo_neg {k b d d' : Int} (h : b < 0) : ∀ l : List Int,firstGo k b d l = firstGo k b d' l
  | [] => rfl
  | x :: r => by
    unfold firstGo
    simp only [h,true_or,if_true]
def mk (live : List Int) (self : Int) (i : Nat) : List Bool := (List.range 8).map fun (n : Nat) => ((List.range i).map fun j => firstN live (backN self j)).contains (n : Int)
theorem map_set {k m : Nat} {f g : Nat → Bool} (h : ∀ n,g n = (f n || decide (m = n))) : (List.range k).map g = ((List.range k).map f).set m true := by
  refine List.ext_getElem (by simp) fun n h1 h2 => ?_
  rw [List.getElem_set]
  simp only [List.getElem_map,List.getElem_range,h]
  by_cases e : m = n <;> simp [e]
theorem mk_succ {live : List Int} {self : Int} {i m : Nat} (h : firstN live (backN self i) = m) : mk live self (i + 1) = (mk live self i).set m true := by
  refine map_set fun n => ?_
  rw [Bool.eq_iff_iff]
  simp only [List.contains_eq_mem,decide_eq_true_eq,Bool.or_eq_true,List.range_succ,List.map_append,List.map_cons,List.map_nil,h,List.mem_append,List.mem_singleton]
  exact or_congr Iff.rfl (by omega)
theorem mk_len (live : List Int) (self : Int) (i : Nat) : (mk live self i).length = 8 := by simp [mk]
theorem OP_repl8 {k : PV → Prop} : OP (.repl 1 [(.bool false)]) [I 8] k = k (L (List.replicate 8 false)) := OP_of (by simp [ev,roomy,L,Row.row,Lit.pv])
theorem nodesL_range : nodesL = (List.range 8).map fun (n : Nat) => (n : Int) := by decide
def fgo (live : List Int) (self : Int) (n : Nat) : List Int := ((List.range n).map fun (k : Nat) => (k : Int)).filter fun n => (fingL live self 62).contains n
theorem filter_one (p : Int → Bool) (n : Nat) : (List.map (fun (k : Nat) => (k : Int)) [n]).filter p = if p (n : Int) then [(n : Int)] else [] := by
  cases h : p (n : Int) <;> simp [h]
theorem fgo_succ (live : List Int) (self : Int) (n : Nat) : fgo live self (n + 1) = fgo live self n ++ if (fingL live self 62).contains (n : Int) then [(n : Int)] else [] := by
  unfold fgo
  rw [List.range_succ,List.map_append,List.filter_append]
  congr 1
  exact filter_one _ n
theorem fing_mk {live : List Int} {self : Int} {n : Nat} {x : Bool} (h : (mk live self 62)[n]? = some x) : (fingL live self 62).contains (n : Int) = (x && !decide ((n : Int) = self)) := by
  obtain ⟨h1,h2⟩ := List.getElem?_eq_some_iff.1 h
  rw [← h2,Bool.eq_iff_iff]
  simp only [mk,fingL,List.getElem_map,List.getElem_range,List.contains_eq_mem,List.mem_filter,decide_eq_true_eq,Bool.and_eq_true,Bool.not_eq_true',decide_eq_false_iff_not]
theorem fgo_len (live : List Int) (self : Int) (n : Nat) : (fgo live self n).length ≤ n := by
  have := List.length_filter_le (fun n => (fingL live self 62).contains n) ((List.range n).map fun (k : Nat) => (k : Int))
  simpa [fgo] using this
def K_ref10_Fingers := And.intro @c_ref01_Behind (@c_ref01_Node)
theorem w_ref10_Fingers (live : List Int) (self : Int) (hp : live.all isN = true ∧ isN self = true ∧ live ≠ []) (hg : Goods (F_ref10_Fingers (live,self)).2.1) : WW ρ 2 S_ref10_Fingers F_ref10_Fingers (live,self) := by
  dsimp only [WW,appV,F_ref10_Fingers] at hg ⊢
  unfold S_ref10_Fingers
  simp only [Goods,good_L] at hg
  obtain ⟨p1,p2,p3⟩ := hp
  have q1 := p1
  rw [List.all_eq_true] at q1
  rw [OP_repl8]
  simp (disch:=first|omega|assumption|(constructor<;>first|assumption|omega)|simp only[LN];omega) only [↓SB,S1,↓K_ref10_Fingers]
  have hS := nn_bd self
  refine LOOP.rule (α := Nat) (fun i => [I i,L (mk live self i)]) (fun i => i ≤ 62) (fun i => 62 - i) 0 rfl (by simp) (fun _ => rfl) ?_
  intro i h4
  simp only [app] at *
  simp (disch:=first|omega|assumption|(constructor<;>first|assumption|omega)|simp only[LN];omega) only [↓SB,S1,↓K_ref10_Fingers]
  refine ⟨fun h6 => ?_,fun h6 => ?_⟩
  · have hpw : (1 : Int) ≤ 2 ^ i ∧ (2 : Int) ^ i < 4611686018427387904 := pow_bd ⟨i,by omega⟩
    rw [OP_shl (by omega) (by omega)]
    simp (disch:=first|omega|assumption|(constructor<;>first|assumption|omega)|simp only[LN];omega) only [↓SB,S1,↓K_ref10_Fingers,Int.toNat_natCast]
    refine SUB.v1 (I (backN self i)) ?_ ?_
    · simp (disch:=first|omega|assumption|(constructor<;>first|assumption|omega)|simp only[LN];omega) only [↓SB,S1,↓K_ref10_Fingers]
      unfold backN far
      refine ⟨fun h => ?_,fun h => ?_⟩
      · rw [if_pos h];simp;omega
      · rw [if_neg h]
    have hb := backN_bd self (i := i) (by omega)
    generalize hk : backN self i = k at hb ⊢
    refine LOOP.rule (α := Nat × Int) (fun a => [I a.2,I a.1]) (fun a => a.1 ≤ live.length ∧ (a.2 < 0 ∨ isN a.2 = true) ∧ firstGo k a.2 (far k (nn a.2)) (live.drop a.1) = firstGo k (-1) 0 live) (fun a => live.length - a.1) (0,-1) rfl ⟨by simp,by simp,firstGo_neg (by omega) live⟩ (fun _ => rfl) ?_
    rintro ⟨j,b⟩ ⟨g4,gb,g5⟩
    simp only [app] at *
    simp (disch:=first|omega|assumption|(constructor<;>first|assumption|omega)|simp only[LN];omega) only [↓SB,S1,↓K_ref10_Fingers]
    refine ⟨fun g6 => ?_,fun g6 => ?_⟩
    · obtain ⟨x,hx⟩ := get_ex g6
      rw [drop_eq hx,firstGo] at g5
      have hN := q1 x (List.mem_of_getElem? hx)
      have hB := nn_bd x
      simp (disch:=first|omega|assumption|(constructor<;>first|assumption|omega)|simp only[LN];omega) only [↓SB,S1,↓K_ref10_Fingers,cell_L hx]
      refine ⟨fun g8 => ⟨(j + 1,x),by simp,⟨by simp;omega,.inr hN,by simpa [g8] using g5⟩,by simp;omega⟩,fun g8 => ?_⟩
      have hN2 := gb.resolve_left g8
      have hB2 := nn_bd b
      simp (disch:=first|omega|assumption|(constructor<;>first|assumption|omega)|simp only[LN];omega) only [↓SB,S1,↓K_ref10_Fingers]
      refine ⟨fun g9 => ⟨(j + 1,x),by simp,⟨by simp;omega,.inr hN,by simpa [g8,g9] using g5⟩,by simp;omega⟩,fun g9 => ⟨(j + 1,b),by simp,⟨by simp;omega,gb,by simpa [g8,g9] using g5⟩,by simp;omega⟩⟩
    · rw [drop_nil g6,firstGo] at g5
      have g7 : b = firstN live (backN self i) := by rw [hk];exact g5
      have g8 := isN_iff.1 (q1 _ (firstN_mem (k := backN self i) p3))
      rw [← g7] at g8
      obtain ⟨m,rfl⟩ := Int.eq_ofNat_of_zero_le g8.1
      have hl := mk_len live self i
      simp (disch:=first|omega|assumption|(constructor<;>first|assumption|omega)|simp only[LN];omega) only [↓SB,S1,↓K_ref10_Fingers]
      obtain ⟨y,hy⟩ := get_ex (xs := mk live self i) (i := m) (by omega)
      rw [OP_set (y := true) hy rfl]
      exact ⟨i + 1,by rw [mk_succ g7.symm];simp,by omega,by omega⟩
  · have e : i = 62 := by omega
    subst e
    have hl := mk_len live self 62
    refine LOOP.rule (α := Nat) (fun n => [I n,L (fgo live self n)]) (fun n => n ≤ 8) (fun n => 8 - n) 0 rfl (by simp) (fun _ => rfl) ?_
    intro n h7
    simp only [app]
    have hl2 := fgo_len live self n
    simp (disch:=first|omega|assumption|(constructor<;>first|assumption|omega)|simp only[LN];omega) only [↓SB,S1,↓K_ref10_Fingers]
    refine ⟨fun h8 => ?_,fun h8 => ?_⟩
    · obtain ⟨y,hy⟩ := get_ex (xs := mk live self 62) (i := n) (by omega)
      have hf := fing_mk hy
      have hs := fgo_succ live self n
      rw [hf] at hs
      simp (disch:=first|omega|assumption|(constructor<;>first|assumption|omega)|simp only[LN];omega) only [↓SB,S1,↓K_ref10_Fingers,cell_L hy]
      refine ⟨fun h9 => ⟨fun h10 => ⟨n + 1,by rw [hs];simp [h9,h10],by omega,by omega⟩,fun h10 => ⟨n + 1,by rw [hs];simp [h9,h10],by omega,by omega⟩⟩,fun h9 => ⟨n + 1,by rw [hs];simp [h9],by omega,by omega⟩⟩
    · have : n = 8 := by omega
      subst this
      unfold fingers
      rw [nodesL_range];rfl
theorem w_ref01_Owner (t : Int) (l : List Int) (hp : isT t = true ∧ l.all isN = true) (hg : Goods (F_ref01_Owner (t,l)).2.1) : WW ρ 2 S_ref01_Owner F_ref01_Owner (t,l) := by
  dsimp only [WW,appV,F_ref01_Owner] at hg ⊢
  unfold S_ref01_Owner ownerR
  simp only [Goods,good_L] at hg
  obtain ⟨p1,p2⟩ := hp
  rw [List.all_eq_true] at p2
  refine LOOP.rule (α := Nat × Int) (fun a => [I a.2,I a.1]) (fun a => a.1 ≤ l.length ∧ (a.2 < 0 ∨ isN a.2 = true) ∧ ownR t a.2 (l.drop a.1) = ownR t (-1) l) (fun a => l.length - a.1) (0,-1) rfl ⟨by simp,by simp,rfl⟩ (fun _ => rfl) ?_
  rintro ⟨i,b⟩ ⟨h4,hb,h5⟩
  simp only [app] at *
  simp (disch:=first|omega|assumption|(constructor<;>first|assumption|omega)|simp only[LN];omega) only [↓SB,S1,↓c_ref01_Gap]
  refine ⟨fun h6 => ?_,fun h6 => ?_⟩
  · obtain ⟨x,hx⟩ := get_ex h6
    rw [drop_eq hx,ownR] at h5
    have hN := p2 x (List.mem_of_getElem? hx)
    have hp1 : isT t = true ∧ isN x = true := ⟨p1,hN⟩
    simp (disch:=first|omega|assumption|(constructor<;>first|assumption|omega)|simp only[LN];omega) only [↓SB,S1,↓c_ref01_Gap,cell_L hx]
    refine ⟨fun h8 => ⟨(i + 1,x),by simp,⟨by simp;omega,.inr hN,by simpa [h8] using h5⟩,by simp;omega⟩,fun h8 => ?_⟩
    have hp2 : isT t = true ∧ isN b = true := ⟨p1,hb.resolve_left h8⟩
    simp (disch:=first|omega|assumption|(constructor<;>first|assumption|omega)|simp only[LN];omega) only [↓SB,S1,↓c_ref01_Gap]
    refine ⟨fun h9 => ⟨(i + 1,x),by simp,⟨by simp;omega,.inr hN,by simpa [h8,h9] using h5⟩,by simp;omega⟩,fun h9 => ⟨(i + 1,b),by simp,⟨by simp;omega,hb,by simpa [h8,h9] using h5⟩,by simp;omega⟩⟩
  · rw [drop_nil h6,ownR] at h5
    simp [← h5]
theorem ownR_ok {t : Int} : ∀ (l : List Int) (b : Int),(∀ x ∈ l,0 ≤ x) → (ownR t b l = b ∧ (0 ≤ b ∨ l = []) ∨ ownR t b l ∈ l) ∧ (∀ x ∈ l,gap t (ownR t b l) ≤ gap t x) ∧ (0 ≤ b → gap t (ownR t b l) ≤ gap t b)
  | [],b,_ => ⟨.inl ⟨rfl,.inr rfl⟩,by simp,fun _ => Int.le_refl _⟩
  | x :: r,b,hl => by
    have hl2 : ∀ x ∈ r,0 ≤ x := fun y hy => hl y (by simp [hy])
    have hx := hl x (by simp)
    unfold ownR
    split
    · rename_i hc
      obtain ⟨h1,h2,h3⟩ := ownR_ok r x hl2 (t := t)
      refine ⟨?_,?_,fun hb => ?_⟩
      · rcases h1 with h | h
        · right;rw [h.1];simp
        · right;simp [h]
      · intro y hy
        rcases List.mem_cons.1 hy with rfl | hy
        · exact h3 hx
        · exact h2 y hy
      · have := h3 hx;omega
    · rename_i hc
      obtain ⟨h1,h2,h3⟩ := ownR_ok r b hl2 (t := t)
      have hb : 0 ≤ b := by omega
      refine ⟨?_,?_,h3⟩
      · rcases h1 with h | h
        · exact .inl ⟨h.1,.inl hb⟩
        · right;simp [h]
      · intro y hy
        rcases List.mem_cons.1 hy with rfl | hy
        · have := h3 hb;omega
        · exact h2 y hy
theorem ownerR_ok {t : Int} {l : List Int} (hl : l.all isN = true) (h : l ≠ []) : ownerR t l ∈ l ∧ ∀ x ∈ l,gap t (ownerR t l) ≤ gap t x := by
  rw [List.all_eq_true] at hl
  obtain ⟨h1,h2,_⟩ := ownR_ok l (-1) (fun x hx => (isN_iff.1 (hl x hx)).1) (t := t)
  refine ⟨?_,h2⟩
  rcases h1 with ⟨_,h3 | h3⟩ | h3
  · omega
  · exact absurd h3 h
  · exact h3
def refGo (t self : Int) : Int → List Int → Int
  | b,[] => b
  | b,x :: r => refGo t self (if 0 ≤ x ∧ near t x self = true ∧ (b < 0 ∨ near t x b = true) then x else b) r
theorem refGo_pos {t self : Int} : ∀ (l : List Int) (b : Int),near t b self = true → refGo t self b l = ownGo t b l
  | [],_,_ => rfl
  | x :: r,b,h => by
    have hb := (near_dom h).2.1.1
    unfold refGo ownGo
    by_cases e : near t x b = true
    · have e2 := near_trans e h
      have hx := (near_dom e).2.1.1
      rw [if_pos ⟨hx,e2,.inr e⟩,if_pos e,refGo_pos r x e2]
    · rw [if_neg,if_neg e,refGo_pos r b h]
      rintro ⟨_,_,h3 | h3⟩
      · omega
      · exact e h3
theorem refGo_neg {t self : Int} : ∀ (l : List Int),refGo t self (-1) l = if ownGo t self l = self then -1 else ownGo t self l
  | [] => by simp [refGo,ownGo]
  | x :: r => by
    unfold refGo ownGo
    by_cases e : near t x self = true
    · have hx := (near_dom e).2.1.1
      rw [if_pos ⟨hx,e,.inl (by omega)⟩,if_pos e,refGo_pos r x e,if_neg]
      rcases ownGo_near r x (t := t) with h | h
      · rw [h];exact near_ne e
      · exact near_ne (near_trans h.1 e)
    · rw [if_neg (fun h => e h.2.1),if_neg e,refGo_neg r]
theorem known_live {live : List Int} {self x : Int} (h3 : live ≠ []) (h : x ∈ fingers live self ++ [aheadN live self]) : x = -1 ∨ (x ∈ live ∧ x ≠ self) := by
  rw [List.mem_append,List.mem_singleton] at h
  rcases h with h | h
  · right
    unfold fingers at h
    rw [List.mem_filter] at h
    exact fingL_mem h3 (by simpa using h.2)
  · rcases aheadN_mem live self with e | e
    · left;rw [h,e]
    · right;rw [h];exact e
theorem ownGo_stay {t b : Int} : ∀ {l : List Int},(∀ x ∈ l,near t x b = false) → ownGo t b l = b
  | [],_ => rfl
  | x :: r,h => by
    unfold ownGo
    rw [h x (by simp)]
    exact ownGo_stay fun y hy => h y (by simp [hy])
theorem next_owner {t : Int} {live : List Int} {self : Int} (h1 : live.all isN = true) (h3 : live ≠ []) (h : ownerR t live = self) : nextN t live self = -1 := by
  unfold nextN
  rw [ownGo_stay,if_pos rfl]
  intro x hx
  rcases known_live h3 hx with rfl | hx
  · simp [near,isN]
  · have := (ownerR_ok (t := t) h1 h3).2 x hx.1
    rw [h] at this
    simp only [near,Bool.and_eq_false_iff,decide_eq_false_iff_not]
    right;omega
theorem next_mem {t : Int} {live : List Int} {self : Int} (h3 : live ≠ []) (h : 0 ≤ nextN t live self) : nextN t live self ∈ live := by
  rcases next_cases t live self with e | e
  · omega
  · rcases known_live h3 e.2 with h1 | h1
    · omega
    · exact h1.1
def K_ref10_Next := And.intro @c_ref01_Owner (And.intro @c_ref10_Fingers (And.intro @c_ref10_Ahead (@c_ref01_Nearer)))
theorem w_ref10_Next (t : Int) (live : List Int) (self : Int) (hp : isT t = true ∧ chkL live self = 0) (hg : Goods (F_ref10_Next (t,live,self)).2.1) : WW ρ 3 S_ref10_Next F_ref10_Next (t,live,self) := by
  dsimp only [WW,appV,F_ref10_Next] at hg ⊢
  unfold S_ref10_Next
  obtain ⟨p1,p2⟩ := hp
  have hA := (chkL_zero p2).1
  have hB := (chkL_zero p2).2.1
  have hC : isT t = true ∧ live.all isN = true := ⟨p1,hA.1⟩
  have hB2 : live.all isN = true ∧ isN self = true ∧ live ≠ [] := hB
  have hl := fingers_len live self
  simp (disch:=first|omega|assumption|(constructor<;>first|assumption|omega)|simp only[LN];omega) only [↓SB,S1,↓K_ref10_Next]
  refine ⟨fun h => ?_,fun h => ?_⟩
  · rw [next_owner hA.1 hB.2.2 h]
  have hl2 : (fingers live self ++ [aheadN live self]).length ≤ 9 := by simp;omega
  unfold nextN
  rw [← refGo_neg]
  generalize fingers live self ++ [aheadN live self] = l at hl2 ⊢
  refine LOOP.rule (α := Nat × Int) (fun a => [I a.2,I a.1]) (fun a => a.1 ≤ l.length ∧ refGo t self a.2 (l.drop a.1) = refGo t self (-1) l) (fun a => l.length - a.1) (0,-1) rfl ⟨by simp,by simp⟩ (fun _ => rfl) ?_
  rintro ⟨i,b⟩ ⟨h4,h5⟩
  simp only [app] at *
  simp (disch:=first|omega|assumption|(constructor<;>first|assumption|omega)|simp only[LN];omega) only [↓SB,S1,↓K_ref10_Next]
  refine ⟨fun h6 => ?_,fun h6 => ?_⟩
  · obtain ⟨x,hx⟩ := get_ex h6
    rw [drop_eq hx,refGo] at h5
    simp (disch:=first|omega|assumption|(constructor<;>first|assumption|omega)|simp only[LN];omega) only [↓SB,S1,↓K_ref10_Next,cell_L hx]
    refine ⟨fun h7 => ⟨fun h8 => ⟨fun h9 => ⟨(i + 1,x),by simp,⟨by simp;omega,by simpa [h7,h8,h9] using h5⟩,by simp;omega⟩,fun h9 => ⟨fun h10 => ⟨(i + 1,x),by simp,⟨by simp;omega,by simpa [h7,h8,h9,h10] using h5⟩,by simp;omega⟩,fun h10 => ⟨(i + 1,b),by simp,⟨by simp;omega,by simpa [h7,h8,h9,h10] using h5⟩,by simp;omega⟩⟩⟩,fun h8 => ⟨(i + 1,b),by simp,⟨by simp;omega,by simpa [h7,h8] using h5⟩,by simp;omega⟩⟩,fun h7 => ⟨(i + 1,b),by simp,⟨by simp;omega,by simpa [h7] using h5⟩,by simp;omega⟩⟩
  · rw [drop_nil h6,refGo] at h5
    simp [← h5]
end Go.Xt
end
section
set_option linter.unusedSimpArgs false
set_option linter.unusedVariables false
set_option maxRecDepth 100000
namespace Go.Xt
set_option linter.defProp false
instance : FlatRow Call := ⟨fun a q hq => by simp [Row.row] at hq;rcases hq with rfl | rfl | rfl <;> rfl⟩
instance : FlatRow Mark := ⟨fun a q hq => by simp [Row.row] at hq;rcases hq with rfl | rfl | rfl <;> rfl⟩
instance : FlatRow Mark2 := ⟨fun a q hq => by simp [Row.row] at hq;rcases hq with rfl | rfl | rfl | rfl | rfl <;> rfl⟩
theorem OP_rowsN {w : Nat} {k : PV → Prop} (h : 0 < w) : OP (.rows w) [] k = k (.list []) := OP_of (by simp [ev,chunk];omega)
theorem w_slices_Clone_api_Peer_api_Peer (l : List Peer) (hp : l.length ≤ 1000000) : WW ρ 1 S_slices_Clone_api_Peer_api_Peer F_slices_Clone_api_Peer_api_Peer l := by
  dsimp only [WW,appV,F_slices_Clone_api_Peer_api_Peer]
  unfold S_slices_Clone_api_Peer_api_Peer
  rw [NILQ_L]
  refine ⟨fun h => ?_,?_⟩
  · subst h;simp (disch:=first|omega|assumption|(constructor<;>first|assumption|omega)|simp only[LN];omega) only [↓SB,S1]
    rfl
  · simp (disch:=first|omega|assumption|(constructor<;>first|assumption|omega)|simp only[LN];omega) only [↓SB,S1,↓OP_rowsN]
theorem w_slices_Clone_api_Call_api_Call (l : List Call) (hp : l.length ≤ 1000000) : WW ρ 1 S_slices_Clone_api_Call_api_Call F_slices_Clone_api_Call_api_Call l := by
  dsimp only [WW,appV,F_slices_Clone_api_Call_api_Call]
  unfold S_slices_Clone_api_Call_api_Call
  rw [NILQ_L]
  refine ⟨fun h => ?_,?_⟩
  · subst h;simp (disch:=first|omega|assumption|(constructor<;>first|assumption|omega)|simp only[LN];omega) only [↓SB,S1]
    rfl
  · simp (disch:=first|omega|assumption|(constructor<;>first|assumption|omega)|simp only[LN];omega) only [↓SB,S1,↓OP_rowsN]
theorem w_slices_Clone_api_Mark_api_Mark (l : List Mark) (hp : l.length ≤ 1000000) : WW ρ 1 S_slices_Clone_api_Mark_api_Mark F_slices_Clone_api_Mark_api_Mark l := by
  dsimp only [WW,appV,F_slices_Clone_api_Mark_api_Mark]
  unfold S_slices_Clone_api_Mark_api_Mark
  rw [NILQ_L]
  refine ⟨fun h => ?_,?_⟩
  · subst h;simp (disch:=first|omega|assumption|(constructor<;>first|assumption|omega)|simp only[LN];omega) only [↓SB,S1]
    rfl
  · simp (disch:=first|omega|assumption|(constructor<;>first|assumption|omega)|simp only[LN];omega) only [↓SB,S1,↓OP_rowsN]
theorem w_slices_Clone_api_Mark2_api_Mark2 (l : List Mark2) (hp : l.length ≤ 1000000) : WW ρ 1 S_slices_Clone_api_Mark2_api_Mark2 F_slices_Clone_api_Mark2_api_Mark2 l := by
  dsimp only [WW,appV,F_slices_Clone_api_Mark2_api_Mark2]
  unfold S_slices_Clone_api_Mark2_api_Mark2
  rw [NILQ_L]
  refine ⟨fun h => ?_,?_⟩
  · subst h;simp (disch:=first|omega|assumption|(constructor<;>first|assumption|omega)|simp only[LN];omega) only [↓SB,S1]
    rfl
  · simp (disch:=first|omega|assumption|(constructor<;>first|assumption|omega)|simp only[LN];omega) only [↓SB,S1,↓OP_rowsN]
theorem w_slices_Clone_api_Kid_api_Kid (l : List Kid) (hp : l.length ≤ 1000000) : WW ρ 1 S_slices_Clone_api_Kid_api_Kid F_slices_Clone_api_Kid_api_Kid l := by
  dsimp only [WW,appV,F_slices_Clone_api_Kid_api_Kid]
  unfold S_slices_Clone_api_Kid_api_Kid
  rw [NILQ_L]
  refine ⟨fun h => ?_,?_⟩
  · subst h;simp (disch:=first|omega|assumption|(constructor<;>first|assumption|omega)|simp only[LN];omega) only [↓SB,S1]
    rfl
  · simp (disch:=first|omega|assumption|(constructor<;>first|assumption|omega)|simp only[LN];omega) only [↓SB,S1,↓OP_rowsN]
theorem w_slices_Clone_api_Event_api_Event (l : List Event) (hp : l.length ≤ 1000000) : WW ρ 1 S_slices_Clone_api_Event_api_Event F_slices_Clone_api_Event_api_Event l := by
  dsimp only [WW,appV,F_slices_Clone_api_Event_api_Event]
  unfold S_slices_Clone_api_Event_api_Event
  rw [NILQ_L]
  refine ⟨fun h => ?_,?_⟩
  · subst h;simp (disch:=first|omega|assumption|(constructor<;>first|assumption|omega)|simp only[LN];omega) only [↓SB,S1]
    rfl
  · simp (disch:=first|omega|assumption|(constructor<;>first|assumption|omega)|simp only[LN];omega) only [↓SB,S1,↓OP_rowsN]
theorem w_slices_Clone_api_Item_api_Item (l : List Item) (hp : l.length ≤ 1000000) : WW ρ 1 S_slices_Clone_api_Item_api_Item F_slices_Clone_api_Item_api_Item l := by
  dsimp only [WW,appV,F_slices_Clone_api_Item_api_Item]
  unfold S_slices_Clone_api_Item_api_Item
  rw [NILQ_L]
  refine ⟨fun h => ?_,?_⟩
  · subst h;simp (disch:=first|omega|assumption|(constructor<;>first|assumption|omega)|simp only[LN];omega) only [↓SB,S1]
    rfl
  · simp (disch:=first|omega|assumption|(constructor<;>first|assumption|omega)|simp only[LN];omega) only [↓SB,S1,↓OP_rowsN]
theorem w_slices_Clone_int_int (l : List Int) (hp : l.length ≤ 1000000) : WW ρ 1 S_slices_Clone_int_int F_slices_Clone_int_int l := by
  dsimp only [WW,appV,F_slices_Clone_int_int]
  unfold S_slices_Clone_int_int
  rw [NILQ_L]
  refine ⟨fun h => ?_,?_⟩
  · subst h;simp (disch:=first|omega|assumption|(constructor<;>first|assumption|omega)|simp only[LN];omega) only [↓SB,S1]
    rfl
  · simp (disch:=first|omega|assumption|(constructor<;>first|assumption|omega)|simp only[LN];omega) only [↓SB,S1,↓OP_rowsN]
def K_graft_Twin := And.intro @c_slices_Clone_int_int (And.intro @c_slices_Clone_api_Kid_api_Kid (And.intro @c_slices_Clone_api_Event_api_Event (@c_slices_Clone_api_Item_api_Item)))
theorem w_graft_Twin (x : Topic) (hp : heavy19 x = false) : WW ρ 16 S_graft_Twin F_graft_Twin x := by
  dsimp only [WW,appV,F_graft_Twin]
  unfold S_graft_Twin
  have hb := heavy19_bd hp
  simp (disch:=first|omega|assumption|(constructor<;>first|assumption|omega)|simp only[LN];omega) only [↓SB,S1,↓K_graft_Twin]
theorem w_queue_gap (x : Event) : WW ρ 6 S_queue_gap F_queue_gap x := by
  dsimp only [WW,appV,F_queue_gap]
  unfold S_queue_gap gapE ofStream
  simp (disch:=first|omega|assumption|(constructor<;>first|assumption|omega)|simp only[LN];omega) only [↓SB,S1]
  refine ⟨fun h => ?_,fun h => ⟨fun h2 => ?_,fun h2 => ?_⟩⟩ <;> simp [*]
def K_queue_Fit := And.intro @c_slices_Clone_api_Event_api_Event (@c_queue_Put)
theorem w_queue_Fit (l : List Event) (limit : Int) (x : Event) (hp : l.length ≤ 1000000) (hg : Goods (F_queue_Fit (l,limit,x)).2.1) : WW ρ 8 S_queue_Fit F_queue_Fit (l,limit,x) := by
  dsimp only [WW,appV,F_queue_Fit] at hg ⊢
  unfold S_queue_Fit fitE
  simp (disch:=first|omega|assumption|(constructor<;>first|assumption|omega)|simp only[LN];omega) only [↓SB,S1,↓K_queue_Fit]
  refine ⟨fun h => ?_,fun h => ?_⟩ <;> simp [h]
theorem queueOk_bd {l : List Event} {limit : Int} (h : queueOk l limit = true) : 2 ≤ limit ∧ limit ≤ 32 ∧ (l.length : Int) ≤ limit ∧ l.all evOk = true := by
  simp only [queueOk,Bool.and_eq_true,decide_eq_true_eq] at h
  obtain ⟨⟨⟨h1,h2⟩,h3⟩,_⟩ := h
  have := rng_bd h1
  exact ⟨this.1,this.2,h2,h3⟩
def K_queue_Put := And.intro @c_slices_Clone_api_Event_api_Event (And.intro @c_queue_Check (And.intro @c_queue_Event (@c_queue_gap)))
theorem w_queue_Put (l : List Event) (limit : Int) (x : Event) (hg : Goods (F_queue_Put (l,limit,x)).2.1) : WW ρ 8 S_queue_Put F_queue_Put (l,limit,x) := by
  dsimp only [WW,appV,F_queue_Put] at hg ⊢
  unfold S_queue_Put
  generalize hE : putE l limit x = q
  refine SUB.v1 (bb (!(queueOk l limit && evOk x))) ?_ ?_
  · repeat' (first | apply And.intro | intro _ | simp (disch:=first|omega|assumption|(constructor<;>first|assumption|omega)|simp only[LN];omega) only [↓SB,S1,↓K_queue_Put])
    all_goals simp_all
  unfold putE at hE
  cases h0 : (queueOk l limit && evOk x)
  · simp (disch:=first|omega|assumption|(constructor<;>first|assumption|omega)|simp only[LN];omega) only [↓SB,S1,↓K_queue_Put]
    simp [h0] at hE;rw [← hE];rfl
  · rw [if_pos h0] at hE
    simp only [Bool.and_eq_true] at h0
    have hb := queueOk_bd h0.1
    simp (disch:=first|omega|assumption|(constructor<;>first|assumption|omega)|simp only[LN];omega) only [↓SB,S1,↓K_queue_Put]
    refine ⟨fun h1 => ?_,fun h1 => ?_⟩
    · rw [if_pos h1] at hE;rw [← hE]
    · rw [if_neg h1] at hE
      cases h2 : ofStream x
      · simp (disch:=first|omega|assumption|(constructor<;>first|assumption|omega)|simp only[LN];omega) only [↓SB,S1,↓K_queue_Put,h2]
        simp [h2] at hE;rw [← hE];rfl
      · simp (disch:=first|omega|assumption|(constructor<;>first|assumption|omega)|simp only[LN];omega) only [↓SB,S1,↓K_queue_Put,h2]
        rw [if_pos h2] at hE
        refine ⟨fun h3 => ?_,fun h3 => ?_⟩
        · rw [if_pos h3] at hE;rw [← hE]
        · rw [if_neg h3] at hE
          obtain ⟨k,hk⟩ := Int.eq_ofNat_of_zero_le (show 0 ≤ limit - 1 by omega)
          obtain ⟨y,hy⟩ := get_ex (xs := l) (i := k) (by omega)
          rw [hk] at hE ⊢
          have hgd : l.getD k event0 = y := by simp [List.getD_eq_getElem?_getD,hy]
          simp only [Int.toNat_natCast,hgd] at hE
          simp (disch:=first|omega|assumption|(constructor<;>first|assumption|omega)|simp only[LN];omega) only [↓SB,S1,↓K_queue_Put,cell_L hy,↓OP_addW,↓OP_set hy (j := 3) (v := I (gapE x).last) (y := { y with last := (gapE x).last }) (by simp [Event.row_eq,List.set])]
          refine ⟨fun h4 => ?_,fun h4 => ⟨fun h5 => ?_,fun h5 => ?_⟩⟩
          · rw [if_neg (fun h => h4 h.1)] at hE;rw [← hE];rfl
          · rw [if_neg (fun h => h5 h.2)] at hE;rw [← hE];rfl
          · rw [if_pos ⟨h4,h5⟩] at hE;rw [← hE]
theorem w_cast_Heed (n : Node) (o : Int) (hg : Goods (F_cast_Heed (n,o)).2.1) : WW ρ 10 S_cast_Heed F_cast_Heed (n,o) := by
  dsimp only [WW,appV,F_cast_Heed] at hg ⊢
  unfold S_cast_Heed heed
  simp only [Goods,good_L] at hg
  simp (disch:=first|omega|assumption|(constructor<;>first|assumption|omega)|simp only[LN];omega) only [↓SB,S1,↓c_cast_in]
  cases h : rng o 0 (n.peers.length - 1)
  · simp (disch:=first|omega|assumption|(constructor<;>first|assumption|omega)|simp only[LN];omega) only [↓SB,S1,↓c_cast_in,h]
    simp
  · have hb := rng_bd h
    obtain ⟨k,rfl⟩ := Int.eq_ofNat_of_zero_le hb.1
    obtain ⟨y,hy⟩ := get_ex (xs := n.peers) (i := k) (by omega)
    simp (disch:=first|omega|assumption|(constructor<;>first|assumption|omega)|simp only[LN];omega) only [↓SB,S1,↓c_cast_in,h,cell_L hy]
    simp [List.getD_eq_getElem?_getD,hy]
theorem w_view_place (l : List Peer) (n : Int) (hg : Goods (F_view_place (l,n)).2.1) : WW ρ 2 S_view_place F_view_place (l,n) := by
  dsimp only [WW,appV,F_view_place] at hg ⊢
  unfold S_view_place placeP
  cases h : peersOk l
  · simp (disch:=first|omega|assumption|(constructor<;>first|assumption|omega)|simp only[LN];omega) only [↓SB,S1,↓c_view_Check,h]
    simp
  · simp (disch:=first|omega|assumption|(constructor<;>first|assumption|omega)|simp only[LN];omega) only [↓SB,S1,↓c_view_Check,h]
    refine ⟨fun h1 => ?_,fun h1 => ⟨fun h2 => ?_,fun h2 => ?_⟩⟩
    · rw [if_neg (by omega)]
    · rw [if_neg (by omega)]
    · rw [if_pos (by omega)]
theorem place_z {l : List Peer} {n : Int} (h : placeP l n = 0) : peersOk l = true ∧ 0 ≤ n ∧ n < l.length := by
  unfold placeP at h
  split at h
  · split at h
    · rename_i h1 h2;exact ⟨h1,h2.1,h2.2⟩
    · omega
  · omega
theorem peers_len {l : List Peer} (h : peersOk l = true) : 1 ≤ l.length ∧ l.length ≤ 8 := by
  simp only [peersOk,Bool.and_eq_true,decide_eq_true_eq] at h;exact h.1
theorem w_view_Live (l : List Peer) (self : Int) (hg : Goods (F_view_Live (l,self)).2.1) : WW ρ 2 S_view_Live F_view_Live (l,self) := by
  dsimp only [WW,appV,F_view_Live] at hg ⊢
  unfold S_view_Live
  generalize hE : liveP l self = q
  simp (disch:=first|omega|assumption|(constructor<;>first|assumption|omega)|simp only[LN];omega) only [↓SB,S1,↓c_view_place]
  refine ⟨fun h => ?_,fun h => ?_⟩
  · rw [if_neg h];rfl
  obtain ⟨h1,h2,h3⟩ := place_z h
  have hb := peers_len h1
  refine LOOP.rule (α := Nat × List Int) (fun p => [I p.1,L p.2]) (fun p => p.1 ≤ l.length ∧ p.2.length ≤ p.1 ∧ p.2 ++ liveGo self p.1 (l.drop p.1) = q) (fun p => l.length - p.1) (0,[]) rfl ⟨by simp,by simp,by simpa [liveP] using hE⟩ (fun _ => rfl) ?_
  rintro ⟨i,a⟩ ⟨hi,ha,hs⟩
  simp only at hi ha hs
  simp only [app]
  simp (disch:=first|omega|assumption|(constructor<;>first|assumption|omega)|simp only[LN];omega) only [↓SB,S1,↓c_view_place]
  refine ⟨fun h4 => ?_,fun h4 => ?_⟩
  · obtain ⟨x,hx⟩ := get_ex h4
    rw [drop_eq hx,liveGo] at hs
    simp (disch:=first|omega|assumption|(constructor<;>first|assumption|omega)|simp only[LN];omega) only [↓SB,S1,↓c_view_place,cell_L hx]
    refine ⟨fun h5 => ⟨(i + 1,a ++ [(i : Int)]),rfl,⟨by simp;omega,by simp;omega,?_⟩,by simp;omega⟩,fun h5 => ⟨fun h6 => ⟨fun h7 => ⟨(i + 1,a ++ [(i : Int)]),rfl,⟨by simp;omega,by simp;omega,?_⟩,by simp;omega⟩,fun h7 => ⟨(i + 1,a),rfl,⟨by simp;omega,by simp;omega,?_⟩,by simp;omega⟩⟩,fun h6 => ⟨(i + 1,a),rfl,⟨by simp;omega,by simp;omega,?_⟩,by simp;omega⟩⟩⟩
    · rw [if_pos (.inl h5)] at hs;simpa using hs
    · rw [if_pos (.inr ⟨h6,h7⟩)] at hs;simpa using hs
    · rw [if_neg (show ¬ ((i : Int) = self ∨ (0 < x.inc ∧ x.age < 4)) by omega)] at hs;simpa using hs
    · rw [if_neg (show ¬ ((i : Int) = self ∨ (0 < x.inc ∧ x.age < 4)) by omega)] at hs;simpa using hs
  · rw [drop_nil h4] at hs
    simp [liveGo] at hs;simp [h,hs]
theorem live_mem {self : Int} : ∀ (l : List Peer) (i x : Int),x ∈ liveGo self i l → i ≤ x ∧ x < i + l.length
  | [],_,_,h => by simp [liveGo] at h
  | p :: r,i,x,h => by
    rw [liveGo,List.mem_append] at h
    rcases h with h | h
    · split at h
      · rw [List.mem_singleton] at h;subst h;simp;omega
      · simp at h
    · have := live_mem r (i + 1) x h;simp;omega
theorem live_self {self : Int} : ∀ (l : List Peer) (i : Int),i ≤ self → self < i + l.length → self ∈ liveGo self i l
  | [],i,h0,h1 => by simp at h1;omega
  | p :: r,i,h0,h1 => by
    rw [liveGo,List.mem_append]
    by_cases e : i = self
    · left;rw [if_pos (.inl e),e];simp
    · right;exact live_self r (i + 1) (by omega) (by simp at h1;omega)
theorem live_ok {self : Int} : ∀ (l : List Peer) (i p : Int),0 ≤ i → p < i → i + l.length ≤ 8 → okFrom p (liveGo self i l) = true
  | [],_,_,_,_,_ => rfl
  | q :: r,i,p,h0,h1,h2 => by
    simp only [List.length_cons] at h2
    rw [liveGo]
    split
    · simp only [List.singleton_append,okFrom,Bool.and_eq_true,decide_eq_true_eq]
      exact ⟨⟨isN_iff.2 (by omega),h1⟩,live_ok r (i + 1) i (by omega) (by omega) (by omega)⟩
    · exact live_ok r (i + 1) p (by omega) (by omega) (by omega)
theorem live_chk {l : List Peer} {self : Int} (h : peersOk l = true) (h0 : 0 ≤ self) (h1 : self < l.length) : chkL (liveP l self) self = 0 := by
  have hb := peers_len h
  unfold chkL
  rw [if_pos]
  simp only [Bool.and_eq_true]
  exact ⟨live_ok l 0 (-1) (by omega) (by omega) (by omega),List.contains_iff_mem.2 (live_self l 0 h0 (by omega))⟩
theorem nextN_lo (t : Int) (live : List Int) (self : Int) : -1 ≤ nextN t live self := by
  rcases next_cases t live self with h | h
  · omega
  · have := (near_dom h.1).2.1;omega
def K_ref19_Check := And.intro @c_ref01_Config (And.intro @c_ref19_in (@c_ref19_Node))
theorem w_ref19_Check (c : Config) (self : Int) (n : Node) (hg : Goods (F_ref19_Check (c,self,n)).2.1) : WW ρ 17 S_ref19_Check F_ref19_Check (c,self,n) := by
  dsimp only [WW,appV,F_ref19_Check] at hg ⊢
  unfold S_ref19_Check nodeWhy
  cases hc : cfgOk c
  · simp (disch:=first|omega|assumption|(constructor<;>first|assumption|omega)|simp only[LN];omega) only [↓SB,S1,↓K_ref19_Check,hc]
  have hb := cfg_bd hc
  simp (disch:=first|omega|assumption|(constructor<;>first|assumption|omega)|simp only[LN];omega) only [↓SB,S1,↓K_ref19_Check,hc]
  cases hs : rng self 0 (c.nodes - 1)
  · simp (disch:=first|omega|assumption|(constructor<;>first|assumption|omega)|simp only[LN];omega) only [↓SB,S1,↓K_ref19_Check,hs]
    simp
  · simp (disch:=first|omega|assumption|(constructor<;>first|assumption|omega)|simp only[LN];omega) only [↓SB,S1,↓K_ref19_Check,hs]
    cases hu : n.up
    · simp (disch:=first|omega|assumption|(constructor<;>first|assumption|omega)|simp only[LN];omega) only [↓SB,S1,↓K_ref19_Check]
      simp
    · simp (disch:=first|omega|assumption|(constructor<;>first|assumption|omega)|simp only[LN];omega) only [↓SB,S1,↓K_ref19_Check]
      cases nodeOk c self n <;> simp
def K_cast_Next := And.intro @c_view_Live (@c_route_Next)
theorem w_cast_Next (self : Int) (n : Node) (t : Int) (hp : peersOk n.peers = true ∧ rng self 0 (n.peers.length - 1) = true ∧ isT t = true) (hg : Goods (F_cast_Next (self,n,t)).2.1) : WW ρ 11 S_cast_Next F_cast_Next (self,n,t) := by
  dsimp only [WW,appV,F_cast_Next] at hg ⊢
  unfold S_cast_Next
  obtain ⟨h1,h2,h3⟩ := hp
  have hb := peers_len h1
  have hr := rng_bd h2
  have hpl : placeP n.peers self = 0 := by unfold placeP;rw [if_pos h1,if_pos (by omega)]
  have hc := live_chk h1 hr.1 (by omega)
  have ha : askedN t (liveP n.peers self) self = 0 := by unfold askedN;rw [if_pos hc,if_pos h3]
  simp (disch:=first|omega|assumption|(constructor<;>first|assumption|omega)|simp only[LN];omega) only [↓SB,S1,↓K_cast_Next,hpl,ha]
  simp
  refine ⟨fun h => ?_,fun h => ?_⟩
  · have := nextN_lo t (liveP n.peers self) self;omega
  · omega
end Go.Xt
end
section
set_option linter.unusedSimpArgs false
set_option linter.unusedVariables false
set_option maxRecDepth 100000
namespace Go.Xt
theorem OP_rowMsg0 {k : PV → Prop} {a b d e f g h i j l m o p q : Int} : OP (.rows 16) [I a,I b,I d,I e,I f,I g,I h,I i,I j,I l,I m,I o,I p,I q,.list [],.list []] k = k (L [(⟨a,b,d,e,f,g,h,i,j,l,m,o,p,q,[],[]⟩ : Msg)]) := OP_rowMsg (a_path := []) (a_todo := [])
structure DoesOk (self : Int) (n : Node) (t : Int) : Prop where
  ht : isT t = true
  hl : t < n.topics.length
  hp : peersOk n.peers = true
  hs : rng self 0 (n.peers.length - 1) = true
  hk : (topAt n t).kids.length ≤ 8
  h8 : (topAt n t).parent ≤ 8
  h0 : 0 ≤ (topAt n t).parent
  hc : n.calls.length ≤ 100
  hm : n.taken.length ≤ 100
  hq : (topAt n t).queue.length ≤ 1000
end Go.Xt
end
section
set_option linter.unusedSimpArgs false
set_option linter.unusedVariables false
set_option maxRecDepth 100000
namespace Go.Xt
structure NOk (c : Config) (me : Int) (n : Node) : Prop where
  inc : cnt n.inc = true
  pubs : rng n.pubs 0 1073741824 = true
  asks : rng n.asks 0 40 = true
  calls : callsGo c n.asks 0 n.calls = true
  cl : n.calls.length ≤ 40
  pl : (n.peers.length : Int) = c.nodes
  tl : (n.topics.length : Int) = c.topics
  ml : (n.marks.length : Int) = c.nodes
  kl : n.taken.length ≤ 64
  tops : topicsGo c me 0 n.topics = true
  peers : peersOk n.peers = true
  marks : n.marks.all markOk = true
  taken : n.taken.all (takenOk c) = true
theorem nodeOk_iff {c : Config} {self : Int} {n : Node} : nodeOk c self n = true ↔ NOk c self n := by
  constructor
  · intro h
    simp only [nodeOk,Bool.and_eq_true,decide_eq_true_eq] at h
    obtain ⟨⟨⟨⟨⟨⟨⟨⟨⟨⟨⟨⟨a,b⟩,d⟩,e⟩,f⟩,g⟩,i⟩,j⟩,k⟩,l⟩,m⟩,o⟩,p⟩ := h
    exact ⟨a,b,d,e,f,g,i,j,k,l,m,o,p⟩
  · rintro ⟨a,b,d,e,f,g,i,j,k,l,m,o,p⟩
    simp only [nodeOk,Bool.and_eq_true,decide_eq_true_eq]
    exact ⟨⟨⟨⟨⟨⟨⟨⟨⟨⟨⟨⟨a,b⟩,d⟩,e⟩,f⟩,g⟩,i⟩,j⟩,k⟩,l⟩,m⟩,o⟩,p⟩
theorem why_zero {c : Config} {self : Int} {n : Node} (h : nodeWhy c self n = 0) : cfgOk c = true ∧ rng self 0 (c.nodes - 1) = true ∧ n.up = true ∧ NOk c self n := by
  unfold nodeWhy at h
  split at h
  · split at h
    · split at h
      · rename_i h1 h2 h3
        rw [Bool.and_eq_true] at h2
        exact ⟨h1,h2.1,h2.2,nodeOk_iff.1 h3⟩
      · omega
    · omega
  · omega
theorem why_of {c : Config} {self : Int} {n : Node} (h1 : cfgOk c = true) (h2 : rng self 0 (c.nodes - 1) = true) (h3 : n.up = true) (h4 : NOk c self n) : nodeWhy c self n = 0 := by
  unfold nodeWhy;rw [if_pos h1,if_pos (by simp [h2,h3]),if_pos (nodeOk_iff.2 h4)]
theorem tops_get {c : Config} {self : Int} : ∀ {l : List Topic} {t : Int} {k : Nat} {x : Topic},topicsGo c self t l = true → l[k]? = some x → topicOk c (t + k) self x = true
  | [],_,_,_,_,h => by simp at h
  | y :: r,t,0,x,h,hx => by
    rw [topicsGo,Bool.and_eq_true] at h
    simp at hx;subst hx;simpa using h.1
  | y :: r,t,k + 1,x,h,hx => by
    rw [topicsGo,Bool.and_eq_true] at h
    have := tops_get (k := k) (x := x) h.2 (by simpa using hx)
    rw [show t + 1 + (k : Int) = t + ((k + 1 : Nat) : Int) by omega] at this;exact this
theorem tops_set {c : Config} {self : Int} : ∀ {l : List Topic} {t : Int} {k : Nat} {x : Topic},topicsGo c self t l = true → topicOk c (t + k) self x = true → topicsGo c self t (l.set k x) = true
  | [],_,_,_,_,h => rfl
  | y :: r,t,0,x,h,hx => by
    rw [topicsGo,Bool.and_eq_true] at h
    rw [List.set_cons_zero,topicsGo,Bool.and_eq_true]
    exact ⟨by simpa using hx,h.2⟩
  | y :: r,t,k + 1,x,h,hx => by
    rw [topicsGo,Bool.and_eq_true] at h
    rw [List.set_cons_succ,topicsGo,Bool.and_eq_true]
    exact ⟨h.1,tops_set h.2 (by rw [show t + 1 + (k : Int) = t + ((k + 1 : Nat) : Int) by omega];exact hx)⟩
theorem chk_len {t n c : Int} {xs : List Int} (h : chk t n xs c = 0) : (xs.length : Int) ≤ c := by
  unfold chk at h
  split at h
  · split at h
    · omega
    · omega
  · omega
structure TBd (c : Config) (x : Topic) : Prop where
  path : x.path.length ≤ 8
  kids : x.kids.length ≤ 4
  kept : x.stream.kept.length ≤ 16
  ahead : x.stream.ahead.length ≤ 16
  queue : x.queue.length ≤ 32
theorem topic_sz {c : Config} {t self : Int} {x : Topic} (hc : cfgOk c = true) (h : topicOk c t self x = true) : TBd c x ∧ 0 ≤ x.parent ∧ x.parent ≤ 8 := by
  have hb := cfg_bd hc
  have hf := topic_full hc h
  simp only [fullT,Bool.or_eq_false_iff,decide_eq_false_iff_not] at hf
  obtain ⟨⟨⟨f1,f2⟩,f3⟩,f4⟩ := hf
  simp only [topicOk,Bool.and_eq_true,decide_eq_true_eq] at h
  have hp := chk_len h.1.1.2
  have hl := link_bd h.1.1.1.1.1.1.1.2
  exact ⟨⟨by omega,by omega,by omega,by omega,by omega⟩,hl⟩
theorem topic_light {c : Config} {t self : Int} {x : Topic} (hc : cfgOk c = true) (h : topicOk c t self x = true) : heavy19 x = false := by
  obtain ⟨⟨a,b,d,e,f⟩,_⟩ := topic_sz hc h
  simp [heavy19,heavy18];omega
theorem node_light {c : Config} {self : Int} {n : Node} (hc : cfgOk c = true) (h : NOk c self n) {k : Nat} {x : Topic} (hx : n.topics[k]? = some x) : heavy19 x = false :=
  topic_light hc (tops_get h.tops hx)
end Go.Xt
end
section
set_option linter.unusedSimpArgs false
set_option linter.unusedVariables false
set_option maxRecDepth 100000
namespace Go.Xt
theorem set_same {α : Type} {l : List α} {k : Nat} {x : α} (h : l[k]? = some x) : l.set k x = l := by
  obtain ⟨h1,h2⟩ := List.getElem?_eq_some_iff.1 h
  rw [← h2];exact List.set_getElem_self h1
end Go.Xt
end
section
set_option linter.unusedSimpArgs false
set_option linter.unusedVariables false
set_option maxRecDepth 100000
namespace Go.Xt
theorem queueOk_iff {l : List Event} {limit : Int} : queueOk l limit = true ↔ rng limit 2 32 = true ∧ (l.length : Int) ≤ limit ∧ l.all evOk = true ∧ ((l.length : Int) < limit ∨ lastGap l = true) := by
  simp only [queueOk,Bool.and_eq_true,Bool.or_eq_true,decide_eq_true_eq,and_assoc]
theorem gap_ok {x : Event} (h : evOk x = true) (hs : ofStream x = true) : evOk (gapE x) = true ∧ (gapE x).kind = 2 ∧ (gapE x).seq ≤ (gapE x).last ∧ (gapE x).last ≤ 1073741824 ∧ 1 ≤ (gapE x).seq := by
  simp only [ofStream,Bool.or_eq_true,decide_eq_true_eq] at hs
  unfold evOk at h
  unfold gapE
  by_cases h1 : x.kind = 1
  · rw [if_pos h1] at h ⊢
    simp only [Bool.and_eq_true,decide_eq_true_eq,cnt,rng] at h
    obtain ⟨⟨⟨⟨h2,h3⟩,_⟩,_⟩,_⟩ := h
    simp [evOk,h2,cnt,rng,h3]
  · have h2 : x.kind = 2 := by omega
    rw [if_neg h1,if_pos h2] at h
    rw [if_neg h1,if_pos h2]
    refine ⟨by unfold evOk;rw [if_neg h1,if_pos h2];exact h,h2,?_⟩
    simp only [Bool.and_eq_true,decide_eq_true_eq,cnt,rng] at h
    omega
theorem lastGap_app {l : List Event} {x : Event} (h : x.kind = 2) : lastGap (l ++ [x]) = true := by simp [lastGap,h]
theorem put_ok {l : List Event} {limit : Int} {x : Event} (h : (putE l limit x).2 = 0) : queueOk (putE l limit x).1 limit = true := by
  unfold putE at h ⊢
  split at h
  · rename_i h0
    rw [if_pos h0]
    rw [Bool.and_eq_true] at h0
    obtain ⟨hr,hl,ha,hg⟩ := queueOk_iff.1 h0.1
    have hrb := rng_bd hr
    split at h
    · rename_i h1
      rw [if_pos h1]
      refine queueOk_iff.2 ⟨hr,by simp;omega,by simp only [List.all_append,ha,List.all_cons,List.all_nil,h0.2,Bool.and_self],.inl (by simp;omega)⟩
    · rename_i h1
      rw [if_neg h1]
      split at h
      · rename_i h2
        rw [if_pos h2]
        obtain ⟨g1,g2,g3,g4,g5⟩ := gap_ok h0.2 h2
        split at h
        · rename_i h3
          rw [if_pos h3]
          refine queueOk_iff.2 ⟨hr,by simp;omega,by simp only [List.all_append,ha,List.all_cons,List.all_nil,g1,Bool.and_self],.inr (lastGap_app g2)⟩
        · rename_i h3
          rw [if_neg h3]
          split at h
          · rename_i h4
            rw [if_pos h4]
            have hlen : (l.length : Int) = limit := by omega
            obtain ⟨j,hj⟩ : ∃ j,l.length = j + 1 := ⟨l.length - 1,by omega⟩
            have e1 : (limit - 1).toNat = j := by omega
            rw [e1] at h4 ⊢
            have hjl : j < l.length := by omega
            have hy : l.getD j event0 = l[j] := by simp [List.getD_eq_getElem?_getD,hjl]
            rw [hy] at h4 ⊢
            have hlg : lastGap l = true := by rcases hg with hg | hg;omega;exact hg
            have hk : l[j].kind = 2 := by
              have : l.getLast? = some l[j] := by rw [List.getLast?_eq_getElem?,hj,Nat.add_sub_cancel];simp [hjl]
              simp only [lastGap,this,decide_eq_true_eq] at hlg;exact hlg
            rw [List.all_eq_true] at ha
            have hev := ha l[j] (List.getElem_mem hjl)
            unfold evOk at hev
            rw [if_neg (by omega),if_pos hk] at hev
            simp only [Bool.and_eq_true,decide_eq_true_eq,cnt,rng] at hev
            have hw : IntKind.i64.wrap (l[j].last + 1) = l[j].last + 1 := wr (by omega) (by omega)
            rw [hw] at h4
            have hnew : evOk { l[j] with last := (gapE x).last } = true := by
              unfold evOk
              rw [if_neg (by show ¬ l[j].kind = 1;omega),if_pos hk]
              simp only [Bool.and_eq_true,decide_eq_true_eq,cnt,rng]
              obtain ⟨⟨⟨⟨d1,d2⟩,d3⟩,d4⟩,d5⟩ := hev
              exact ⟨⟨⟨⟨d1,d2⟩,by omega,by omega⟩,d4⟩,d5⟩
            refine queueOk_iff.2 ⟨hr,by simpa using hl,?_,.inr ?_⟩
            · rw [List.all_eq_true]
              intro y hy
              rcases List.mem_or_eq_of_mem_set hy with hy | hy
              · exact ha y hy
              · rw [hy];exact hnew
            · have : (l.set j { l[j] with last := (gapE x).last }).getLast? = some { l[j] with last := (gapE x).last } := by
                rw [List.getLast?_eq_getElem?,List.length_set,hj,Nat.add_sub_cancel];simp [hjl]
              unfold lastGap;rw [this];exact decide_eq_true hk
          · omega
      · omega
  · omega
theorem fit_ok {l : List Event} {limit : Int} {x : Event} (h : queueOk l limit = true) : queueOk (fitE l limit x) limit = true := by
  unfold fitE
  split
  · rename_i h0;exact put_ok h0
  · exact h
theorem topic_queue {c : Config} {t self : Int} {x : Topic} {q : List Event} (h : topicOk c t self x = true) (hq : queueOk q c.queue = true) : topicOk c t self { x with queue := q } = true := by
  simp only [topicOk,flowOk,Bool.and_eq_true] at h ⊢
  exact ⟨h.1,h.2.1,hq⟩
theorem topic_q {c : Config} {t self : Int} {x : Topic} (h : topicOk c t self x = true) : queueOk x.queue c.queue = true := by
  simp only [topicOk,flowOk,Bool.and_eq_true] at h;exact h.2.2
theorem putQ_ok {c : Config} {self : Int} {l : List Topic} {t : Int} {x : Event} (h : topicsGo c self 0 l = true) (h0 : 0 ≤ t) (h1 : t < l.length) : topicsGo c self 0 (putQ c l t x) = true ∧ (putQ c l t x).length = l.length := by
  obtain ⟨k,rfl⟩ := Int.eq_ofNat_of_zero_le h0
  obtain ⟨y,hy⟩ := get_ex h1
  have hgd : l.getD k topic0 = y := by simp [List.getD_eq_getElem?_getD,hy]
  unfold putQ
  rw [Int.toNat_natCast,hgd]
  refine ⟨tops_set h ?_,by simp⟩
  have := tops_get h hy
  exact topic_queue this (fit_ok (topic_q this))
theorem calls_mono {c : Config} {a b : Int} : ∀ {l : List Call} {p q : Int},callsGo c a p l = true → a ≤ b → q ≤ p → callsGo c b q l = true
  | [],_,_,_,_,_ => rfl
  | x :: r,p,q,h,hab,hqp => by
    simp only [callsGo,Bool.and_eq_true,decide_eq_true_eq] at h ⊢
    obtain ⟨⟨⟨⟨h1,h2⟩,h3⟩,h4⟩,h5⟩ := h
    exact ⟨⟨⟨⟨by omega,by omega⟩,h3⟩,h4⟩,calls_mono h5 hab (Int.le_refl _)⟩
end Go.Xt
end
section
set_option linter.unusedSimpArgs false
set_option linter.unusedVariables false
set_option maxRecDepth 100000
namespace Go.Xt
structure VOk (c : Config) (x : Msg) : Prop where
  t : rng x.topic 0 (c.topics - 1) = true
  o : rng x.node 0 (c.nodes - 1) = true
  i : cnt x.inc = true
  k : rng x.count 1 40 = true
  v : val x.value = true
def wN0 : Node := ⟨true,1,List.replicate 8 ⟨0,0⟩,List.replicate 4 topic0,[],0,0,List.replicate 8 ⟨0,0,0⟩,[]⟩
end Go.Xt
end
section
set_option linter.unusedSimpArgs false
set_option linter.unusedVariables false
set_option maxRecDepth 100000
namespace Go.Xt
set_option linter.defProp false
theorem concat_len : ∀ (ls : List (List Int)) (i : Nat),((ls.take i).flatten).length ≤ ls.flatten.length
  | [],i => by simp
  | l :: r,0 => by simp
  | l :: r,i + 1 => by
    have := concat_len r i
    simp only [List.take_succ_cons,List.flatten_cons,List.length_append];omega
theorem flat_take {ls : List (List Int)} {i : Nat} {x : List Int} (hx : ls[i]? = some x) : (ls.take (i + 1)).flatten = (ls.take i).flatten ++ x := by
  rw [List.take_add_one,hx];simp
theorem w_slices_Concat_int_int (ls : List (List Int)) (hp : ls.flatten.length ≤ 1000000) (hg : Goods (F_slices_Concat_int_int ls).2.1) : WW ρ 1 S_slices_Concat_int_int F_slices_Concat_int_int ls := by
  dsimp only [WW,appV,F_slices_Concat_int_int] at hg ⊢
  unfold S_slices_Concat_int_int
  simp only [Goods,good_L] at hg
  simp (disch:=first|omega|assumption|(constructor<;>first|assumption|omega)|simp only[LN];omega) only [↓SB,S1,↓c_slices_Grow_int_int]
  refine LOOP.rule (α := Nat) (fun i => [I (((ls.take i).flatten).length : Nat),I i]) (fun i => i ≤ ls.length) (fun i => ls.length - i) 0 rfl (by omega) (fun _ => rfl) ?_
  intro i hl
  have hi1 := concat_len ls i
  simp only [app]
  simp (disch:=first|omega|assumption|(constructor<;>first|assumption|omega)|simp only[LN];omega) only [↓SB,S1,↓c_slices_Grow_int_int]
  refine ⟨fun h => ?_,fun h => ?_⟩
  · obtain ⟨x,hx⟩ := get_ex h
    have hft := flat_take hx
    have hi2 := concat_len ls (i + 1)
    rw [hft,List.length_append] at hi2
    simp (disch:=first|omega|assumption|(constructor<;>first|assumption|omega)|simp only[LN];omega) only [↓SB,S1,↓c_slices_Grow_int_int,cell_L hx]
    refine ⟨fun h => by omega,fun _ => ⟨i + 1,?_,by omega,by omega⟩⟩
    rw [hft];simp
  · rw [List.take_of_length_le (by omega)]
    have hpre : ([] : List Int) = [] ∧ (0 : Int) ≤ (ls.flatten.length : Int) ∧ (ls.flatten.length : Int) ≤ 1000000 := ⟨rfl,by omega,by omega⟩
    simp (disch:=first|omega|assumption|(constructor<;>first|assumption|omega)|simp only[LN];omega) only [↓SB,S1,↓c_slices_Grow_int_int]
    refine LOOP.rule (α := Nat) (fun i => [I i,L ((ls.take i).flatten)]) (fun i => i ≤ ls.length) (fun i => ls.length - i) 0 rfl (by omega) (fun _ => rfl) ?_
    intro j hj
    have hi1 := concat_len ls j
    simp only [app]
    simp (disch:=first|omega|assumption|(constructor<;>first|assumption|omega)|simp only[LN];omega) only [↓SB,S1,↓c_slices_Grow_int_int]
    refine ⟨fun h => ?_,fun h => ?_⟩
    · obtain ⟨x,hx⟩ := get_ex h
      have hft := flat_take hx
      have hi2 := concat_len ls (j + 1)
      rw [hft,List.length_append] at hi2
      simp (disch:=first|omega|assumption|(constructor<;>first|assumption|omega)|simp only[LN];omega) only [↓SB,S1,↓c_slices_Grow_int_int,cell_L hx]
      refine ⟨j + 1,?_,by omega,by omega⟩
      rw [hft];simp
    · rw [List.take_of_length_le (by omega)]
def K_msg_ends := And.intro @c_msg_Counted (@c_ring_Is)
theorem w_msg_ends (m : Msg) : WW ρ 16 S_msg_ends F_msg_ends m := by
  dsimp only [WW,appV,F_msg_ends]
  unfold S_msg_ends endsOk
  simp (disch:=first|omega|assumption|(constructor<;>first|assumption|omega)|simp only[LN];omega) only [↓S0,S3,S2,S1,↓K_msg_ends]
  cases isN m.frm <;> cases isN m.to <;> simp
def K_msg_place := And.intro @c_msg_Counted (@c_msg_in)
theorem w_msg_place (m : Msg) : WW ρ 16 S_msg_place F_msg_place m := by
  dsimp only [WW,appV,F_msg_place]
  unfold S_msg_place placeM
  simp (disch:=first|omega|assumption|(constructor<;>first|assumption|omega)|simp only[LN];omega) only [↓S0,S3,S2,S1,↓K_msg_place]
  cases rng m.epoch 1 1073741824 <;> simp
def K_msg_whose := And.intro @c_msg_Value (And.intro @c_msg_Counted (And.intro @c_msg_in (@c_ring_Is)))
theorem w_msg_whose (m : Msg) : WW ρ 16 S_msg_whose F_msg_whose m := by
  dsimp only [WW,appV,F_msg_whose]
  unfold S_msg_whose whoseM
  simp (disch:=first|omega|assumption|(constructor<;>first|assumption|omega)|simp only[LN];omega) only [↓S0,S3,S2,S1,↓K_msg_whose]
  cases isN m.node <;> cases cnt m.inc <;> cases val m.value <;> simp
theorem nodup_take {α : Type} [DecidableEq α] {l : List α} {i : Nat} {x : α} (hx : l[i]? = some x) : (l.take (i + 1)).Nodup ↔ (l.take i).Nodup ∧ x ∉ l.take i := by
  rw [List.take_add_one,hx,Option.toList_some,List.nodup_append]
  constructor
  · rintro ⟨h1,_,h3⟩
    exact ⟨h1,fun hm => h3 x hm x (by simp) rfl⟩
  · rintro ⟨h1,h2⟩
    refine ⟨h1,by simp,fun a ha b hb => ?_⟩
    rw [List.mem_singleton] at hb
    subst hb
    rintro rfl;exact h2 ha
theorem nodup_pre {α : Type} {l : List α} {i : Nat} (h : l.Nodup) : (l.take i).Nodup := List.Nodup.sublist (List.take_sublist _ _) h
theorem w_msg_Unlike (l : List Int) (hg : Goods (F_msg_Unlike l).2.1) : WW ρ 1 S_msg_Unlike F_msg_Unlike l := by
  dsimp only [WW,appV,F_msg_Unlike] at hg ⊢
  unfold S_msg_Unlike
  simp only [Goods,good_L] at hg
  generalize hE : decide l.Nodup = q
  simp (disch:=first|omega|assumption|(constructor<;>first|assumption|omega)|simp only[LN];omega) only [↓SB,S1,↓c_slices_Contains_int_int]
  refine LOOP.rule (α := Nat) (fun i => [I i]) (fun i => i ≤ l.length ∧ (l.take i).Nodup) (fun i => l.length - i) 0 rfl ⟨by omega,by simp⟩ (fun _ => rfl) ?_
  rintro i ⟨hl,hs⟩
  simp only [app]
  simp (disch:=first|omega|assumption|(constructor<;>first|assumption|omega)|simp only[LN];omega) only [↓SB,S1,↓c_slices_Contains_int_int]
  refine ⟨fun h => ?_,fun h => ?_⟩
  · obtain ⟨x,hx⟩ := get_ex h
    simp (disch:=first|omega|assumption|(constructor<;>first|assumption|omega)|simp only[LN];omega) only [↓SB,S1,↓c_slices_Contains_int_int,cell_L hx,Int.toNat_natCast]
    refine ⟨fun h3 => ?_,fun h3 => ⟨i + 1,rfl,⟨by omega,(nodup_take hx).2 ⟨hs,fun hm => ?_⟩⟩,by omega⟩⟩
    · rw [← hE]
      have : ¬ l.Nodup := fun hn => ((nodup_take hx).1 (nodup_pre hn)).2 (by simpa using h3)
      simp [this]
    · have : (l.take i).contains x = true := by simpa using hm
      rw [h3] at this;cases this
  · rw [List.take_of_length_le (by omega)] at hs
    rw [← hE];simp [hs]
def K_msg_way := And.intro @c_ring_All (@c_msg_Unlike)
theorem w_msg_way (l : List Int) (hg : Goods (F_msg_way l).2.1) : WW ρ 1 S_msg_way F_msg_way l := by
  dsimp only [WW,appV,F_msg_way] at hg ⊢
  unfold S_msg_way wayOk
  simp (disch:=first|omega|assumption|(constructor<;>first|assumption|omega)|simp only[LN];omega) only [↓SB,S1,↓K_msg_way]
  refine ⟨fun h => ?_,fun h => ?_⟩
  · have e : decide (l.length ≤ 8) = true := by simp;omega
    rw [e]
    cases l.all isN <;> simp
  · have e : decide (l.length ≤ 8) = false := by simp;omega
    simp [e]
def K_msg_bare := And.intro @c_msg_Value (And.intro @c_slices_Concat_int_int (And.intro @c_msg_Counted (And.intro @c_msg_in (And.intro @c_ring_Is (And.intro @c_msg_way (And.intro @c_msg_place (And.intro @c_msg_whose (@c_msg_Unlike))))))))
theorem w_msg_bare (m : Msg) (hg : Goods (F_msg_bare m).2.1) : WW ρ 16 S_msg_bare F_msg_bare m := by
  dsimp only [WW,appV,F_msg_bare] at hg ⊢
  unfold S_msg_bare
  simp only [Goods,good_I,good_L] at hg
  generalize hE : bareM m = q
  simp (disch:=first|omega|assumption|(constructor<;>first|assumption|omega)|simp only[LN];omega) only [↓SB,S1,↓K_msg_bare]
  refine SUB.v1 (bb (decide (m.kind = 1) || decide (m.kind = 5) || decide (m.kind = 6))) ?_ ?_
  · repeat' (first | apply And.intro | intro _ | simp (disch:=first|omega|assumption|(constructor<;>first|assumption|omega)|simp only[LN];omega) only [↓SB,S1,↓K_msg_bare])
    all_goals simp_all
  unfold bareM at hE
  by_cases k1 : m.kind = 1 ∨ m.kind = 5 ∨ m.kind = 6
  · rw [if_pos k1] at hE
    have e : (decide (m.kind = 1) || decide (m.kind = 5) || decide (m.kind = 6)) = true := by simp;omega
    simp (disch:=first|omega|assumption|(constructor<;>first|assumption|omega)|simp only[LN];omega) only [↓SB,S1,↓K_msg_bare,e]
    rw [← hE]
  rw [if_neg k1] at hE
  have e : (decide (m.kind = 1) || decide (m.kind = 5) || decide (m.kind = 6)) = false := by simp;omega
  simp (disch:=first|omega|assumption|(constructor<;>first|assumption|omega)|simp only[LN];omega) only [↓SB,S1,↓K_msg_bare,e]
  refine ⟨fun k2 => ?_,fun k2 => ?_⟩
  · rw [if_pos k2] at hE
    rw [← hE]
    repeat' (first | apply And.intro | intro _ | simp (disch:=first|omega|assumption|(constructor<;>first|assumption|omega)|simp only[LN];omega) only [↓SB,S1,↓K_msg_bare])
    all_goals simp_all
  rw [if_neg k2] at hE
  refine ⟨fun k3 => ?_,fun k3 => ?_⟩
  · rw [if_pos k3] at hE
    rw [← hE]
    have eL : (PV.list [] : PV) = L ([] : List Int) := rfl
    cases hpa : m.path with
    | nil =>
      repeat' (first | apply And.intro | intro _ | simp (disch:=first|omega|assumption|(constructor<;>first|assumption|omega)|simp only[LN];omega) only [↓SB,S1,↓K_msg_bare])
      all_goals (rw [eL];simp_all)
    | cons p r =>
      have hc0 : (L (p :: r)).cellAt (I 0) 0 = I p := cell_L (i := 0) (x := p) rfl
      repeat' (first | apply And.intro | intro _ | simp (disch:=first|omega|assumption|(constructor<;>first|assumption|omega)|simp only[LN];omega) only [↓SB,S1,↓K_msg_bare,hc0,eL])
      all_goals simp_all
  rw [if_neg k3] at hE
  refine ⟨fun k4 => ?_,fun k4 => ?_⟩
  · rw [if_pos k4] at hE
    rw [← hE]
    repeat' (first | apply And.intro | intro _ | simp (disch:=first|omega|assumption|(constructor<;>first|assumption|omega)|simp only[LN];omega) only [↓SB,S1,↓K_msg_bare])
    all_goals simp_all
  rw [if_neg k4] at hE
  refine ⟨fun k7 => ?_,fun k7 => ?_⟩
  · rw [if_pos k7] at hE
    rw [← hE]
    repeat' (first | apply And.intro | intro _ | simp (disch:=first|omega|assumption|(constructor<;>first|assumption|omega)|simp only[LN];omega) only [↓SB,S1,↓K_msg_bare])
    all_goals simp_all
  rw [if_neg k7] at hE
  refine ⟨fun k8 => ?_,fun k8 => ?_⟩
  · rw [if_pos k8] at hE
    rw [← hE]
    repeat' (first | apply And.intro | intro _ | simp (disch:=first|omega|assumption|(constructor<;>first|assumption|omega)|simp only[LN];omega) only [↓SB,S1,↓K_msg_bare])
    all_goals simp_all
  rw [if_neg k8] at hE
  refine ⟨fun k9 => ?_,fun k9 => ?_⟩
  · rw [if_pos k9] at hE
    rw [← hE]
    repeat' (first | apply And.intro | intro _ | simp (disch:=first|omega|assumption|(constructor<;>first|assumption|omega)|simp only[LN];omega) only [↓SB,S1,↓K_msg_bare])
    all_goals simp_all
  rw [if_neg k9] at hE
  refine ⟨fun k10 => ?_,fun k10 => ?_⟩
  · rw [if_pos k10] at hE
    rw [← hE]
    repeat' (first | apply And.intro | intro _ | simp (disch:=first|omega|assumption|(constructor<;>first|assumption|omega)|simp only[LN];omega) only [↓SB,S1,↓K_msg_bare])
    all_goals simp_all
  rw [if_neg k10] at hE
  refine ⟨fun k11 => ?_,fun k11 => ?_⟩
  · rw [if_pos k11] at hE
    rw [← hE]
    cases hpa : wayOk m.path with
    | false => repeat' (first | apply And.intro | intro _ | simp (disch:=first|omega|assumption|(constructor<;>first|assumption|omega)|simp only[LN];omega) only [↓SB, S1, ↓K_msg_bare])
               all_goals simp_all [show (PV.list [] : PV) = L ([] : List Int) from rfl]
    | true =>
    cases hto : wayOk m.todo with
    | false => repeat' (first | apply And.intro | intro _ | simp (disch:=first|omega|assumption|(constructor<;>first|assumption|omega)|simp only[LN];omega) only [↓SB, S1, ↓K_msg_bare])
               all_goals simp_all [show (PV.list [] : PV) = L ([] : List Int) from rfl]
    | true =>
      have hfl : ([m.path,m.todo].flatten).length ≤ 1000000 := by
        simp only [wayOk,Bool.and_eq_true,decide_eq_true_eq] at hpa hto
        simp;omega
      repeat' (first | apply And.intro | intro _ | simp (disch:=first|omega|assumption|(constructor<;>first|assumption|omega)|simp only[LN];omega) only [↓SB,S1,↓K_msg_bare])
      all_goals simp_all [show (PV.list [] : PV) = L ([] : List Int) from rfl]
  rw [if_neg k11] at hE
  refine ⟨fun k12 => ?_,fun k12 => ?_⟩
  · rw [if_pos k12] at hE
    rw [← hE]
    repeat' (first | apply And.intro | intro _ | simp (disch:=first|omega|assumption|(constructor<;>first|assumption|omega)|simp only[LN];omega) only [↓SB,S1,↓K_msg_bare])
    all_goals simp_all
  rw [if_neg k12] at hE
  refine ⟨fun k13 => ?_,fun k13 => ?_⟩
  · rw [if_pos k13] at hE
    rw [← hE]
    repeat' (first | apply And.intro | intro _ | simp (disch:=first|omega|assumption|(constructor<;>first|assumption|omega)|simp only[LN];omega) only [↓SB,S1,↓K_msg_bare])
    all_goals simp_all
  rw [if_neg k13] at hE
  rw [← hE]
def K_msg_Check := And.intro @c_msg_Counted (And.intro @c_msg_in (And.intro @c_msg_bare (@c_msg_ends)))
theorem w_msg_Check (m : Msg) (hg : Goods (F_msg_Check m).2.1) : WW ρ 16 S_msg_Check F_msg_Check m := by
  dsimp only [WW,appV,F_msg_Check] at hg ⊢
  unfold S_msg_Check
  simp only [Goods,good_I,good_L] at hg
  simp (disch:=first|omega|assumption|(constructor<;>first|assumption|omega)|simp only[LN];omega) only [↓SB,S1,↓K_msg_Check]
  refine SUB.v1 (bb (knownM m)) ?_ ?_
  · unfold knownM
    refine ⟨fun k => ?_,fun k => ?_⟩
    · rw [if_pos k]
      repeat' (first | apply And.intro | intro _ | simp (disch:=first|omega|assumption|(constructor<;>first|assumption|omega)|simp only[LN];omega) only [↓SB,S1,↓K_msg_Check])
      all_goals simp_all
    · rw [if_neg k]
      repeat' (first | apply And.intro | intro _ | simp (disch:=first|omega|assumption|(constructor<;>first|assumption|omega)|simp only[LN];omega) only [↓SB,S1,↓K_msg_Check])
      all_goals simp_all
  refine SUB.v1 (bb (spareM (bareM m).1)) ?_ ?_
  · unfold spareM
    repeat' (first | apply And.intro | intro _ | simp (disch:=first|omega|assumption|(constructor<;>first|assumption|omega)|simp only[LN];omega) only [↓SB,S1,↓K_msg_Check])
    all_goals simp_all
  unfold msgOk
  cases e1 : (bareM m).2 <;> cases e2 : knownM m <;> cases e3 : spareM (bareM m).1
  all_goals simp (disch:=first|omega|assumption|(constructor<;>first|assumption|omega)|simp only[LN];omega) only [↓SB,S1,↓K_msg_Check,e1,e2,e3]
  all_goals simp
  refine ⟨fun h h2 => by rw [h2] at h;simp at h,fun h => ⟨fun h2 _ h3 => by rw [h3] at h2;simp at h2,fun h2 => ⟨h,h2⟩⟩⟩
end Go.Xt
end
section
set_option linter.unusedSimpArgs false
set_option linter.unusedVariables false
set_option maxRecDepth 100000
namespace Go.Xt
theorem fit_len (l : List Event) (limit : Int) (x : Event) : (fitE l limit x).length = l.length ∨ (fitE l limit x).length = l.length + 1 := by
  unfold fitE
  split
  · rename_i h
    unfold putE at h ⊢
    split
    · rename_i h0
      rw [if_pos h0] at h
      split
      · right;simp
      · rename_i h1
        rw [if_neg h1] at h
        split
        · rename_i h2
          rw [if_pos h2] at h
          split
          · right;simp
          · rename_i h3
            rw [if_neg h3] at h
            split
            · left;simp
            · rename_i h4
              rw [if_neg h4] at h;cases h
        · rename_i h2
          rw [if_neg h2] at h;cases h
    · rename_i h0
      rw [if_neg h0] at h;cases h
  · exact .inl rfl
end Go.Xt
end
section
set_option linter.unusedSimpArgs false
set_option linter.unusedVariables false
set_option maxRecDepth 100000
namespace Go.Xt
theorem w_law06_Heavy (m : Msg) : WW ρ 16 S_law06_Heavy F_law06_Heavy m := by
  dsimp only [WW,appV,F_law06_Heavy]
  unfold S_law06_Heavy
  simp (disch:=first|omega|assumption|(constructor<;>first|assumption|omega)|simp only[LN];omega) only [↓SB,S1]
  refine ⟨fun h => ?_,fun h => ?_⟩
  · have : decide (m.path.length > 30) = true := by simp;omega
    simp [this]
  · have : decide (m.path.length > 30) = false := by simp;omega
    rw [this,Bool.false_or];simp;omega
theorem msg_any {x : Msg} (h : msgOk x = true) (hk : x.kind = 11) : whoseM x = true ∧ rng x.count 1 40 = true ∧ wayOk x.path = true ∧ wayOk x.todo = true ∧ (x.path ++ x.todo).Nodup ∧ rng x.topic 0 3 = true := by
  simp only [msgOk,Bool.and_eq_true] at h
  obtain ⟨⟨⟨⟨k1,k2⟩,_⟩,_⟩,_⟩ := h
  simp only [knownM,Bool.and_eq_true] at k2
  have k3 := k2.2
  rw [if_neg (by omega),Bool.and_eq_true] at k3
  unfold bareM at k1
  rw [if_neg (by omega),if_neg (by omega),if_neg (by omega),if_neg (by omega),if_neg (by omega),if_neg (by omega),if_neg (by omega),if_neg (by omega),if_pos hk] at k1
  simp only [Bool.and_eq_true,decide_eq_true_eq] at k1
  obtain ⟨⟨⟨⟨a,b⟩,d⟩,e⟩,f⟩ := k1
  exact ⟨a,b,d,e,f,k3.2⟩
structure MV (c : Config) (x : Msg) : Prop where
  ok : msgOk x = true
  k : x.kind = 11
  t : rng x.topic 0 (c.topics - 1) = true
  n : rng x.node 0 (c.nodes - 1) = true
  p : (x.path.all fun n => rng n 0 (c.nodes - 1)) = true
  d : (x.todo.all fun n => rng n 0 (c.nodes - 1)) = true
theorem MV.v {c : Config} {x : Msg} (h : MV c x) : VOk c x := by
  obtain ⟨a,b,_⟩ := msg_any h.ok h.k
  simp only [whoseM,Bool.and_eq_true] at a
  exact ⟨h.t,h.n,a.1.1.2,b,a.1.2⟩
end Go.Xt
end
section
set_option linter.unusedSimpArgs false
set_option linter.unusedVariables false
set_option maxRecDepth 100000
namespace Go.Xt
theorem w_ref19_has (l : List Int) (n : Int) (hg : Goods (F_ref19_has (l,n)).2.1) : WW ρ 2 S_ref19_has F_ref19_has (l,n) := by
  dsimp only [WW,appV,F_ref19_has] at hg ⊢
  unfold S_ref19_has
  simp only [Goods,good_L] at hg
  refine LOOP.rule (α := Nat) (fun i => [I i]) (fun i => i ≤ l.length ∧ (l.drop i).contains n = l.contains n) (fun i => l.length - i) 0 rfl ⟨by omega,by simp⟩ (fun _ => rfl) ?_
  rintro i ⟨h1,h2⟩
  simp only [app]
  simp (disch:=first|omega|assumption|(constructor<;>first|assumption|omega)|simp only[LN];omega) only [↓SB,S1]
  refine ⟨fun h => ?_,fun h => ?_⟩
  · obtain ⟨x,hx⟩ := get_ex h
    rw [drop_eq hx,List.contains_cons] at h2
    simp (disch:=first|omega|assumption|(constructor<;>first|assumption|omega)|simp only[LN];omega) only [↓SB,S1,cell_L hx]
    refine ⟨fun h3 => ?_,fun h3 => ⟨i + 1,rfl,⟨by omega,?_⟩,by omega⟩⟩
    · rw [← h2];simp [h3]
    · rw [← h2];simp
      intro h4;exact absurd h4.symm h3
  · rw [drop_nil h] at h2
    rw [← h2];simp
theorem w_ref01_count (n : Int) : WW ρ 1 S_ref01_count F_ref01_count n := by
  dsimp only [WW,appV,F_ref01_count]
  unfold S_ref01_count
  simp (disch:=first|omega|assumption|(constructor<;>first|assumption|omega)|simp only[LN];omega) only [↓SB,S1,↓c_ref01_In]
  rfl
theorem w_ref01_nodes (l : List Int) (hg : Goods (F_ref01_nodes l).2.1) : WW ρ 1 S_ref01_nodes F_ref01_nodes l := by
  dsimp only [WW,appV,F_ref01_nodes] at hg ⊢
  unfold S_ref01_nodes
  simp only [Goods,good_I,good_L] at hg
  refine LOOP.rule (α := Nat) (fun i => [I i]) (fun i => i ≤ l.length ∧ (l.drop i).all (isN) = l.all (isN)) (fun i => l.length - i) 0 rfl ⟨by omega,by simp⟩ (fun _ => rfl) ?_
  rintro i ⟨hl_i,hs_i⟩
  simp only [app]
  simp (disch:=first|omega|assumption|(constructor<;>first|assumption|omega)|simp only[LN];omega) only [↓SB,S1,↓c_ref01_IsNode]
  refine ⟨fun hc_i => ?_,fun hc_i => ?_⟩
  · obtain ⟨x,hx⟩ := get_ex hc_i
    rw [drop_eq hx,List.all_cons] at hs_i
    simp (disch:=first|omega|assumption|(constructor<;>first|assumption|omega)|simp only[LN];omega) only [↓SB,S1,↓c_ref01_IsNode,cell_L hx]
    refine ⟨fun h3 => ?_,fun h3 => ⟨i + 1,rfl,⟨by omega,by simpa [h3] using hs_i⟩,by omega⟩⟩
    rw [← hs_i];simp [h3]
  · rw [drop_nil hc_i] at hs_i
    rw [← hs_i]
    simp;omega
theorem w_ref01_Unlike (l : List Int) (hg : Goods (F_ref01_Unlike l).2.1) : WW ρ 1 S_ref01_Unlike F_ref01_Unlike l := by
  dsimp only [WW,appV,F_ref01_Unlike] at hg ⊢
  unfold S_ref01_Unlike
  simp only [Goods,good_L] at hg
  generalize hE : decide l.Nodup = q
  refine LOOP.rule (α := Nat) (fun i => [I i]) (fun i => i ≤ l.length ∧ (l.take i).Nodup) (fun i => l.length - i) 0 rfl ⟨by omega,by simp⟩ (fun _ => rfl) ?_
  rintro i ⟨hl,hs⟩
  simp only [app]
  simp (disch:=first|omega|assumption|(constructor<;>first|assumption|omega)|simp only[LN];omega) only [↓SB,S1]
  refine ⟨fun h => ?_,fun h => ?_⟩
  · obtain ⟨x,hx⟩ := get_ex h
    refine LOOP.rule (α := Nat) (fun j => [I j]) (fun j => j ≤ i ∧ ¬ x ∈ l.take j) (fun j => i - j) 0 rfl ⟨by omega,by simp⟩ (fun _ => rfl) ?_
    rintro j ⟨hj,hs2⟩
    simp only [app]
    simp (disch:=first|omega|assumption|(constructor<;>first|assumption|omega)|simp only[LN];omega) only [↓SB,S1]
    refine ⟨fun h4 => ?_,fun h4 => ?_⟩
    · obtain ⟨y,hy⟩ := get_ex (xs := l) (i := j) (by omega)
      simp (disch:=first|omega|assumption|(constructor<;>first|assumption|omega)|simp only[LN];omega) only [↓SB,S1,cell_L hx,cell_L hy]
      refine ⟨fun h3 => ?_,fun h3 => ⟨j + 1,rfl,⟨by omega,?_⟩,by omega⟩⟩
      · rw [← hE]
        have : ¬ l.Nodup := fun hn => by
          have h5 := ((nodup_take hx).1 (nodup_pre hn)).2
          refine h5 (List.mem_of_getElem? (i := j) ?_)
          rw [List.getElem?_take_of_lt (by omega),hy,h3]
        simp [this]
      · rw [List.take_add_one,hy]
        intro hm
        rcases List.mem_append.1 hm with hm | hm
        · exact hs2 hm
        · simp at hm;exact h3 hm.symm
    · have : j = i := by omega
      subst this
      exact ⟨j + 1,rfl,⟨by omega,(nodup_take hx).2 ⟨hs,hs2⟩⟩,by omega⟩
  · rw [List.take_of_length_le (by omega)] at hs
    rw [← hE];simp [hs]
theorem w_ref10_Live (l : List Peer) (self : Int) (hp : l.length ≤ 1000) (hg : Goods (F_ref10_Live (l,self)).2.1) : WW ρ 2 S_ref10_Live F_ref10_Live (l,self) := by
  dsimp only [WW,appV,F_ref10_Live] at hg ⊢
  unfold S_ref10_Live
  generalize hE : liveP l self = q
  refine LOOP.rule (α := Nat × List Int) (fun p => [I p.1,L p.2]) (fun p => p.1 ≤ l.length ∧ p.2.length ≤ p.1 ∧ p.2 ++ liveGo self p.1 (l.drop p.1) = q) (fun p => l.length - p.1) (0,[]) rfl ⟨by simp,by simp,by simpa [liveP] using hE⟩ (fun _ => rfl) ?_
  rintro ⟨i,a⟩ ⟨hi,ha,hs⟩
  simp only at hi ha hs
  simp only [app]
  simp (disch:=first|omega|assumption|(constructor<;>first|assumption|omega)|simp only[LN];omega) only [↓SB,S1]
  refine ⟨fun h4 => ?_,fun h4 => ?_⟩
  · obtain ⟨x,hx⟩ := get_ex h4
    rw [drop_eq hx,liveGo] at hs
    simp (disch:=first|omega|assumption|(constructor<;>first|assumption|omega)|simp only[LN];omega) only [↓SB,S1,cell_L hx]
    refine ⟨fun h5 => ⟨(i + 1,a ++ [(i : Int)]),rfl,⟨by simp;omega,by simp;omega,?_⟩,by simp;omega⟩,fun h5 => ⟨fun h6 => ⟨fun h7 => ⟨(i + 1,a ++ [(i : Int)]),rfl,⟨by simp;omega,by simp;omega,?_⟩,by simp;omega⟩,fun h7 => ⟨(i + 1,a),rfl,⟨by simp;omega,by simp;omega,?_⟩,by simp;omega⟩⟩,fun h6 => ⟨(i + 1,a),rfl,⟨by simp;omega,by simp;omega,?_⟩,by simp;omega⟩⟩⟩
    · rw [if_pos (.inl h5)] at hs;simpa using hs
    · rw [if_pos (.inr ⟨h6,h7⟩)] at hs;simpa using hs
    · rw [if_neg (show ¬ ((i : Int) = self ∨ (0 < x.inc ∧ x.age < 4)) by omega)] at hs;simpa using hs
    · rw [if_neg (show ¬ ((i : Int) = self ∨ (0 < x.inc ∧ x.age < 4)) by omega)] at hs;simpa using hs
  · rw [drop_nil h4] at hs
    simp [liveGo] at hs;simp [hs]
theorem w_ref10_Put (l : List Event) (limit : Int) (x : Event) (hp : l.length ≤ 1000 ∧ 2 ≤ limit ∧ limit ≤ 32 ∧ (x.kind = 3 ∨ x.kind = 4)) (hg : Goods (F_ref10_Put (l,limit,x)).2.1) : WW ρ 8 S_ref10_Put F_ref10_Put (l,limit,x) := by
  dsimp only [WW,appV,F_ref10_Put] at hg ⊢
  unfold S_ref10_Put
  obtain ⟨h1,h2,h3,h4⟩ := hp
  simp (disch:=first|omega|assumption|(constructor<;>first|assumption|omega)|simp only[LN];omega) only [↓SB,S1,↓c_bkeep_TwinEvents]
  refine ⟨fun h => ?_,fun h => ?_⟩
  · rw [if_pos h];simp [h]
  · rw [if_neg h]
    refine SUB.v1 (bb true) ?_ ?_
    · repeat' (first | apply And.intro | intro _ | simp (disch:=first|omega|assumption|(constructor<;>first|assumption|omega)|simp only[LN];omega) only [↓SB,S1,↓c_bkeep_TwinEvents])
      all_goals simp_all
      all_goals omega
    simp (disch:=first|omega|assumption|(constructor<;>first|assumption|omega)|simp only[LN];omega) only [↓SB,S1,↓c_bkeep_TwinEvents]
    simp [h]
theorem w_bkeep_Msg (a : Msg) (b : Msg) (hg : Goods (F_bkeep_Msg (a,b)).2.1) : WW ρ 32 S_bkeep_Msg F_bkeep_Msg (a,b) := by
  dsimp only [WW,appV,F_bkeep_Msg] at hg ⊢
  unfold S_bkeep_Msg
  repeat' (first | apply And.intro | intro _ | simp (disch:=first|omega|assumption|(constructor<;>first|assumption|omega)|simp only[LN];omega) only [↓SB,S1,↓c_bkeep_Ints])
  all_goals simp_all [Msg.eq_iff]
end Go.Xt
end
section
set_option linter.unusedSimpArgs false
set_option linter.unusedVariables false
set_option maxRecDepth 100000
namespace Go.Xt
set_option linter.defProp false
theorem w_bkeep_Msgs (a : List Msg) (b : List Msg) (hg : Goods (F_bkeep_Msgs (a,b)).2.1) : WW ρ 2 S_bkeep_Msgs F_bkeep_Msgs (a,b) := by
  dsimp only [WW,appV,F_bkeep_Msgs] at hg ⊢
  unfold S_bkeep_Msgs
  simp only [Goods,good_L] at hg
  simp (disch:=first|omega|assumption|(constructor<;>first|assumption|omega)|simp only[LN];omega) only [↓SB,S1,↓c_bkeep_Msg]
  refine ⟨fun h => by simp [len_ne h],fun h => ?_⟩
  have hl : a.length = b.length := by omega
  refine LOOP.rule (α := Nat) (fun i => [I i]) (fun i => i ≤ a.length ∧ ((a = b) = (a.drop i = b.drop i))) (fun i => a.length - i) 0 rfl ⟨by omega,by simp⟩ (fun _ => rfl) ?_
  rintro i ⟨hl_i,hs_i⟩
  simp only [app]
  simp (disch:=first|omega|assumption|(constructor<;>first|assumption|omega)|simp only[LN];omega) only [↓SB,S1,↓c_bkeep_Msg]
  refine ⟨fun hc_i => ?_,fun hc_i => ?_⟩
  · obtain ⟨x,hx⟩ := get_ex hc_i
    obtain ⟨y,hy⟩ := get_ex (xs := b) (i := i) (by omega)
    rw [drop_eq hx,drop_eq hy,List.cons.injEq] at hs_i
    simp (disch:=first|omega|assumption|(constructor<;>first|assumption|omega)|simp only[LN];omega) only [↓SB,S1,↓c_bkeep_Msg,cell_L hx,cell_L hy,Msg.eta]
    refine ⟨fun h3 => ?_,fun h3 => ⟨i + 1,rfl,⟨by omega,by simpa [h3] using hs_i⟩,by omega⟩⟩
    have hn : ¬ a = b := fun e => h3 (hs_i.mp e).1
    simp [hn]
  · rw [drop_nil hc_i,drop_nil (by omega)] at hs_i
    simp [hs_i]
theorem ends_eq (m : Msg) : (isN m.frm && isN m.to && !decide (m.frm = m.to) && cnt m.fromInc) = endsOk m := by
  unfold endsOk;simp
theorem way_eq (l : List Int) : wayOk l = ((l.all isN && decide (l.length ≤ 8)) && decide l.Nodup) := by
  unfold wayOk;rw [Bool.and_comm (decide _) (l.all isN)]
theorem nodup_app (a b : List Int) : (decide a.Nodup && decide b.Nodup && decide (a ++ b).Nodup) = decide (a ++ b).Nodup := by
  rw [Bool.eq_iff_iff]
  simp only [Bool.and_eq_true,decide_eq_true_eq,List.nodup_append]
  constructor
  · rintro ⟨_,h⟩;exact h
  · intro h;exact ⟨⟨h.1,h.2.1⟩,h⟩
theorem any_eq {m : Msg} (k : m.kind = 11) (he : endsOk m = true) (h1 : cnt m.toInc = true) (h2 : 0 ≤ m.topic ∧ m.topic ≤ 3) :
    msgOk m = (whoseM m && rng m.count 1 40 && (m.path.all isN && decide (m.path.length ≤ 8)) && (m.todo.all isN && decide (m.todo.length ≤ 8)) && decide (m.path ++ m.todo).Nodup && decide (m.epoch = 0) && decide (m.seq = 0) && decide (m.last = 0)) := by
  have h3 : rng m.topic 0 3 = true := by unfold rng;simp;omega
  have hb : bareM m = ({ m with node := 0,inc := 0,count := 0,value := 0,hops := 0,path := [],todo := [] },whoseM m && rng m.count 1 40 && wayOk m.path && wayOk m.todo && decide (m.path ++ m.todo).Nodup) := by
    unfold bareM
    rw [if_neg (by omega),if_neg (by omega),if_neg (by omega),if_neg (by omega),if_neg (by omega),if_neg (by omega),if_neg (by omega),if_neg (by omega),if_pos k]
  simp only [msgOk,hb,knownM,he,h1,h3,k,spareM,way_eq]
  rw [← nodup_app m.path m.todo]
  generalize (m.path.all isN && decide (m.path.length ≤ 8)) = A
  generalize (m.todo.all isN && decide (m.todo.length ≤ 8)) = B
  generalize (whoseM m && rng m.count 1 40) = C
  generalize decide (m.path ++ m.todo).Nodup = D
  generalize decide m.path.Nodup = E
  generalize decide m.todo.Nodup = F
  cases A <;> cases B <;> cases C <;> cases D <;> cases E <;> cases F <;> simp
theorem deq0 (n : Int) : decide (0 = n) = decide (n = 0) := decide_eq_decide.2 eq_comm
theorem rng_isT (n : Int) : rng n 0 3 = isT n := by unfold rng isT;congr 1;exact decide_eq_decide.2 (by omega)
def K_ref01_Msg := And.intro @c_ref01_Value (And.intro @c_ref01_In (And.intro @c_bkeep_Msg (And.intro @c_ref01_IsNode (And.intro @c_ref01_count (And.intro @c_ref01_IsTopic (And.intro @c_ref01_nodes (And.intro @c_ref01_Unlike (@c_bkeep_TwinInts))))))))
theorem w_ref01_Msg (m : Msg) (hp : m.path.length ≤ 30 ∧ m.todo.length ≤ 30) (hg : Goods (F_ref01_Msg m).2.1) : WW ρ 16 S_ref01_Msg F_ref01_Msg m := by
  dsimp only [WW,appV,F_ref01_Msg] at hg ⊢
  unfold S_ref01_Msg
  simp only [Goods,good_I,good_L] at hg
  generalize hE : msgOk m = q
  refine SUB.v1 (bb (!(rng m.kind 1 13 && endsOk m))) ?_ ?_
  · rw [← ends_eq]
    repeat' (first | apply And.intro | intro _ | simp (disch:=first|omega|assumption|(constructor<;>first|assumption|omega)|simp only[LN];omega) only [↓SB,S1,↓K_ref01_Msg])
    all_goals simp_all [rng]
    all_goals first | omega | skip
  cases hr : rng m.kind 1 13 && endsOk m
  · simp (disch:=first|omega|assumption|(constructor<;>first|assumption|omega)|simp only[LN];omega) only [↓SB,S1,↓K_ref01_Msg]
    rw [← hE]
    have : msgOk m = false := by
      rw [Bool.and_eq_false_iff] at hr
      rcases hr with hr | hr
      · have h0 : ¬ (1 ≤ m.kind ∧ m.kind ≤ 13) := by simpa [rng] using hr
        have hb : bareM m = (m,false) := by
          unfold bareM
          rw [if_neg (by omega),if_neg (by omega),if_neg (by omega),if_neg (by omega),if_neg (by omega),if_neg (by omega),if_neg (by omega),if_neg (by omega),if_neg (by omega),if_neg (by omega),if_neg (by omega)]
        simp [msgOk,hb]
      · simp [msgOk,knownM,hr]
    rw [this]
  rw [Bool.and_eq_true] at hr
  obtain ⟨hk,he⟩ := hr
  have hkb := rng_bd hk
  obtain ⟨hp1,hp2⟩ := hp
  have kk : m.kind = 1 ∨ m.kind = 3 ∨ m.kind = 11 ∨ m.kind = 2 ∨ m.kind = 4 ∨ m.kind = 5 ∨ m.kind = 6 ∨ m.kind = 7 ∨ m.kind = 8 ∨ m.kind = 9 ∨ m.kind = 10 ∨ m.kind = 12 ∨ m.kind = 13 := by omega
  rcases kk with k | k | k | k | k | k | k | k | k | k | k | k | k
  · simp (disch:=first|omega|assumption|(constructor<;>first|assumption|omega)|simp only[LN];omega) only [↓SB,S1,↓K_ref01_Msg,k,Int.reduceEq]
    repeat' (first | apply And.intro | intro _ | simp (disch:=first|omega|assumption|(constructor<;>first|assumption|omega)|simp only[LN];omega) only [↓SB,S1,↓K_ref01_Msg])
    all_goals (rw [← hE];clear hE)
    all_goals simp_all [msgOk,bareM,knownM,spareM,whoseM,placeM,wayOk,Msg.eq_iff,Bool.and_assoc,deq0,rng]
    all_goals first | (intros;omega) | skip
  · simp (disch:=first|omega|assumption|(constructor<;>first|assumption|omega)|simp only[LN];omega) only [↓SB,S1,↓K_ref01_Msg,k,Int.reduceEq]
    refine SUB.v1 (bb (!(cnt m.toInc && isT m.topic))) ?_ ?_
    · cases cnt m.toInc <;> simp
    cases hct : (cnt m.toInc && isT m.topic)
    · simp (disch:=first|omega|assumption|(constructor<;>first|assumption|omega)|simp only[LN];omega) only [↓SB,S1,↓K_ref01_Msg]
      rw [← hE]
      simp only [Bool.and_eq_false_iff] at hct
      rcases hct with h | h <;> simp [msgOk,knownM,k,h,rng_isT]
    · rw [Bool.and_eq_true] at hct
      have ht3 : 0 ≤ m.topic ∧ m.topic ≤ 3 := by have := isT_iff.1 hct.2;omega
      simp (disch:=first|omega|assumption|(constructor<;>first|assumption|omega)|simp only[LN];omega) only [↓SB,S1,↓K_ref01_Msg]
      cases hpa : m.path with
      | nil =>
        repeat' (first | apply And.intro | intro _ | simp (disch:=first|omega|assumption|(constructor<;>first|assumption|omega)|simp only[LN];omega) only [↓SB,S1,↓K_ref01_Msg])
        all_goals (rw [← hE];clear hE)
        all_goals simp_all [msgOk,bareM,knownM,spareM,whoseM,placeM,wayOk,Msg.eq_iff,Bool.and_assoc,deq0,rng]
        all_goals first | (intros;omega) | skip
      | cons p r =>
        have hc0 : (L (p :: r)).cellAt (I 0) 0 = I p := cell_L (i := 0) (x := p) rfl
        rw [hpa] at hp1
        have hw3 := way_eq (p :: r)
        generalize hA : ((p :: r).all isN && decide ((p :: r).length ≤ 8)) = A at hw3
        generalize hB : decide (p :: r).Nodup = D at hw3
        have hm3 : msgOk m = (rng m.epoch 0 1073741824 && cnt m.seq && rng m.last 0 1073741824 && (A && D) && decide (p = m.frm) && decide (m.value = 0) && decide (m.node = 0) && decide (m.inc = 0) && decide (m.count = 0) && decide (m.hops = 0) && decide (m.todo = [])) := by
          rw [← hw3]
          simp [msgOk,bareM,knownM,spareM,k,he,hct.1,show rng m.topic 0 3 = true by unfold rng;simp;omega,hpa,Bool.and_assoc]
        rw [hm3] at hE
        repeat' (first | apply And.intro | intro _ | simp (disch:=first|omega|assumption|(constructor<;>first|assumption|omega)|simp only[LN];omega) only [↓SB,S1,↓K_ref01_Msg,hc0,hA,hB])
        all_goals (rw [← hE];clear hE)
        all_goals simp_all [Msg.eq_iff,Bool.and_assoc,deq0,rng]
        all_goals first | (intros;omega) | skip
  · simp (disch:=first|omega|assumption|(constructor<;>first|assumption|omega)|simp only[LN];omega) only [↓SB,S1,↓K_ref01_Msg,k,Int.reduceEq]
    refine SUB.v1 (bb (!(cnt m.toInc && isT m.topic))) ?_ ?_
    · cases cnt m.toInc <;> simp
    cases hct : (cnt m.toInc && isT m.topic)
    · simp (disch:=first|omega|assumption|(constructor<;>first|assumption|omega)|simp only[LN];omega) only [↓SB,S1,↓K_ref01_Msg]
      rw [← hE]
      simp only [Bool.and_eq_false_iff] at hct
      rcases hct with h | h <;> simp [msgOk,knownM,k,h,rng_isT]
    · rw [Bool.and_eq_true] at hct
      have ht3 : 0 ≤ m.topic ∧ m.topic ≤ 3 := by have := isT_iff.1 hct.2;omega
      simp (disch:=first|omega|assumption|(constructor<;>first|assumption|omega)|simp only[LN];omega) only [↓SB,S1,↓K_ref01_Msg]
      rw [any_eq k he hct.1 ht3] at hE
      have hpq : (m.path ++ m.todo).length ≤ 60 := by simp;omega
      have hpz : m.path.length ≤ 1000000 := by omega
      generalize hA : (m.path.all isN && decide (m.path.length ≤ 8)) = A at hE
      generalize hB : (m.todo.all isN && decide (m.todo.length ≤ 8)) = B at hE
      generalize hD : decide (m.path ++ m.todo).Nodup = D at hE
      repeat' (first | apply And.intro | intro _ | simp (disch:=first|omega|assumption|(constructor<;>first|assumption|omega)|simp only[LN];omega) only [↓SB,S1,↓K_ref01_Msg,hA,hB,hD])
      all_goals (rw [← hE];clear hE)
      all_goals simp_all [whoseM,Msg.eq_iff,Bool.and_assoc,deq0,rng]
      all_goals first | (intros;omega) | skip
  all_goals
    simp (disch:=first|omega|assumption|(constructor<;>first|assumption|omega)|simp only[LN];omega) only [↓SB,S1,↓K_ref01_Msg,k,Int.reduceEq]
    refine SUB.v1 (bb (!(cnt m.toInc && isT m.topic))) ?_ ?_
    · cases cnt m.toInc <;> simp
    cases hct : (cnt m.toInc && isT m.topic)
    · simp (disch:=first|omega|assumption|(constructor<;>first|assumption|omega)|simp only[LN];omega) only [↓SB,S1,↓K_ref01_Msg]
      rw [← hE]
      simp only [Bool.and_eq_false_iff] at hct
      rcases hct with h | h <;> simp [msgOk,knownM,k,h,rng_isT]
    · rw [Bool.and_eq_true] at hct
      have ht3 : 0 ≤ m.topic ∧ m.topic ≤ 3 := by have := isT_iff.1 hct.2;omega
      simp (disch:=first|omega|assumption|(constructor<;>first|assumption|omega)|simp only[LN];omega) only [↓SB,S1,↓K_ref01_Msg]
      repeat' (first | apply And.intro | intro _ | simp (disch:=first|omega|assumption|(constructor<;>first|assumption|omega)|simp only[LN];omega) only [↓SB,S1,↓K_ref01_Msg])
      all_goals (rw [← hE];clear hE)
      all_goals simp_all [msgOk,bareM,knownM,spareM,whoseM,placeM,wayOk,Msg.eq_iff,Bool.and_assoc,deq0,rng]
      all_goals first | (intros;omega) | skip
end Go.Xt
end
section
set_option linter.unusedSimpArgs false
set_option linter.unusedVariables false
set_option maxRecDepth 100000
namespace Go.Xt
theorem fit_call {l : List Event} {limit : Int} {x : Event} (h : queueOk l limit = true) (hx : evOk x = true) (hs : ofStream x = false) : fitE l limit x = if (l.length : Int) < limit - 1 then l ++ [x] else l := by
  have hp : putE l limit x = if (l.length : Int) < limit - 1 then (l ++ [x],0) else ([],6) := by
    unfold putE
    rw [if_pos (by rw [h,hx];rfl),hs]
    rfl
  unfold fitE
  rw [hp]
  by_cases h3 : (l.length : Int) < limit - 1
  · simp [h3]
  · simp [h3]
end Go.Xt
end
