/- Steps towards the statements of this seat; the conditions stand in each theorem. -/
import Derived.Test.YthpnjlaaannaaaaGreatDoorRows
import Derived.Test.YthpnjlaaannaaaaGreatDoorH
import Derived.Test.YthpnjlaaannaaaaGreatDoorIp
import Derived.Test.YthpnjlaaannaaaaGreatDoorEr6
import Derived.Test.YthpnjlaaannaaaaGreatDoorPartW33
/- Each function keeps its contract. -/
open Go.Proofs
set_option maxRecDepth 100000
set_option linter.unusedVariables false
set_option linter.unusedSimpArgs false
namespace Go.Xt
theorem hname : (Tryz.prog.funcs.toList.all fun fn => !(fn.name == "runtime.NumGoroutine")) = true := by kernel_rfl
theorem hmix : Tryz.prog.follows .mixedOrders = true := by kernel_rfl
theorem e_ring_Is : (compFn Tryz.prog [] h_ring_Is 20 ⟨135, none, none, false⟩).map (fun t (ρ : Fns) (v0 : PV) (Q : List PV → Prop) => W ρ t [v0] [] Q) = some S_ring_Is := by kernel_rfl
theorem ok_ring_Is : SigOK Tryz.prog ⟨135, none, none, false⟩ (ρ 135) := by
  show PureOK _ _ f_ring_Is
  unfold f_ring_Is fnT
  exact PureOK.of_e (ρ := ρ) (Ctx.of hname hmix (List.forall_mem_nil _)) (.inl (fun a p hp => by simp only [F_ring_Is, List.mem_cons, List.not_mem_nil, or_false] at hp; rcases hp with rfl <;> rfl)) (.inl rfl) e_ring_Is (by intro t ht n hp hg; have := w_ring_Is n; rw [← ht] at this; exact this)
theorem e_ring_Node : (compFn Tryz.prog [sg 135] h_ring_Node 20 ⟨174, none, none, false⟩).map (fun t (ρ : Fns) (v0 : PV) (Q : List PV → Prop) => W ρ t [v0] [] Q) = some S_ring_Node := by kernel_rfl
theorem ok_ring_Node : SigOK Tryz.prog ⟨174, none, none, false⟩ (ρ 174) := by
  show PureOK _ _ f_ring_Node
  unfold f_ring_Node fnT
  exact PureOK.of_e (ρ := ρ) (Ctx.of hname hmix (List.forall_mem_cons.2 ⟨ok_ring_Is, List.forall_mem_nil _⟩)) (.inl (fun a p hp => by simp only [F_ring_Node, List.mem_cons, List.not_mem_nil, or_false] at hp; rcases hp with rfl | rfl <;> rfl)) (.inl rfl) e_ring_Node (by intro t ht n hp hg; have := w_ring_Node n; rw [← ht] at this; exact this)
theorem e_ring_Topic : (compFn Tryz.prog [] h_ring_Topic 20 ⟨103, none, none, false⟩).map (fun t (ρ : Fns) (v0 : PV) (Q : List PV → Prop) => W ρ t [v0] [] Q) = some S_ring_Topic := by kernel_rfl
theorem ok_ring_Topic : SigOK Tryz.prog ⟨103, none, none, false⟩ (ρ 103) := by
  show PureOK _ _ f_ring_Topic
  unfold f_ring_Topic fnT
  exact PureOK.of_e (ρ := ρ) (Ctx.of hname hmix (List.forall_mem_nil _)) (.inl (fun a p hp => by simp only [F_ring_Topic, List.mem_cons, List.not_mem_nil, or_false] at hp; rcases hp with rfl | rfl <;> rfl)) (.inl rfl) e_ring_Topic (by intro t ht t hp hg; have := w_ring_Topic t; rw [← ht] at this; exact this)
theorem e_key_Far : (compFn Tryz.prog [] h_key_Far 20 ⟨175, none, none, false⟩).map (fun t (ρ : Fns) (v0 v1 : PV) (Q : List PV → Prop) => W ρ t [v0, v1] [] Q) = some S_key_Far := by kernel_rfl
theorem ok_key_Far : SigOK Tryz.prog ⟨175, none, none, false⟩ (ρ 175) := by
  show PureOK _ _ f_key_Far
  unfold f_key_Far fnT
  exact PureOK.of_e (ρ := ρ) (Ctx.of hname hmix (List.forall_mem_nil _)) (.inl (fun a p hp => by obtain ⟨_, _⟩ := a; simp only [F_key_Far, List.mem_cons, List.not_mem_nil, or_false] at hp; rcases hp with rfl <;> rfl)) (.inl rfl) e_key_Far (by intro t ht a hp hg; obtain ⟨k, n⟩ := a; have := w_key_Far k n hp; rw [← ht] at this; exact this)
theorem e_ring_Gap : (compFn Tryz.prog [sg 103, sg 174, sg 175] h_ring_Gap 20 ⟨145, none, none, false⟩).map (fun t (ρ : Fns) (v0 v1 : PV) (Q : List PV → Prop) => W ρ t [v0, v1] [] Q) = some S_ring_Gap := by kernel_rfl
theorem ok_ring_Gap : SigOK Tryz.prog ⟨145, none, none, false⟩ (ρ 145) := by
  show PureOK _ _ f_ring_Gap
  unfold f_ring_Gap fnT
  exact PureOK.of_e (ρ := ρ) (Ctx.of hname hmix (List.forall_mem_cons.2 ⟨ok_ring_Topic, List.forall_mem_cons.2 ⟨ok_ring_Node, List.forall_mem_cons.2 ⟨ok_key_Far, List.forall_mem_nil _⟩⟩⟩)) (.inl (fun a p hp => by obtain ⟨_, _⟩ := a; simp only [F_ring_Gap, List.mem_cons, List.not_mem_nil, or_false] at hp; rcases hp with rfl | rfl <;> rfl)) (.inl rfl) e_ring_Gap (by intro t ht a hp hg; obtain ⟨t, n⟩ := a; have := w_ring_Gap t n; rw [← ht] at this; exact this)
theorem e_ring_Nearer : (compFn Tryz.prog [sg 145] h_ring_Nearer 20 ⟨105, none, none, false⟩).map (fun t (ρ : Fns) (v0 v1 v2 : PV) (Q : List PV → Prop) => W ρ t [v0, v1, v2] [] Q) = some S_ring_Nearer := by kernel_rfl
theorem ok_ring_Nearer : SigOK Tryz.prog ⟨105, none, none, false⟩ (ρ 105) := by
  show PureOK _ _ f_ring_Nearer
  unfold f_ring_Nearer fnT
  exact PureOK.of_e (ρ := ρ) (Ctx.of hname hmix (List.forall_mem_cons.2 ⟨ok_ring_Gap, List.forall_mem_nil _⟩)) (.inl (fun a p hp => by obtain ⟨_, _, _⟩ := a; simp only [F_ring_Nearer, List.mem_cons, List.not_mem_nil, or_false] at hp; rcases hp with rfl <;> rfl)) (.inl rfl) e_ring_Nearer (by intro t ht a hp hg; obtain ⟨t, a, b⟩ := a; have := w_ring_Nearer t a b; rw [← ht] at this; exact this)
theorem e_ring_All : (compFn Tryz.prog [sg 135] h_ring_All 20 ⟨104, none, none, false⟩).map (fun t (ρ : Fns) (v0 : PV) (Q : List PV → Prop) => W ρ t [v0] [] Q) = some S_ring_All := by kernel_rfl
theorem ok_ring_All : SigOK Tryz.prog ⟨104, none, none, false⟩ (ρ 104) := by
  show PureOK _ _ f_ring_All
  unfold f_ring_All fnT
  exact PureOK.of_e (ρ := ρ) (Ctx.of hname hmix (List.forall_mem_cons.2 ⟨ok_ring_Is, List.forall_mem_nil _⟩)) (.inl (fun a p hp => by simp only [F_ring_All, List.mem_cons, List.not_mem_nil, or_false] at hp; rcases hp with rfl <;> rfl)) (.inl rfl) e_ring_All (by intro t ht l hp hg; have := w_ring_All l hg; rw [← ht] at this; exact this)
theorem e_path_rises : (compFn Tryz.prog [sg 105] h_path_rises 20 ⟨190, none, none, false⟩).map (fun t (ρ : Fns) (v0 v1 v2 : PV) (Q : List PV → Prop) => W ρ t [v0, v1, v2] [] Q) = some S_path_rises := by kernel_rfl
theorem ok_path_rises : SigOK Tryz.prog ⟨190, none, none, false⟩ (ρ 190) := by
  show PureOK _ _ f_path_rises
  unfold f_path_rises fnT
  exact PureOK.of_e (ρ := ρ) (Ctx.of hname hmix (List.forall_mem_cons.2 ⟨ok_ring_Nearer, List.forall_mem_nil _⟩)) (.inl (fun a p hp => by obtain ⟨_, _, _⟩ := a; simp only [F_path_rises, List.mem_cons, List.not_mem_nil, or_false] at hp; rcases hp with rfl <;> rfl)) (.inl rfl) e_path_rises (by intro t ht a hp hg; obtain ⟨t, self, l⟩ := a; have := w_path_rises t self l hg; rw [← ht] at this; exact this)
theorem e_path_Check : (compFn Tryz.prog [sg 104, sg 145, sg 190] h_path_Check 20 ⟨167, none, none, false⟩).map (fun t (ρ : Fns) (v0 v1 v2 v3 : PV) (Q : List PV → Prop) => W ρ t [v0, v1, v2, v3] [] Q) = some S_path_Check := by kernel_rfl
theorem ok_path_Check : SigOK Tryz.prog ⟨167, none, none, false⟩ (ρ 167) := by
  show PureOK _ _ f_path_Check
  unfold f_path_Check fnT
  exact PureOK.of_e (ρ := ρ) (Ctx.of hname hmix (List.forall_mem_cons.2 ⟨ok_ring_All, List.forall_mem_cons.2 ⟨ok_ring_Gap, List.forall_mem_cons.2 ⟨ok_path_rises, List.forall_mem_nil _⟩⟩⟩)) (.inl (fun a p hp => by obtain ⟨_, _, _, _⟩ := a; simp only [F_path_Check, List.mem_cons, List.not_mem_nil, or_false] at hp; rcases hp with rfl <;> rfl)) (.inl rfl) e_path_Check (by intro t ht a hp hg; obtain ⟨t, self, l, depth⟩ := a; have := w_path_Check t self l depth hg; rw [← ht] at this; exact this)
theorem e_bkeep_TwinInts : (compFn Tryz.prog [] h_bkeep_TwinInts 20 ⟨17, some 0, none, false⟩).map (fun t (ρ : Fns) (v0 : PV) (Q : List PV → Prop) => W ρ t [v0] [] Q) = some S_bkeep_TwinInts := by kernel_rfl
theorem ok_bkeep_TwinInts : SigOK Tryz.prog ⟨17, some 0, none, false⟩ (ρ 17) := by
  show PureOK _ _ f_bkeep_TwinInts
  unfold f_bkeep_TwinInts fnT
  exact PureOK.of_e (ρ := ρ) (Ctx.of hname hmix (List.forall_mem_nil _)) (.inr (by kernel_rfl)) (.inl rfl) e_bkeep_TwinInts (by intro t ht l hp hg; have := w_bkeep_TwinInts l hp; rw [← ht] at this; exact this)
theorem e_bkeep_Ints : (compFn Tryz.prog [] h_bkeep_Ints 20 ⟨16, none, none, false⟩).map (fun t (ρ : Fns) (v0 v1 : PV) (Q : List PV → Prop) => W ρ t [v0, v1] [] Q) = some S_bkeep_Ints := by kernel_rfl
theorem ok_bkeep_Ints : SigOK Tryz.prog ⟨16, none, none, false⟩ (ρ 16) := by
  show PureOK _ _ f_bkeep_Ints
  unfold f_bkeep_Ints fnT
  exact PureOK.of_e (ρ := ρ) (Ctx.of hname hmix (List.forall_mem_nil _)) (.inl (fun a p hp => by obtain ⟨_, _⟩ := a; simp only [F_bkeep_Ints, List.mem_cons, List.not_mem_nil, or_false] at hp; rcases hp with rfl <;> rfl)) (.inl rfl) e_bkeep_Ints (by intro t ht a hp hg; obtain ⟨a, b⟩ := a; have := w_bkeep_Ints a b hg; rw [← ht] at this; exact this)
theorem e_slices_Contains_int_int : (compFn Tryz.prog [] h_slices_Contains_int_int 20 ⟨44, none, none, false⟩).map (fun t (ρ : Fns) (v0 v1 : PV) (Q : List PV → Prop) => W ρ t [v0, v1] [] Q) = some S_slices_Contains_int_int := by kernel_rfl
theorem ok_slices_Contains_int_int : SigOK Tryz.prog ⟨44, none, none, false⟩ (ρ 44) := by
  show PureOK _ _ f_slices_Contains_int_int
  unfold f_slices_Contains_int_int fnT
  exact PureOK.of_e (ρ := ρ) (Ctx.of hname hmix (List.forall_mem_nil _)) (.inl (fun a p hp => by obtain ⟨_, _⟩ := a; simp only [F_slices_Contains_int_int, List.mem_cons, List.not_mem_nil, or_false] at hp; rcases hp with rfl <;> rfl)) (.inl rfl) e_slices_Contains_int_int (by intro t ht a hp hg; obtain ⟨l, n⟩ := a; have := w_slices_Contains_int_int l n hg; rw [← ht] at this; exact this)
theorem e_key_is : (compFn Tryz.prog [] h_key_is 20 ⟨214, none, none, false⟩).map (fun t (ρ : Fns) (v0 : PV) (Q : List PV → Prop) => W ρ t [v0] [] Q) = some S_key_is := by kernel_rfl
theorem ok_key_is : SigOK Tryz.prog ⟨214, none, none, false⟩ (ρ 214) := by
  show PureOK _ _ f_key_is
  unfold f_key_is fnT
  exact PureOK.of_e (ρ := ρ) (Ctx.of hname hmix (List.forall_mem_nil _)) (.inl (fun a p hp => by simp only [F_key_is, List.mem_cons, List.not_mem_nil, or_false] at hp; rcases hp with rfl <;> rfl)) (.inl rfl) e_key_is (by intro t ht k hp hg; have := w_key_is k; rw [← ht] at this; exact this)
theorem e_key_Back : (compFn Tryz.prog [sg 175, sg 214] h_key_Back 20 ⟨208, none, none, false⟩).map (fun t (ρ : Fns) (v0 v1 : PV) (Q : List PV → Prop) => W ρ t [v0, v1] [] Q) = some S_key_Back := by kernel_rfl
theorem ok_key_Back : SigOK Tryz.prog ⟨208, none, none, false⟩ (ρ 208) := by
  show PureOK _ _ f_key_Back
  unfold f_key_Back fnT
  exact PureOK.of_e (ρ := ρ) (Ctx.of hname hmix (List.forall_mem_cons.2 ⟨ok_key_Far, List.forall_mem_cons.2 ⟨ok_key_is, List.forall_mem_nil _⟩⟩)) (.inl (fun a p hp => by obtain ⟨_, _⟩ := a; simp only [F_key_Back, List.mem_cons, List.not_mem_nil, or_false] at hp; rcases hp with rfl | rfl <;> rfl)) (.inl rfl) e_key_Back (by intro t ht a hp hg; obtain ⟨k, bits⟩ := a; have := w_key_Back k bits; rw [← ht] at this; exact this)
theorem e_route_Check : (compFn Tryz.prog [sg 44, sg 135] h_route_Check 20 ⟨198, none, none, false⟩).map (fun t (ρ : Fns) (v0 v1 : PV) (Q : List PV → Prop) => W ρ t [v0, v1] [] Q) = some S_route_Check := by kernel_rfl
theorem ok_route_Check : SigOK Tryz.prog ⟨198, none, none, false⟩ (ρ 198) := by
  show PureOK _ _ f_route_Check
  unfold f_route_Check fnT
  exact PureOK.of_e (ρ := ρ) (Ctx.of hname hmix (List.forall_mem_cons.2 ⟨ok_slices_Contains_int_int, List.forall_mem_cons.2 ⟨ok_ring_Is, List.forall_mem_nil _⟩⟩)) (.inl (fun a p hp => by obtain ⟨_, _⟩ := a; simp only [F_route_Check, List.mem_cons, List.not_mem_nil, or_false] at hp; rcases hp with rfl <;> rfl)) (.inl rfl) e_route_Check (by intro t ht a hp hg; obtain ⟨live, self⟩ := a; have := w_route_Check live self hg; rw [← ht] at this; exact this)
theorem e_route_first : (compFn Tryz.prog [sg 174, sg 175] h_route_first 20 ⟨209, none, none, false⟩).map (fun t (ρ : Fns) (v0 v1 : PV) (Q : List PV → Prop) => W ρ t [v0, v1] [] Q) = some S_route_first := by kernel_rfl
theorem ok_route_first : SigOK Tryz.prog ⟨209, none, none, false⟩ (ρ 209) := by
  show PureOK _ _ f_route_first
  unfold f_route_first fnT
  exact PureOK.of_e (ρ := ρ) (Ctx.of hname hmix (List.forall_mem_cons.2 ⟨ok_ring_Node, List.forall_mem_cons.2 ⟨ok_key_Far, List.forall_mem_nil _⟩⟩)) (.inl (fun a p hp => by obtain ⟨_, _⟩ := a; simp only [F_route_first, List.mem_cons, List.not_mem_nil, or_false] at hp; rcases hp with rfl <;> rfl)) (.inl rfl) e_route_first (by intro t ht a hp hg; obtain ⟨live, k⟩ := a; have := w_route_first live k hp hg; rw [← ht] at this; exact this)
theorem e_route_ahead : (compFn Tryz.prog [sg 174, sg 175] h_route_ahead 20 ⟨200, none, none, false⟩).map (fun t (ρ : Fns) (v0 v1 : PV) (Q : List PV → Prop) => W ρ t [v0, v1] [] Q) = some S_route_ahead := by kernel_rfl
theorem ok_route_ahead : SigOK Tryz.prog ⟨200, none, none, false⟩ (ρ 200) := by
  show PureOK _ _ f_route_ahead
  unfold f_route_ahead fnT
  exact PureOK.of_e (ρ := ρ) (Ctx.of hname hmix (List.forall_mem_cons.2 ⟨ok_ring_Node, List.forall_mem_cons.2 ⟨ok_key_Far, List.forall_mem_nil _⟩⟩)) (.inl (fun a p hp => by obtain ⟨_, _⟩ := a; simp only [F_route_ahead, List.mem_cons, List.not_mem_nil, or_false] at hp; rcases hp with rfl <;> rfl)) (.inl rfl) e_route_ahead (by intro t ht a hp hg; obtain ⟨live, self⟩ := a; have := w_route_ahead live self hp hg; rw [← ht] at this; exact this)
theorem e_route_fingers : (compFn Tryz.prog [sg 174, sg 208, sg 209, ⟨210, none, some false, false⟩, ⟨211, none, some true, false⟩] h_route_fingers 20 ⟨199, some 0, none, false⟩).map (fun t (ρ : Fns) (v0 v1 : PV) (Q : List PV → Prop) => W ρ t [v0, v1] [] Q) = some S_route_fingers := by kernel_rfl
theorem ok_route_fingers : SigOK Tryz.prog ⟨199, some 0, none, false⟩ (ρ 199) := by
  show PureOK _ _ f_route_fingers
  unfold f_route_fingers fnT
  exact PureOK.of_e (ρ := ρ) (Ctx.of hname hmix (List.forall_mem_cons.2 ⟨ok_ring_Node, List.forall_mem_cons.2 ⟨ok_key_Back, List.forall_mem_cons.2 ⟨ok_route_first, List.forall_mem_cons.2 ⟨ok_slices_Sort_int_int, List.forall_mem_cons.2 ⟨ok_slices_Compact_int_int, List.forall_mem_nil _⟩⟩⟩⟩⟩)) (.inr (by kernel_rfl)) (.inl rfl) e_route_fingers (by intro t ht a hp hg; obtain ⟨live, self⟩ := a; have := w_route_fingers live self hp hg; rw [← ht] at this; exact this)
theorem e_route_next : (compFn Tryz.prog [sg 105, ⟨199, some 0, none, false⟩, sg 200] h_route_next 20 ⟨186, none, none, false⟩).map (fun t (ρ : Fns) (v0 v1 v2 : PV) (Q : List PV → Prop) => W ρ t [v0, v1, v2] [] Q) = some S_route_next := by kernel_rfl
theorem ok_route_next : SigOK Tryz.prog ⟨186, none, none, false⟩ (ρ 186) := by
  show PureOK _ _ f_route_next
  unfold f_route_next fnT
  exact PureOK.of_e (ρ := ρ) (Ctx.of hname hmix (List.forall_mem_cons.2 ⟨ok_ring_Nearer, List.forall_mem_cons.2 ⟨ok_route_fingers, List.forall_mem_cons.2 ⟨ok_route_ahead, List.forall_mem_nil _⟩⟩⟩)) (.inl (fun a p hp => by obtain ⟨_, _, _⟩ := a; simp only [F_route_next, List.mem_cons, List.not_mem_nil, or_false] at hp; rcases hp with rfl <;> rfl)) (.inl rfl) e_route_next (by intro t ht a hp hg; obtain ⟨t, live, self⟩ := a; have := w_route_next t live self hp hg; rw [← ht] at this; exact this)
theorem e_route_asked : (compFn Tryz.prog [sg 103, sg 198] h_route_asked 20 ⟨185, none, none, false⟩).map (fun t (ρ : Fns) (v0 v1 v2 : PV) (Q : List PV → Prop) => W ρ t [v0, v1, v2] [] Q) = some S_route_asked := by kernel_rfl
theorem ok_route_asked : SigOK Tryz.prog ⟨185, none, none, false⟩ (ρ 185) := by
  show PureOK _ _ f_route_asked
  unfold f_route_asked fnT
  exact PureOK.of_e (ρ := ρ) (Ctx.of hname hmix (List.forall_mem_cons.2 ⟨ok_ring_Topic, List.forall_mem_cons.2 ⟨ok_route_Check, List.forall_mem_nil _⟩⟩)) (.inl (fun a p hp => by obtain ⟨_, _, _⟩ := a; simp only [F_route_asked, List.mem_cons, List.not_mem_nil, or_false] at hp; rcases hp with rfl <;> rfl)) (.inl rfl) e_route_asked (by intro t ht a hp hg; obtain ⟨t, live, self⟩ := a; have := w_route_asked t live self hg; rw [← ht] at this; exact this)
theorem e_route_Next : (compFn Tryz.prog [sg 185, sg 186] h_route_Next 20 ⟨157, none, none, false⟩).map (fun t (ρ : Fns) (v0 v1 v2 : PV) (Q : List PV → Prop) => W ρ t [v0, v1, v2] [] Q) = some S_route_Next := by kernel_rfl
theorem ok_route_Next : SigOK Tryz.prog ⟨157, none, none, false⟩ (ρ 157) := by
  show PureOK _ _ f_route_Next
  unfold f_route_Next fnT
  exact PureOK.of_e (ρ := ρ) (Ctx.of hname hmix (List.forall_mem_cons.2 ⟨ok_route_asked, List.forall_mem_cons.2 ⟨ok_route_next, List.forall_mem_nil _⟩⟩)) (.inl (fun a p hp => by obtain ⟨_, _, _⟩ := a; simp only [F_route_Next, List.mem_cons, List.not_mem_nil, or_false] at hp; rcases hp with rfl | rfl | rfl <;> rfl)) (.inl rfl) e_route_Next (by intro t ht a hp hg; obtain ⟨t, live, self⟩ := a; have := w_route_Next t live self hg; rw [← ht] at this; exact this)
theorem e_script_config : (compFn Tryz.prog [sg 126, sg 127] h_script_config 20 ⟨79, none, none, false⟩).map (fun t (ρ : Fns) (v0 v1 v2 v3 v4 v5 v6 : PV) (Q : List PV → Prop) => W ρ t [v0, v1, v2, v3, v4, v5, v6] [] Q) = some S_script_config := by kernel_rfl
theorem ok_script_config : SigOK Tryz.prog ⟨79, none, none, false⟩ (ρ 79) := by
  show PureOK _ _ f_script_config
  unfold f_script_config fnT
  exact PureOK.of_e (ρ := ρ) (Ctx.of hname hmix (List.forall_mem_cons.2 ⟨ok_errors_Join, List.forall_mem_cons.2 ⟨ok_script_field, List.forall_mem_nil _⟩⟩)) (.inr (by kernel_rfl)) (.inl rfl) e_script_config (by intro t ht a hp hg; obtain ⟨c_nodes, c_topics, c_kids, c_depth, c_keep, c_window, c_queue⟩ := a; have := w_script_config (Config.mk c_nodes c_topics c_kids c_depth c_keep c_window c_queue); rw [← ht] at this; exact this)
theorem e_script_Config : (compFn Tryz.prog [sg 78, sg 79] h_script_Config 20 ⟨39, none, none, false⟩).map (fun t (ρ : Fns) (v0 v1 v2 v3 v4 v5 v6 : PV) (Q : List PV → Prop) => W ρ t [v0, v1, v2, v3, v4, v5, v6] [] Q) = some S_script_Config := by kernel_rfl
theorem ok_script_Config : SigOK Tryz.prog ⟨39, none, none, false⟩ (ρ 39) := by
  show PureOK _ _ f_script_Config
  unfold f_script_Config fnT
  exact PureOK.of_e (ρ := ρ) (Ctx.of hname hmix (List.forall_mem_cons.2 ⟨ok_script_errno, List.forall_mem_cons.2 ⟨ok_script_config, List.forall_mem_nil _⟩⟩)) (.inl (fun a p hp => by obtain ⟨_, _, _, _, _, _, _⟩ := a; simp only [F_script_Config, List.mem_cons, List.not_mem_nil, or_false] at hp; rcases hp with rfl <;> rfl)) (.inl rfl) e_script_Config (by intro t ht a hp hg; obtain ⟨c_nodes, c_topics, c_kids, c_depth, c_keep, c_window, c_queue⟩ := a; have := w_script_Config (Config.mk c_nodes c_topics c_kids c_depth c_keep c_window c_queue); rw [← ht] at this; exact this)
theorem e_epoch_Check : (compFn Tryz.prog [sg 135] h_epoch_Check 20 ⟨201, none, none, false⟩).map (fun t (ρ : Fns) (v0 : PV) (Q : List PV → Prop) => W ρ t [v0] [] Q) = some S_epoch_Check := by kernel_rfl
theorem ok_epoch_Check : SigOK Tryz.prog ⟨201, none, none, false⟩ (ρ 201) := by
  show PureOK _ _ f_epoch_Check
  unfold f_epoch_Check fnT
  exact PureOK.of_e (ρ := ρ) (Ctx.of hname hmix (List.forall_mem_cons.2 ⟨ok_ring_Is, List.forall_mem_nil _⟩)) (.inl (fun a p hp => by simp only [F_epoch_Check, List.mem_cons, List.not_mem_nil, or_false] at hp; rcases hp with rfl <;> rfl)) (.inl rfl) e_epoch_Check (by intro t ht e hp hg; have := w_epoch_Check e; rw [← ht] at this; exact this)
theorem e_epoch_Who : (compFn Tryz.prog [sg 201] h_epoch_Who 20 ⟨189, none, none, false⟩).map (fun t (ρ : Fns) (v0 : PV) (Q : List PV → Prop) => W ρ t [v0] [] Q) = some S_epoch_Who := by kernel_rfl
theorem ok_epoch_Who : SigOK Tryz.prog ⟨189, none, none, false⟩ (ρ 189) := by
  show PureOK _ _ f_epoch_Who
  unfold f_epoch_Who fnT
  exact PureOK.of_e (ρ := ρ) (Ctx.of hname hmix (List.forall_mem_cons.2 ⟨ok_epoch_Check, List.forall_mem_nil _⟩)) (.inl (fun a p hp => by simp only [F_epoch_Who, List.mem_cons, List.not_mem_nil, or_false] at hp; rcases hp with rfl | rfl <;> rfl)) (.inl rfl) e_epoch_Who (by intro t ht e hp hg; have := w_epoch_Who e; rw [← ht] at this; exact this)
theorem e_msg_in : (compFn Tryz.prog [] h_msg_in 20 ⟨68, none, none, false⟩).map (fun t (ρ : Fns) (v0 v1 v2 : PV) (Q : List PV → Prop) => W ρ t [v0, v1, v2] [] Q) = some S_msg_in := by kernel_rfl
theorem ok_msg_in : SigOK Tryz.prog ⟨68, none, none, false⟩ (ρ 68) := by
  show PureOK _ _ f_msg_in
  unfold f_msg_in fnT
  exact PureOK.of_e (ρ := ρ) (Ctx.of hname hmix (List.forall_mem_nil _)) (.inl (fun a p hp => by obtain ⟨_, _, _⟩ := a; simp only [F_msg_in, List.mem_cons, List.not_mem_nil, or_false] at hp; rcases hp with rfl <;> rfl)) (.inl rfl) e_msg_in (by intro t ht a hp hg; obtain ⟨n, lo, hi⟩ := a; have := w_msg_in n lo hi; rw [← ht] at this; exact this)
theorem e_msg_Counted : (compFn Tryz.prog [sg 68] h_msg_Counted 20 ⟨80, none, none, false⟩).map (fun t (ρ : Fns) (v0 : PV) (Q : List PV → Prop) => W ρ t [v0] [] Q) = some S_msg_Counted := by kernel_rfl
theorem ok_msg_Counted : SigOK Tryz.prog ⟨80, none, none, false⟩ (ρ 80) := by
  show PureOK _ _ f_msg_Counted
  unfold f_msg_Counted fnT
  exact PureOK.of_e (ρ := ρ) (Ctx.of hname hmix (List.forall_mem_cons.2 ⟨ok_msg_in, List.forall_mem_nil _⟩)) (.inl (fun a p hp => by simp only [F_msg_Counted, List.mem_cons, List.not_mem_nil, or_false] at hp; rcases hp with rfl <;> rfl)) (.inl rfl) e_msg_Counted (by intro t ht n hp hg; have := w_msg_Counted n; rw [← ht] at this; exact this)
theorem e_msg_Value : (compFn Tryz.prog [sg 68] h_msg_Value 20 ⟨35, none, none, false⟩).map (fun t (ρ : Fns) (v0 : PV) (Q : List PV → Prop) => W ρ t [v0] [] Q) = some S_msg_Value := by kernel_rfl
theorem ok_msg_Value : SigOK Tryz.prog ⟨35, none, none, false⟩ (ρ 35) := by
  show PureOK _ _ f_msg_Value
  unfold f_msg_Value fnT
  exact PureOK.of_e (ρ := ρ) (Ctx.of hname hmix (List.forall_mem_cons.2 ⟨ok_msg_in, List.forall_mem_nil _⟩)) (.inl (fun a p hp => by simp only [F_msg_Value, List.mem_cons, List.not_mem_nil, or_false] at hp; rcases hp with rfl <;> rfl)) (.inl rfl) e_msg_Value (by intro t ht n hp hg; have := w_msg_Value n; rw [← ht] at this; exact this)
theorem e_cast_in : (compFn Tryz.prog [] h_cast_in 20 ⟨34, none, none, false⟩).map (fun t (ρ : Fns) (v0 v1 v2 : PV) (Q : List PV → Prop) => W ρ t [v0, v1, v2] [] Q) = some S_cast_in := by kernel_rfl
theorem ok_cast_in : SigOK Tryz.prog ⟨34, none, none, false⟩ (ρ 34) := by
  show PureOK _ _ f_cast_in
  unfold f_cast_in fnT
  exact PureOK.of_e (ρ := ρ) (Ctx.of hname hmix (List.forall_mem_nil _)) (.inl (fun a p hp => by obtain ⟨_, _, _⟩ := a; simp only [F_cast_in, List.mem_cons, List.not_mem_nil, or_false] at hp; rcases hp with rfl <;> rfl)) (.inl rfl) e_cast_in (by intro t ht a hp hg; obtain ⟨n, lo, hi⟩ := a; have := w_cast_in n lo hi; rw [← ht] at this; exact this)
theorem e_view_right : (compFn Tryz.prog [] h_view_right 20 ⟨132, none, none, false⟩).map (fun t (ρ : Fns) (v0 v1 : PV) (Q : List PV → Prop) => W ρ t [v0, v1] [] Q) = some S_view_right := by kernel_rfl
theorem ok_view_right : SigOK Tryz.prog ⟨132, none, none, false⟩ (ρ 132) := by
  show PureOK _ _ f_view_right
  unfold f_view_right fnT
  exact PureOK.of_e (ρ := ρ) (Ctx.of hname hmix (List.forall_mem_nil _)) (.inl (fun a p hp => by obtain ⟨_, _⟩ := a; simp only [F_view_right, List.mem_cons, List.not_mem_nil, or_false] at hp; rcases hp with rfl <;> rfl)) (.inl rfl) e_view_right (by intro t ht a hp hg; obtain ⟨p_inc, p_age⟩ := a; have := w_view_right (Peer.mk p_inc p_age); rw [← ht] at this; exact this)
theorem e_view_Check : (compFn Tryz.prog [sg 132] h_view_Check 20 ⟨86, none, none, false⟩).map (fun t (ρ : Fns) (v0 : PV) (Q : List PV → Prop) => W ρ t [v0] [] Q) = some S_view_Check := by kernel_rfl
theorem ok_view_Check : SigOK Tryz.prog ⟨86, none, none, false⟩ (ρ 86) := by
  show PureOK _ _ f_view_Check
  unfold f_view_Check fnT
  exact PureOK.of_e (ρ := ρ) (Ctx.of hname hmix (List.forall_mem_cons.2 ⟨ok_view_right, List.forall_mem_nil _⟩)) (.inl (fun a p hp => by simp only [F_view_Check, List.mem_cons, List.not_mem_nil, or_false] at hp; rcases hp with rfl <;> rfl)) (.inl rfl) e_view_Check (by intro t ht l hp hg; have := w_view_Check l hg; rw [← ht] at this; exact this)
theorem e_kids_right : (compFn Tryz.prog [sg 80, sg 105] h_kids_right 20 ⟨191, none, none, false⟩).map (fun t (ρ : Fns) (v0 v1 v2 v3 v4 : PV) (Q : List PV → Prop) => W ρ t [v0, v1, v2, v3, v4] [] Q) = some S_kids_right := by kernel_rfl
theorem ok_kids_right : SigOK Tryz.prog ⟨191, none, none, false⟩ (ρ 191) := by
  show PureOK _ _ f_kids_right
  unfold f_kids_right fnT
  exact PureOK.of_e (ρ := ρ) (Ctx.of hname hmix (List.forall_mem_cons.2 ⟨ok_msg_Counted, List.forall_mem_cons.2 ⟨ok_ring_Nearer, List.forall_mem_nil _⟩⟩)) (.inl (fun a p hp => by obtain ⟨_, _, _, _, _⟩ := a; simp only [F_kids_right, List.mem_cons, List.not_mem_nil, or_false] at hp; rcases hp with rfl <;> rfl)) (.inl rfl) e_kids_right (by intro t ht a hp hg; obtain ⟨t, self, k_node, k_inc, k_age⟩ := a; have := w_kids_right t self (Kid.mk k_node k_inc k_age); rw [← ht] at this; exact this)
theorem e_kids_Check : (compFn Tryz.prog [sg 105, sg 145, sg 191] h_kids_Check 20 ⟨168, none, none, false⟩).map (fun t (ρ : Fns) (v0 v1 v2 v3 : PV) (Q : List PV → Prop) => W ρ t [v0, v1, v2, v3] [] Q) = some S_kids_Check := by kernel_rfl
theorem ok_kids_Check : SigOK Tryz.prog ⟨168, none, none, false⟩ (ρ 168) := by
  show PureOK _ _ f_kids_Check
  unfold f_kids_Check fnT
  exact PureOK.of_e (ρ := ρ) (Ctx.of hname hmix (List.forall_mem_cons.2 ⟨ok_ring_Nearer, List.forall_mem_cons.2 ⟨ok_ring_Gap, List.forall_mem_cons.2 ⟨ok_kids_right, List.forall_mem_nil _⟩⟩⟩)) (.inl (fun a p hp => by obtain ⟨_, _, _, _⟩ := a; simp only [F_kids_Check, List.mem_cons, List.not_mem_nil, or_false] at hp; rcases hp with rfl <;> rfl)) (.inl rfl) e_kids_Check (by intro t ht a hp hg; obtain ⟨t, self, limit, l⟩ := a; have := w_kids_Check t self limit l hg; rw [← ht] at this; exact this)
theorem e_keep_right : (compFn Tryz.prog [sg 35] h_keep_right 20 ⟨212, none, none, false⟩).map (fun t (ρ : Fns) (v0 v1 : PV) (Q : List PV → Prop) => W ρ t [v0, v1] [] Q) = some S_keep_right := by kernel_rfl
theorem ok_keep_right : SigOK Tryz.prog ⟨212, none, none, false⟩ (ρ 212) := by
  show PureOK _ _ f_keep_right
  unfold f_keep_right fnT
  exact PureOK.of_e (ρ := ρ) (Ctx.of hname hmix (List.forall_mem_cons.2 ⟨ok_msg_Value, List.forall_mem_nil _⟩)) (.inl (fun a p hp => by obtain ⟨_, _⟩ := a; simp only [F_keep_right, List.mem_cons, List.not_mem_nil, or_false] at hp; rcases hp with rfl <;> rfl)) (.inl rfl) e_keep_right (by intro t ht a hp hg; obtain ⟨l, want⟩ := a; have := w_keep_right l want hp hg; rw [← ht] at this; exact this)
theorem e_keep_Check : (compFn Tryz.prog [sg 80, sg 212] h_keep_Check 20 ⟨203, none, none, false⟩).map (fun t (ρ : Fns) (v0 v1 v2 : PV) (Q : List PV → Prop) => W ρ t [v0, v1, v2] [] Q) = some S_keep_Check := by kernel_rfl
theorem ok_keep_Check : SigOK Tryz.prog ⟨203, none, none, false⟩ (ρ 203) := by
  show PureOK _ _ f_keep_Check
  unfold f_keep_Check fnT
  exact PureOK.of_e (ρ := ρ) (Ctx.of hname hmix (List.forall_mem_cons.2 ⟨ok_msg_Counted, List.forall_mem_cons.2 ⟨ok_keep_right, List.forall_mem_nil _⟩⟩)) (.inl (fun a p hp => by obtain ⟨_, _, _⟩ := a; simp only [F_keep_Check, List.mem_cons, List.not_mem_nil, or_false] at hp; rcases hp with rfl <;> rfl)) (.inl rfl) e_keep_Check (by intro t ht a hp hg; obtain ⟨l, want, limit⟩ := a; have := w_keep_Check l want limit hg; rw [← ht] at this; exact this)
theorem e_ahead_fits : (compFn Tryz.prog [] h_ahead_fits 20 ⟨213, none, none, false⟩).map (fun t (ρ : Fns) (v0 v1 v2 : PV) (Q : List PV → Prop) => W ρ t [v0, v1, v2] [] Q) = some S_ahead_fits := by kernel_rfl
theorem ok_ahead_fits : SigOK Tryz.prog ⟨213, none, none, false⟩ (ρ 213) := by
  show PureOK _ _ f_ahead_fits
  unfold f_ahead_fits fnT
  exact PureOK.of_e (ρ := ρ) (Ctx.of hname hmix (List.forall_mem_nil _)) (.inl (fun a p hp => by obtain ⟨_, _, _⟩ := a; simp only [F_ahead_fits, List.mem_cons, List.not_mem_nil, or_false] at hp; rcases hp with rfl <;> rfl)) (.inl rfl) e_ahead_fits (by intro t ht a hp hg; obtain ⟨seq, want, window⟩ := a; have := w_ahead_fits seq want window hp; rw [← ht] at this; exact this)
theorem e_ahead_Check : (compFn Tryz.prog [sg 35, sg 80, sg 213] h_ahead_Check 20 ⟨204, none, none, false⟩).map (fun t (ρ : Fns) (v0 v1 v2 : PV) (Q : List PV → Prop) => W ρ t [v0, v1, v2] [] Q) = some S_ahead_Check := by kernel_rfl
theorem ok_ahead_Check : SigOK Tryz.prog ⟨204, none, none, false⟩ (ρ 204) := by
  show PureOK _ _ f_ahead_Check
  unfold f_ahead_Check fnT
  exact PureOK.of_e (ρ := ρ) (Ctx.of hname hmix (List.forall_mem_cons.2 ⟨ok_msg_Value, List.forall_mem_cons.2 ⟨ok_msg_Counted, List.forall_mem_cons.2 ⟨ok_ahead_fits, List.forall_mem_nil _⟩⟩⟩)) (.inl (fun a p hp => by obtain ⟨_, _, _⟩ := a; simp only [F_ahead_Check, List.mem_cons, List.not_mem_nil, or_false] at hp; rcases hp with rfl <;> rfl)) (.inl rfl) e_ahead_Check (by intro t ht a hp hg; obtain ⟨l, want, window⟩ := a; have := w_ahead_Check l want window hg; rw [← ht] at this; exact this)
theorem e_queue_Event : (compFn Tryz.prog [sg 35, sg 80, sg 135, sg 201] h_queue_Event 20 ⟨172, none, none, false⟩).map (fun t (ρ : Fns) (v0 v1 v2 v3 v4 v5 : PV) (Q : List PV → Prop) => W ρ t [v0, v1, v2, v3, v4, v5] [] Q) = some S_queue_Event := by kernel_rfl
theorem ok_queue_Event : SigOK Tryz.prog ⟨172, none, none, false⟩ (ρ 172) := by
  show PureOK _ _ f_queue_Event
  unfold f_queue_Event fnT
  exact PureOK.of_e (ρ := ρ) (Ctx.of hname hmix (List.forall_mem_cons.2 ⟨ok_msg_Value, List.forall_mem_cons.2 ⟨ok_msg_Counted, List.forall_mem_cons.2 ⟨ok_ring_Is, List.forall_mem_cons.2 ⟨ok_epoch_Check, List.forall_mem_nil _⟩⟩⟩⟩)) (.inl (fun a p hp => by obtain ⟨_, _, _, _, _, _⟩ := a; simp only [F_queue_Event, List.mem_cons, List.not_mem_nil, or_false] at hp; rcases hp with rfl <;> rfl)) (.inl rfl) e_queue_Event (by intro t ht a hp hg; obtain ⟨x_kind, x_epoch, x_seq, x_last, x_value, x_count⟩ := a; have := w_queue_Event (Event.mk x_kind x_epoch x_seq x_last x_value x_count); rw [← ht] at this; exact this)
theorem e_queue_Check : (compFn Tryz.prog [sg 172] h_queue_Check 20 ⟨171, none, none, false⟩).map (fun t (ρ : Fns) (v0 v1 : PV) (Q : List PV → Prop) => W ρ t [v0, v1] [] Q) = some S_queue_Check := by kernel_rfl
theorem ok_queue_Check : SigOK Tryz.prog ⟨171, none, none, false⟩ (ρ 171) := by
  show PureOK _ _ f_queue_Check
  unfold f_queue_Check fnT
  exact PureOK.of_e (ρ := ρ) (Ctx.of hname hmix (List.forall_mem_cons.2 ⟨ok_queue_Event, List.forall_mem_nil _⟩)) (.inl (fun a p hp => by obtain ⟨_, _⟩ := a; simp only [F_queue_Check, List.mem_cons, List.not_mem_nil, or_false] at hp; rcases hp with rfl <;> rfl)) (.inl rfl) e_queue_Check (by intro t ht a hp hg; obtain ⟨l, limit⟩ := a; have := w_queue_Check l limit hg; rw [← ht] at this; exact this)
theorem e_flow_zero : (compFn Tryz.prog [] h_flow_zero 20 ⟨202, none, none, false⟩).map (fun t (ρ : Fns) (v0 v1 v2 v3 v4 : PV) (Q : List PV → Prop) => W ρ t [v0, v1, v2, v3, v4] [] Q) = some S_flow_zero := by kernel_rfl
theorem ok_flow_zero : SigOK Tryz.prog ⟨202, none, none, false⟩ (ρ 202) := by
  show PureOK _ _ f_flow_zero
  unfold f_flow_zero fnT
  exact PureOK.of_e (ρ := ρ) (Ctx.of hname hmix (List.forall_mem_nil _)) (.inl (fun a p hp => by obtain ⟨_, _, _, _, _⟩ := a; simp only [F_flow_zero, List.mem_cons, List.not_mem_nil, or_false] at hp; rcases hp with rfl <;> rfl)) (.inl rfl) e_flow_zero (by intro t ht a hp hg; obtain ⟨s_epoch, s_want, s_known, s_kept, s_ahead⟩ := a; have := w_flow_zero (Stream.mk s_epoch s_want s_known s_kept s_ahead); rw [← ht] at this; exact this)
theorem e_flow_right : (compFn Tryz.prog [sg 80, sg 201, sg 202, sg 203, sg 204] h_flow_right 20 ⟨192, none, none, false⟩).map (fun t (ρ : Fns) (v0 v1 v2 v3 v4 v5 v6 v7 v8 v9 v10 v11 : PV) (Q : List PV → Prop) => W ρ t [v0, v1, v2, v3, v4, v5, v6, v7, v8, v9, v10, v11] [] Q) = some S_flow_right := by kernel_rfl
theorem ok_flow_right : SigOK Tryz.prog ⟨192, none, none, false⟩ (ρ 192) := by
  show PureOK _ _ f_flow_right
  unfold f_flow_right fnT
  exact PureOK.of_e (ρ := ρ) (Ctx.of hname hmix (List.forall_mem_cons.2 ⟨ok_msg_Counted, List.forall_mem_cons.2 ⟨ok_epoch_Check, List.forall_mem_cons.2 ⟨ok_flow_zero, List.forall_mem_cons.2 ⟨ok_keep_Check, List.forall_mem_cons.2 ⟨ok_ahead_Check, List.forall_mem_nil _⟩⟩⟩⟩⟩)) (.inl (fun a p hp => by obtain ⟨_, _, _, _, _, _, _, _, _, _, _, _⟩ := a; simp only [F_flow_right, List.mem_cons, List.not_mem_nil, or_false] at hp; rcases hp with rfl <;> rfl)) (.inl rfl) e_flow_right (by intro t ht a hp hg; obtain ⟨c_nodes, c_topics, c_kids, c_depth, c_keep, c_window, c_queue, s_epoch, s_want, s_known, s_kept, s_ahead⟩ := a; have := w_flow_right (Config.mk c_nodes c_topics c_kids c_depth c_keep c_window c_queue) (Stream.mk s_epoch s_want s_known s_kept s_ahead) hg; rw [← ht] at this; exact this)
theorem e_flow_Check : (compFn Tryz.prog [sg 39, sg 171, sg 192] h_flow_Check 20 ⟨169, none, none, false⟩).map (fun t (ρ : Fns) (v0 v1 v2 v3 v4 v5 v6 v7 v8 v9 v10 v11 v12 : PV) (Q : List PV → Prop) => W ρ t [v0, v1, v2, v3, v4, v5, v6, v7, v8, v9, v10, v11, v12] [] Q) = some S_flow_Check := by kernel_rfl
theorem ok_flow_Check : SigOK Tryz.prog ⟨169, none, none, false⟩ (ρ 169) := by
  show PureOK _ _ f_flow_Check
  unfold f_flow_Check fnT
  exact PureOK.of_e (ρ := ρ) (Ctx.of hname hmix (List.forall_mem_cons.2 ⟨ok_script_Config, List.forall_mem_cons.2 ⟨ok_queue_Check, List.forall_mem_cons.2 ⟨ok_flow_right, List.forall_mem_nil _⟩⟩⟩)) (.inl (fun a p hp => by obtain ⟨_, _, _, _, _, _, _, _, _, _, _, _, _⟩ := a; simp only [F_flow_Check, List.mem_cons, List.not_mem_nil, or_false] at hp; rcases hp with rfl <;> rfl)) (.inl rfl) e_flow_Check (by intro t ht a hp hg; obtain ⟨c_nodes, c_topics, c_kids, c_depth, c_keep, c_window, c_queue, s_epoch, s_want, s_known, s_kept, s_ahead, q⟩ := a; have := w_flow_Check (Config.mk c_nodes c_topics c_kids c_depth c_keep c_window c_queue) (Stream.mk s_epoch s_want s_known s_kept s_ahead) q hg; rw [← ht] at this; exact this)
theorem e_graft_link : (compFn Tryz.prog [sg 105] h_graft_link 20 ⟨164, none, none, false⟩).map (fun t (ρ : Fns) (v0 v1 v2 : PV) (Q : List PV → Prop) => W ρ t [v0, v1, v2] [] Q) = some S_graft_link := by kernel_rfl
theorem ok_graft_link : SigOK Tryz.prog ⟨164, none, none, false⟩ (ρ 164) := by
  show PureOK _ _ f_graft_link
  unfold f_graft_link fnT
  exact PureOK.of_e (ρ := ρ) (Ctx.of hname hmix (List.forall_mem_cons.2 ⟨ok_ring_Nearer, List.forall_mem_nil _⟩)) (.inl (fun a p hp => by obtain ⟨_, _, _⟩ := a; simp only [F_graft_link, List.mem_cons, List.not_mem_nil, or_false] at hp; rcases hp with rfl <;> rfl)) (.inl rfl) e_graft_link (by intro t ht a hp hg; obtain ⟨t, self, n⟩ := a; have := w_graft_link t self n hg; rw [← ht] at this; exact this)
theorem e_graft_rooted : (compFn Tryz.prog [sg 189] h_graft_rooted 20 ⟨165, none, none, false⟩).map (fun t (ρ : Fns) (v0 v1 v2 v3 v4 v5 v6 v7 v8 v9 v10 v11 v12 v13 v14 v15 v16 : PV) (Q : List PV → Prop) => W ρ t [v0, v1, v2, v3, v4, v5, v6, v7, v8, v9, v10, v11, v12, v13, v14, v15, v16] [] Q) = some S_graft_rooted := by kernel_rfl
theorem ok_graft_rooted : SigOK Tryz.prog ⟨165, none, none, false⟩ (ρ 165) := by
  show PureOK _ _ f_graft_rooted
  unfold f_graft_rooted fnT
  exact PureOK.of_e (ρ := ρ) (Ctx.of hname hmix (List.forall_mem_cons.2 ⟨ok_epoch_Who, List.forall_mem_nil _⟩)) (.inl (fun a p hp => by obtain ⟨_, _, _, _, _, _, _, _, _, _, _, _, _, _, _, _, _⟩ := a; simp only [F_graft_rooted, List.mem_cons, List.not_mem_nil, or_false] at hp; rcases hp with rfl <;> rfl)) (.inl rfl) e_graft_rooted (by intro t ht a hp hg; obtain ⟨self, x_made, x_sub, x_top, x_root, x_parent, x_asked, x_other, x_age, x_path, x_kids, x_stream_epoch, x_stream_want, x_stream_known, x_stream_kept, x_stream_ahead, x_queue⟩ := a; have := w_graft_rooted self (Topic.mk x_made x_sub x_top x_root x_parent x_asked x_other x_age x_path x_kids (Stream.mk x_stream_epoch x_stream_want x_stream_known x_stream_kept x_stream_ahead) x_queue); rw [← ht] at this; exact this)
theorem e_graft_placed : (compFn Tryz.prog [] h_graft_placed 20 ⟨166, none, none, false⟩).map (fun t (ρ : Fns) (v0 v1 v2 v3 v4 v5 v6 v7 v8 v9 v10 v11 v12 v13 v14 v15 : PV) (Q : List PV → Prop) => W ρ t [v0, v1, v2, v3, v4, v5, v6, v7, v8, v9, v10, v11, v12, v13, v14, v15] [] Q) = some S_graft_placed := by kernel_rfl
theorem ok_graft_placed : SigOK Tryz.prog ⟨166, none, none, false⟩ (ρ 166) := by
  show PureOK _ _ f_graft_placed
  unfold f_graft_placed fnT
  exact PureOK.of_e (ρ := ρ) (Ctx.of hname hmix (List.forall_mem_nil _)) (.inl (fun a p hp => by obtain ⟨_, _, _, _, _, _, _, _, _, _, _, _, _, _, _, _⟩ := a; simp only [F_graft_placed, List.mem_cons, List.not_mem_nil, or_false] at hp; rcases hp with rfl <;> rfl)) (.inl rfl) e_graft_placed (by intro t ht a hp hg; obtain ⟨x_made, x_sub, x_top, x_root, x_parent, x_asked, x_other, x_age, x_path, x_kids, x_stream_epoch, x_stream_want, x_stream_known, x_stream_kept, x_stream_ahead, x_queue⟩ := a; have := w_graft_placed (Topic.mk x_made x_sub x_top x_root x_parent x_asked x_other x_age x_path x_kids (Stream.mk x_stream_epoch x_stream_want x_stream_known x_stream_kept x_stream_ahead) x_queue) hp hg; rw [← ht] at this; exact this)
theorem e_graft_right : (compFn Tryz.prog [sg 164, sg 165, sg 166, sg 167, sg 168, sg 169] h_graft_right 20 ⟨128, none, none, false⟩).map (fun t (ρ : Fns) (v0 v1 v2 v3 v4 v5 v6 v7 v8 v9 v10 v11 v12 v13 v14 v15 v16 v17 v18 v19 v20 v21 v22 v23 v24 : PV) (Q : List PV → Prop) => W ρ t [v0, v1, v2, v3, v4, v5, v6, v7, v8, v9, v10, v11, v12, v13, v14, v15, v16, v17, v18, v19, v20, v21, v22, v23, v24] [] Q) = some S_graft_right := by kernel_rfl
theorem ok_graft_right : SigOK Tryz.prog ⟨128, none, none, false⟩ (ρ 128) := by
  show PureOK _ _ f_graft_right
  unfold f_graft_right fnT
  exact PureOK.of_e (ρ := ρ) (Ctx.of hname hmix (List.forall_mem_cons.2 ⟨ok_graft_link, List.forall_mem_cons.2 ⟨ok_graft_rooted, List.forall_mem_cons.2 ⟨ok_graft_placed, List.forall_mem_cons.2 ⟨ok_path_Check, List.forall_mem_cons.2 ⟨ok_kids_Check, List.forall_mem_cons.2 ⟨ok_flow_Check, List.forall_mem_nil _⟩⟩⟩⟩⟩⟩)) (.inl (fun a p hp => by obtain ⟨_, _, _, _, _, _, _, _, _, _, _, _, _, _, _, _, _, _, _, _, _, _, _, _, _⟩ := a; simp only [F_graft_right, List.mem_cons, List.not_mem_nil, or_false] at hp; rcases hp with rfl <;> rfl)) (.inl rfl) e_graft_right (by intro t ht a hp hg; obtain ⟨c_nodes, c_topics, c_kids, c_depth, c_keep, c_window, c_queue, t, self, x_made, x_sub, x_top, x_root, x_parent, x_asked, x_other, x_age, x_path, x_kids, x_stream_epoch, x_stream_want, x_stream_known, x_stream_kept, x_stream_ahead, x_queue⟩ := a; have := w_graft_right (Config.mk c_nodes c_topics c_kids c_depth c_keep c_window c_queue) t self (Topic.mk x_made x_sub x_top x_root x_parent x_asked x_other x_age x_path x_kids (Stream.mk x_stream_epoch x_stream_want x_stream_known x_stream_kept x_stream_ahead) x_queue) hp hg; rw [← ht] at this; exact this)
theorem e_graft_Check : (compFn Tryz.prog [sg 39, sg 128] h_graft_Check 20 ⟨82, none, none, false⟩).map (fun t (ρ : Fns) (v0 v1 v2 v3 v4 v5 v6 v7 v8 v9 v10 v11 v12 v13 v14 v15 v16 v17 v18 v19 v20 v21 v22 v23 v24 : PV) (Q : List PV → Prop) => W ρ t [v0, v1, v2, v3, v4, v5, v6, v7, v8, v9, v10, v11, v12, v13, v14, v15, v16, v17, v18, v19, v20, v21, v22, v23, v24] [] Q) = some S_graft_Check := by kernel_rfl
theorem ok_graft_Check : SigOK Tryz.prog ⟨82, none, none, false⟩ (ρ 82) := by
  show PureOK _ _ f_graft_Check
  unfold f_graft_Check fnT
  exact PureOK.of_e (ρ := ρ) (Ctx.of hname hmix (List.forall_mem_cons.2 ⟨ok_script_Config, List.forall_mem_cons.2 ⟨ok_graft_right, List.forall_mem_nil _⟩⟩)) (.inl (fun a p hp => by obtain ⟨_, _, _, _, _, _, _, _, _, _, _, _, _, _, _, _, _, _, _, _, _, _, _, _, _⟩ := a; simp only [F_graft_Check, List.mem_cons, List.not_mem_nil, or_false] at hp; rcases hp with rfl <;> rfl)) (.inl rfl) e_graft_Check (by intro t ht a hp hg; obtain ⟨c_nodes, c_topics, c_kids, c_depth, c_keep, c_window, c_queue, t, self, x_made, x_sub, x_top, x_root, x_parent, x_asked, x_other, x_age, x_path, x_kids, x_stream_epoch, x_stream_want, x_stream_known, x_stream_kept, x_stream_ahead, x_queue⟩ := a; have := w_graft_Check (Config.mk c_nodes c_topics c_kids c_depth c_keep c_window c_queue) t self (Topic.mk x_made x_sub x_top x_root x_parent x_asked x_other x_age x_path x_kids (Stream.mk x_stream_epoch x_stream_want x_stream_known x_stream_kept x_stream_ahead) x_queue) hg; rw [← ht] at this; exact this)
theorem e_cast_calls : (compFn Tryz.prog [sg 34] h_cast_calls 20 ⟨81, none, none, false⟩).map (fun t (ρ : Fns) (v0 v1 v2 v3 v4 v5 v6 v7 v8 v9 v10 v11 v12 v13 v14 v15 : PV) (Q : List PV → Prop) => W ρ t [v0, v1, v2, v3, v4, v5, v6, v7, v8, v9, v10, v11, v12, v13, v14, v15] [] Q) = some S_cast_calls := by kernel_rfl
theorem ok_cast_calls : SigOK Tryz.prog ⟨81, none, none, false⟩ (ρ 81) := by
  show PureOK _ _ f_cast_calls
  unfold f_cast_calls fnT
  exact PureOK.of_e (ρ := ρ) (Ctx.of hname hmix (List.forall_mem_cons.2 ⟨ok_cast_in, List.forall_mem_nil _⟩)) (.inl (fun a p hp => by obtain ⟨_, _, _, _, _, _, _, _, _, _, _, _, _, _, _, _⟩ := a; simp only [F_cast_calls, List.mem_cons, List.not_mem_nil, or_false] at hp; rcases hp with rfl <;> rfl)) (.inl rfl) e_cast_calls (by intro t ht a hp hg; obtain ⟨c_nodes, c_topics, c_kids, c_depth, c_keep, c_window, c_queue, n_up, n_inc, n_peers, n_topics, n_calls, n_pubs, n_asks, n_marks, n_taken⟩ := a; have := w_cast_calls (Config.mk c_nodes c_topics c_kids c_depth c_keep c_window c_queue) (Node.mk n_up n_inc n_peers n_topics n_calls n_pubs n_asks n_marks n_taken) hp hg; rw [← ht] at this; exact this)
theorem e_cast_mark : (compFn Tryz.prog [sg 34] h_cast_mark 20 ⟨85, none, none, false⟩).map (fun t (ρ : Fns) (v0 v1 v2 : PV) (Q : List PV → Prop) => W ρ t [v0, v1, v2] [] Q) = some S_cast_mark := by kernel_rfl
theorem ok_cast_mark : SigOK Tryz.prog ⟨85, none, none, false⟩ (ρ 85) := by
  show PureOK _ _ f_cast_mark
  unfold f_cast_mark fnT
  exact PureOK.of_e (ρ := ρ) (Ctx.of hname hmix (List.forall_mem_cons.2 ⟨ok_cast_in, List.forall_mem_nil _⟩)) (.inl (fun a p hp => by obtain ⟨_, _, _⟩ := a; simp only [F_cast_mark, List.mem_cons, List.not_mem_nil, or_false] at hp; rcases hp with rfl <;> rfl)) (.inl rfl) e_cast_mark (by intro t ht a hp hg; obtain ⟨m_inc, m_pubs, m_met⟩ := a; have := w_cast_mark (Mark.mk m_inc m_pubs m_met); rw [← ht] at this; exact this)
theorem e_cast_taken : (compFn Tryz.prog [sg 34, sg 35, sg 80] h_cast_taken 20 ⟨89, none, none, false⟩).map (fun t (ρ : Fns) (v0 v1 v2 v3 v4 v5 v6 v7 v8 v9 v10 v11 : PV) (Q : List PV → Prop) => W ρ t [v0, v1, v2, v3, v4, v5, v6, v7, v8, v9, v10, v11] [] Q) = some S_cast_taken := by kernel_rfl
theorem ok_cast_taken : SigOK Tryz.prog ⟨89, none, none, false⟩ (ρ 89) := by
  show PureOK _ _ f_cast_taken
  unfold f_cast_taken fnT
  exact PureOK.of_e (ρ := ρ) (Ctx.of hname hmix (List.forall_mem_cons.2 ⟨ok_cast_in, List.forall_mem_cons.2 ⟨ok_msg_Value, List.forall_mem_cons.2 ⟨ok_msg_Counted, List.forall_mem_nil _⟩⟩⟩)) (.inl (fun a p hp => by obtain ⟨_, _, _, _, _, _, _, _, _, _, _, _⟩ := a; simp only [F_cast_taken, List.mem_cons, List.not_mem_nil, or_false] at hp; rcases hp with rfl <;> rfl)) (.inl rfl) e_cast_taken (by intro t ht a hp hg; obtain ⟨c_nodes, c_topics, c_kids, c_depth, c_keep, c_window, c_queue, x_node, x_inc, x_count, x_topic, x_value⟩ := a; have := w_cast_taken (Config.mk c_nodes c_topics c_kids c_depth c_keep c_window c_queue) (Mark2.mk x_node x_inc x_count x_topic x_value) hp; rw [← ht] at this; exact this)
theorem e_cast_right : (compFn Tryz.prog [sg 34, sg 80, sg 81, sg 82, sg 85, sg 86, sg 89] h_cast_right 20 ⟨40, none, none, false⟩).map (fun t (ρ : Fns) (v0 v1 v2 v3 v4 v5 v6 v7 v8 v9 v10 v11 v12 v13 v14 v15 v16 : PV) (Q : List PV → Prop) => W ρ t [v0, v1, v2, v3, v4, v5, v6, v7, v8, v9, v10, v11, v12, v13, v14, v15, v16] [] Q) = some S_cast_right := by kernel_rfl
theorem ok_cast_right : SigOK Tryz.prog ⟨40, none, none, false⟩ (ρ 40) := by
  show PureOK _ _ f_cast_right
  unfold f_cast_right fnT
  exact PureOK.of_e (ρ := ρ) (Ctx.of hname hmix (List.forall_mem_cons.2 ⟨ok_cast_in, List.forall_mem_cons.2 ⟨ok_msg_Counted, List.forall_mem_cons.2 ⟨ok_cast_calls, List.forall_mem_cons.2 ⟨ok_graft_Check, List.forall_mem_cons.2 ⟨ok_cast_mark, List.forall_mem_cons.2 ⟨ok_view_Check, List.forall_mem_cons.2 ⟨ok_cast_taken, List.forall_mem_nil _⟩⟩⟩⟩⟩⟩⟩)) (.inl (fun a p hp => by obtain ⟨_, _, _, _, _, _, _, _, _, _, _, _, _, _, _, _, _⟩ := a; simp only [F_cast_right, List.mem_cons, List.not_mem_nil, or_false] at hp; rcases hp with rfl <;> rfl)) (.inl rfl) e_cast_right (by intro t ht a hp hg; obtain ⟨c_nodes, c_topics, c_kids, c_depth, c_keep, c_window, c_queue, self, n_up, n_inc, n_peers, n_topics, n_calls, n_pubs, n_asks, n_marks, n_taken⟩ := a; have := w_cast_right (Config.mk c_nodes c_topics c_kids c_depth c_keep c_window c_queue) self (Node.mk n_up n_inc n_peers n_topics n_calls n_pubs n_asks n_marks n_taken) hp hg; rw [← ht] at this; exact this)
theorem e_cast_Check : (compFn Tryz.prog [sg 34, sg 39, sg 40] h_cast_Check 20 ⟨12, none, none, false⟩).map (fun t (ρ : Fns) (v0 v1 v2 v3 v4 v5 v6 v7 v8 v9 v10 v11 v12 v13 v14 v15 v16 : PV) (Q : List PV → Prop) => W ρ t [v0, v1, v2, v3, v4, v5, v6, v7, v8, v9, v10, v11, v12, v13, v14, v15, v16] [] Q) = some S_cast_Check := by kernel_rfl
theorem ok_cast_Check : SigOK Tryz.prog ⟨12, none, none, false⟩ (ρ 12) := by
  show PureOK _ _ f_cast_Check
  unfold f_cast_Check fnT
  exact PureOK.of_e (ρ := ρ) (Ctx.of hname hmix (List.forall_mem_cons.2 ⟨ok_cast_in, List.forall_mem_cons.2 ⟨ok_script_Config, List.forall_mem_cons.2 ⟨ok_cast_right, List.forall_mem_nil _⟩⟩⟩)) (.inl (fun a p hp => by obtain ⟨_, _, _, _, _, _, _, _, _, _, _, _, _, _, _, _, _⟩ := a; simp only [F_cast_Check, List.mem_cons, List.not_mem_nil, or_false] at hp; rcases hp with rfl <;> rfl)) (.inl rfl) e_cast_Check (by intro t ht a hp hg; obtain ⟨c_nodes, c_topics, c_kids, c_depth, c_keep, c_window, c_queue, self, n_up, n_inc, n_peers, n_topics, n_calls, n_pubs, n_asks, n_marks, n_taken⟩ := a; have := w_cast_Check (Config.mk c_nodes c_topics c_kids c_depth c_keep c_window c_queue) self (Node.mk n_up n_inc n_peers n_topics n_calls n_pubs n_asks n_marks n_taken) hg; rw [← ht] at this; exact this)
theorem e_bkeep_Peers : (compFn Tryz.prog [] h_bkeep_Peers 20 ⟨45, none, none, false⟩).map (fun t (ρ : Fns) (v0 v1 : PV) (Q : List PV → Prop) => W ρ t [v0, v1] [] Q) = some S_bkeep_Peers := by kernel_rfl
theorem ok_bkeep_Peers : SigOK Tryz.prog ⟨45, none, none, false⟩ (ρ 45) := by
  show PureOK _ _ f_bkeep_Peers
  unfold f_bkeep_Peers fnT
  exact PureOK.of_e (ρ := ρ) (Ctx.of hname hmix (List.forall_mem_nil _)) (.inl (fun a p hp => by obtain ⟨_, _⟩ := a; simp only [F_bkeep_Peers, List.mem_cons, List.not_mem_nil, or_false] at hp; rcases hp with rfl <;> rfl)) (.inl rfl) e_bkeep_Peers (by intro t ht a hp hg; obtain ⟨a, b⟩ := a; have := w_bkeep_Peers a b hg; rw [← ht] at this; exact this)
theorem e_bkeep_Kids : (compFn Tryz.prog [] h_bkeep_Kids 20 ⟨96, none, none, false⟩).map (fun t (ρ : Fns) (v0 v1 : PV) (Q : List PV → Prop) => W ρ t [v0, v1] [] Q) = some S_bkeep_Kids := by kernel_rfl
theorem ok_bkeep_Kids : SigOK Tryz.prog ⟨96, none, none, false⟩ (ρ 96) := by
  show PureOK _ _ f_bkeep_Kids
  unfold f_bkeep_Kids fnT
  exact PureOK.of_e (ρ := ρ) (Ctx.of hname hmix (List.forall_mem_nil _)) (.inl (fun a p hp => by obtain ⟨_, _⟩ := a; simp only [F_bkeep_Kids, List.mem_cons, List.not_mem_nil, or_false] at hp; rcases hp with rfl <;> rfl)) (.inl rfl) e_bkeep_Kids (by intro t ht a hp hg; obtain ⟨a, b⟩ := a; have := w_bkeep_Kids a b hg; rw [← ht] at this; exact this)
theorem e_bkeep_Items : (compFn Tryz.prog [] h_bkeep_Items 20 ⟨140, none, none, false⟩).map (fun t (ρ : Fns) (v0 v1 : PV) (Q : List PV → Prop) => W ρ t [v0, v1] [] Q) = some S_bkeep_Items := by kernel_rfl
theorem ok_bkeep_Items : SigOK Tryz.prog ⟨140, none, none, false⟩ (ρ 140) := by
  show PureOK _ _ f_bkeep_Items
  unfold f_bkeep_Items fnT
  exact PureOK.of_e (ρ := ρ) (Ctx.of hname hmix (List.forall_mem_nil _)) (.inl (fun a p hp => by obtain ⟨_, _⟩ := a; simp only [F_bkeep_Items, List.mem_cons, List.not_mem_nil, or_false] at hp; rcases hp with rfl <;> rfl)) (.inl rfl) e_bkeep_Items (by intro t ht a hp hg; obtain ⟨a, b⟩ := a; have := w_bkeep_Items a b hg; rw [← ht] at this; exact this)
theorem e_bkeep_Events : (compFn Tryz.prog [] h_bkeep_Events 20 ⟨98, none, none, false⟩).map (fun t (ρ : Fns) (v0 v1 : PV) (Q : List PV → Prop) => W ρ t [v0, v1] [] Q) = some S_bkeep_Events := by kernel_rfl
theorem ok_bkeep_Events : SigOK Tryz.prog ⟨98, none, none, false⟩ (ρ 98) := by
  show PureOK _ _ f_bkeep_Events
  unfold f_bkeep_Events fnT
  exact PureOK.of_e (ρ := ρ) (Ctx.of hname hmix (List.forall_mem_nil _)) (.inl (fun a p hp => by obtain ⟨_, _⟩ := a; simp only [F_bkeep_Events, List.mem_cons, List.not_mem_nil, or_false] at hp; rcases hp with rfl <;> rfl)) (.inl rfl) e_bkeep_Events (by intro t ht a hp hg; obtain ⟨a, b⟩ := a; have := w_bkeep_Events a b hg; rw [← ht] at this; exact this)
theorem e_bkeep_Stream : (compFn Tryz.prog [sg 140] h_bkeep_Stream 20 ⟨97, none, none, false⟩).map (fun t (ρ : Fns) (v0 v1 v2 v3 v4 v5 v6 v7 v8 v9 : PV) (Q : List PV → Prop) => W ρ t [v0, v1, v2, v3, v4, v5, v6, v7, v8, v9] [] Q) = some S_bkeep_Stream := by kernel_rfl
theorem ok_bkeep_Stream : SigOK Tryz.prog ⟨97, none, none, false⟩ (ρ 97) := by
  show PureOK _ _ f_bkeep_Stream
  unfold f_bkeep_Stream fnT
  exact PureOK.of_e (ρ := ρ) (Ctx.of hname hmix (List.forall_mem_cons.2 ⟨ok_bkeep_Items, List.forall_mem_nil _⟩)) (.inl (fun a p hp => by obtain ⟨_, _, _, _, _, _, _, _, _, _⟩ := a; simp only [F_bkeep_Stream, List.mem_cons, List.not_mem_nil, or_false] at hp; rcases hp with rfl <;> rfl)) (.inl rfl) e_bkeep_Stream (by intro t ht a hp hg; obtain ⟨a_epoch, a_want, a_known, a_kept, a_ahead, b_epoch, b_want, b_known, b_kept, b_ahead⟩ := a; have := w_bkeep_Stream (Stream.mk a_epoch a_want a_known a_kept a_ahead) (Stream.mk b_epoch b_want b_known b_kept b_ahead) hg; rw [← ht] at this; exact this)
theorem e_bkeep_Topic : (compFn Tryz.prog [sg 16, sg 96, sg 97, sg 98] h_bkeep_Topic 20 ⟨46, none, none, false⟩).map (fun t (ρ : Fns) (v0 v1 v2 v3 v4 v5 v6 v7 v8 v9 v10 v11 v12 v13 v14 v15 v16 v17 v18 v19 v20 v21 v22 v23 v24 v25 v26 v27 v28 v29 v30 v31 : PV) (Q : List PV → Prop) => W ρ t [v0, v1, v2, v3, v4, v5, v6, v7, v8, v9, v10, v11, v12, v13, v14, v15, v16, v17, v18, v19, v20, v21, v22, v23, v24, v25, v26, v27, v28, v29, v30, v31] [] Q) = some S_bkeep_Topic := by kernel_rfl
theorem ok_bkeep_Topic : SigOK Tryz.prog ⟨46, none, none, false⟩ (ρ 46) := by
  show PureOK _ _ f_bkeep_Topic
  unfold f_bkeep_Topic fnT
  exact PureOK.of_e (ρ := ρ) (Ctx.of hname hmix (List.forall_mem_cons.2 ⟨ok_bkeep_Ints, List.forall_mem_cons.2 ⟨ok_bkeep_Kids, List.forall_mem_cons.2 ⟨ok_bkeep_Stream, List.forall_mem_cons.2 ⟨ok_bkeep_Events, List.forall_mem_nil _⟩⟩⟩⟩)) (.inl (fun a p hp => by obtain ⟨_, _, _, _, _, _, _, _, _, _, _, _, _, _, _, _, _, _, _, _, _, _, _, _, _, _, _, _, _, _, _, _⟩ := a; simp only [F_bkeep_Topic, List.mem_cons, List.not_mem_nil, or_false] at hp; rcases hp with rfl <;> rfl)) (.inl rfl) e_bkeep_Topic (by intro t ht a hp hg; obtain ⟨a_made, a_sub, a_top, a_root, a_parent, a_asked, a_other, a_age, a_path, a_kids, a_stream_epoch, a_stream_want, a_stream_known, a_stream_kept, a_stream_ahead, a_queue, b_made, b_sub, b_top, b_root, b_parent, b_asked, b_other, b_age, b_path, b_kids, b_stream_epoch, b_stream_want, b_stream_known, b_stream_kept, b_stream_ahead, b_queue⟩ := a; have := w_bkeep_Topic (Topic.mk a_made a_sub a_top a_root a_parent a_asked a_other a_age a_path a_kids (Stream.mk a_stream_epoch a_stream_want a_stream_known a_stream_kept a_stream_ahead) a_queue) (Topic.mk b_made b_sub b_top b_root b_parent b_asked b_other b_age b_path b_kids (Stream.mk b_stream_epoch b_stream_want b_stream_known b_stream_kept b_stream_ahead) b_queue) hg; rw [← ht] at this; exact this)
theorem e_bkeep_Node : (compFn Tryz.prog [sg 45, sg 46] h_bkeep_Node 20 ⟨15, none, none, false⟩).map (fun t (ρ : Fns) (v0 v1 v2 v3 v4 v5 v6 v7 v8 v9 v10 v11 v12 v13 v14 v15 v16 v17 : PV) (Q : List PV → Prop) => W ρ t [v0, v1, v2, v3, v4, v5, v6, v7, v8, v9, v10, v11, v12, v13, v14, v15, v16, v17] [] Q) = some S_bkeep_Node := by kernel_rfl
theorem ok_bkeep_Node : SigOK Tryz.prog ⟨15, none, none, false⟩ (ρ 15) := by
  show PureOK _ _ f_bkeep_Node
  unfold f_bkeep_Node fnT
  exact PureOK.of_e (ρ := ρ) (Ctx.of hname hmix (List.forall_mem_cons.2 ⟨ok_bkeep_Peers, List.forall_mem_cons.2 ⟨ok_bkeep_Topic, List.forall_mem_nil _⟩⟩)) (.inl (fun a p hp => by obtain ⟨_, _, _, _, _, _, _, _, _, _, _, _, _, _, _, _, _, _⟩ := a; simp only [F_bkeep_Node, List.mem_cons, List.not_mem_nil, or_false] at hp; rcases hp with rfl <;> rfl)) (.inl rfl) e_bkeep_Node (by intro t ht a hp hg; obtain ⟨a_up, a_inc, a_peers, a_topics, a_calls, a_pubs, a_asks, a_marks, a_taken, b_up, b_inc, b_peers, b_topics, b_calls, b_pubs, b_asks, b_marks, b_taken⟩ := a; have := w_bkeep_Node (Node.mk a_up a_inc a_peers a_topics a_calls a_pubs a_asks a_marks a_taken) (Node.mk b_up b_inc b_peers b_topics b_calls b_pubs b_asks b_marks b_taken) hg; rw [← ht] at this; exact this)
theorem e_law18_Heavy : (compFn Tryz.prog [] h_law18_Heavy 20 ⟨65, none, none, false⟩).map (fun t (ρ : Fns) (v0 v1 v2 v3 v4 v5 : PV) (Q : List PV → Prop) => W ρ t [v0, v1, v2, v3, v4, v5] [] Q) = some S_law18_Heavy := by kernel_rfl
theorem ok_law18_Heavy : SigOK Tryz.prog ⟨65, none, none, false⟩ (ρ 65) := by
  show PureOK _ _ f_law18_Heavy
  unfold f_law18_Heavy fnT
  exact PureOK.of_e (ρ := ρ) (Ctx.of hname hmix (List.forall_mem_nil _)) (.inl (fun a p hp => by obtain ⟨_, _, _, _, _, _⟩ := a; simp only [F_law18_Heavy, List.mem_cons, List.not_mem_nil, or_false] at hp; rcases hp with rfl <;> rfl)) (.inl rfl) e_law18_Heavy (by intro t ht a hp hg; obtain ⟨s_epoch, s_want, s_known, s_kept, s_ahead, q⟩ := a; have := w_law18_Heavy (Stream.mk s_epoch s_want s_known s_kept s_ahead) q hg; rw [← ht] at this; exact this)
theorem e_law19_Heavy : (compFn Tryz.prog [sg 65] h_law19_Heavy 20 ⟨30, none, none, false⟩).map (fun t (ρ : Fns) (v0 v1 v2 v3 v4 v5 v6 v7 v8 v9 v10 v11 v12 v13 v14 v15 : PV) (Q : List PV → Prop) => W ρ t [v0, v1, v2, v3, v4, v5, v6, v7, v8, v9, v10, v11, v12, v13, v14, v15] [] Q) = some S_law19_Heavy := by kernel_rfl
theorem ok_law19_Heavy : SigOK Tryz.prog ⟨30, none, none, false⟩ (ρ 30) := by
  show PureOK _ _ f_law19_Heavy
  unfold f_law19_Heavy fnT
  exact PureOK.of_e (ρ := ρ) (Ctx.of hname hmix (List.forall_mem_cons.2 ⟨ok_law18_Heavy, List.forall_mem_nil _⟩)) (.inl (fun a p hp => by obtain ⟨_, _, _, _, _, _, _, _, _, _, _, _, _, _, _, _⟩ := a; simp only [F_law19_Heavy, List.mem_cons, List.not_mem_nil, or_false] at hp; rcases hp with rfl <;> rfl)) (.inl rfl) e_law19_Heavy (by intro t ht a hp hg; obtain ⟨x_made, x_sub, x_top, x_root, x_parent, x_asked, x_other, x_age, x_path, x_kids, x_stream_epoch, x_stream_want, x_stream_known, x_stream_kept, x_stream_ahead, x_queue⟩ := a; have := w_law19_Heavy (Topic.mk x_made x_sub x_top x_root x_parent x_asked x_other x_age x_path x_kids (Stream.mk x_stream_epoch x_stream_want x_stream_known x_stream_kept x_stream_ahead) x_queue) hg; rw [← ht] at this; exact this)
theorem e_law21_Heavy : (compFn Tryz.prog [sg 30] h_law21_Heavy 20 ⟨8, none, none, false⟩).map (fun t (ρ : Fns) (v0 v1 v2 v3 v4 v5 v6 v7 v8 : PV) (Q : List PV → Prop) => W ρ t [v0, v1, v2, v3, v4, v5, v6, v7, v8] [] Q) = some S_law21_Heavy := by kernel_rfl
theorem ok_law21_Heavy : SigOK Tryz.prog ⟨8, none, none, false⟩ (ρ 8) := by
  show PureOK _ _ f_law21_Heavy
  unfold f_law21_Heavy fnT
  exact PureOK.of_e (ρ := ρ) (Ctx.of hname hmix (List.forall_mem_cons.2 ⟨ok_law19_Heavy, List.forall_mem_nil _⟩)) (.inl (fun a p hp => by obtain ⟨_, _, _, _, _, _, _, _, _⟩ := a; simp only [F_law21_Heavy, List.mem_cons, List.not_mem_nil, or_false] at hp; rcases hp with rfl <;> rfl)) (.inl rfl) e_law21_Heavy (by intro t ht a hp hg; obtain ⟨n_up, n_inc, n_peers, n_topics, n_calls, n_pubs, n_asks, n_marks, n_taken⟩ := a; have := w_law21_Heavy (Node.mk n_up n_inc n_peers n_topics n_calls n_pubs n_asks n_marks n_taken) hg; rw [← ht] at this; exact this)
theorem e_law19_Full : (compFn Tryz.prog [] h_law19_Full 20 ⟨19, none, none, false⟩).map (fun t (ρ : Fns) (Q : List PV → Prop) => W ρ t [] [] Q) = some S_law19_Full := by kernel_rfl
theorem ok_law19_Full : SigOK Tryz.prog ⟨19, none, none, false⟩ (ρ 19) := by
  show PureOK _ _ f_law19_Full
  unfold f_law19_Full fnT
  exact PureOK.of_e (ρ := ρ) (Ctx.of hname hmix (List.forall_mem_nil _)) (.inl (fun a p hp => by simp only [F_law19_Full, List.mem_cons, List.not_mem_nil, or_false] at hp; rcases hp with rfl | rfl | rfl | rfl | rfl | rfl | rfl <;> rfl)) (.inl rfl) e_law19_Full (by intro t ht a hp hg; have := w_law19_Full ; rw [← ht] at this; exact this)
theorem e_slices_Clone_api_Peer_api_Peer : (compFn Tryz.prog [] h_slices_Clone_api_Peer_api_Peer 20 ⟨70, some 0, none, true⟩).map (fun t (ρ : Fns) (v0 : PV) (Q : List PV → Prop) => W ρ t [v0] [] Q) = some S_slices_Clone_api_Peer_api_Peer := by kernel_rfl
theorem ok_slices_Clone_api_Peer_api_Peer : SigOK Tryz.prog ⟨70, some 0, none, true⟩ (ρ 70) := by
  show PureOK _ _ f_slices_Clone_api_Peer_api_Peer
  unfold f_slices_Clone_api_Peer_api_Peer fnT
  exact PureOK.of_e (ρ := ρ) (Ctx.of hname hmix (List.forall_mem_nil _)) (.inr (by kernel_rfl)) (.inr (fun a => by exact flatOut_of (by simp [F_slices_Clone_api_Peer_api_Peer, FlatL, flat_L, PV.scalar]))) e_slices_Clone_api_Peer_api_Peer (by intro t ht l hp hg; have := w_slices_Clone_api_Peer_api_Peer l hp; rw [← ht] at this; exact this)
theorem e_slices_Clone_api_Call_api_Call : (compFn Tryz.prog [] h_slices_Clone_api_Call_api_Call 20 ⟨71, some 0, none, true⟩).map (fun t (ρ : Fns) (v0 : PV) (Q : List PV → Prop) => W ρ t [v0] [] Q) = some S_slices_Clone_api_Call_api_Call := by kernel_rfl
theorem ok_slices_Clone_api_Call_api_Call : SigOK Tryz.prog ⟨71, some 0, none, true⟩ (ρ 71) := by
  show PureOK _ _ f_slices_Clone_api_Call_api_Call
  unfold f_slices_Clone_api_Call_api_Call fnT
  exact PureOK.of_e (ρ := ρ) (Ctx.of hname hmix (List.forall_mem_nil _)) (.inr (by kernel_rfl)) (.inr (fun a => by exact flatOut_of (by simp [F_slices_Clone_api_Call_api_Call, FlatL, flat_L, PV.scalar]))) e_slices_Clone_api_Call_api_Call (by intro t ht l hp hg; have := w_slices_Clone_api_Call_api_Call l hp; rw [← ht] at this; exact this)
theorem e_slices_Clone_api_Mark_api_Mark : (compFn Tryz.prog [] h_slices_Clone_api_Mark_api_Mark 20 ⟨72, some 0, none, true⟩).map (fun t (ρ : Fns) (v0 : PV) (Q : List PV → Prop) => W ρ t [v0] [] Q) = some S_slices_Clone_api_Mark_api_Mark := by kernel_rfl
theorem ok_slices_Clone_api_Mark_api_Mark : SigOK Tryz.prog ⟨72, some 0, none, true⟩ (ρ 72) := by
  show PureOK _ _ f_slices_Clone_api_Mark_api_Mark
  unfold f_slices_Clone_api_Mark_api_Mark fnT
  exact PureOK.of_e (ρ := ρ) (Ctx.of hname hmix (List.forall_mem_nil _)) (.inr (by kernel_rfl)) (.inr (fun a => by exact flatOut_of (by simp [F_slices_Clone_api_Mark_api_Mark, FlatL, flat_L, PV.scalar]))) e_slices_Clone_api_Mark_api_Mark (by intro t ht l hp hg; have := w_slices_Clone_api_Mark_api_Mark l hp; rw [← ht] at this; exact this)
theorem e_slices_Clone_api_Mark2_api_Mark2 : (compFn Tryz.prog [] h_slices_Clone_api_Mark2_api_Mark2 20 ⟨73, some 0, none, true⟩).map (fun t (ρ : Fns) (v0 : PV) (Q : List PV → Prop) => W ρ t [v0] [] Q) = some S_slices_Clone_api_Mark2_api_Mark2 := by kernel_rfl
theorem ok_slices_Clone_api_Mark2_api_Mark2 : SigOK Tryz.prog ⟨73, some 0, none, true⟩ (ρ 73) := by
  show PureOK _ _ f_slices_Clone_api_Mark2_api_Mark2
  unfold f_slices_Clone_api_Mark2_api_Mark2 fnT
  exact PureOK.of_e (ρ := ρ) (Ctx.of hname hmix (List.forall_mem_nil _)) (.inr (by kernel_rfl)) (.inr (fun a => by exact flatOut_of (by simp [F_slices_Clone_api_Mark2_api_Mark2, FlatL, flat_L, PV.scalar]))) e_slices_Clone_api_Mark2_api_Mark2 (by intro t ht l hp hg; have := w_slices_Clone_api_Mark2_api_Mark2 l hp; rw [← ht] at this; exact this)
theorem e_slices_Clone_api_Kid_api_Kid : (compFn Tryz.prog [] h_slices_Clone_api_Kid_api_Kid 20 ⟨119, some 0, none, true⟩).map (fun t (ρ : Fns) (v0 : PV) (Q : List PV → Prop) => W ρ t [v0] [] Q) = some S_slices_Clone_api_Kid_api_Kid := by kernel_rfl
theorem ok_slices_Clone_api_Kid_api_Kid : SigOK Tryz.prog ⟨119, some 0, none, true⟩ (ρ 119) := by
  show PureOK _ _ f_slices_Clone_api_Kid_api_Kid
  unfold f_slices_Clone_api_Kid_api_Kid fnT
  exact PureOK.of_e (ρ := ρ) (Ctx.of hname hmix (List.forall_mem_nil _)) (.inr (by kernel_rfl)) (.inr (fun a => by exact flatOut_of (by simp [F_slices_Clone_api_Kid_api_Kid, FlatL, flat_L, PV.scalar]))) e_slices_Clone_api_Kid_api_Kid (by intro t ht l hp hg; have := w_slices_Clone_api_Kid_api_Kid l hp; rw [← ht] at this; exact this)
theorem e_slices_Clone_api_Event_api_Event : (compFn Tryz.prog [] h_slices_Clone_api_Event_api_Event 20 ⟨120, some 0, none, true⟩).map (fun t (ρ : Fns) (v0 : PV) (Q : List PV → Prop) => W ρ t [v0] [] Q) = some S_slices_Clone_api_Event_api_Event := by kernel_rfl
theorem ok_slices_Clone_api_Event_api_Event : SigOK Tryz.prog ⟨120, some 0, none, true⟩ (ρ 120) := by
  show PureOK _ _ f_slices_Clone_api_Event_api_Event
  unfold f_slices_Clone_api_Event_api_Event fnT
  exact PureOK.of_e (ρ := ρ) (Ctx.of hname hmix (List.forall_mem_nil _)) (.inr (by kernel_rfl)) (.inr (fun a => by exact flatOut_of (by simp [F_slices_Clone_api_Event_api_Event, FlatL, flat_L, PV.scalar]))) e_slices_Clone_api_Event_api_Event (by intro t ht l hp hg; have := w_slices_Clone_api_Event_api_Event l hp; rw [← ht] at this; exact this)
theorem e_slices_Clone_api_Item_api_Item : (compFn Tryz.prog [] h_slices_Clone_api_Item_api_Item 20 ⟨155, some 0, none, true⟩).map (fun t (ρ : Fns) (v0 : PV) (Q : List PV → Prop) => W ρ t [v0] [] Q) = some S_slices_Clone_api_Item_api_Item := by kernel_rfl
theorem ok_slices_Clone_api_Item_api_Item : SigOK Tryz.prog ⟨155, some 0, none, true⟩ (ρ 155) := by
  show PureOK _ _ f_slices_Clone_api_Item_api_Item
  unfold f_slices_Clone_api_Item_api_Item fnT
  exact PureOK.of_e (ρ := ρ) (Ctx.of hname hmix (List.forall_mem_nil _)) (.inr (by kernel_rfl)) (.inr (fun a => by exact flatOut_of (by simp [F_slices_Clone_api_Item_api_Item, FlatL, flat_L, PV.scalar]))) e_slices_Clone_api_Item_api_Item (by intro t ht l hp hg; have := w_slices_Clone_api_Item_api_Item l hp; rw [← ht] at this; exact this)
theorem e_slices_Clone_int_int : (compFn Tryz.prog [] h_slices_Clone_int_int 20 ⟨75, some 0, none, true⟩).map (fun t (ρ : Fns) (v0 : PV) (Q : List PV → Prop) => W ρ t [v0] [] Q) = some S_slices_Clone_int_int := by kernel_rfl
theorem ok_slices_Clone_int_int : SigOK Tryz.prog ⟨75, some 0, none, true⟩ (ρ 75) := by
  show PureOK _ _ f_slices_Clone_int_int
  unfold f_slices_Clone_int_int fnT
  exact PureOK.of_e (ρ := ρ) (Ctx.of hname hmix (List.forall_mem_nil _)) (.inr (by kernel_rfl)) (.inr (fun a => by exact flatOut_of (by simp [F_slices_Clone_int_int, FlatL, flat_L, PV.scalar]))) e_slices_Clone_int_int (by intro t ht l hp hg; have := w_slices_Clone_int_int l hp; rw [← ht] at this; exact this)
theorem e_graft_Has : (compFn Tryz.prog [] h_graft_Has 20 ⟨122, none, none, false⟩).map (fun t (ρ : Fns) (v0 v1 v2 v3 v4 v5 v6 v7 v8 v9 v10 v11 v12 v13 v14 v15 : PV) (Q : List PV → Prop) => W ρ t [v0, v1, v2, v3, v4, v5, v6, v7, v8, v9, v10, v11, v12, v13, v14, v15] [] Q) = some S_graft_Has := by kernel_rfl
theorem ok_graft_Has : SigOK Tryz.prog ⟨122, none, none, false⟩ (ρ 122) := by
  show PureOK _ _ f_graft_Has
  unfold f_graft_Has fnT
  exact PureOK.of_e (ρ := ρ) (Ctx.of hname hmix (List.forall_mem_nil _)) (.inl (fun a p hp => by obtain ⟨_, _, _, _, _, _, _, _, _, _, _, _, _, _, _, _⟩ := a; simp only [F_graft_Has, List.mem_cons, List.not_mem_nil, or_false] at hp; rcases hp with rfl <;> rfl)) (.inl rfl) e_graft_Has (by intro t ht a hp hg; obtain ⟨x_made, x_sub, x_top, x_root, x_parent, x_asked, x_other, x_age, x_path, x_kids, x_stream_epoch, x_stream_want, x_stream_known, x_stream_kept, x_stream_ahead, x_queue⟩ := a; have := w_graft_Has (Topic.mk x_made x_sub x_top x_root x_parent x_asked x_other x_age x_path x_kids (Stream.mk x_stream_epoch x_stream_want x_stream_known x_stream_kept x_stream_ahead) x_queue); rw [← ht] at this; exact this)
theorem e_graft_Twin : (compFn Tryz.prog [⟨75, some 0, none, true⟩, ⟨119, some 0, none, true⟩, ⟨120, some 0, none, true⟩, ⟨155, some 0, none, true⟩] h_graft_Twin 20 ⟨69, none, none, false⟩).map (fun t (ρ : Fns) (v0 v1 v2 v3 v4 v5 v6 v7 v8 v9 v10 v11 v12 v13 v14 v15 : PV) (Q : List PV → Prop) => W ρ t [v0, v1, v2, v3, v4, v5, v6, v7, v8, v9, v10, v11, v12, v13, v14, v15] [] Q) = some S_graft_Twin := by kernel_rfl
theorem ok_graft_Twin : SigOK Tryz.prog ⟨69, none, none, false⟩ (ρ 69) := by
  show PureOK _ _ f_graft_Twin
  unfold f_graft_Twin fnT
  exact PureOK.of_e (ρ := ρ) (Ctx.of hname hmix (List.forall_mem_cons.2 ⟨ok_slices_Clone_int_int, List.forall_mem_cons.2 ⟨ok_slices_Clone_api_Kid_api_Kid, List.forall_mem_cons.2 ⟨ok_slices_Clone_api_Event_api_Event, List.forall_mem_cons.2 ⟨ok_slices_Clone_api_Item_api_Item, List.forall_mem_nil _⟩⟩⟩⟩)) (.inr (by kernel_rfl)) (.inl rfl) e_graft_Twin (by intro t ht a hp hg; obtain ⟨x_made, x_sub, x_top, x_root, x_parent, x_asked, x_other, x_age, x_path, x_kids, x_stream_epoch, x_stream_want, x_stream_known, x_stream_kept, x_stream_ahead, x_queue⟩ := a; have := w_graft_Twin (Topic.mk x_made x_sub x_top x_root x_parent x_asked x_other x_age x_path x_kids (Stream.mk x_stream_epoch x_stream_want x_stream_known x_stream_kept x_stream_ahead) x_queue) hp; rw [← ht] at this; exact this)
theorem e_queue_gap : (compFn Tryz.prog [] h_queue_gap 20 ⟨173, none, none, false⟩).map (fun t (ρ : Fns) (v0 v1 v2 v3 v4 v5 : PV) (Q : List PV → Prop) => W ρ t [v0, v1, v2, v3, v4, v5] [] Q) = some S_queue_gap := by kernel_rfl
theorem ok_queue_gap : SigOK Tryz.prog ⟨173, none, none, false⟩ (ρ 173) := by
  show PureOK _ _ f_queue_gap
  unfold f_queue_gap fnT
  exact PureOK.of_e (ρ := ρ) (Ctx.of hname hmix (List.forall_mem_nil _)) (.inl (fun a p hp => by obtain ⟨_, _, _, _, _, _⟩ := a; simp only [F_queue_gap, List.mem_cons, List.not_mem_nil, or_false] at hp; rcases hp with rfl | rfl | rfl | rfl | rfl | rfl | rfl <;> rfl)) (.inl rfl) e_queue_gap (by intro t ht a hp hg; obtain ⟨x_kind, x_epoch, x_seq, x_last, x_value, x_count⟩ := a; have := w_queue_gap (Event.mk x_kind x_epoch x_seq x_last x_value x_count); rw [← ht] at this; exact this)
theorem e_queue_Put : (compFn Tryz.prog [⟨120, some 0, none, true⟩, sg 171, sg 172, sg 173] h_queue_Put 20 ⟨141, none, none, false⟩).map (fun t (ρ : Fns) (v0 v1 v2 v3 v4 v5 v6 v7 : PV) (Q : List PV → Prop) => W ρ t [v0, v1, v2, v3, v4, v5, v6, v7] [] Q) = some S_queue_Put := by kernel_rfl
theorem ok_queue_Put : SigOK Tryz.prog ⟨141, none, none, false⟩ (ρ 141) := by
  show PureOK _ _ f_queue_Put
  unfold f_queue_Put fnT
  exact PureOK.of_e (ρ := ρ) (Ctx.of hname hmix (List.forall_mem_cons.2 ⟨ok_slices_Clone_api_Event_api_Event, List.forall_mem_cons.2 ⟨ok_queue_Check, List.forall_mem_cons.2 ⟨ok_queue_Event, List.forall_mem_cons.2 ⟨ok_queue_gap, List.forall_mem_nil _⟩⟩⟩⟩)) (.inr (by kernel_rfl)) (.inl rfl) e_queue_Put (by intro t ht a hp hg; obtain ⟨l, limit, x_kind, x_epoch, x_seq, x_last, x_value, x_count⟩ := a; have := w_queue_Put l limit (Event.mk x_kind x_epoch x_seq x_last x_value x_count) hg; rw [← ht] at this; exact this)
theorem e_queue_Fit : (compFn Tryz.prog [⟨120, some 0, none, true⟩, sg 141] h_queue_Fit 20 ⟨102, none, none, false⟩).map (fun t (ρ : Fns) (v0 v1 v2 v3 v4 v5 v6 v7 : PV) (Q : List PV → Prop) => W ρ t [v0, v1, v2, v3, v4, v5, v6, v7] [] Q) = some S_queue_Fit := by kernel_rfl
theorem ok_queue_Fit : SigOK Tryz.prog ⟨102, none, none, false⟩ (ρ 102) := by
  show PureOK _ _ f_queue_Fit
  unfold f_queue_Fit fnT
  exact PureOK.of_e (ρ := ρ) (Ctx.of hname hmix (List.forall_mem_cons.2 ⟨ok_slices_Clone_api_Event_api_Event, List.forall_mem_cons.2 ⟨ok_queue_Put, List.forall_mem_nil _⟩⟩)) (.inr (by kernel_rfl)) (.inl rfl) e_queue_Fit (by intro t ht a hp hg; obtain ⟨l, limit, x_kind, x_epoch, x_seq, x_last, x_value, x_count⟩ := a; have := w_queue_Fit l limit (Event.mk x_kind x_epoch x_seq x_last x_value x_count) hp hg; rw [← ht] at this; exact this)
theorem e_cast_Heed : (compFn Tryz.prog [sg 34] h_cast_Heed 20 ⟨77, none, none, false⟩).map (fun t (ρ : Fns) (v0 v1 v2 v3 v4 v5 v6 v7 v8 v9 : PV) (Q : List PV → Prop) => W ρ t [v0, v1, v2, v3, v4, v5, v6, v7, v8, v9] [] Q) = some S_cast_Heed := by kernel_rfl
theorem ok_cast_Heed : SigOK Tryz.prog ⟨77, none, none, false⟩ (ρ 77) := by
  show PureOK _ _ f_cast_Heed
  unfold f_cast_Heed fnT
  exact PureOK.of_e (ρ := ρ) (Ctx.of hname hmix (List.forall_mem_cons.2 ⟨ok_cast_in, List.forall_mem_nil _⟩)) (.inl (fun a p hp => by obtain ⟨_, _, _, _, _, _, _, _, _, _⟩ := a; simp only [F_cast_Heed, List.mem_cons, List.not_mem_nil, or_false] at hp; rcases hp with rfl <;> rfl)) (.inl rfl) e_cast_Heed (by intro t ht a hp hg; obtain ⟨n_up, n_inc, n_peers, n_topics, n_calls, n_pubs, n_asks, n_marks, n_taken, o⟩ := a; have := w_cast_Heed (Node.mk n_up n_inc n_peers n_topics n_calls n_pubs n_asks n_marks n_taken) o hg; rw [← ht] at this; exact this)
theorem e_view_place : (compFn Tryz.prog [sg 86] h_view_place 20 ⟨184, none, none, false⟩).map (fun t (ρ : Fns) (v0 v1 : PV) (Q : List PV → Prop) => W ρ t [v0, v1] [] Q) = some S_view_place := by kernel_rfl
theorem ok_view_place : SigOK Tryz.prog ⟨184, none, none, false⟩ (ρ 184) := by
  show PureOK _ _ f_view_place
  unfold f_view_place fnT
  exact PureOK.of_e (ρ := ρ) (Ctx.of hname hmix (List.forall_mem_cons.2 ⟨ok_view_Check, List.forall_mem_nil _⟩)) (.inl (fun a p hp => by obtain ⟨_, _⟩ := a; simp only [F_view_place, List.mem_cons, List.not_mem_nil, or_false] at hp; rcases hp with rfl <;> rfl)) (.inl rfl) e_view_place (by intro t ht a hp hg; obtain ⟨l, n⟩ := a; have := w_view_place l n hg; rw [← ht] at this; exact this)
theorem e_view_Live : (compFn Tryz.prog [sg 184] h_view_Live 20 ⟨156, some 0, none, true⟩).map (fun t (ρ : Fns) (v0 v1 : PV) (Q : List PV → Prop) => W ρ t [v0, v1] [] Q) = some S_view_Live := by kernel_rfl
theorem ok_view_Live : SigOK Tryz.prog ⟨156, some 0, none, true⟩ (ρ 156) := by
  show PureOK _ _ f_view_Live
  unfold f_view_Live fnT
  exact PureOK.of_e (ρ := ρ) (Ctx.of hname hmix (List.forall_mem_cons.2 ⟨ok_view_place, List.forall_mem_nil _⟩)) (.inr (by kernel_rfl)) (.inr (fun a => by obtain ⟨_, _⟩ := a; exact flatOut_of (by simp [F_view_Live, FlatL, flat_L, PV.scalar]))) e_view_Live (by intro t ht a hp hg; obtain ⟨l, self⟩ := a; have := w_view_Live l self hg; rw [← ht] at this; exact this)
theorem e_cast_Next : (compFn Tryz.prog [⟨156, some 0, none, true⟩, sg 157] h_cast_Next 20 ⟨123, none, none, false⟩).map (fun t (ρ : Fns) (v0 v1 v2 v3 v4 v5 v6 v7 v8 v9 v10 : PV) (Q : List PV → Prop) => W ρ t [v0, v1, v2, v3, v4, v5, v6, v7, v8, v9, v10] [] Q) = some S_cast_Next := by kernel_rfl
theorem ok_cast_Next : SigOK Tryz.prog ⟨123, none, none, false⟩ (ρ 123) := by
  show PureOK _ _ f_cast_Next
  unfold f_cast_Next fnT
  exact PureOK.of_e (ρ := ρ) (Ctx.of hname hmix (List.forall_mem_cons.2 ⟨ok_view_Live, List.forall_mem_cons.2 ⟨ok_route_Next, List.forall_mem_nil _⟩⟩)) (.inl (fun a p hp => by obtain ⟨_, _, _, _, _, _, _, _, _, _, _⟩ := a; simp only [F_cast_Next, List.mem_cons, List.not_mem_nil, or_false] at hp; rcases hp with rfl <;> rfl)) (.inl rfl) e_cast_Next (by intro t ht a hp hg; obtain ⟨self, n_up, n_inc, n_peers, n_topics, n_calls, n_pubs, n_asks, n_marks, n_taken, t⟩ := a; have := w_cast_Next self (Node.mk n_up n_inc n_peers n_topics n_calls n_pubs n_asks n_marks n_taken) t hp hg; rw [← ht] at this; exact this)
theorem e_cast_near : (compFn Tryz.prog [sg 122, sg 123] h_cast_near 20 ⟨76, some 0, none, true⟩).map (fun t (ρ : Fns) (v0 v1 v2 v3 v4 v5 v6 v7 v8 v9 v10 : PV) (Q : List PV → Prop) => W ρ t [v0, v1, v2, v3, v4, v5, v6, v7, v8, v9, v10] [] Q) = some S_cast_near := by kernel_rfl
theorem ok_cast_near : SigOK Tryz.prog ⟨76, some 0, none, true⟩ (ρ 76) := by
  show PureOK _ _ f_cast_near
  unfold f_cast_near fnT
  exact PureOK.of_e (ρ := ρ) (Ctx.of hname hmix (List.forall_mem_cons.2 ⟨ok_graft_Has, List.forall_mem_cons.2 ⟨ok_cast_Next, List.forall_mem_nil _⟩⟩)) (.inr (by kernel_rfl)) (.inr (fun a => by obtain ⟨_, _, _, _, _, _, _, _, _, _, _⟩ := a; exact flatOut_of (by simp [F_cast_near, FlatL, flat_L, PV.scalar]))) e_cast_near (by intro t ht a hp hg; obtain ⟨self, n_up, n_inc, n_peers, n_topics, n_calls, n_pubs, n_asks, n_marks, n_taken, t⟩ := a; have := w_cast_near self (Node.mk n_up n_inc n_peers n_topics n_calls n_pubs n_asks n_marks n_taken) t hp hg; rw [← ht] at this; exact this)
theorem e_cast_Begin : (compFn Tryz.prog [sg 12, sg 34, sg 35, sg 44, sg 69, ⟨70, some 0, none, true⟩, ⟨71, some 0, none, true⟩, ⟨72, some 0, none, true⟩, ⟨73, some 0, none, true⟩, ⟨75, some 0, none, true⟩, ⟨76, some 0, none, true⟩, sg 77, ⟨101, none, some true, false⟩, sg 102] h_cast_Begin 20 ⟨10, none, none, false⟩).map (fun t (ρ : Fns) (v0 v1 v2 v3 v4 v5 v6 v7 v8 v9 v10 v11 v12 v13 v14 v15 v16 v17 v18 : PV) (Q : List PV → Prop) => W ρ t [v0, v1, v2, v3, v4, v5, v6, v7, v8, v9, v10, v11, v12, v13, v14, v15, v16, v17, v18] [] Q) = some S_cast_Begin := by kernel_rfl
theorem ok_cast_Begin : SigOK Tryz.prog ⟨10, none, none, false⟩ (ρ 10) := by
  show PureOK _ _ f_cast_Begin
  unfold f_cast_Begin fnT
  exact PureOK.of_e (ρ := ρ) (Ctx.of hname hmix (List.forall_mem_cons.2 ⟨ok_cast_Check, List.forall_mem_cons.2 ⟨ok_cast_in, List.forall_mem_cons.2 ⟨ok_msg_Value, List.forall_mem_cons.2 ⟨ok_slices_Contains_int_int, List.forall_mem_cons.2 ⟨ok_graft_Twin, List.forall_mem_cons.2 ⟨ok_slices_Clone_api_Peer_api_Peer, List.forall_mem_cons.2 ⟨ok_slices_Clone_api_Call_api_Call, List.forall_mem_cons.2 ⟨ok_slices_Clone_api_Mark_api_Mark, List.forall_mem_cons.2 ⟨ok_slices_Clone_api_Mark2_api_Mark2, List.forall_mem_cons.2 ⟨ok_slices_Clone_int_int, List.forall_mem_cons.2 ⟨ok_cast_near, List.forall_mem_cons.2 ⟨ok_cast_Heed, List.forall_mem_cons.2 ⟨ok_slices_Delete_api_Call_api_Call, List.forall_mem_cons.2 ⟨ok_queue_Fit, List.forall_mem_nil _⟩⟩⟩⟩⟩⟩⟩⟩⟩⟩⟩⟩⟩⟩)) (.inr (by kernel_rfl)) (.inl rfl) e_cast_Begin (by intro t ht a hp hg; obtain ⟨c_nodes, c_topics, c_kids, c_depth, c_keep, c_window, c_queue, self, n_up, n_inc, n_peers, n_topics, n_calls, n_pubs, n_asks, n_marks, n_taken, t, value⟩ := a; have := w_cast_Begin (Config.mk c_nodes c_topics c_kids c_depth c_keep c_window c_queue) self (Node.mk n_up n_inc n_peers n_topics n_calls n_pubs n_asks n_marks n_taken) t value hg; rw [← ht] at this; exact this)
theorem e_law21_wakes : (compFn Tryz.prog [sg 10, sg 12, sg 19] h_law21_wakes 20 ⟨11, none, none, false⟩).map (fun t (ρ : Fns) (Q : List PV → Prop) => W ρ t [] [] Q) = some S_law21_wakes := by kernel_rfl
theorem ok_law21_wakes : SigOK Tryz.prog ⟨11, none, none, false⟩ (ρ 11) := by
  show PureOK _ _ f_law21_wakes
  unfold f_law21_wakes fnT
  exact PureOK.of_e (ρ := ρ) (Ctx.of hname hmix (List.forall_mem_cons.2 ⟨ok_cast_Begin, List.forall_mem_cons.2 ⟨ok_cast_Check, List.forall_mem_cons.2 ⟨ok_law19_Full, List.forall_mem_nil _⟩⟩⟩)) (.inl (fun a p hp => by simp only [F_law21_wakes, List.mem_cons, List.not_mem_nil, or_false] at hp; rcases hp with rfl <;> rfl)) (.inl rfl) e_law21_wakes (by intro t ht a hp hg; have := w_law21_wakes ; rw [← ht] at this; exact this)
theorem e_msg_ends : (compFn Tryz.prog [sg 80, sg 135] h_msg_ends 20 ⟨91, none, none, false⟩).map (fun t (ρ : Fns) (v0 v1 v2 v3 v4 v5 v6 v7 v8 v9 v10 v11 v12 v13 v14 v15 : PV) (Q : List PV → Prop) => W ρ t [v0, v1, v2, v3, v4, v5, v6, v7, v8, v9, v10, v11, v12, v13, v14, v15] [] Q) = some S_msg_ends := by kernel_rfl
theorem ok_msg_ends : SigOK Tryz.prog ⟨91, none, none, false⟩ (ρ 91) := by
  show PureOK _ _ f_msg_ends
  unfold f_msg_ends fnT
  exact PureOK.of_e (ρ := ρ) (Ctx.of hname hmix (List.forall_mem_cons.2 ⟨ok_msg_Counted, List.forall_mem_cons.2 ⟨ok_ring_Is, List.forall_mem_nil _⟩⟩)) (.inl (fun a p hp => by obtain ⟨_, _, _, _, _, _, _, _, _, _, _, _, _, _, _, _⟩ := a; simp only [F_msg_ends, List.mem_cons, List.not_mem_nil, or_false] at hp; rcases hp with rfl <;> rfl)) (.inl rfl) e_msg_ends (by intro t ht a hp hg; obtain ⟨m_kind, m_frm, m_fromInc, m_to, m_toInc, m_topic, m_epoch, m_seq, m_last, m_value, m_node, m_inc, m_count, m_hops, m_path, m_todo⟩ := a; have := w_msg_ends (Msg.mk m_kind m_frm m_fromInc m_to m_toInc m_topic m_epoch m_seq m_last m_value m_node m_inc m_count m_hops m_path m_todo); rw [← ht] at this; exact this)
theorem e_msg_Unlike : (compFn Tryz.prog [sg 44] h_msg_Unlike 20 ⟨138, none, none, false⟩).map (fun t (ρ : Fns) (v0 : PV) (Q : List PV → Prop) => W ρ t [v0] [] Q) = some S_msg_Unlike := by kernel_rfl
theorem ok_msg_Unlike : SigOK Tryz.prog ⟨138, none, none, false⟩ (ρ 138) := by
  show PureOK _ _ f_msg_Unlike
  unfold f_msg_Unlike fnT
  exact PureOK.of_e (ρ := ρ) (Ctx.of hname hmix (List.forall_mem_cons.2 ⟨ok_slices_Contains_int_int, List.forall_mem_nil _⟩)) (.inl (fun a p hp => by simp only [F_msg_Unlike, List.mem_cons, List.not_mem_nil, or_false] at hp; rcases hp with rfl <;> rfl)) (.inl rfl) e_msg_Unlike (by intro t ht l hp hg; have := w_msg_Unlike l hg; rw [← ht] at this; exact this)
theorem e_msg_way : (compFn Tryz.prog [sg 104, sg 138] h_msg_way 20 ⟨134, none, none, false⟩).map (fun t (ρ : Fns) (v0 : PV) (Q : List PV → Prop) => W ρ t [v0] [] Q) = some S_msg_way := by kernel_rfl
theorem ok_msg_way : SigOK Tryz.prog ⟨134, none, none, false⟩ (ρ 134) := by
  show PureOK _ _ f_msg_way
  unfold f_msg_way fnT
  exact PureOK.of_e (ρ := ρ) (Ctx.of hname hmix (List.forall_mem_cons.2 ⟨ok_ring_All, List.forall_mem_cons.2 ⟨ok_msg_Unlike, List.forall_mem_nil _⟩⟩)) (.inl (fun a p hp => by simp only [F_msg_way, List.mem_cons, List.not_mem_nil, or_false] at hp; rcases hp with rfl <;> rfl)) (.inl rfl) e_msg_way (by intro t ht l hp hg; have := w_msg_way l hg; rw [← ht] at this; exact this)
theorem e_msg_place : (compFn Tryz.prog [sg 68, sg 80] h_msg_place 20 ⟨136, none, none, false⟩).map (fun t (ρ : Fns) (v0 v1 v2 v3 v4 v5 v6 v7 v8 v9 v10 v11 v12 v13 v14 v15 : PV) (Q : List PV → Prop) => W ρ t [v0, v1, v2, v3, v4, v5, v6, v7, v8, v9, v10, v11, v12, v13, v14, v15] [] Q) = some S_msg_place := by kernel_rfl
theorem ok_msg_place : SigOK Tryz.prog ⟨136, none, none, false⟩ (ρ 136) := by
  show PureOK _ _ f_msg_place
  unfold f_msg_place fnT
  exact PureOK.of_e (ρ := ρ) (Ctx.of hname hmix (List.forall_mem_cons.2 ⟨ok_msg_in, List.forall_mem_cons.2 ⟨ok_msg_Counted, List.forall_mem_nil _⟩⟩)) (.inl (fun a p hp => by obtain ⟨_, _, _, _, _, _, _, _, _, _, _, _, _, _, _, _⟩ := a; simp only [F_msg_place, List.mem_cons, List.not_mem_nil, or_false] at hp; rcases hp with rfl <;> rfl)) (.inl rfl) e_msg_place (by intro t ht a hp hg; obtain ⟨m_kind, m_frm, m_fromInc, m_to, m_toInc, m_topic, m_epoch, m_seq, m_last, m_value, m_node, m_inc, m_count, m_hops, m_path, m_todo⟩ := a; have := w_msg_place (Msg.mk m_kind m_frm m_fromInc m_to m_toInc m_topic m_epoch m_seq m_last m_value m_node m_inc m_count m_hops m_path m_todo); rw [← ht] at this; exact this)
theorem e_msg_whose : (compFn Tryz.prog [sg 35, sg 68, sg 80, sg 135] h_msg_whose 20 ⟨137, none, none, false⟩).map (fun t (ρ : Fns) (v0 v1 v2 v3 v4 v5 v6 v7 v8 v9 v10 v11 v12 v13 v14 v15 : PV) (Q : List PV → Prop) => W ρ t [v0, v1, v2, v3, v4, v5, v6, v7, v8, v9, v10, v11, v12, v13, v14, v15] [] Q) = some S_msg_whose := by kernel_rfl
theorem ok_msg_whose : SigOK Tryz.prog ⟨137, none, none, false⟩ (ρ 137) := by
  show PureOK _ _ f_msg_whose
  unfold f_msg_whose fnT
  exact PureOK.of_e (ρ := ρ) (Ctx.of hname hmix (List.forall_mem_cons.2 ⟨ok_msg_Value, List.forall_mem_cons.2 ⟨ok_msg_in, List.forall_mem_cons.2 ⟨ok_msg_Counted, List.forall_mem_cons.2 ⟨ok_ring_Is, List.forall_mem_nil _⟩⟩⟩⟩)) (.inl (fun a p hp => by obtain ⟨_, _, _, _, _, _, _, _, _, _, _, _, _, _, _, _⟩ := a; simp only [F_msg_whose, List.mem_cons, List.not_mem_nil, or_false] at hp; rcases hp with rfl <;> rfl)) (.inl rfl) e_msg_whose (by intro t ht a hp hg; obtain ⟨m_kind, m_frm, m_fromInc, m_to, m_toInc, m_topic, m_epoch, m_seq, m_last, m_value, m_node, m_inc, m_count, m_hops, m_path, m_todo⟩ := a; have := w_msg_whose (Msg.mk m_kind m_frm m_fromInc m_to m_toInc m_topic m_epoch m_seq m_last m_value m_node m_inc m_count m_hops m_path m_todo); rw [← ht] at this; exact this)
theorem e_slices_Concat_int_int : (compFn Tryz.prog [⟨94, some 0, some true, false⟩] h_slices_Concat_int_int 20 ⟨43, some 0, none, true⟩).map (fun t (ρ : Fns) (v0 : PV) (Q : List PV → Prop) => W ρ t [v0] [] Q) = some S_slices_Concat_int_int := by kernel_rfl
theorem ok_slices_Concat_int_int : SigOK Tryz.prog ⟨43, some 0, none, true⟩ (ρ 43) := by
  show PureOK _ _ f_slices_Concat_int_int
  unfold f_slices_Concat_int_int fnT
  exact PureOK.of_e (ρ := ρ) (Ctx.of hname hmix (List.forall_mem_cons.2 ⟨ok_slices_Grow_int_int, List.forall_mem_nil _⟩)) (.inr (by kernel_rfl)) (.inr (fun a => by exact flatOut_of (by simp [F_slices_Concat_int_int, FlatL, flat_L, PV.scalar]))) e_slices_Concat_int_int (by intro t ht ls hp hg; have := w_slices_Concat_int_int ls hp hg; rw [← ht] at this; exact this)
theorem e_msg_bare : (compFn Tryz.prog [sg 35, ⟨43, some 0, none, true⟩, sg 68, sg 80, sg 134, sg 135, sg 136, sg 137, sg 138] h_msg_bare 20 ⟨90, none, none, false⟩).map (fun t (ρ : Fns) (v0 v1 v2 v3 v4 v5 v6 v7 v8 v9 v10 v11 v12 v13 v14 v15 : PV) (Q : List PV → Prop) => W ρ t [v0, v1, v2, v3, v4, v5, v6, v7, v8, v9, v10, v11, v12, v13, v14, v15] [] Q) = some S_msg_bare := by kernel_rfl
theorem ok_msg_bare : SigOK Tryz.prog ⟨90, none, none, false⟩ (ρ 90) := by
  show PureOK _ _ f_msg_bare
  unfold f_msg_bare fnT
  exact PureOK.of_e (ρ := ρ) (Ctx.of hname hmix (List.forall_mem_cons.2 ⟨ok_msg_Value, List.forall_mem_cons.2 ⟨ok_slices_Concat_int_int, List.forall_mem_cons.2 ⟨ok_msg_in, List.forall_mem_cons.2 ⟨ok_msg_Counted, List.forall_mem_cons.2 ⟨ok_msg_way, List.forall_mem_cons.2 ⟨ok_ring_Is, List.forall_mem_cons.2 ⟨ok_msg_place, List.forall_mem_cons.2 ⟨ok_msg_whose, List.forall_mem_cons.2 ⟨ok_msg_Unlike, List.forall_mem_nil _⟩⟩⟩⟩⟩⟩⟩⟩⟩)) (.inr (by kernel_rfl)) (.inl rfl) e_msg_bare (by intro t ht a hp hg; obtain ⟨m_kind, m_frm, m_fromInc, m_to, m_toInc, m_topic, m_epoch, m_seq, m_last, m_value, m_node, m_inc, m_count, m_hops, m_path, m_todo⟩ := a; have := w_msg_bare (Msg.mk m_kind m_frm m_fromInc m_to m_toInc m_topic m_epoch m_seq m_last m_value m_node m_inc m_count m_hops m_path m_todo) hg; rw [← ht] at this; exact this)
theorem e_msg_Check : (compFn Tryz.prog [sg 68, sg 80, sg 90, sg 91] h_msg_Check 20 ⟨41, none, none, false⟩).map (fun t (ρ : Fns) (v0 v1 v2 v3 v4 v5 v6 v7 v8 v9 v10 v11 v12 v13 v14 v15 : PV) (Q : List PV → Prop) => W ρ t [v0, v1, v2, v3, v4, v5, v6, v7, v8, v9, v10, v11, v12, v13, v14, v15] [] Q) = some S_msg_Check := by kernel_rfl
theorem ok_msg_Check : SigOK Tryz.prog ⟨41, none, none, false⟩ (ρ 41) := by
  show PureOK _ _ f_msg_Check
  unfold f_msg_Check fnT
  exact PureOK.of_e (ρ := ρ) (Ctx.of hname hmix (List.forall_mem_cons.2 ⟨ok_msg_in, List.forall_mem_cons.2 ⟨ok_msg_Counted, List.forall_mem_cons.2 ⟨ok_msg_bare, List.forall_mem_cons.2 ⟨ok_msg_ends, List.forall_mem_nil _⟩⟩⟩⟩)) (.inl (fun a p hp => by obtain ⟨_, _, _, _, _, _, _, _, _, _, _, _, _, _, _, _⟩ := a; simp only [F_msg_Check, List.mem_cons, List.not_mem_nil, or_false] at hp; rcases hp with rfl <;> rfl)) (.inl rfl) e_msg_Check (by intro t ht a hp hg; obtain ⟨m_kind, m_frm, m_fromInc, m_to, m_toInc, m_topic, m_epoch, m_seq, m_last, m_value, m_node, m_inc, m_count, m_hops, m_path, m_todo⟩ := a; have := w_msg_Check (Msg.mk m_kind m_frm m_fromInc m_to m_toInc m_topic m_epoch m_seq m_last m_value m_node m_inc m_count m_hops m_path m_todo) hg; rw [← ht] at this; exact this)
theorem e_law06_Heavy : (compFn Tryz.prog [] h_law06_Heavy 20 ⟨13, none, none, false⟩).map (fun t (ρ : Fns) (v0 v1 v2 v3 v4 v5 v6 v7 v8 v9 v10 v11 v12 v13 v14 v15 : PV) (Q : List PV → Prop) => W ρ t [v0, v1, v2, v3, v4, v5, v6, v7, v8, v9, v10, v11, v12, v13, v14, v15] [] Q) = some S_law06_Heavy := by kernel_rfl
theorem ok_law06_Heavy : SigOK Tryz.prog ⟨13, none, none, false⟩ (ρ 13) := by
  show PureOK _ _ f_law06_Heavy
  unfold f_law06_Heavy fnT
  exact PureOK.of_e (ρ := ρ) (Ctx.of hname hmix (List.forall_mem_nil _)) (.inl (fun a p hp => by obtain ⟨_, _, _, _, _, _, _, _, _, _, _, _, _, _, _, _⟩ := a; simp only [F_law06_Heavy, List.mem_cons, List.not_mem_nil, or_false] at hp; rcases hp with rfl <;> rfl)) (.inl rfl) e_law06_Heavy (by intro t ht a hp hg; obtain ⟨m_kind, m_frm, m_fromInc, m_to, m_toInc, m_topic, m_epoch, m_seq, m_last, m_value, m_node, m_inc, m_count, m_hops, m_path, m_todo⟩ := a; have := w_law06_Heavy (Msg.mk m_kind m_frm m_fromInc m_to m_toInc m_topic m_epoch m_seq m_last m_value m_node m_inc m_count m_hops m_path m_todo); rw [← ht] at this; exact this)
theorem e_cast_whole : (compFn Tryz.prog [sg 34] h_cast_whole 20 ⟨42, none, none, false⟩).map (fun t (ρ : Fns) (v0 v1 v2 v3 v4 v5 v6 v7 : PV) (Q : List PV → Prop) => W ρ t [v0, v1, v2, v3, v4, v5, v6, v7] [] Q) = some S_cast_whole := by kernel_rfl
theorem ok_cast_whole : SigOK Tryz.prog ⟨42, none, none, false⟩ (ρ 42) := by
  show PureOK _ _ f_cast_whole
  unfold f_cast_whole fnT
  exact PureOK.of_e (ρ := ρ) (Ctx.of hname hmix (List.forall_mem_cons.2 ⟨ok_cast_in, List.forall_mem_nil _⟩)) (.inl (fun a p hp => by obtain ⟨_, _, _, _, _, _, _, _⟩ := a; simp only [F_cast_whole, List.mem_cons, List.not_mem_nil, or_false] at hp; rcases hp with rfl <;> rfl)) (.inl rfl) e_cast_whole (by intro t ht a hp hg; obtain ⟨c_nodes, c_topics, c_kids, c_depth, c_keep, c_window, c_queue, l⟩ := a; have := w_cast_whole (Config.mk c_nodes c_topics c_kids c_depth c_keep c_window c_queue) l hp hg; rw [← ht] at this; exact this)
theorem e_cast_Visit : (compFn Tryz.prog [sg 12, sg 41, sg 42, ⟨43, some 0, none, true⟩, sg 44, sg 69, ⟨70, some 0, none, true⟩, ⟨71, some 0, none, true⟩, ⟨72, some 0, none, true⟩, ⟨73, some 0, none, true⟩, ⟨75, some 0, none, true⟩, ⟨76, some 0, none, true⟩, sg 77, ⟨101, none, some true, false⟩, sg 102] h_cast_Visit 20 ⟨14, none, none, false⟩).map (fun t (ρ : Fns) (v0 v1 v2 v3 v4 v5 v6 v7 v8 v9 v10 v11 v12 v13 v14 v15 v16 v17 v18 v19 v20 v21 v22 v23 v24 v25 v26 v27 v28 v29 v30 v31 v32 : PV) (Q : List PV → Prop) => W ρ t [v0, v1, v2, v3, v4, v5, v6, v7, v8, v9, v10, v11, v12, v13, v14, v15, v16, v17, v18, v19, v20, v21, v22, v23, v24, v25, v26, v27, v28, v29, v30, v31, v32] [] Q) = some S_cast_Visit := by kernel_rfl
theorem ok_cast_Visit : SigOK Tryz.prog ⟨14, none, none, false⟩ (ρ 14) := by
  show PureOK _ _ f_cast_Visit
  unfold f_cast_Visit fnT
  exact PureOK.of_e (ρ := ρ) (Ctx.of hname hmix (List.forall_mem_cons.2 ⟨ok_cast_Check, List.forall_mem_cons.2 ⟨ok_msg_Check, List.forall_mem_cons.2 ⟨ok_cast_whole, List.forall_mem_cons.2 ⟨ok_slices_Concat_int_int, List.forall_mem_cons.2 ⟨ok_slices_Contains_int_int, List.forall_mem_cons.2 ⟨ok_graft_Twin, List.forall_mem_cons.2 ⟨ok_slices_Clone_api_Peer_api_Peer, List.forall_mem_cons.2 ⟨ok_slices_Clone_api_Call_api_Call, List.forall_mem_cons.2 ⟨ok_slices_Clone_api_Mark_api_Mark, List.forall_mem_cons.2 ⟨ok_slices_Clone_api_Mark2_api_Mark2, List.forall_mem_cons.2 ⟨ok_slices_Clone_int_int, List.forall_mem_cons.2 ⟨ok_cast_near, List.forall_mem_cons.2 ⟨ok_cast_Heed, List.forall_mem_cons.2 ⟨ok_slices_Delete_api_Call_api_Call, List.forall_mem_cons.2 ⟨ok_queue_Fit, List.forall_mem_nil _⟩⟩⟩⟩⟩⟩⟩⟩⟩⟩⟩⟩⟩⟩⟩)) (.inr (by kernel_rfl)) (.inl rfl) e_cast_Visit (by intro t ht a hp hg; obtain ⟨c_nodes, c_topics, c_kids, c_depth, c_keep, c_window, c_queue, self, n_up, n_inc, n_peers, n_topics, n_calls, n_pubs, n_asks, n_marks, n_taken, x_kind, x_frm, x_fromInc, x_to, x_toInc, x_topic, x_epoch, x_seq, x_last, x_value, x_node, x_inc, x_count, x_hops, x_path, x_todo⟩ := a; have := w_cast_Visit (Config.mk c_nodes c_topics c_kids c_depth c_keep c_window c_queue) self (Node.mk n_up n_inc n_peers n_topics n_calls n_pubs n_asks n_marks n_taken) (Msg.mk x_kind x_frm x_fromInc x_to x_toInc x_topic x_epoch x_seq x_last x_value x_node x_inc x_count x_hops x_path x_todo) hg; rw [← ht] at this; exact this)
theorem e_law21_CastOnce : (compFn Tryz.prog [sg 8, sg 11, sg 13, sg 14, sg 15, sg 16, ⟨17, some 0, none, false⟩] h_law21_CastOnce 20 ⟨4, none, none, false⟩).map (fun t (ρ : Fns) (v0 v1 v2 v3 v4 v5 v6 v7 v8 v9 v10 v11 v12 v13 v14 v15 v16 v17 v18 v19 v20 v21 v22 v23 v24 v25 v26 v27 v28 v29 v30 v31 v32 : PV) (Q : List PV → Prop) => W ρ t [v0, v1, v2, v3, v4, v5, v6, v7, v8, v9, v10, v11, v12, v13, v14, v15, v16, v17, v18, v19, v20, v21, v22, v23, v24, v25, v26, v27, v28, v29, v30, v31, v32] [] Q) = some S_law21_CastOnce := by kernel_rfl
theorem ok_law21_CastOnce : SigOK Tryz.prog ⟨4, none, none, false⟩ (ρ 4) := by
  show PureOK _ _ f_law21_CastOnce
  unfold f_law21_CastOnce fnT
  exact PureOK.of_e (ρ := ρ) (Ctx.of hname hmix (List.forall_mem_cons.2 ⟨ok_law21_Heavy, List.forall_mem_cons.2 ⟨ok_law21_wakes, List.forall_mem_cons.2 ⟨ok_law06_Heavy, List.forall_mem_cons.2 ⟨ok_cast_Visit, List.forall_mem_cons.2 ⟨ok_bkeep_Node, List.forall_mem_cons.2 ⟨ok_bkeep_Ints, List.forall_mem_cons.2 ⟨ok_bkeep_TwinInts, List.forall_mem_nil _⟩⟩⟩⟩⟩⟩⟩)) (.inl (fun a p hp => by obtain ⟨_, _, _, _, _, _, _, _, _, _, _, _, _, _, _, _, _, _, _, _, _, _, _, _, _, _, _, _, _, _, _, _, _⟩ := a; simp only [F_law21_CastOnce, List.mem_cons, List.not_mem_nil, or_false] at hp; rcases hp with rfl <;> rfl)) (.inl rfl) e_law21_CastOnce (by intro t ht a hp hg; obtain ⟨c_nodes, c_topics, c_kids, c_depth, c_keep, c_window, c_queue, self, n_up, n_inc, n_peers, n_topics, n_calls, n_pubs, n_asks, n_marks, n_taken, x_kind, x_frm, x_fromInc, x_to, x_toInc, x_topic, x_epoch, x_seq, x_last, x_value, x_node, x_inc, x_count, x_hops, x_path, x_todo⟩ := a; have := w_law21_CastOnce (Config.mk c_nodes c_topics c_kids c_depth c_keep c_window c_queue) self (Node.mk n_up n_inc n_peers n_topics n_calls n_pubs n_asks n_marks n_taken) (Msg.mk x_kind x_frm x_fromInc x_to x_toInc x_topic x_epoch x_seq x_last x_value x_node x_inc x_count x_hops x_path x_todo) hg; rw [← ht] at this; exact this)
end Go.Xt
