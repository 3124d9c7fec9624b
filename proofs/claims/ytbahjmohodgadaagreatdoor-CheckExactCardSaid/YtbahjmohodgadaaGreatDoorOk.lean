/- Steps towards the statements of this seat; the conditions stand in each theorem. -/
import Derived.Test.YtbahjmohodgadaaGreatDoorRows
import Derived.Test.YtbahjmohodgadaaGreatDoorH
import Derived.Test.YtbahjmohodgadaaGreatDoorEr6
import Derived.Test.YtbahjmohodgadaaGreatDoorPartW17
/- Each function keeps its contract. -/
open Go.Proofs
set_option maxRecDepth 100000
set_option linter.unusedVariables false
set_option linter.unusedSimpArgs false
namespace Go.Xt
theorem hname : (Tryz.prog.funcs.toList.all fun fn => !(fn.name == "runtime.NumGoroutine")) = true := by kernel_rfl
theorem hmix : Tryz.prog.follows .mixedOrders = true := by kernel_rfl
theorem e_ring_Is : (compFn Tryz.prog [] h_ring_Is 20 ⟨108, none, none, false⟩).map (fun t (ρ : Fns) (v0 : PV) (Q : List PV → Prop) => W ρ t [v0] [] Q) = some S_ring_Is := by kernel_rfl
theorem ok_ring_Is : SigOK Tryz.prog ⟨108, none, none, false⟩ (ρ 108) := by
  show PureOK _ _ f_ring_Is
  unfold f_ring_Is fnT
  exact PureOK.of_e (ρ := ρ) (Ctx.of hname hmix (List.forall_mem_nil _)) (.inl (fun a p hp => by simp only [F_ring_Is, List.mem_cons, List.not_mem_nil, or_false] at hp; rcases hp with rfl <;> rfl)) (.inl rfl) e_ring_Is (by intro t ht n hp hg; have := w_ring_Is n; rw [← ht] at this; exact this)
theorem e_ring_Node : (compFn Tryz.prog [sg 108] h_ring_Node 20 ⟨166, none, none, false⟩).map (fun t (ρ : Fns) (v0 : PV) (Q : List PV → Prop) => W ρ t [v0] [] Q) = some S_ring_Node := by kernel_rfl
theorem ok_ring_Node : SigOK Tryz.prog ⟨166, none, none, false⟩ (ρ 166) := by
  show PureOK _ _ f_ring_Node
  unfold f_ring_Node fnT
  exact PureOK.of_e (ρ := ρ) (Ctx.of hname hmix (List.forall_mem_cons.2 ⟨ok_ring_Is, List.forall_mem_nil _⟩)) (.inl (fun a p hp => by simp only [F_ring_Node, List.mem_cons, List.not_mem_nil, or_false] at hp; rcases hp with rfl | rfl <;> rfl)) (.inl rfl) e_ring_Node (by intro t ht n hp hg; have := w_ring_Node n; rw [← ht] at this; exact this)
theorem e_ring_Topic : (compFn Tryz.prog [] h_ring_Topic 20 ⟨165, none, none, false⟩).map (fun t (ρ : Fns) (v0 : PV) (Q : List PV → Prop) => W ρ t [v0] [] Q) = some S_ring_Topic := by kernel_rfl
theorem ok_ring_Topic : SigOK Tryz.prog ⟨165, none, none, false⟩ (ρ 165) := by
  show PureOK _ _ f_ring_Topic
  unfold f_ring_Topic fnT
  exact PureOK.of_e (ρ := ρ) (Ctx.of hname hmix (List.forall_mem_nil _)) (.inl (fun a p hp => by simp only [F_ring_Topic, List.mem_cons, List.not_mem_nil, or_false] at hp; rcases hp with rfl | rfl <;> rfl)) (.inl rfl) e_ring_Topic (by intro t ht t hp hg; have := w_ring_Topic t; rw [← ht] at this; exact this)
theorem e_key_Far : (compFn Tryz.prog [] h_key_Far 20 ⟨167, none, none, false⟩).map (fun t (ρ : Fns) (v0 v1 : PV) (Q : List PV → Prop) => W ρ t [v0, v1] [] Q) = some S_key_Far := by kernel_rfl
theorem ok_key_Far : SigOK Tryz.prog ⟨167, none, none, false⟩ (ρ 167) := by
  show PureOK _ _ f_key_Far
  unfold f_key_Far fnT
  exact PureOK.of_e (ρ := ρ) (Ctx.of hname hmix (List.forall_mem_nil _)) (.inl (fun a p hp => by obtain ⟨_, _⟩ := a; simp only [F_key_Far, List.mem_cons, List.not_mem_nil, or_false] at hp; rcases hp with rfl <;> rfl)) (.inl rfl) e_key_Far (by intro t ht a hp hg; obtain ⟨k, n⟩ := a; have := w_key_Far k n hp; rw [← ht] at this; exact this)
theorem e_ref01_Node : (compFn Tryz.prog [] h_ref01_Node 20 ⟨158, none, none, false⟩).map (fun t (ρ : Fns) (v0 : PV) (Q : List PV → Prop) => W ρ t [v0] [] Q) = some S_ref01_Node := by kernel_rfl
theorem ok_ref01_Node : SigOK Tryz.prog ⟨158, none, none, false⟩ (ρ 158) := by
  show PureOK _ _ f_ref01_Node
  unfold f_ref01_Node fnT
  exact PureOK.of_e (ρ := ρ) (Ctx.of hname hmix (List.forall_mem_nil _)) (.inl (fun a p hp => by simp only [F_ref01_Node, List.mem_cons, List.not_mem_nil, or_false] at hp; rcases hp with rfl <;> rfl)) (.inl rfl) e_ref01_Node (by intro t ht n hp hg; have := w_ref01_Node n hp; rw [← ht] at this; exact this)
theorem e_ref01_Topic : (compFn Tryz.prog [] h_ref01_Topic 20 ⟨157, none, none, false⟩).map (fun t (ρ : Fns) (v0 : PV) (Q : List PV → Prop) => W ρ t [v0] [] Q) = some S_ref01_Topic := by kernel_rfl
theorem ok_ref01_Topic : SigOK Tryz.prog ⟨157, none, none, false⟩ (ρ 157) := by
  show PureOK _ _ f_ref01_Topic
  unfold f_ref01_Topic fnT
  exact PureOK.of_e (ρ := ρ) (Ctx.of hname hmix (List.forall_mem_nil _)) (.inl (fun a p hp => by simp only [F_ref01_Topic, List.mem_cons, List.not_mem_nil, or_false] at hp; rcases hp with rfl <;> rfl)) (.inl rfl) e_ref01_Topic (by intro t ht t hp hg; have := w_ref01_Topic t hp; rw [← ht] at this; exact this)
theorem e_ref01_Behind : (compFn Tryz.prog [] h_ref01_Behind 20 ⟨156, none, none, false⟩).map (fun t (ρ : Fns) (v0 v1 : PV) (Q : List PV → Prop) => W ρ t [v0, v1] [] Q) = some S_ref01_Behind := by kernel_rfl
theorem ok_ref01_Behind : SigOK Tryz.prog ⟨156, none, none, false⟩ (ρ 156) := by
  show PureOK _ _ f_ref01_Behind
  unfold f_ref01_Behind fnT
  exact PureOK.of_e (ρ := ρ) (Ctx.of hname hmix (List.forall_mem_nil _)) (.inl (fun a p hp => by obtain ⟨_, _⟩ := a; simp only [F_ref01_Behind, List.mem_cons, List.not_mem_nil, or_false] at hp; rcases hp with rfl <;> rfl)) (.inl rfl) e_ref01_Behind (by intro t ht a hp hg; obtain ⟨k, n⟩ := a; have := w_ref01_Behind k n hp; rw [← ht] at this; exact this)
theorem e_ring_Gap : (compFn Tryz.prog [sg 165, sg 166, sg 167] h_ring_Gap 20 ⟨160, none, none, false⟩).map (fun t (ρ : Fns) (v0 v1 : PV) (Q : List PV → Prop) => W ρ t [v0, v1] [] Q) = some S_ring_Gap := by kernel_rfl
theorem ok_ring_Gap : SigOK Tryz.prog ⟨160, none, none, false⟩ (ρ 160) := by
  show PureOK _ _ f_ring_Gap
  unfold f_ring_Gap fnT
  exact PureOK.of_e (ρ := ρ) (Ctx.of hname hmix (List.forall_mem_cons.2 ⟨ok_ring_Topic, List.forall_mem_cons.2 ⟨ok_ring_Node, List.forall_mem_cons.2 ⟨ok_key_Far, List.forall_mem_nil _⟩⟩⟩)) (.inl (fun a p hp => by obtain ⟨_, _⟩ := a; simp only [F_ring_Gap, List.mem_cons, List.not_mem_nil, or_false] at hp; rcases hp with rfl | rfl <;> rfl)) (.inl rfl) e_ring_Gap (by intro t ht a hp hg; obtain ⟨t, n⟩ := a; have := w_ring_Gap t n; rw [← ht] at this; exact this)
theorem e_ring_Nearer : (compFn Tryz.prog [sg 160] h_ring_Nearer 20 ⟨159, none, none, false⟩).map (fun t (ρ : Fns) (v0 v1 v2 : PV) (Q : List PV → Prop) => W ρ t [v0, v1, v2] [] Q) = some S_ring_Nearer := by kernel_rfl
theorem ok_ring_Nearer : SigOK Tryz.prog ⟨159, none, none, false⟩ (ρ 159) := by
  show PureOK _ _ f_ring_Nearer
  unfold f_ring_Nearer fnT
  exact PureOK.of_e (ρ := ρ) (Ctx.of hname hmix (List.forall_mem_cons.2 ⟨ok_ring_Gap, List.forall_mem_nil _⟩)) (.inl (fun a p hp => by obtain ⟨_, _, _⟩ := a; simp only [F_ring_Nearer, List.mem_cons, List.not_mem_nil, or_false] at hp; rcases hp with rfl <;> rfl)) (.inl rfl) e_ring_Nearer (by intro t ht a hp hg; obtain ⟨t, a, b⟩ := a; have := w_ring_Nearer t a b; rw [← ht] at this; exact this)
theorem e_ref01_In : (compFn Tryz.prog [] h_ref01_In 20 ⟨37, none, none, false⟩).map (fun t (ρ : Fns) (v0 v1 v2 : PV) (Q : List PV → Prop) => W ρ t [v0, v1, v2] [] Q) = some S_ref01_In := by kernel_rfl
theorem ok_ref01_In : SigOK Tryz.prog ⟨37, none, none, false⟩ (ρ 37) := by
  show PureOK _ _ f_ref01_In
  unfold f_ref01_In fnT
  exact PureOK.of_e (ρ := ρ) (Ctx.of hname hmix (List.forall_mem_nil _)) (.inl (fun a p hp => by obtain ⟨_, _, _⟩ := a; simp only [F_ref01_In, List.mem_cons, List.not_mem_nil, or_false] at hp; rcases hp with rfl <;> rfl)) (.inl rfl) e_ref01_In (by intro t ht a hp hg; obtain ⟨n, lo, hi⟩ := a; have := w_ref01_In n lo hi; rw [← ht] at this; exact this)
theorem e_ref01_IsTopic : (compFn Tryz.prog [sg 37] h_ref01_IsTopic 20 ⟨127, none, none, false⟩).map (fun t (ρ : Fns) (v0 : PV) (Q : List PV → Prop) => W ρ t [v0] [] Q) = some S_ref01_IsTopic := by kernel_rfl
theorem ok_ref01_IsTopic : SigOK Tryz.prog ⟨127, none, none, false⟩ (ρ 127) := by
  show PureOK _ _ f_ref01_IsTopic
  unfold f_ref01_IsTopic fnT
  exact PureOK.of_e (ρ := ρ) (Ctx.of hname hmix (List.forall_mem_cons.2 ⟨ok_ref01_In, List.forall_mem_nil _⟩)) (.inl (fun a p hp => by simp only [F_ref01_IsTopic, List.mem_cons, List.not_mem_nil, or_false] at hp; rcases hp with rfl <;> rfl)) (.inl rfl) e_ref01_IsTopic (by intro t ht t hp hg; have := w_ref01_IsTopic t; rw [← ht] at this; exact this)
theorem e_ref01_IsNode : (compFn Tryz.prog [sg 37] h_ref01_IsNode 20 ⟨43, none, none, false⟩).map (fun t (ρ : Fns) (v0 : PV) (Q : List PV → Prop) => W ρ t [v0] [] Q) = some S_ref01_IsNode := by kernel_rfl
theorem ok_ref01_IsNode : SigOK Tryz.prog ⟨43, none, none, false⟩ (ρ 43) := by
  show PureOK _ _ f_ref01_IsNode
  unfold f_ref01_IsNode fnT
  exact PureOK.of_e (ρ := ρ) (Ctx.of hname hmix (List.forall_mem_cons.2 ⟨ok_ref01_In, List.forall_mem_nil _⟩)) (.inl (fun a p hp => by simp only [F_ref01_IsNode, List.mem_cons, List.not_mem_nil, or_false] at hp; rcases hp with rfl <;> rfl)) (.inl rfl) e_ref01_IsNode (by intro t ht n hp hg; have := w_ref01_IsNode n; rw [← ht] at this; exact this)
theorem e_ref01_Gap : (compFn Tryz.prog [sg 156, sg 157, sg 158] h_ref01_Gap 20 ⟨143, none, none, false⟩).map (fun t (ρ : Fns) (v0 v1 : PV) (Q : List PV → Prop) => W ρ t [v0, v1] [] Q) = some S_ref01_Gap := by kernel_rfl
theorem ok_ref01_Gap : SigOK Tryz.prog ⟨143, none, none, false⟩ (ρ 143) := by
  show PureOK _ _ f_ref01_Gap
  unfold f_ref01_Gap fnT
  exact PureOK.of_e (ρ := ρ) (Ctx.of hname hmix (List.forall_mem_cons.2 ⟨ok_ref01_Behind, List.forall_mem_cons.2 ⟨ok_ref01_Topic, List.forall_mem_cons.2 ⟨ok_ref01_Node, List.forall_mem_nil _⟩⟩⟩)) (.inl (fun a p hp => by obtain ⟨_, _⟩ := a; simp only [F_ref01_Gap, List.mem_cons, List.not_mem_nil, or_false] at hp; rcases hp with rfl <;> rfl)) (.inl rfl) e_ref01_Gap (by intro t ht a hp hg; obtain ⟨t, n⟩ := a; have := w_ref01_Gap t n hp; rw [← ht] at this; exact this)
theorem e_ref01_Nearer : (compFn Tryz.prog [sg 43, sg 127, sg 143] h_ref01_Nearer 20 ⟨126, none, none, false⟩).map (fun t (ρ : Fns) (v0 v1 v2 : PV) (Q : List PV → Prop) => W ρ t [v0, v1, v2] [] Q) = some S_ref01_Nearer := by kernel_rfl
theorem ok_ref01_Nearer : SigOK Tryz.prog ⟨126, none, none, false⟩ (ρ 126) := by
  show PureOK _ _ f_ref01_Nearer
  unfold f_ref01_Nearer fnT
  exact PureOK.of_e (ρ := ρ) (Ctx.of hname hmix (List.forall_mem_cons.2 ⟨ok_ref01_IsNode, List.forall_mem_cons.2 ⟨ok_ref01_IsTopic, List.forall_mem_cons.2 ⟨ok_ref01_Gap, List.forall_mem_nil _⟩⟩⟩)) (.inl (fun a p hp => by obtain ⟨_, _, _⟩ := a; simp only [F_ref01_Nearer, List.mem_cons, List.not_mem_nil, or_false] at hp; rcases hp with rfl <;> rfl)) (.inl rfl) e_ref01_Nearer (by intro t ht a hp hg; obtain ⟨t, a, b⟩ := a; have := w_ref01_Nearer t a b; rw [← ht] at this; exact this)
theorem e_ring_All : (compFn Tryz.prog [sg 108] h_ring_All 20 ⟨76, none, none, false⟩).map (fun t (ρ : Fns) (v0 : PV) (Q : List PV → Prop) => W ρ t [v0] [] Q) = some S_ring_All := by kernel_rfl
theorem ok_ring_All : SigOK Tryz.prog ⟨76, none, none, false⟩ (ρ 76) := by
  show PureOK _ _ f_ring_All
  unfold f_ring_All fnT
  exact PureOK.of_e (ρ := ρ) (Ctx.of hname hmix (List.forall_mem_cons.2 ⟨ok_ring_Is, List.forall_mem_nil _⟩)) (.inl (fun a p hp => by simp only [F_ring_All, List.mem_cons, List.not_mem_nil, or_false] at hp; rcases hp with rfl <;> rfl)) (.inl rfl) e_ring_All (by intro t ht l hp hg; have := w_ring_All l hg; rw [← ht] at this; exact this)
theorem e_path_rises : (compFn Tryz.prog [sg 159] h_path_rises 20 ⟨161, none, none, false⟩).map (fun t (ρ : Fns) (v0 v1 v2 : PV) (Q : List PV → Prop) => W ρ t [v0, v1, v2] [] Q) = some S_path_rises := by kernel_rfl
theorem ok_path_rises : SigOK Tryz.prog ⟨161, none, none, false⟩ (ρ 161) := by
  show PureOK _ _ f_path_rises
  unfold f_path_rises fnT
  exact PureOK.of_e (ρ := ρ) (Ctx.of hname hmix (List.forall_mem_cons.2 ⟨ok_ring_Nearer, List.forall_mem_nil _⟩)) (.inl (fun a p hp => by obtain ⟨_, _, _⟩ := a; simp only [F_path_rises, List.mem_cons, List.not_mem_nil, or_false] at hp; rcases hp with rfl <;> rfl)) (.inl rfl) e_path_rises (by intro t ht a hp hg; obtain ⟨t, self, l⟩ := a; have := w_path_rises t self l hg; rw [← ht] at this; exact this)
theorem e_path_Check : (compFn Tryz.prog [sg 76, sg 160, sg 161] h_path_Check 20 ⟨153, none, none, false⟩).map (fun t (ρ : Fns) (v0 v1 v2 v3 : PV) (Q : List PV → Prop) => W ρ t [v0, v1, v2, v3] [] Q) = some S_path_Check := by kernel_rfl
theorem ok_path_Check : SigOK Tryz.prog ⟨153, none, none, false⟩ (ρ 153) := by
  show PureOK _ _ f_path_Check
  unfold f_path_Check fnT
  exact PureOK.of_e (ρ := ρ) (Ctx.of hname hmix (List.forall_mem_cons.2 ⟨ok_ring_All, List.forall_mem_cons.2 ⟨ok_ring_Gap, List.forall_mem_cons.2 ⟨ok_path_rises, List.forall_mem_nil _⟩⟩⟩)) (.inl (fun a p hp => by obtain ⟨_, _, _, _⟩ := a; simp only [F_path_Check, List.mem_cons, List.not_mem_nil, or_false] at hp; rcases hp with rfl <;> rfl)) (.inl rfl) e_path_Check (by intro t ht a hp hg; obtain ⟨t, self, l, depth⟩ := a; have := w_path_Check t self l depth hg; rw [← ht] at this; exact this)
theorem e_path_parent : (compFn Tryz.prog [] h_path_parent 20 ⟨77, none, none, false⟩).map (fun t (ρ : Fns) (v0 v1 : PV) (Q : List PV → Prop) => W ρ t [v0, v1] [] Q) = some S_path_parent := by kernel_rfl
theorem ok_path_parent : SigOK Tryz.prog ⟨77, none, none, false⟩ (ρ 77) := by
  show PureOK _ _ f_path_parent
  unfold f_path_parent fnT
  exact PureOK.of_e (ρ := ρ) (Ctx.of hname hmix (List.forall_mem_nil _)) (.inl (fun a p hp => by obtain ⟨_, _⟩ := a; simp only [F_path_parent, List.mem_cons, List.not_mem_nil, or_false] at hp; rcases hp with rfl <;> rfl)) (.inl rfl) e_path_parent (by intro t ht a hp hg; obtain ⟨paths, n⟩ := a; have := w_path_parent paths n hp; rw [← ht] at this; exact this)
theorem e_path_Whole : (compFn Tryz.prog [sg 76, sg 77] h_path_Whole 20 ⟨48, none, none, false⟩).map (fun t (ρ : Fns) (v0 v1 : PV) (Q : List PV → Prop) => W ρ t [v0, v1] [] Q) = some S_path_Whole := by kernel_rfl
theorem ok_path_Whole : SigOK Tryz.prog ⟨48, none, none, false⟩ (ρ 48) := by
  show PureOK _ _ f_path_Whole
  unfold f_path_Whole fnT
  exact PureOK.of_e (ρ := ρ) (Ctx.of hname hmix (List.forall_mem_cons.2 ⟨ok_ring_All, List.forall_mem_cons.2 ⟨ok_path_parent, List.forall_mem_nil _⟩⟩)) (.inl (fun a p hp => by obtain ⟨_, _⟩ := a; simp only [F_path_Whole, List.mem_cons, List.not_mem_nil, or_false] at hp; rcases hp with rfl <;> rfl)) (.inl rfl) e_path_Whole (by intro t ht a hp hg; obtain ⟨t, paths⟩ := a; have := w_path_Whole t paths hg; rw [← ht] at this; exact this)
theorem e_bkeep_TwinInts : (compFn Tryz.prog [] h_bkeep_TwinInts 20 ⟨70, some 0, none, false⟩).map (fun t (ρ : Fns) (v0 : PV) (Q : List PV → Prop) => W ρ t [v0] [] Q) = some S_bkeep_TwinInts := by kernel_rfl
theorem ok_bkeep_TwinInts : SigOK Tryz.prog ⟨70, some 0, none, false⟩ (ρ 70) := by
  show PureOK _ _ f_bkeep_TwinInts
  unfold f_bkeep_TwinInts fnT
  exact PureOK.of_e (ρ := ρ) (Ctx.of hname hmix (List.forall_mem_nil _)) (.inr (by kernel_rfl)) (.inl rfl) e_bkeep_TwinInts (by intro t ht l hp hg; have := w_bkeep_TwinInts l hp; rw [← ht] at this; exact this)
theorem e_bkeep_Ints : (compFn Tryz.prog [] h_bkeep_Ints 20 ⟨17, none, none, false⟩).map (fun t (ρ : Fns) (v0 v1 : PV) (Q : List PV → Prop) => W ρ t [v0, v1] [] Q) = some S_bkeep_Ints := by kernel_rfl
theorem ok_bkeep_Ints : SigOK Tryz.prog ⟨17, none, none, false⟩ (ρ 17) := by
  show PureOK _ _ f_bkeep_Ints
  unfold f_bkeep_Ints fnT
  exact PureOK.of_e (ρ := ρ) (Ctx.of hname hmix (List.forall_mem_nil _)) (.inl (fun a p hp => by obtain ⟨_, _⟩ := a; simp only [F_bkeep_Ints, List.mem_cons, List.not_mem_nil, or_false] at hp; rcases hp with rfl <;> rfl)) (.inl rfl) e_bkeep_Ints (by intro t ht a hp hg; obtain ⟨a, b⟩ := a; have := w_bkeep_Ints a b hg; rw [← ht] at this; exact this)
theorem e_ref10_Path : (compFn Tryz.prog [sg 43, sg 126] h_ref10_Path 20 ⟨101, none, none, false⟩).map (fun t (ρ : Fns) (v0 v1 v2 v3 : PV) (Q : List PV → Prop) => W ρ t [v0, v1, v2, v3] [] Q) = some S_ref10_Path := by kernel_rfl
theorem ok_ref10_Path : SigOK Tryz.prog ⟨101, none, none, false⟩ (ρ 101) := by
  show PureOK _ _ f_ref10_Path
  unfold f_ref10_Path fnT
  exact PureOK.of_e (ρ := ρ) (Ctx.of hname hmix (List.forall_mem_cons.2 ⟨ok_ref01_IsNode, List.forall_mem_cons.2 ⟨ok_ref01_Nearer, List.forall_mem_nil _⟩⟩)) (.inl (fun a p hp => by obtain ⟨_, _, _, _⟩ := a; simp only [F_ref10_Path, List.mem_cons, List.not_mem_nil, or_false] at hp; rcases hp with rfl <;> rfl)) (.inl rfl) e_ref10_Path (by intro t ht a hp hg; obtain ⟨t, self, l, depth⟩ := a; have := w_ref10_Path t self l depth hp hg; rw [← ht] at this; exact this)
theorem e_ref10_Whole : (compFn Tryz.prog [sg 43] h_ref10_Whole 20 ⟨18, none, none, false⟩).map (fun t (ρ : Fns) (v0 : PV) (Q : List PV → Prop) => W ρ t [v0] [] Q) = some S_ref10_Whole := by kernel_rfl
theorem ok_ref10_Whole : SigOK Tryz.prog ⟨18, none, none, false⟩ (ρ 18) := by
  show PureOK _ _ f_ref10_Whole
  unfold f_ref10_Whole fnT
  exact PureOK.of_e (ρ := ρ) (Ctx.of hname hmix (List.forall_mem_cons.2 ⟨ok_ref01_IsNode, List.forall_mem_nil _⟩)) (.inl (fun a p hp => by simp only [F_ref10_Whole, List.mem_cons, List.not_mem_nil, or_false] at hp; rcases hp with rfl <;> rfl)) (.inl rfl) e_ref10_Whole (by intro t ht paths hp hg; have := w_ref10_Whole paths hp hg; rw [← ht] at this; exact this)
theorem e_script_config : (compFn Tryz.prog [sg 111, sg 112] h_script_config 20 ⟨79, none, none, false⟩).map (fun t (ρ : Fns) (v0 v1 v2 v3 v4 v5 v6 : PV) (Q : List PV → Prop) => W ρ t [v0, v1, v2, v3, v4, v5, v6] [] Q) = some S_script_config := by kernel_rfl
theorem ok_script_config : SigOK Tryz.prog ⟨79, none, none, false⟩ (ρ 79) := by
  show PureOK _ _ f_script_config
  unfold f_script_config fnT
  exact PureOK.of_e (ρ := ρ) (Ctx.of hname hmix (List.forall_mem_cons.2 ⟨ok_errors_Join, List.forall_mem_cons.2 ⟨ok_script_field, List.forall_mem_nil _⟩⟩)) (.inr (by kernel_rfl)) (.inl rfl) e_script_config (by intro t ht a hp hg; obtain ⟨c_nodes, c_topics, c_kids, c_depth, c_keep, c_window, c_queue⟩ := a; have := w_script_config (Config.mk c_nodes c_topics c_kids c_depth c_keep c_window c_queue); rw [← ht] at this; exact this)
theorem e_script_Config : (compFn Tryz.prog [sg 78, sg 79] h_script_Config 20 ⟨49, none, none, false⟩).map (fun t (ρ : Fns) (v0 v1 v2 v3 v4 v5 v6 : PV) (Q : List PV → Prop) => W ρ t [v0, v1, v2, v3, v4, v5, v6] [] Q) = some S_script_Config := by kernel_rfl
theorem ok_script_Config : SigOK Tryz.prog ⟨49, none, none, false⟩ (ρ 49) := by
  show PureOK _ _ f_script_Config
  unfold f_script_Config fnT
  exact PureOK.of_e (ρ := ρ) (Ctx.of hname hmix (List.forall_mem_cons.2 ⟨ok_script_errno, List.forall_mem_cons.2 ⟨ok_script_config, List.forall_mem_nil _⟩⟩)) (.inl (fun a p hp => by obtain ⟨_, _, _, _, _, _, _⟩ := a; simp only [F_script_Config, List.mem_cons, List.not_mem_nil, or_false] at hp; rcases hp with rfl <;> rfl)) (.inl rfl) e_script_Config (by intro t ht a hp hg; obtain ⟨c_nodes, c_topics, c_kids, c_depth, c_keep, c_window, c_queue⟩ := a; have := w_script_Config (Config.mk c_nodes c_topics c_kids c_depth c_keep c_window c_queue); rw [← ht] at this; exact this)
theorem e_ref01_Config : (compFn Tryz.prog [sg 37] h_ref01_Config 20 ⟨13, none, none, false⟩).map (fun t (ρ : Fns) (v0 v1 v2 v3 v4 v5 v6 : PV) (Q : List PV → Prop) => W ρ t [v0, v1, v2, v3, v4, v5, v6] [] Q) = some S_ref01_Config := by kernel_rfl
theorem ok_ref01_Config : SigOK Tryz.prog ⟨13, none, none, false⟩ (ρ 13) := by
  show PureOK _ _ f_ref01_Config
  unfold f_ref01_Config fnT
  exact PureOK.of_e (ρ := ρ) (Ctx.of hname hmix (List.forall_mem_cons.2 ⟨ok_ref01_In, List.forall_mem_nil _⟩)) (.inl (fun a p hp => by obtain ⟨_, _, _, _, _, _, _⟩ := a; simp only [F_ref01_Config, List.mem_cons, List.not_mem_nil, or_false] at hp; rcases hp with rfl <;> rfl)) (.inl rfl) e_ref01_Config (by intro t ht a hp hg; obtain ⟨c_nodes, c_topics, c_kids, c_depth, c_keep, c_window, c_queue⟩ := a; have := w_ref01_Config (Config.mk c_nodes c_topics c_kids c_depth c_keep c_window c_queue); rw [← ht] at this; exact this)
theorem e_epoch_Check : (compFn Tryz.prog [sg 108] h_epoch_Check 20 ⟨92, none, none, false⟩).map (fun t (ρ : Fns) (v0 : PV) (Q : List PV → Prop) => W ρ t [v0] [] Q) = some S_epoch_Check := by kernel_rfl
theorem ok_epoch_Check : SigOK Tryz.prog ⟨92, none, none, false⟩ (ρ 92) := by
  show PureOK _ _ f_epoch_Check
  unfold f_epoch_Check fnT
  exact PureOK.of_e (ρ := ρ) (Ctx.of hname hmix (List.forall_mem_cons.2 ⟨ok_ring_Is, List.forall_mem_nil _⟩)) (.inl (fun a p hp => by simp only [F_epoch_Check, List.mem_cons, List.not_mem_nil, or_false] at hp; rcases hp with rfl <;> rfl)) (.inl rfl) e_epoch_Check (by intro t ht e hp hg; have := w_epoch_Check e; rw [← ht] at this; exact this)
theorem e_epoch_Who : (compFn Tryz.prog [sg 92] h_epoch_Who 20 ⟨55, none, none, false⟩).map (fun t (ρ : Fns) (v0 : PV) (Q : List PV → Prop) => W ρ t [v0] [] Q) = some S_epoch_Who := by kernel_rfl
theorem ok_epoch_Who : SigOK Tryz.prog ⟨55, none, none, false⟩ (ρ 55) := by
  show PureOK _ _ f_epoch_Who
  unfold f_epoch_Who fnT
  exact PureOK.of_e (ρ := ρ) (Ctx.of hname hmix (List.forall_mem_cons.2 ⟨ok_epoch_Check, List.forall_mem_nil _⟩)) (.inl (fun a p hp => by simp only [F_epoch_Who, List.mem_cons, List.not_mem_nil, or_false] at hp; rcases hp with rfl | rfl <;> rfl)) (.inl rfl) e_epoch_Who (by intro t ht e hp hg; have := w_epoch_Who e; rw [← ht] at this; exact this)
theorem e_msg_in : (compFn Tryz.prog [] h_msg_in 20 ⟨124, none, none, false⟩).map (fun t (ρ : Fns) (v0 v1 v2 : PV) (Q : List PV → Prop) => W ρ t [v0, v1, v2] [] Q) = some S_msg_in := by kernel_rfl
theorem ok_msg_in : SigOK Tryz.prog ⟨124, none, none, false⟩ (ρ 124) := by
  show PureOK _ _ f_msg_in
  unfold f_msg_in fnT
  exact PureOK.of_e (ρ := ρ) (Ctx.of hname hmix (List.forall_mem_nil _)) (.inl (fun a p hp => by obtain ⟨_, _, _⟩ := a; simp only [F_msg_in, List.mem_cons, List.not_mem_nil, or_false] at hp; rcases hp with rfl <;> rfl)) (.inl rfl) e_msg_in (by intro t ht a hp hg; obtain ⟨n, lo, hi⟩ := a; have := w_msg_in n lo hi; rw [← ht] at this; exact this)
theorem e_msg_Counted : (compFn Tryz.prog [sg 124] h_msg_Counted 20 ⟨91, none, none, false⟩).map (fun t (ρ : Fns) (v0 : PV) (Q : List PV → Prop) => W ρ t [v0] [] Q) = some S_msg_Counted := by kernel_rfl
theorem ok_msg_Counted : SigOK Tryz.prog ⟨91, none, none, false⟩ (ρ 91) := by
  show PureOK _ _ f_msg_Counted
  unfold f_msg_Counted fnT
  exact PureOK.of_e (ρ := ρ) (Ctx.of hname hmix (List.forall_mem_cons.2 ⟨ok_msg_in, List.forall_mem_nil _⟩)) (.inl (fun a p hp => by simp only [F_msg_Counted, List.mem_cons, List.not_mem_nil, or_false] at hp; rcases hp with rfl <;> rfl)) (.inl rfl) e_msg_Counted (by intro t ht n hp hg; have := w_msg_Counted n; rw [← ht] at this; exact this)
theorem e_msg_Value : (compFn Tryz.prog [sg 124] h_msg_Value 20 ⟨142, none, none, false⟩).map (fun t (ρ : Fns) (v0 : PV) (Q : List PV → Prop) => W ρ t [v0] [] Q) = some S_msg_Value := by kernel_rfl
theorem ok_msg_Value : SigOK Tryz.prog ⟨142, none, none, false⟩ (ρ 142) := by
  show PureOK _ _ f_msg_Value
  unfold f_msg_Value fnT
  exact PureOK.of_e (ρ := ρ) (Ctx.of hname hmix (List.forall_mem_cons.2 ⟨ok_msg_in, List.forall_mem_nil _⟩)) (.inl (fun a p hp => by simp only [F_msg_Value, List.mem_cons, List.not_mem_nil, or_false] at hp; rcases hp with rfl <;> rfl)) (.inl rfl) e_msg_Value (by intro t ht n hp hg; have := w_msg_Value n; rw [← ht] at this; exact this)
theorem e_cast_in : (compFn Tryz.prog [] h_cast_in 20 ⟨83, none, none, false⟩).map (fun t (ρ : Fns) (v0 v1 v2 : PV) (Q : List PV → Prop) => W ρ t [v0, v1, v2] [] Q) = some S_cast_in := by kernel_rfl
theorem ok_cast_in : SigOK Tryz.prog ⟨83, none, none, false⟩ (ρ 83) := by
  show PureOK _ _ f_cast_in
  unfold f_cast_in fnT
  exact PureOK.of_e (ρ := ρ) (Ctx.of hname hmix (List.forall_mem_nil _)) (.inl (fun a p hp => by obtain ⟨_, _, _⟩ := a; simp only [F_cast_in, List.mem_cons, List.not_mem_nil, or_false] at hp; rcases hp with rfl <;> rfl)) (.inl rfl) e_cast_in (by intro t ht a hp hg; obtain ⟨n, lo, hi⟩ := a; have := w_cast_in n lo hi; rw [← ht] at this; exact this)
theorem e_ref19_in : (compFn Tryz.prog [] h_ref19_in 20 ⟨62, none, none, false⟩).map (fun t (ρ : Fns) (v0 v1 v2 : PV) (Q : List PV → Prop) => W ρ t [v0, v1, v2] [] Q) = some S_ref19_in := by kernel_rfl
theorem ok_ref19_in : SigOK Tryz.prog ⟨62, none, none, false⟩ (ρ 62) := by
  show PureOK _ _ f_ref19_in
  unfold f_ref19_in fnT
  exact PureOK.of_e (ρ := ρ) (Ctx.of hname hmix (List.forall_mem_nil _)) (.inl (fun a p hp => by obtain ⟨_, _, _⟩ := a; simp only [F_ref19_in, List.mem_cons, List.not_mem_nil, or_false] at hp; rcases hp with rfl <;> rfl)) (.inl rfl) e_ref19_in (by intro t ht a hp hg; obtain ⟨n, lo, hi⟩ := a; have := w_ref19_in n lo hi; rw [← ht] at this; exact this)
theorem e_ref10_in : (compFn Tryz.prog [] h_ref10_in 20 ⟨98, none, none, false⟩).map (fun t (ρ : Fns) (v0 v1 v2 : PV) (Q : List PV → Prop) => W ρ t [v0, v1, v2] [] Q) = some S_ref10_in := by kernel_rfl
theorem ok_ref10_in : SigOK Tryz.prog ⟨98, none, none, false⟩ (ρ 98) := by
  show PureOK _ _ f_ref10_in
  unfold f_ref10_in fnT
  exact PureOK.of_e (ρ := ρ) (Ctx.of hname hmix (List.forall_mem_nil _)) (.inl (fun a p hp => by obtain ⟨_, _, _⟩ := a; simp only [F_ref10_in, List.mem_cons, List.not_mem_nil, or_false] at hp; rcases hp with rfl <;> rfl)) (.inl rfl) e_ref10_in (by intro t ht a hp hg; obtain ⟨n, lo, hi⟩ := a; have := w_ref10_in n lo hi; rw [← ht] at this; exact this)
theorem e_ref01_Value : (compFn Tryz.prog [sg 37] h_ref01_Value 20 ⟨65, none, none, false⟩).map (fun t (ρ : Fns) (v0 : PV) (Q : List PV → Prop) => W ρ t [v0] [] Q) = some S_ref01_Value := by kernel_rfl
theorem ok_ref01_Value : SigOK Tryz.prog ⟨65, none, none, false⟩ (ρ 65) := by
  show PureOK _ _ f_ref01_Value
  unfold f_ref01_Value fnT
  exact PureOK.of_e (ρ := ρ) (Ctx.of hname hmix (List.forall_mem_cons.2 ⟨ok_ref01_In, List.forall_mem_nil _⟩)) (.inl (fun a p hp => by simp only [F_ref01_Value, List.mem_cons, List.not_mem_nil, or_false] at hp; rcases hp with rfl <;> rfl)) (.inl rfl) e_ref01_Value (by intro t ht n hp hg; have := w_ref01_Value n; rw [← ht] at this; exact this)
theorem e_ref10_count : (compFn Tryz.prog [sg 98] h_ref10_count 20 ⟨144, none, none, false⟩).map (fun t (ρ : Fns) (v0 : PV) (Q : List PV → Prop) => W ρ t [v0] [] Q) = some S_ref10_count := by kernel_rfl
theorem ok_ref10_count : SigOK Tryz.prog ⟨144, none, none, false⟩ (ρ 144) := by
  show PureOK _ _ f_ref10_count
  unfold f_ref10_count fnT
  exact PureOK.of_e (ρ := ρ) (Ctx.of hname hmix (List.forall_mem_cons.2 ⟨ok_ref10_in, List.forall_mem_nil _⟩)) (.inl (fun a p hp => by simp only [F_ref10_count, List.mem_cons, List.not_mem_nil, or_false] at hp; rcases hp with rfl <;> rfl)) (.inl rfl) e_ref10_count (by intro t ht n hp hg; have := w_ref10_count n; rw [← ht] at this; exact this)
theorem e_ref10_Epoch : (compFn Tryz.prog [sg 98] h_ref10_Epoch 20 ⟨99, none, none, false⟩).map (fun t (ρ : Fns) (v0 : PV) (Q : List PV → Prop) => W ρ t [v0] [] Q) = some S_ref10_Epoch := by kernel_rfl
theorem ok_ref10_Epoch : SigOK Tryz.prog ⟨99, none, none, false⟩ (ρ 99) := by
  show PureOK _ _ f_ref10_Epoch
  unfold f_ref10_Epoch fnT
  exact PureOK.of_e (ρ := ρ) (Ctx.of hname hmix (List.forall_mem_cons.2 ⟨ok_ref10_in, List.forall_mem_nil _⟩)) (.inl (fun a p hp => by simp only [F_ref10_Epoch, List.mem_cons, List.not_mem_nil, or_false] at hp; rcases hp with rfl <;> rfl)) (.inl rfl) e_ref10_Epoch (by intro t ht e hp hg; have := w_ref10_Epoch e; rw [← ht] at this; exact this)
theorem e_view_right : (compFn Tryz.prog [] h_view_right 20 ⟨140, none, none, false⟩).map (fun t (ρ : Fns) (v0 v1 : PV) (Q : List PV → Prop) => W ρ t [v0, v1] [] Q) = some S_view_right := by kernel_rfl
theorem ok_view_right : SigOK Tryz.prog ⟨140, none, none, false⟩ (ρ 140) := by
  show PureOK _ _ f_view_right
  unfold f_view_right fnT
  exact PureOK.of_e (ρ := ρ) (Ctx.of hname hmix (List.forall_mem_nil _)) (.inl (fun a p hp => by obtain ⟨_, _⟩ := a; simp only [F_view_right, List.mem_cons, List.not_mem_nil, or_false] at hp; rcases hp with rfl <;> rfl)) (.inl rfl) e_view_right (by intro t ht a hp hg; obtain ⟨p_inc, p_age⟩ := a; have := w_view_right (Peer.mk p_inc p_age); rw [← ht] at this; exact this)
theorem e_view_Check : (compFn Tryz.prog [sg 140] h_view_Check 20 ⟨118, none, none, false⟩).map (fun t (ρ : Fns) (v0 : PV) (Q : List PV → Prop) => W ρ t [v0] [] Q) = some S_view_Check := by kernel_rfl
theorem ok_view_Check : SigOK Tryz.prog ⟨118, none, none, false⟩ (ρ 118) := by
  show PureOK _ _ f_view_Check
  unfold f_view_Check fnT
  exact PureOK.of_e (ρ := ρ) (Ctx.of hname hmix (List.forall_mem_cons.2 ⟨ok_view_right, List.forall_mem_nil _⟩)) (.inl (fun a p hp => by simp only [F_view_Check, List.mem_cons, List.not_mem_nil, or_false] at hp; rcases hp with rfl <;> rfl)) (.inl rfl) e_view_Check (by intro t ht l hp hg; have := w_view_Check l hg; rw [← ht] at this; exact this)
theorem e_ref10_Peers : (compFn Tryz.prog [sg 98] h_ref10_Peers 20 ⟨63, none, none, false⟩).map (fun t (ρ : Fns) (v0 : PV) (Q : List PV → Prop) => W ρ t [v0] [] Q) = some S_ref10_Peers := by kernel_rfl
theorem ok_ref10_Peers : SigOK Tryz.prog ⟨63, none, none, false⟩ (ρ 63) := by
  show PureOK _ _ f_ref10_Peers
  unfold f_ref10_Peers fnT
  exact PureOK.of_e (ρ := ρ) (Ctx.of hname hmix (List.forall_mem_cons.2 ⟨ok_ref10_in, List.forall_mem_nil _⟩)) (.inl (fun a p hp => by simp only [F_ref10_Peers, List.mem_cons, List.not_mem_nil, or_false] at hp; rcases hp with rfl <;> rfl)) (.inl rfl) e_ref10_Peers (by intro t ht l hp hg; have := w_ref10_Peers l hg; rw [← ht] at this; exact this)
theorem e_kids_right : (compFn Tryz.prog [sg 91, sg 159] h_kids_right 20 ⟨162, none, none, false⟩).map (fun t (ρ : Fns) (v0 v1 v2 v3 v4 : PV) (Q : List PV → Prop) => W ρ t [v0, v1, v2, v3, v4] [] Q) = some S_kids_right := by kernel_rfl
theorem ok_kids_right : SigOK Tryz.prog ⟨162, none, none, false⟩ (ρ 162) := by
  show PureOK _ _ f_kids_right
  unfold f_kids_right fnT
  exact PureOK.of_e (ρ := ρ) (Ctx.of hname hmix (List.forall_mem_cons.2 ⟨ok_msg_Counted, List.forall_mem_cons.2 ⟨ok_ring_Nearer, List.forall_mem_nil _⟩⟩)) (.inl (fun a p hp => by obtain ⟨_, _, _, _, _⟩ := a; simp only [F_kids_right, List.mem_cons, List.not_mem_nil, or_false] at hp; rcases hp with rfl <;> rfl)) (.inl rfl) e_kids_right (by intro t ht a hp hg; obtain ⟨t, self, k_node, k_inc, k_age⟩ := a; have := w_kids_right t self (Kid.mk k_node k_inc k_age); rw [← ht] at this; exact this)
theorem e_kids_Check : (compFn Tryz.prog [sg 159, sg 160, sg 162] h_kids_Check 20 ⟨154, none, none, false⟩).map (fun t (ρ : Fns) (v0 v1 v2 v3 : PV) (Q : List PV → Prop) => W ρ t [v0, v1, v2, v3] [] Q) = some S_kids_Check := by kernel_rfl
theorem ok_kids_Check : SigOK Tryz.prog ⟨154, none, none, false⟩ (ρ 154) := by
  show PureOK _ _ f_kids_Check
  unfold f_kids_Check fnT
  exact PureOK.of_e (ρ := ρ) (Ctx.of hname hmix (List.forall_mem_cons.2 ⟨ok_ring_Nearer, List.forall_mem_cons.2 ⟨ok_ring_Gap, List.forall_mem_cons.2 ⟨ok_kids_right, List.forall_mem_nil _⟩⟩⟩)) (.inl (fun a p hp => by obtain ⟨_, _, _, _⟩ := a; simp only [F_kids_Check, List.mem_cons, List.not_mem_nil, or_false] at hp; rcases hp with rfl <;> rfl)) (.inl rfl) e_kids_Check (by intro t ht a hp hg; obtain ⟨t, self, limit, l⟩ := a; have := w_kids_Check t self limit l hg; rw [← ht] at this; exact this)
theorem e_ref10_Kids : (compFn Tryz.prog [sg 43, sg 98, sg 126, sg 127] h_ref10_Kids 20 ⟨102, none, none, false⟩).map (fun t (ρ : Fns) (v0 v1 v2 v3 : PV) (Q : List PV → Prop) => W ρ t [v0, v1, v2, v3] [] Q) = some S_ref10_Kids := by kernel_rfl
theorem ok_ref10_Kids : SigOK Tryz.prog ⟨102, none, none, false⟩ (ρ 102) := by
  show PureOK _ _ f_ref10_Kids
  unfold f_ref10_Kids fnT
  exact PureOK.of_e (ρ := ρ) (Ctx.of hname hmix (List.forall_mem_cons.2 ⟨ok_ref01_IsNode, List.forall_mem_cons.2 ⟨ok_ref10_in, List.forall_mem_cons.2 ⟨ok_ref01_Nearer, List.forall_mem_cons.2 ⟨ok_ref01_IsTopic, List.forall_mem_nil _⟩⟩⟩⟩)) (.inl (fun a p hp => by obtain ⟨_, _, _, _⟩ := a; simp only [F_ref10_Kids, List.mem_cons, List.not_mem_nil, or_false] at hp; rcases hp with rfl <;> rfl)) (.inl rfl) e_ref10_Kids (by intro t ht a hp hg; obtain ⟨t, self, limit, l⟩ := a; have := w_ref10_Kids t self limit l hg; rw [← ht] at this; exact this)
theorem e_keep_right : (compFn Tryz.prog [sg 142] h_keep_right 20 ⟨176, none, none, false⟩).map (fun t (ρ : Fns) (v0 v1 : PV) (Q : List PV → Prop) => W ρ t [v0, v1] [] Q) = some S_keep_right := by kernel_rfl
theorem ok_keep_right : SigOK Tryz.prog ⟨176, none, none, false⟩ (ρ 176) := by
  show PureOK _ _ f_keep_right
  unfold f_keep_right fnT
  exact PureOK.of_e (ρ := ρ) (Ctx.of hname hmix (List.forall_mem_cons.2 ⟨ok_msg_Value, List.forall_mem_nil _⟩)) (.inl (fun a p hp => by obtain ⟨_, _⟩ := a; simp only [F_keep_right, List.mem_cons, List.not_mem_nil, or_false] at hp; rcases hp with rfl <;> rfl)) (.inl rfl) e_keep_right (by intro t ht a hp hg; obtain ⟨l, want⟩ := a; have := w_keep_right l want hp hg; rw [← ht] at this; exact this)
theorem e_keep_Check : (compFn Tryz.prog [sg 91, sg 176] h_keep_Check 20 ⟨169, none, none, false⟩).map (fun t (ρ : Fns) (v0 v1 v2 : PV) (Q : List PV → Prop) => W ρ t [v0, v1, v2] [] Q) = some S_keep_Check := by kernel_rfl
theorem ok_keep_Check : SigOK Tryz.prog ⟨169, none, none, false⟩ (ρ 169) := by
  show PureOK _ _ f_keep_Check
  unfold f_keep_Check fnT
  exact PureOK.of_e (ρ := ρ) (Ctx.of hname hmix (List.forall_mem_cons.2 ⟨ok_msg_Counted, List.forall_mem_cons.2 ⟨ok_keep_right, List.forall_mem_nil _⟩⟩)) (.inl (fun a p hp => by obtain ⟨_, _, _⟩ := a; simp only [F_keep_Check, List.mem_cons, List.not_mem_nil, or_false] at hp; rcases hp with rfl <;> rfl)) (.inl rfl) e_keep_Check (by intro t ht a hp hg; obtain ⟨l, want, limit⟩ := a; have := w_keep_Check l want limit hg; rw [← ht] at this; exact this)
theorem e_ref10_Kept : (compFn Tryz.prog [sg 65, sg 98] h_ref10_Kept 20 ⟨145, none, none, false⟩).map (fun t (ρ : Fns) (v0 v1 v2 : PV) (Q : List PV → Prop) => W ρ t [v0, v1, v2] [] Q) = some S_ref10_Kept := by kernel_rfl
theorem ok_ref10_Kept : SigOK Tryz.prog ⟨145, none, none, false⟩ (ρ 145) := by
  show PureOK _ _ f_ref10_Kept
  unfold f_ref10_Kept fnT
  exact PureOK.of_e (ρ := ρ) (Ctx.of hname hmix (List.forall_mem_cons.2 ⟨ok_ref01_Value, List.forall_mem_cons.2 ⟨ok_ref10_in, List.forall_mem_nil _⟩⟩)) (.inl (fun a p hp => by obtain ⟨_, _, _⟩ := a; simp only [F_ref10_Kept, List.mem_cons, List.not_mem_nil, or_false] at hp; rcases hp with rfl <;> rfl)) (.inl rfl) e_ref10_Kept (by intro t ht a hp hg; obtain ⟨l, want, limit⟩ := a; have := w_ref10_Kept l want limit hg; rw [← ht] at this; exact this)
theorem e_ahead_fits : (compFn Tryz.prog [] h_ahead_fits 20 ⟨177, none, none, false⟩).map (fun t (ρ : Fns) (v0 v1 v2 : PV) (Q : List PV → Prop) => W ρ t [v0, v1, v2] [] Q) = some S_ahead_fits := by kernel_rfl
theorem ok_ahead_fits : SigOK Tryz.prog ⟨177, none, none, false⟩ (ρ 177) := by
  show PureOK _ _ f_ahead_fits
  unfold f_ahead_fits fnT
  exact PureOK.of_e (ρ := ρ) (Ctx.of hname hmix (List.forall_mem_nil _)) (.inl (fun a p hp => by obtain ⟨_, _, _⟩ := a; simp only [F_ahead_fits, List.mem_cons, List.not_mem_nil, or_false] at hp; rcases hp with rfl <;> rfl)) (.inl rfl) e_ahead_fits (by intro t ht a hp hg; obtain ⟨seq, want, window⟩ := a; have := w_ahead_fits seq want window hp; rw [← ht] at this; exact this)
theorem e_ahead_Check : (compFn Tryz.prog [sg 91, sg 142, sg 177] h_ahead_Check 20 ⟨170, none, none, false⟩).map (fun t (ρ : Fns) (v0 v1 v2 : PV) (Q : List PV → Prop) => W ρ t [v0, v1, v2] [] Q) = some S_ahead_Check := by kernel_rfl
theorem ok_ahead_Check : SigOK Tryz.prog ⟨170, none, none, false⟩ (ρ 170) := by
  show PureOK _ _ f_ahead_Check
  unfold f_ahead_Check fnT
  exact PureOK.of_e (ρ := ρ) (Ctx.of hname hmix (List.forall_mem_cons.2 ⟨ok_msg_Counted, List.forall_mem_cons.2 ⟨ok_msg_Value, List.forall_mem_cons.2 ⟨ok_ahead_fits, List.forall_mem_nil _⟩⟩⟩)) (.inl (fun a p hp => by obtain ⟨_, _, _⟩ := a; simp only [F_ahead_Check, List.mem_cons, List.not_mem_nil, or_false] at hp; rcases hp with rfl <;> rfl)) (.inl rfl) e_ahead_Check (by intro t ht a hp hg; obtain ⟨l, want, window⟩ := a; have := w_ahead_Check l want window hg; rw [← ht] at this; exact this)
theorem e_ref10_Ahead2 : (compFn Tryz.prog [sg 65, sg 98] h_ref10_Ahead2 20 ⟨146, none, none, false⟩).map (fun t (ρ : Fns) (v0 v1 v2 : PV) (Q : List PV → Prop) => W ρ t [v0, v1, v2] [] Q) = some S_ref10_Ahead2 := by kernel_rfl
theorem ok_ref10_Ahead2 : SigOK Tryz.prog ⟨146, none, none, false⟩ (ρ 146) := by
  show PureOK _ _ f_ref10_Ahead2
  unfold f_ref10_Ahead2 fnT
  exact PureOK.of_e (ρ := ρ) (Ctx.of hname hmix (List.forall_mem_cons.2 ⟨ok_ref01_Value, List.forall_mem_cons.2 ⟨ok_ref10_in, List.forall_mem_nil _⟩⟩)) (.inl (fun a p hp => by obtain ⟨_, _, _⟩ := a; simp only [F_ref10_Ahead2, List.mem_cons, List.not_mem_nil, or_false] at hp; rcases hp with rfl <;> rfl)) (.inl rfl) e_ref10_Ahead2 (by intro t ht a hp hg; obtain ⟨l, want, window⟩ := a; have := w_ref10_Ahead2 l want window hg; rw [← ht] at this; exact this)
theorem e_queue_Event : (compFn Tryz.prog [sg 91, sg 92, sg 108, sg 142] h_queue_Event 20 ⟨173, none, none, false⟩).map (fun t (ρ : Fns) (v0 v1 v2 v3 v4 v5 : PV) (Q : List PV → Prop) => W ρ t [v0, v1, v2, v3, v4, v5] [] Q) = some S_queue_Event := by kernel_rfl
theorem ok_queue_Event : SigOK Tryz.prog ⟨173, none, none, false⟩ (ρ 173) := by
  show PureOK _ _ f_queue_Event
  unfold f_queue_Event fnT
  exact PureOK.of_e (ρ := ρ) (Ctx.of hname hmix (List.forall_mem_cons.2 ⟨ok_msg_Counted, List.forall_mem_cons.2 ⟨ok_epoch_Check, List.forall_mem_cons.2 ⟨ok_ring_Is, List.forall_mem_cons.2 ⟨ok_msg_Value, List.forall_mem_nil _⟩⟩⟩⟩)) (.inl (fun a p hp => by obtain ⟨_, _, _, _, _, _⟩ := a; simp only [F_queue_Event, List.mem_cons, List.not_mem_nil, or_false] at hp; rcases hp with rfl <;> rfl)) (.inl rfl) e_queue_Event (by intro t ht a hp hg; obtain ⟨x_kind, x_epoch, x_seq, x_last, x_value, x_count⟩ := a; have := w_queue_Event (Event.mk x_kind x_epoch x_seq x_last x_value x_count); rw [← ht] at this; exact this)
theorem e_ref10_Event : (compFn Tryz.prog [sg 43, sg 65, sg 98, sg 99, sg 144] h_ref10_Event 20 ⟨147, none, none, false⟩).map (fun t (ρ : Fns) (v0 v1 v2 v3 v4 v5 : PV) (Q : List PV → Prop) => W ρ t [v0, v1, v2, v3, v4, v5] [] Q) = some S_ref10_Event := by kernel_rfl
theorem ok_ref10_Event : SigOK Tryz.prog ⟨147, none, none, false⟩ (ρ 147) := by
  show PureOK _ _ f_ref10_Event
  unfold f_ref10_Event fnT
  exact PureOK.of_e (ρ := ρ) (Ctx.of hname hmix (List.forall_mem_cons.2 ⟨ok_ref01_IsNode, List.forall_mem_cons.2 ⟨ok_ref01_Value, List.forall_mem_cons.2 ⟨ok_ref10_in, List.forall_mem_cons.2 ⟨ok_ref10_Epoch, List.forall_mem_cons.2 ⟨ok_ref10_count, List.forall_mem_nil _⟩⟩⟩⟩⟩)) (.inl (fun a p hp => by obtain ⟨_, _, _, _, _, _⟩ := a; simp only [F_ref10_Event, List.mem_cons, List.not_mem_nil, or_false] at hp; rcases hp with rfl <;> rfl)) (.inl rfl) e_ref10_Event (by intro t ht a hp hg; obtain ⟨x_kind, x_epoch, x_seq, x_last, x_value, x_count⟩ := a; have := w_ref10_Event (Event.mk x_kind x_epoch x_seq x_last x_value x_count); rw [← ht] at this; exact this)
theorem e_queue_Check : (compFn Tryz.prog [sg 173] h_queue_Check 20 ⟨164, none, none, false⟩).map (fun t (ρ : Fns) (v0 v1 : PV) (Q : List PV → Prop) => W ρ t [v0, v1] [] Q) = some S_queue_Check := by kernel_rfl
theorem ok_queue_Check : SigOK Tryz.prog ⟨164, none, none, false⟩ (ρ 164) := by
  show PureOK _ _ f_queue_Check
  unfold f_queue_Check fnT
  exact PureOK.of_e (ρ := ρ) (Ctx.of hname hmix (List.forall_mem_cons.2 ⟨ok_queue_Event, List.forall_mem_nil _⟩)) (.inl (fun a p hp => by obtain ⟨_, _⟩ := a; simp only [F_queue_Check, List.mem_cons, List.not_mem_nil, or_false] at hp; rcases hp with rfl <;> rfl)) (.inl rfl) e_queue_Check (by intro t ht a hp hg; obtain ⟨l, limit⟩ := a; have := w_queue_Check l limit hg; rw [← ht] at this; exact this)
theorem e_ref10_Queue : (compFn Tryz.prog [sg 98, sg 147] h_ref10_Queue 20 ⟨129, none, none, false⟩).map (fun t (ρ : Fns) (v0 v1 : PV) (Q : List PV → Prop) => W ρ t [v0, v1] [] Q) = some S_ref10_Queue := by kernel_rfl
theorem ok_ref10_Queue : SigOK Tryz.prog ⟨129, none, none, false⟩ (ρ 129) := by
  show PureOK _ _ f_ref10_Queue
  unfold f_ref10_Queue fnT
  exact PureOK.of_e (ρ := ρ) (Ctx.of hname hmix (List.forall_mem_cons.2 ⟨ok_ref10_in, List.forall_mem_cons.2 ⟨ok_ref10_Event, List.forall_mem_nil _⟩⟩)) (.inl (fun a p hp => by obtain ⟨_, _⟩ := a; simp only [F_ref10_Queue, List.mem_cons, List.not_mem_nil, or_false] at hp; rcases hp with rfl <;> rfl)) (.inl rfl) e_ref10_Queue (by intro t ht a hp hg; obtain ⟨l, limit⟩ := a; have := w_ref10_Queue l limit hg; rw [← ht] at this; exact this)
theorem e_flow_zero : (compFn Tryz.prog [] h_flow_zero 20 ⟨168, none, none, false⟩).map (fun t (ρ : Fns) (v0 v1 v2 v3 v4 : PV) (Q : List PV → Prop) => W ρ t [v0, v1, v2, v3, v4] [] Q) = some S_flow_zero := by kernel_rfl
theorem ok_flow_zero : SigOK Tryz.prog ⟨168, none, none, false⟩ (ρ 168) := by
  show PureOK _ _ f_flow_zero
  unfold f_flow_zero fnT
  exact PureOK.of_e (ρ := ρ) (Ctx.of hname hmix (List.forall_mem_nil _)) (.inl (fun a p hp => by obtain ⟨_, _, _, _, _⟩ := a; simp only [F_flow_zero, List.mem_cons, List.not_mem_nil, or_false] at hp; rcases hp with rfl <;> rfl)) (.inl rfl) e_flow_zero (by intro t ht a hp hg; obtain ⟨s_epoch, s_want, s_known, s_kept, s_ahead⟩ := a; have := w_flow_zero (Stream.mk s_epoch s_want s_known s_kept s_ahead); rw [← ht] at this; exact this)
theorem e_flow_right : (compFn Tryz.prog [sg 91, sg 92, sg 168, sg 169, sg 170] h_flow_right 20 ⟨163, none, none, false⟩).map (fun t (ρ : Fns) (v0 v1 v2 v3 v4 v5 v6 v7 v8 v9 v10 v11 : PV) (Q : List PV → Prop) => W ρ t [v0, v1, v2, v3, v4, v5, v6, v7, v8, v9, v10, v11] [] Q) = some S_flow_right := by kernel_rfl
theorem ok_flow_right : SigOK Tryz.prog ⟨163, none, none, false⟩ (ρ 163) := by
  show PureOK _ _ f_flow_right
  unfold f_flow_right fnT
  exact PureOK.of_e (ρ := ρ) (Ctx.of hname hmix (List.forall_mem_cons.2 ⟨ok_msg_Counted, List.forall_mem_cons.2 ⟨ok_epoch_Check, List.forall_mem_cons.2 ⟨ok_flow_zero, List.forall_mem_cons.2 ⟨ok_keep_Check, List.forall_mem_cons.2 ⟨ok_ahead_Check, List.forall_mem_nil _⟩⟩⟩⟩⟩)) (.inl (fun a p hp => by obtain ⟨_, _, _, _, _, _, _, _, _, _, _, _⟩ := a; simp only [F_flow_right, List.mem_cons, List.not_mem_nil, or_false] at hp; rcases hp with rfl <;> rfl)) (.inl rfl) e_flow_right (by intro t ht a hp hg; obtain ⟨c_nodes, c_topics, c_kids, c_depth, c_keep, c_window, c_queue, s_epoch, s_want, s_known, s_kept, s_ahead⟩ := a; have := w_flow_right (Config.mk c_nodes c_topics c_kids c_depth c_keep c_window c_queue) (Stream.mk s_epoch s_want s_known s_kept s_ahead) hg; rw [← ht] at this; exact this)
theorem e_flow_Check : (compFn Tryz.prog [sg 49, sg 163, sg 164] h_flow_Check 20 ⟨155, none, none, false⟩).map (fun t (ρ : Fns) (v0 v1 v2 v3 v4 v5 v6 v7 v8 v9 v10 v11 v12 : PV) (Q : List PV → Prop) => W ρ t [v0, v1, v2, v3, v4, v5, v6, v7, v8, v9, v10, v11, v12] [] Q) = some S_flow_Check := by kernel_rfl
theorem ok_flow_Check : SigOK Tryz.prog ⟨155, none, none, false⟩ (ρ 155) := by
  show PureOK _ _ f_flow_Check
  unfold f_flow_Check fnT
  exact PureOK.of_e (ρ := ρ) (Ctx.of hname hmix (List.forall_mem_cons.2 ⟨ok_script_Config, List.forall_mem_cons.2 ⟨ok_flow_right, List.forall_mem_cons.2 ⟨ok_queue_Check, List.forall_mem_nil _⟩⟩⟩)) (.inl (fun a p hp => by obtain ⟨_, _, _, _, _, _, _, _, _, _, _, _, _⟩ := a; simp only [F_flow_Check, List.mem_cons, List.not_mem_nil, or_false] at hp; rcases hp with rfl <;> rfl)) (.inl rfl) e_flow_Check (by intro t ht a hp hg; obtain ⟨c_nodes, c_topics, c_kids, c_depth, c_keep, c_window, c_queue, s_epoch, s_want, s_known, s_kept, s_ahead, q⟩ := a; have := w_flow_Check (Config.mk c_nodes c_topics c_kids c_depth c_keep c_window c_queue) (Stream.mk s_epoch s_want s_known s_kept s_ahead) q hg; rw [← ht] at this; exact this)
theorem e_bkeep_Items : (compFn Tryz.prog [] h_bkeep_Items 20 ⟨125, none, none, false⟩).map (fun t (ρ : Fns) (v0 v1 : PV) (Q : List PV → Prop) => W ρ t [v0, v1] [] Q) = some S_bkeep_Items := by kernel_rfl
theorem ok_bkeep_Items : SigOK Tryz.prog ⟨125, none, none, false⟩ (ρ 125) := by
  show PureOK _ _ f_bkeep_Items
  unfold f_bkeep_Items fnT
  exact PureOK.of_e (ρ := ρ) (Ctx.of hname hmix (List.forall_mem_nil _)) (.inl (fun a p hp => by obtain ⟨_, _⟩ := a; simp only [F_bkeep_Items, List.mem_cons, List.not_mem_nil, or_false] at hp; rcases hp with rfl <;> rfl)) (.inl rfl) e_bkeep_Items (by intro t ht a hp hg; obtain ⟨a, b⟩ := a; have := w_bkeep_Items a b hg; rw [← ht] at this; exact this)
theorem e_bkeep_Stream : (compFn Tryz.prog [sg 125] h_bkeep_Stream 20 ⟨96, none, none, false⟩).map (fun t (ρ : Fns) (v0 v1 v2 v3 v4 v5 v6 v7 v8 v9 : PV) (Q : List PV → Prop) => W ρ t [v0, v1, v2, v3, v4, v5, v6, v7, v8, v9] [] Q) = some S_bkeep_Stream := by kernel_rfl
theorem ok_bkeep_Stream : SigOK Tryz.prog ⟨96, none, none, false⟩ (ρ 96) := by
  show PureOK _ _ f_bkeep_Stream
  unfold f_bkeep_Stream fnT
  exact PureOK.of_e (ρ := ρ) (Ctx.of hname hmix (List.forall_mem_cons.2 ⟨ok_bkeep_Items, List.forall_mem_nil _⟩)) (.inl (fun a p hp => by obtain ⟨_, _, _, _, _, _, _, _, _, _⟩ := a; simp only [F_bkeep_Stream, List.mem_cons, List.not_mem_nil, or_false] at hp; rcases hp with rfl <;> rfl)) (.inl rfl) e_bkeep_Stream (by intro t ht a hp hg; obtain ⟨a_epoch, a_want, a_known, a_kept, a_ahead, b_epoch, b_want, b_known, b_kept, b_ahead⟩ := a; have := w_bkeep_Stream (Stream.mk a_epoch a_want a_known a_kept a_ahead) (Stream.mk b_epoch b_want b_known b_kept b_ahead) hg; rw [← ht] at this; exact this)
theorem e_ref10_Stream : (compFn Tryz.prog [sg 96, sg 98, sg 99, sg 144, sg 145, sg 146] h_ref10_Stream 20 ⟨128, none, none, false⟩).map (fun t (ρ : Fns) (v0 v1 v2 v3 v4 v5 v6 v7 v8 v9 v10 v11 : PV) (Q : List PV → Prop) => W ρ t [v0, v1, v2, v3, v4, v5, v6, v7, v8, v9, v10, v11] [] Q) = some S_ref10_Stream := by kernel_rfl
theorem ok_ref10_Stream : SigOK Tryz.prog ⟨128, none, none, false⟩ (ρ 128) := by
  show PureOK _ _ f_ref10_Stream
  unfold f_ref10_Stream fnT
  exact PureOK.of_e (ρ := ρ) (Ctx.of hname hmix (List.forall_mem_cons.2 ⟨ok_bkeep_Stream, List.forall_mem_cons.2 ⟨ok_ref10_in, List.forall_mem_cons.2 ⟨ok_ref10_Epoch, List.forall_mem_cons.2 ⟨ok_ref10_count, List.forall_mem_cons.2 ⟨ok_ref10_Kept, List.forall_mem_cons.2 ⟨ok_ref10_Ahead2, List.forall_mem_nil _⟩⟩⟩⟩⟩⟩)) (.inl (fun a p hp => by obtain ⟨_, _, _, _, _, _, _, _, _, _, _, _⟩ := a; simp only [F_ref10_Stream, List.mem_cons, List.not_mem_nil, or_false] at hp; rcases hp with rfl <;> rfl)) (.inl rfl) e_ref10_Stream (by intro t ht a hp hg; obtain ⟨c_nodes, c_topics, c_kids, c_depth, c_keep, c_window, c_queue, s_epoch, s_want, s_known, s_kept, s_ahead⟩ := a; have := w_ref10_Stream (Config.mk c_nodes c_topics c_kids c_depth c_keep c_window c_queue) (Stream.mk s_epoch s_want s_known s_kept s_ahead) hg; rw [← ht] at this; exact this)
theorem e_ref10_Flow : (compFn Tryz.prog [sg 128, sg 129] h_ref10_Flow 20 ⟨103, none, none, false⟩).map (fun t (ρ : Fns) (v0 v1 v2 v3 v4 v5 v6 v7 v8 v9 v10 v11 v12 : PV) (Q : List PV → Prop) => W ρ t [v0, v1, v2, v3, v4, v5, v6, v7, v8, v9, v10, v11, v12] [] Q) = some S_ref10_Flow := by kernel_rfl
theorem ok_ref10_Flow : SigOK Tryz.prog ⟨103, none, none, false⟩ (ρ 103) := by
  show PureOK _ _ f_ref10_Flow
  unfold f_ref10_Flow fnT
  exact PureOK.of_e (ρ := ρ) (Ctx.of hname hmix (List.forall_mem_cons.2 ⟨ok_ref10_Stream, List.forall_mem_cons.2 ⟨ok_ref10_Queue, List.forall_mem_nil _⟩⟩)) (.inl (fun a p hp => by obtain ⟨_, _, _, _, _, _, _, _, _, _, _, _, _⟩ := a; simp only [F_ref10_Flow, List.mem_cons, List.not_mem_nil, or_false] at hp; rcases hp with rfl <;> rfl)) (.inl rfl) e_ref10_Flow (by intro t ht a hp hg; obtain ⟨c_nodes, c_topics, c_kids, c_depth, c_keep, c_window, c_queue, s_epoch, s_want, s_known, s_kept, s_ahead, q⟩ := a; have := w_ref10_Flow (Config.mk c_nodes c_topics c_kids c_depth c_keep c_window c_queue) (Stream.mk s_epoch s_want s_known s_kept s_ahead) q hg; rw [← ht] at this; exact this)
theorem e_graft_link : (compFn Tryz.prog [sg 159] h_graft_link 20 ⟨150, none, none, false⟩).map (fun t (ρ : Fns) (v0 v1 v2 : PV) (Q : List PV → Prop) => W ρ t [v0, v1, v2] [] Q) = some S_graft_link := by kernel_rfl
theorem ok_graft_link : SigOK Tryz.prog ⟨150, none, none, false⟩ (ρ 150) := by
  show PureOK _ _ f_graft_link
  unfold f_graft_link fnT
  exact PureOK.of_e (ρ := ρ) (Ctx.of hname hmix (List.forall_mem_cons.2 ⟨ok_ring_Nearer, List.forall_mem_nil _⟩)) (.inl (fun a p hp => by obtain ⟨_, _, _⟩ := a; simp only [F_graft_link, List.mem_cons, List.not_mem_nil, or_false] at hp; rcases hp with rfl <;> rfl)) (.inl rfl) e_graft_link (by intro t ht a hp hg; obtain ⟨t, self, n⟩ := a; have := w_graft_link t self n hg; rw [← ht] at this; exact this)
theorem e_ref10_near : (compFn Tryz.prog [sg 98, sg 126] h_ref10_near 20 ⟨100, none, none, false⟩).map (fun t (ρ : Fns) (v0 v1 v2 : PV) (Q : List PV → Prop) => W ρ t [v0, v1, v2] [] Q) = some S_ref10_near := by kernel_rfl
theorem ok_ref10_near : SigOK Tryz.prog ⟨100, none, none, false⟩ (ρ 100) := by
  show PureOK _ _ f_ref10_near
  unfold f_ref10_near fnT
  exact PureOK.of_e (ρ := ρ) (Ctx.of hname hmix (List.forall_mem_cons.2 ⟨ok_ref10_in, List.forall_mem_cons.2 ⟨ok_ref01_Nearer, List.forall_mem_nil _⟩⟩)) (.inl (fun a p hp => by obtain ⟨_, _, _⟩ := a; simp only [F_ref10_near, List.mem_cons, List.not_mem_nil, or_false] at hp; rcases hp with rfl <;> rfl)) (.inl rfl) e_ref10_near (by intro t ht a hp hg; obtain ⟨t, self, n⟩ := a; have := w_ref10_near t self n hg; rw [← ht] at this; exact this)
theorem e_graft_rooted : (compFn Tryz.prog [sg 55] h_graft_rooted 20 ⟨151, none, none, false⟩).map (fun t (ρ : Fns) (v0 v1 v2 v3 v4 v5 v6 v7 v8 v9 v10 v11 v12 v13 v14 v15 v16 : PV) (Q : List PV → Prop) => W ρ t [v0, v1, v2, v3, v4, v5, v6, v7, v8, v9, v10, v11, v12, v13, v14, v15, v16] [] Q) = some S_graft_rooted := by kernel_rfl
theorem ok_graft_rooted : SigOK Tryz.prog ⟨151, none, none, false⟩ (ρ 151) := by
  show PureOK _ _ f_graft_rooted
  unfold f_graft_rooted fnT
  exact PureOK.of_e (ρ := ρ) (Ctx.of hname hmix (List.forall_mem_cons.2 ⟨ok_epoch_Who, List.forall_mem_nil _⟩)) (.inl (fun a p hp => by obtain ⟨_, _, _, _, _, _, _, _, _, _, _, _, _, _, _, _, _⟩ := a; simp only [F_graft_rooted, List.mem_cons, List.not_mem_nil, or_false] at hp; rcases hp with rfl <;> rfl)) (.inl rfl) e_graft_rooted (by intro t ht a hp hg; obtain ⟨self, x_made, x_sub, x_top, x_root, x_parent, x_asked, x_other, x_age, x_path, x_kids, x_stream_epoch, x_stream_want, x_stream_known, x_stream_kept, x_stream_ahead, x_queue⟩ := a; have := w_graft_rooted self (Topic.mk x_made x_sub x_top x_root x_parent x_asked x_other x_age x_path x_kids (Stream.mk x_stream_epoch x_stream_want x_stream_known x_stream_kept x_stream_ahead) x_queue); rw [← ht] at this; exact this)
theorem e_graft_placed : (compFn Tryz.prog [] h_graft_placed 20 ⟨152, none, none, false⟩).map (fun t (ρ : Fns) (v0 v1 v2 v3 v4 v5 v6 v7 v8 v9 v10 v11 v12 v13 v14 v15 : PV) (Q : List PV → Prop) => W ρ t [v0, v1, v2, v3, v4, v5, v6, v7, v8, v9, v10, v11, v12, v13, v14, v15] [] Q) = some S_graft_placed := by kernel_rfl
theorem ok_graft_placed : SigOK Tryz.prog ⟨152, none, none, false⟩ (ρ 152) := by
  show PureOK _ _ f_graft_placed
  unfold f_graft_placed fnT
  exact PureOK.of_e (ρ := ρ) (Ctx.of hname hmix (List.forall_mem_nil _)) (.inl (fun a p hp => by obtain ⟨_, _, _, _, _, _, _, _, _, _, _, _, _, _, _, _⟩ := a; simp only [F_graft_placed, List.mem_cons, List.not_mem_nil, or_false] at hp; rcases hp with rfl <;> rfl)) (.inl rfl) e_graft_placed (by intro t ht a hp hg; obtain ⟨x_made, x_sub, x_top, x_root, x_parent, x_asked, x_other, x_age, x_path, x_kids, x_stream_epoch, x_stream_want, x_stream_known, x_stream_kept, x_stream_ahead, x_queue⟩ := a; have := w_graft_placed (Topic.mk x_made x_sub x_top x_root x_parent x_asked x_other x_age x_path x_kids (Stream.mk x_stream_epoch x_stream_want x_stream_known x_stream_kept x_stream_ahead) x_queue) hp hg; rw [← ht] at this; exact this)
theorem e_graft_right : (compFn Tryz.prog [sg 150, sg 151, sg 152, sg 153, sg 154, sg 155] h_graft_right 20 ⟨138, none, none, false⟩).map (fun t (ρ : Fns) (v0 v1 v2 v3 v4 v5 v6 v7 v8 v9 v10 v11 v12 v13 v14 v15 v16 v17 v18 v19 v20 v21 v22 v23 v24 : PV) (Q : List PV → Prop) => W ρ t [v0, v1, v2, v3, v4, v5, v6, v7, v8, v9, v10, v11, v12, v13, v14, v15, v16, v17, v18, v19, v20, v21, v22, v23, v24] [] Q) = some S_graft_right := by kernel_rfl
theorem ok_graft_right : SigOK Tryz.prog ⟨138, none, none, false⟩ (ρ 138) := by
  show PureOK _ _ f_graft_right
  unfold f_graft_right fnT
  exact PureOK.of_e (ρ := ρ) (Ctx.of hname hmix (List.forall_mem_cons.2 ⟨ok_graft_link, List.forall_mem_cons.2 ⟨ok_graft_rooted, List.forall_mem_cons.2 ⟨ok_graft_placed, List.forall_mem_cons.2 ⟨ok_path_Check, List.forall_mem_cons.2 ⟨ok_kids_Check, List.forall_mem_cons.2 ⟨ok_flow_Check, List.forall_mem_nil _⟩⟩⟩⟩⟩⟩)) (.inl (fun a p hp => by obtain ⟨_, _, _, _, _, _, _, _, _, _, _, _, _, _, _, _, _, _, _, _, _, _, _, _, _⟩ := a; simp only [F_graft_right, List.mem_cons, List.not_mem_nil, or_false] at hp; rcases hp with rfl <;> rfl)) (.inl rfl) e_graft_right (by intro t ht a hp hg; obtain ⟨c_nodes, c_topics, c_kids, c_depth, c_keep, c_window, c_queue, t, self, x_made, x_sub, x_top, x_root, x_parent, x_asked, x_other, x_age, x_path, x_kids, x_stream_epoch, x_stream_want, x_stream_known, x_stream_kept, x_stream_ahead, x_queue⟩ := a; have := w_graft_right (Config.mk c_nodes c_topics c_kids c_depth c_keep c_window c_queue) t self (Topic.mk x_made x_sub x_top x_root x_parent x_asked x_other x_age x_path x_kids (Stream.mk x_stream_epoch x_stream_want x_stream_known x_stream_kept x_stream_ahead) x_queue) hp hg; rw [← ht] at this; exact this)
theorem e_graft_Check : (compFn Tryz.prog [sg 49, sg 138] h_graft_Check 20 ⟨115, none, none, false⟩).map (fun t (ρ : Fns) (v0 v1 v2 v3 v4 v5 v6 v7 v8 v9 v10 v11 v12 v13 v14 v15 v16 v17 v18 v19 v20 v21 v22 v23 v24 : PV) (Q : List PV → Prop) => W ρ t [v0, v1, v2, v3, v4, v5, v6, v7, v8, v9, v10, v11, v12, v13, v14, v15, v16, v17, v18, v19, v20, v21, v22, v23, v24] [] Q) = some S_graft_Check := by kernel_rfl
theorem ok_graft_Check : SigOK Tryz.prog ⟨115, none, none, false⟩ (ρ 115) := by
  show PureOK _ _ f_graft_Check
  unfold f_graft_Check fnT
  exact PureOK.of_e (ρ := ρ) (Ctx.of hname hmix (List.forall_mem_cons.2 ⟨ok_script_Config, List.forall_mem_cons.2 ⟨ok_graft_right, List.forall_mem_nil _⟩⟩)) (.inl (fun a p hp => by obtain ⟨_, _, _, _, _, _, _, _, _, _, _, _, _, _, _, _, _, _, _, _, _, _, _, _, _⟩ := a; simp only [F_graft_Check, List.mem_cons, List.not_mem_nil, or_false] at hp; rcases hp with rfl <;> rfl)) (.inl rfl) e_graft_Check (by intro t ht a hp hg; obtain ⟨c_nodes, c_topics, c_kids, c_depth, c_keep, c_window, c_queue, t, self, x_made, x_sub, x_top, x_root, x_parent, x_asked, x_other, x_age, x_path, x_kids, x_stream_epoch, x_stream_want, x_stream_known, x_stream_kept, x_stream_ahead, x_queue⟩ := a; have := w_graft_Check (Config.mk c_nodes c_topics c_kids c_depth c_keep c_window c_queue) t self (Topic.mk x_made x_sub x_top x_root x_parent x_asked x_other x_age x_path x_kids (Stream.mk x_stream_epoch x_stream_want x_stream_known x_stream_kept x_stream_ahead) x_queue) hg; rw [← ht] at this; exact this)
theorem e_ref10_Topic : (compFn Tryz.prog [sg 98, sg 99, sg 100, sg 101, sg 102, sg 103] h_ref10_Topic 20 ⟨64, none, none, false⟩).map (fun t (ρ : Fns) (v0 v1 v2 v3 v4 v5 v6 v7 v8 v9 v10 v11 v12 v13 v14 v15 v16 v17 v18 v19 v20 v21 v22 v23 v24 : PV) (Q : List PV → Prop) => W ρ t [v0, v1, v2, v3, v4, v5, v6, v7, v8, v9, v10, v11, v12, v13, v14, v15, v16, v17, v18, v19, v20, v21, v22, v23, v24] [] Q) = some S_ref10_Topic := by kernel_rfl
theorem ok_ref10_Topic : SigOK Tryz.prog ⟨64, none, none, false⟩ (ρ 64) := by
  show PureOK _ _ f_ref10_Topic
  unfold f_ref10_Topic fnT
  exact PureOK.of_e (ρ := ρ) (Ctx.of hname hmix (List.forall_mem_cons.2 ⟨ok_ref10_in, List.forall_mem_cons.2 ⟨ok_ref10_Epoch, List.forall_mem_cons.2 ⟨ok_ref10_near, List.forall_mem_cons.2 ⟨ok_ref10_Path, List.forall_mem_cons.2 ⟨ok_ref10_Kids, List.forall_mem_cons.2 ⟨ok_ref10_Flow, List.forall_mem_nil _⟩⟩⟩⟩⟩⟩)) (.inl (fun a p hp => by obtain ⟨_, _, _, _, _, _, _, _, _, _, _, _, _, _, _, _, _, _, _, _, _, _, _, _, _⟩ := a; simp only [F_ref10_Topic, List.mem_cons, List.not_mem_nil, or_false] at hp; rcases hp with rfl <;> rfl)) (.inl rfl) e_ref10_Topic (by intro t ht a hp hg; obtain ⟨c_nodes, c_topics, c_kids, c_depth, c_keep, c_window, c_queue, t, self, x_made, x_sub, x_top, x_root, x_parent, x_asked, x_other, x_age, x_path, x_kids, x_stream_epoch, x_stream_want, x_stream_known, x_stream_kept, x_stream_ahead, x_queue⟩ := a; have := w_ref10_Topic (Config.mk c_nodes c_topics c_kids c_depth c_keep c_window c_queue) t self (Topic.mk x_made x_sub x_top x_root x_parent x_asked x_other x_age x_path x_kids (Stream.mk x_stream_epoch x_stream_want x_stream_known x_stream_kept x_stream_ahead) x_queue) hp hg; rw [← ht] at this; exact this)
theorem e_cast_calls : (compFn Tryz.prog [sg 83] h_cast_calls 20 ⟨114, none, none, false⟩).map (fun t (ρ : Fns) (v0 v1 v2 v3 v4 v5 v6 v7 v8 v9 v10 v11 v12 v13 v14 v15 : PV) (Q : List PV → Prop) => W ρ t [v0, v1, v2, v3, v4, v5, v6, v7, v8, v9, v10, v11, v12, v13, v14, v15] [] Q) = some S_cast_calls := by kernel_rfl
theorem ok_cast_calls : SigOK Tryz.prog ⟨114, none, none, false⟩ (ρ 114) := by
  show PureOK _ _ f_cast_calls
  unfold f_cast_calls fnT
  exact PureOK.of_e (ρ := ρ) (Ctx.of hname hmix (List.forall_mem_cons.2 ⟨ok_cast_in, List.forall_mem_nil _⟩)) (.inl (fun a p hp => by obtain ⟨_, _, _, _, _, _, _, _, _, _, _, _, _, _, _, _⟩ := a; simp only [F_cast_calls, List.mem_cons, List.not_mem_nil, or_false] at hp; rcases hp with rfl <;> rfl)) (.inl rfl) e_cast_calls (by intro t ht a hp hg; obtain ⟨c_nodes, c_topics, c_kids, c_depth, c_keep, c_window, c_queue, n_up, n_inc, n_peers, n_topics, n_calls, n_pubs, n_asks, n_marks, n_taken⟩ := a; have := w_cast_calls (Config.mk c_nodes c_topics c_kids c_depth c_keep c_window c_queue) (Node.mk n_up n_inc n_peers n_topics n_calls n_pubs n_asks n_marks n_taken) hp hg; rw [← ht] at this; exact this)
theorem e_cast_mark : (compFn Tryz.prog [sg 83] h_cast_mark 20 ⟨117, none, none, false⟩).map (fun t (ρ : Fns) (v0 v1 v2 : PV) (Q : List PV → Prop) => W ρ t [v0, v1, v2] [] Q) = some S_cast_mark := by kernel_rfl
theorem ok_cast_mark : SigOK Tryz.prog ⟨117, none, none, false⟩ (ρ 117) := by
  show PureOK _ _ f_cast_mark
  unfold f_cast_mark fnT
  exact PureOK.of_e (ρ := ρ) (Ctx.of hname hmix (List.forall_mem_cons.2 ⟨ok_cast_in, List.forall_mem_nil _⟩)) (.inl (fun a p hp => by obtain ⟨_, _, _⟩ := a; simp only [F_cast_mark, List.mem_cons, List.not_mem_nil, or_false] at hp; rcases hp with rfl <;> rfl)) (.inl rfl) e_cast_mark (by intro t ht a hp hg; obtain ⟨m_inc, m_pubs, m_met⟩ := a; have := w_cast_mark (Mark.mk m_inc m_pubs m_met); rw [← ht] at this; exact this)
theorem e_cast_taken : (compFn Tryz.prog [sg 83, sg 91, sg 142] h_cast_taken 20 ⟨121, none, none, false⟩).map (fun t (ρ : Fns) (v0 v1 v2 v3 v4 v5 v6 v7 v8 v9 v10 v11 : PV) (Q : List PV → Prop) => W ρ t [v0, v1, v2, v3, v4, v5, v6, v7, v8, v9, v10, v11] [] Q) = some S_cast_taken := by kernel_rfl
theorem ok_cast_taken : SigOK Tryz.prog ⟨121, none, none, false⟩ (ρ 121) := by
  show PureOK _ _ f_cast_taken
  unfold f_cast_taken fnT
  exact PureOK.of_e (ρ := ρ) (Ctx.of hname hmix (List.forall_mem_cons.2 ⟨ok_cast_in, List.forall_mem_cons.2 ⟨ok_msg_Counted, List.forall_mem_cons.2 ⟨ok_msg_Value, List.forall_mem_nil _⟩⟩⟩)) (.inl (fun a p hp => by obtain ⟨_, _, _, _, _, _, _, _, _, _, _, _⟩ := a; simp only [F_cast_taken, List.mem_cons, List.not_mem_nil, or_false] at hp; rcases hp with rfl <;> rfl)) (.inl rfl) e_cast_taken (by intro t ht a hp hg; obtain ⟨c_nodes, c_topics, c_kids, c_depth, c_keep, c_window, c_queue, x_node, x_inc, x_count, x_topic, x_value⟩ := a; have := w_cast_taken (Config.mk c_nodes c_topics c_kids c_depth c_keep c_window c_queue) (Mark2.mk x_node x_inc x_count x_topic x_value) hp; rw [← ht] at this; exact this)
theorem e_cast_right : (compFn Tryz.prog [sg 83, sg 91, sg 114, sg 115, sg 117, sg 118, sg 121] h_cast_right 20 ⟨84, none, none, false⟩).map (fun t (ρ : Fns) (v0 v1 v2 v3 v4 v5 v6 v7 v8 v9 v10 v11 v12 v13 v14 v15 v16 : PV) (Q : List PV → Prop) => W ρ t [v0, v1, v2, v3, v4, v5, v6, v7, v8, v9, v10, v11, v12, v13, v14, v15, v16] [] Q) = some S_cast_right := by kernel_rfl
theorem ok_cast_right : SigOK Tryz.prog ⟨84, none, none, false⟩ (ρ 84) := by
  show PureOK _ _ f_cast_right
  unfold f_cast_right fnT
  exact PureOK.of_e (ρ := ρ) (Ctx.of hname hmix (List.forall_mem_cons.2 ⟨ok_cast_in, List.forall_mem_cons.2 ⟨ok_msg_Counted, List.forall_mem_cons.2 ⟨ok_cast_calls, List.forall_mem_cons.2 ⟨ok_graft_Check, List.forall_mem_cons.2 ⟨ok_cast_mark, List.forall_mem_cons.2 ⟨ok_view_Check, List.forall_mem_cons.2 ⟨ok_cast_taken, List.forall_mem_nil _⟩⟩⟩⟩⟩⟩⟩)) (.inl (fun a p hp => by obtain ⟨_, _, _, _, _, _, _, _, _, _, _, _, _, _, _, _, _⟩ := a; simp only [F_cast_right, List.mem_cons, List.not_mem_nil, or_false] at hp; rcases hp with rfl <;> rfl)) (.inl rfl) e_cast_right (by intro t ht a hp hg; obtain ⟨c_nodes, c_topics, c_kids, c_depth, c_keep, c_window, c_queue, self, n_up, n_inc, n_peers, n_topics, n_calls, n_pubs, n_asks, n_marks, n_taken⟩ := a; have := w_cast_right (Config.mk c_nodes c_topics c_kids c_depth c_keep c_window c_queue) self (Node.mk n_up n_inc n_peers n_topics n_calls n_pubs n_asks n_marks n_taken) hp hg; rw [← ht] at this; exact this)
theorem e_cast_Check : (compFn Tryz.prog [sg 49, sg 83, sg 84] h_cast_Check 20 ⟨51, none, none, false⟩).map (fun t (ρ : Fns) (v0 v1 v2 v3 v4 v5 v6 v7 v8 v9 v10 v11 v12 v13 v14 v15 v16 : PV) (Q : List PV → Prop) => W ρ t [v0, v1, v2, v3, v4, v5, v6, v7, v8, v9, v10, v11, v12, v13, v14, v15, v16] [] Q) = some S_cast_Check := by kernel_rfl
theorem ok_cast_Check : SigOK Tryz.prog ⟨51, none, none, false⟩ (ρ 51) := by
  show PureOK _ _ f_cast_Check
  unfold f_cast_Check fnT
  exact PureOK.of_e (ρ := ρ) (Ctx.of hname hmix (List.forall_mem_cons.2 ⟨ok_script_Config, List.forall_mem_cons.2 ⟨ok_cast_in, List.forall_mem_cons.2 ⟨ok_cast_right, List.forall_mem_nil _⟩⟩⟩)) (.inl (fun a p hp => by obtain ⟨_, _, _, _, _, _, _, _, _, _, _, _, _, _, _, _, _⟩ := a; simp only [F_cast_Check, List.mem_cons, List.not_mem_nil, or_false] at hp; rcases hp with rfl <;> rfl)) (.inl rfl) e_cast_Check (by intro t ht a hp hg; obtain ⟨c_nodes, c_topics, c_kids, c_depth, c_keep, c_window, c_queue, self, n_up, n_inc, n_peers, n_topics, n_calls, n_pubs, n_asks, n_marks, n_taken⟩ := a; have := w_cast_Check (Config.mk c_nodes c_topics c_kids c_depth c_keep c_window c_queue) self (Node.mk n_up n_inc n_peers n_topics n_calls n_pubs n_asks n_marks n_taken) hg; rw [← ht] at this; exact this)
theorem e_ref19_Node : (compFn Tryz.prog [sg 62, sg 63, sg 64, sg 65] h_ref19_Node 20 ⟨39, none, none, false⟩).map (fun t (ρ : Fns) (v0 v1 v2 v3 v4 v5 v6 v7 v8 v9 v10 v11 v12 v13 v14 v15 v16 : PV) (Q : List PV → Prop) => W ρ t [v0, v1, v2, v3, v4, v5, v6, v7, v8, v9, v10, v11, v12, v13, v14, v15, v16] [] Q) = some S_ref19_Node := by kernel_rfl
theorem ok_ref19_Node : SigOK Tryz.prog ⟨39, none, none, false⟩ (ρ 39) := by
  show PureOK _ _ f_ref19_Node
  unfold f_ref19_Node fnT
  exact PureOK.of_e (ρ := ρ) (Ctx.of hname hmix (List.forall_mem_cons.2 ⟨ok_ref19_in, List.forall_mem_cons.2 ⟨ok_ref10_Peers, List.forall_mem_cons.2 ⟨ok_ref10_Topic, List.forall_mem_cons.2 ⟨ok_ref01_Value, List.forall_mem_nil _⟩⟩⟩⟩)) (.inl (fun a p hp => by obtain ⟨_, _, _, _, _, _, _, _, _, _, _, _, _, _, _, _, _⟩ := a; simp only [F_ref19_Node, List.mem_cons, List.not_mem_nil, or_false] at hp; rcases hp with rfl <;> rfl)) (.inl rfl) e_ref19_Node (by intro t ht a hp hg; obtain ⟨c_nodes, c_topics, c_kids, c_depth, c_keep, c_window, c_queue, self, n_up, n_inc, n_peers, n_topics, n_calls, n_pubs, n_asks, n_marks, n_taken⟩ := a; have := w_ref19_Node (Config.mk c_nodes c_topics c_kids c_depth c_keep c_window c_queue) self (Node.mk n_up n_inc n_peers n_topics n_calls n_pubs n_asks n_marks n_taken) hp hg; rw [← ht] at this; exact this)
theorem e_bkeep_Peers : (compFn Tryz.prog [] h_bkeep_Peers 20 ⟨59, none, none, false⟩).map (fun t (ρ : Fns) (v0 v1 : PV) (Q : List PV → Prop) => W ρ t [v0, v1] [] Q) = some S_bkeep_Peers := by kernel_rfl
theorem ok_bkeep_Peers : SigOK Tryz.prog ⟨59, none, none, false⟩ (ρ 59) := by
  show PureOK _ _ f_bkeep_Peers
  unfold f_bkeep_Peers fnT
  exact PureOK.of_e (ρ := ρ) (Ctx.of hname hmix (List.forall_mem_nil _)) (.inl (fun a p hp => by obtain ⟨_, _⟩ := a; simp only [F_bkeep_Peers, List.mem_cons, List.not_mem_nil, or_false] at hp; rcases hp with rfl <;> rfl)) (.inl rfl) e_bkeep_Peers (by intro t ht a hp hg; obtain ⟨a, b⟩ := a; have := w_bkeep_Peers a b hg; rw [← ht] at this; exact this)
theorem e_bkeep_Kids : (compFn Tryz.prog [] h_bkeep_Kids 20 ⟨95, none, none, false⟩).map (fun t (ρ : Fns) (v0 v1 : PV) (Q : List PV → Prop) => W ρ t [v0, v1] [] Q) = some S_bkeep_Kids := by kernel_rfl
theorem ok_bkeep_Kids : SigOK Tryz.prog ⟨95, none, none, false⟩ (ρ 95) := by
  show PureOK _ _ f_bkeep_Kids
  unfold f_bkeep_Kids fnT
  exact PureOK.of_e (ρ := ρ) (Ctx.of hname hmix (List.forall_mem_nil _)) (.inl (fun a p hp => by obtain ⟨_, _⟩ := a; simp only [F_bkeep_Kids, List.mem_cons, List.not_mem_nil, or_false] at hp; rcases hp with rfl <;> rfl)) (.inl rfl) e_bkeep_Kids (by intro t ht a hp hg; obtain ⟨a, b⟩ := a; have := w_bkeep_Kids a b hg; rw [← ht] at this; exact this)
theorem e_bkeep_Events : (compFn Tryz.prog [] h_bkeep_Events 20 ⟨97, none, none, false⟩).map (fun t (ρ : Fns) (v0 v1 : PV) (Q : List PV → Prop) => W ρ t [v0, v1] [] Q) = some S_bkeep_Events := by kernel_rfl
theorem ok_bkeep_Events : SigOK Tryz.prog ⟨97, none, none, false⟩ (ρ 97) := by
  show PureOK _ _ f_bkeep_Events
  unfold f_bkeep_Events fnT
  exact PureOK.of_e (ρ := ρ) (Ctx.of hname hmix (List.forall_mem_nil _)) (.inl (fun a p hp => by obtain ⟨_, _⟩ := a; simp only [F_bkeep_Events, List.mem_cons, List.not_mem_nil, or_false] at hp; rcases hp with rfl <;> rfl)) (.inl rfl) e_bkeep_Events (by intro t ht a hp hg; obtain ⟨a, b⟩ := a; have := w_bkeep_Events a b hg; rw [← ht] at this; exact this)
theorem e_bkeep_Bytes : (compFn Tryz.prog [] h_bkeep_Bytes 20 ⟨94, none, none, false⟩).map (fun t (ρ : Fns) (v0 v1 : PV) (Q : List PV → Prop) => W ρ t [v0, v1] [] Q) = some S_bkeep_Bytes := by kernel_rfl
theorem ok_bkeep_Bytes : SigOK Tryz.prog ⟨94, none, none, false⟩ (ρ 94) := by
  show PureOK _ _ f_bkeep_Bytes
  unfold f_bkeep_Bytes fnT
  exact PureOK.of_e (ρ := ρ) (Ctx.of hname hmix (List.forall_mem_nil _)) (.inl (fun a p hp => by obtain ⟨_, _⟩ := a; simp only [F_bkeep_Bytes, List.mem_cons, List.not_mem_nil, or_false] at hp; rcases hp with rfl <;> rfl)) (.inl rfl) e_bkeep_Bytes (by intro t ht a hp hg; obtain ⟨a, b⟩ := a; have := w_bkeep_Bytes a b hg; rw [← ht] at this; exact this)
theorem e_bkeep_Frame : (compFn Tryz.prog [sg 94] h_bkeep_Frame 20 ⟨58, none, none, false⟩).map (fun t (ρ : Fns) (v0 v1 v2 v3 : PV) (Q : List PV → Prop) => W ρ t [v0, v1, v2, v3] [] Q) = some S_bkeep_Frame := by kernel_rfl
theorem ok_bkeep_Frame : SigOK Tryz.prog ⟨58, none, none, false⟩ (ρ 58) := by
  show PureOK _ _ f_bkeep_Frame
  unfold f_bkeep_Frame fnT
  exact PureOK.of_e (ρ := ρ) (Ctx.of hname hmix (List.forall_mem_cons.2 ⟨ok_bkeep_Bytes, List.forall_mem_nil _⟩)) (.inl (fun a p hp => by obtain ⟨_, _, _, _⟩ := a; simp only [F_bkeep_Frame, List.mem_cons, List.not_mem_nil, or_false] at hp; rcases hp with rfl <;> rfl)) (.inl rfl) e_bkeep_Frame (by intro t ht a hp hg; obtain ⟨a_to, a_bytes, b_to, b_bytes⟩ := a; have := w_bkeep_Frame (Frame.mk a_to a_bytes) (Frame.mk b_to b_bytes) hg; rw [← ht] at this; exact this)
theorem e_bkeep_Frames : (compFn Tryz.prog [sg 58] h_bkeep_Frames 20 ⟨35, none, none, false⟩).map (fun t (ρ : Fns) (v0 v1 : PV) (Q : List PV → Prop) => W ρ t [v0, v1] [] Q) = some S_bkeep_Frames := by kernel_rfl
theorem ok_bkeep_Frames : SigOK Tryz.prog ⟨35, none, none, false⟩ (ρ 35) := by
  show PureOK _ _ f_bkeep_Frames
  unfold f_bkeep_Frames fnT
  exact PureOK.of_e (ρ := ρ) (Ctx.of hname hmix (List.forall_mem_cons.2 ⟨ok_bkeep_Frame, List.forall_mem_nil _⟩)) (.inl (fun a p hp => by obtain ⟨_, _⟩ := a; simp only [F_bkeep_Frames, List.mem_cons, List.not_mem_nil, or_false] at hp; rcases hp with rfl <;> rfl)) (.inl rfl) e_bkeep_Frames (by intro t ht a hp hg; obtain ⟨a, b⟩ := a; have := w_bkeep_Frames a b hg; rw [← ht] at this; exact this)
theorem e_bkeep_Topic : (compFn Tryz.prog [sg 17, sg 95, sg 96, sg 97] h_bkeep_Topic 20 ⟨60, none, none, false⟩).map (fun t (ρ : Fns) (v0 v1 v2 v3 v4 v5 v6 v7 v8 v9 v10 v11 v12 v13 v14 v15 v16 v17 v18 v19 v20 v21 v22 v23 v24 v25 v26 v27 v28 v29 v30 v31 : PV) (Q : List PV → Prop) => W ρ t [v0, v1, v2, v3, v4, v5, v6, v7, v8, v9, v10, v11, v12, v13, v14, v15, v16, v17, v18, v19, v20, v21, v22, v23, v24, v25, v26, v27, v28, v29, v30, v31] [] Q) = some S_bkeep_Topic := by kernel_rfl
theorem ok_bkeep_Topic : SigOK Tryz.prog ⟨60, none, none, false⟩ (ρ 60) := by
  show PureOK _ _ f_bkeep_Topic
  unfold f_bkeep_Topic fnT
  exact PureOK.of_e (ρ := ρ) (Ctx.of hname hmix (List.forall_mem_cons.2 ⟨ok_bkeep_Ints, List.forall_mem_cons.2 ⟨ok_bkeep_Kids, List.forall_mem_cons.2 ⟨ok_bkeep_Stream, List.forall_mem_cons.2 ⟨ok_bkeep_Events, List.forall_mem_nil _⟩⟩⟩⟩)) (.inl (fun a p hp => by obtain ⟨_, _, _, _, _, _, _, _, _, _, _, _, _, _, _, _, _, _, _, _, _, _, _, _, _, _, _, _, _, _, _, _⟩ := a; simp only [F_bkeep_Topic, List.mem_cons, List.not_mem_nil, or_false] at hp; rcases hp with rfl <;> rfl)) (.inl rfl) e_bkeep_Topic (by intro t ht a hp hg; obtain ⟨a_made, a_sub, a_top, a_root, a_parent, a_asked, a_other, a_age, a_path, a_kids, a_stream_epoch, a_stream_want, a_stream_known, a_stream_kept, a_stream_ahead, a_queue, b_made, b_sub, b_top, b_root, b_parent, b_asked, b_other, b_age, b_path, b_kids, b_stream_epoch, b_stream_want, b_stream_known, b_stream_kept, b_stream_ahead, b_queue⟩ := a; have := w_bkeep_Topic (Topic.mk a_made a_sub a_top a_root a_parent a_asked a_other a_age a_path a_kids (Stream.mk a_stream_epoch a_stream_want a_stream_known a_stream_kept a_stream_ahead) a_queue) (Topic.mk b_made b_sub b_top b_root b_parent b_asked b_other b_age b_path b_kids (Stream.mk b_stream_epoch b_stream_want b_stream_known b_stream_kept b_stream_ahead) b_queue) hg; rw [← ht] at this; exact this)
theorem e_bkeep_Node : (compFn Tryz.prog [sg 59, sg 60] h_bkeep_Node 20 ⟨36, none, none, false⟩).map (fun t (ρ : Fns) (v0 v1 v2 v3 v4 v5 v6 v7 v8 v9 v10 v11 v12 v13 v14 v15 v16 v17 : PV) (Q : List PV → Prop) => W ρ t [v0, v1, v2, v3, v4, v5, v6, v7, v8, v9, v10, v11, v12, v13, v14, v15, v16, v17] [] Q) = some S_bkeep_Node := by kernel_rfl
theorem ok_bkeep_Node : SigOK Tryz.prog ⟨36, none, none, false⟩ (ρ 36) := by
  show PureOK _ _ f_bkeep_Node
  unfold f_bkeep_Node fnT
  exact PureOK.of_e (ρ := ρ) (Ctx.of hname hmix (List.forall_mem_cons.2 ⟨ok_bkeep_Peers, List.forall_mem_cons.2 ⟨ok_bkeep_Topic, List.forall_mem_nil _⟩⟩)) (.inl (fun a p hp => by obtain ⟨_, _, _, _, _, _, _, _, _, _, _, _, _, _, _, _, _, _⟩ := a; simp only [F_bkeep_Node, List.mem_cons, List.not_mem_nil, or_false] at hp; rcases hp with rfl <;> rfl)) (.inl rfl) e_bkeep_Node (by intro t ht a hp hg; obtain ⟨a_up, a_inc, a_peers, a_topics, a_calls, a_pubs, a_asks, a_marks, a_taken, b_up, b_inc, b_peers, b_topics, b_calls, b_pubs, b_asks, b_marks, b_taken⟩ := a; have := w_bkeep_Node (Node.mk a_up a_inc a_peers a_topics a_calls a_pubs a_asks a_marks a_taken) (Node.mk b_up b_inc b_peers b_topics b_calls b_pubs b_asks b_marks b_taken) hg; rw [← ht] at this; exact this)
theorem e_bkeep_World : (compFn Tryz.prog [sg 35, sg 36] h_bkeep_World 20 ⟨12, none, none, false⟩).map (fun t (ρ : Fns) (v0 v1 v2 v3 : PV) (Q : List PV → Prop) => W ρ t [v0, v1, v2, v3] [] Q) = some S_bkeep_World := by kernel_rfl
theorem ok_bkeep_World : SigOK Tryz.prog ⟨12, none, none, false⟩ (ρ 12) := by
  show PureOK _ _ f_bkeep_World
  unfold f_bkeep_World fnT
  exact PureOK.of_e (ρ := ρ) (Ctx.of hname hmix (List.forall_mem_cons.2 ⟨ok_bkeep_Frames, List.forall_mem_cons.2 ⟨ok_bkeep_Node, List.forall_mem_nil _⟩⟩)) (.inl (fun a p hp => by obtain ⟨_, _, _, _⟩ := a; simp only [F_bkeep_World, List.mem_cons, List.not_mem_nil, or_false] at hp; rcases hp with rfl <;> rfl)) (.inl rfl) e_bkeep_World (by intro t ht a hp hg; obtain ⟨a_nodes, a_bag, b_nodes, b_bag⟩ := a; have := w_bkeep_World (World.mk a_nodes a_bag) (World.mk b_nodes b_bag) hg; rw [← ht] at this; exact this)
theorem e_bkeep_TwinKids : (compFn Tryz.prog [] h_bkeep_TwinKids 20 ⟨71, some 0, none, true⟩).map (fun t (ρ : Fns) (v0 : PV) (Q : List PV → Prop) => W ρ t [v0] [] Q) = some S_bkeep_TwinKids := by kernel_rfl
theorem ok_bkeep_TwinKids : SigOK Tryz.prog ⟨71, some 0, none, true⟩ (ρ 71) := by
  show PureOK _ _ f_bkeep_TwinKids
  unfold f_bkeep_TwinKids fnT
  exact PureOK.of_e (ρ := ρ) (Ctx.of hname hmix (List.forall_mem_nil _)) (.inr (by kernel_rfl)) (.inr (fun a => by exact flatOut_of (by simp [F_bkeep_TwinKids, FlatL, flat_L, PV.scalar]))) e_bkeep_TwinKids (by intro t ht l hp hg; have := w_bkeep_TwinKids l hp; rw [← ht] at this; exact this)
theorem e_bkeep_TwinItems : (compFn Tryz.prog [] h_bkeep_TwinItems 20 ⟨104, some 0, none, true⟩).map (fun t (ρ : Fns) (v0 : PV) (Q : List PV → Prop) => W ρ t [v0] [] Q) = some S_bkeep_TwinItems := by kernel_rfl
theorem ok_bkeep_TwinItems : SigOK Tryz.prog ⟨104, some 0, none, true⟩ (ρ 104) := by
  show PureOK _ _ f_bkeep_TwinItems
  unfold f_bkeep_TwinItems fnT
  exact PureOK.of_e (ρ := ρ) (Ctx.of hname hmix (List.forall_mem_nil _)) (.inr (by kernel_rfl)) (.inr (fun a => by exact flatOut_of (by simp [F_bkeep_TwinItems, FlatL, flat_L, PV.scalar]))) e_bkeep_TwinItems (by intro t ht l hp hg; have := w_bkeep_TwinItems l hp; rw [← ht] at this; exact this)
theorem e_bkeep_TwinEvents : (compFn Tryz.prog [] h_bkeep_TwinEvents 20 ⟨73, some 0, none, true⟩).map (fun t (ρ : Fns) (v0 : PV) (Q : List PV → Prop) => W ρ t [v0] [] Q) = some S_bkeep_TwinEvents := by kernel_rfl
theorem ok_bkeep_TwinEvents : SigOK Tryz.prog ⟨73, some 0, none, true⟩ (ρ 73) := by
  show PureOK _ _ f_bkeep_TwinEvents
  unfold f_bkeep_TwinEvents fnT
  exact PureOK.of_e (ρ := ρ) (Ctx.of hname hmix (List.forall_mem_nil _)) (.inr (by kernel_rfl)) (.inr (fun a => by exact flatOut_of (by simp [F_bkeep_TwinEvents, FlatL, flat_L, PV.scalar]))) e_bkeep_TwinEvents (by intro t ht l hp hg; have := w_bkeep_TwinEvents l hp; rw [← ht] at this; exact this)
theorem e_bkeep_TwinPeers : (compFn Tryz.prog [] h_bkeep_TwinPeers 20 ⟨45, some 0, none, true⟩).map (fun t (ρ : Fns) (v0 : PV) (Q : List PV → Prop) => W ρ t [v0] [] Q) = some S_bkeep_TwinPeers := by kernel_rfl
theorem ok_bkeep_TwinPeers : SigOK Tryz.prog ⟨45, some 0, none, true⟩ (ρ 45) := by
  show PureOK _ _ f_bkeep_TwinPeers
  unfold f_bkeep_TwinPeers fnT
  exact PureOK.of_e (ρ := ρ) (Ctx.of hname hmix (List.forall_mem_nil _)) (.inr (by kernel_rfl)) (.inr (fun a => by exact flatOut_of (by simp [F_bkeep_TwinPeers, FlatL, flat_L, PV.scalar]))) e_bkeep_TwinPeers (by intro t ht l hp hg; have := w_bkeep_TwinPeers l hp; rw [← ht] at this; exact this)
theorem e_bkeep_Twin : (compFn Tryz.prog [] h_bkeep_Twin 20 ⟨47, some 0, none, true⟩).map (fun t (ρ : Fns) (v0 : PV) (Q : List PV → Prop) => W ρ t [v0] [] Q) = some S_bkeep_Twin := by kernel_rfl
theorem ok_bkeep_Twin : SigOK Tryz.prog ⟨47, some 0, none, true⟩ (ρ 47) := by
  show PureOK _ _ f_bkeep_Twin
  unfold f_bkeep_Twin fnT
  exact PureOK.of_e (ρ := ρ) (Ctx.of hname hmix (List.forall_mem_nil _)) (.inr (by kernel_rfl)) (.inr (fun a => by exact flatOut_of (by simp [F_bkeep_Twin, FlatL, flat_L, PV.scalar]))) e_bkeep_Twin (by intro t ht l hp hg; have := w_bkeep_Twin l hp; rw [← ht] at this; exact this)
theorem e_bkeep_TwinStream : (compFn Tryz.prog [⟨104, some 0, none, true⟩] h_bkeep_TwinStream 20 ⟨72, none, none, false⟩).map (fun t (ρ : Fns) (v0 v1 v2 v3 v4 : PV) (Q : List PV → Prop) => W ρ t [v0, v1, v2, v3, v4] [] Q) = some S_bkeep_TwinStream := by kernel_rfl
theorem ok_bkeep_TwinStream : SigOK Tryz.prog ⟨72, none, none, false⟩ (ρ 72) := by
  show PureOK _ _ f_bkeep_TwinStream
  unfold f_bkeep_TwinStream fnT
  exact PureOK.of_e (ρ := ρ) (Ctx.of hname hmix (List.forall_mem_cons.2 ⟨ok_bkeep_TwinItems, List.forall_mem_nil _⟩)) (.inr (by kernel_rfl)) (.inl rfl) e_bkeep_TwinStream (by intro t ht a hp hg; obtain ⟨s_epoch, s_want, s_known, s_kept, s_ahead⟩ := a; have := w_bkeep_TwinStream (Stream.mk s_epoch s_want s_known s_kept s_ahead) hp; rw [← ht] at this; exact this)
theorem e_bkeep_TwinTopic : (compFn Tryz.prog [⟨70, some 0, none, false⟩, ⟨71, some 0, none, true⟩, sg 72, ⟨73, some 0, none, true⟩] h_bkeep_TwinTopic 20 ⟨46, none, none, false⟩).map (fun t (ρ : Fns) (v0 v1 v2 v3 v4 v5 v6 v7 v8 v9 v10 v11 v12 v13 v14 v15 : PV) (Q : List PV → Prop) => W ρ t [v0, v1, v2, v3, v4, v5, v6, v7, v8, v9, v10, v11, v12, v13, v14, v15] [] Q) = some S_bkeep_TwinTopic := by kernel_rfl
theorem ok_bkeep_TwinTopic : SigOK Tryz.prog ⟨46, none, none, false⟩ (ρ 46) := by
  show PureOK _ _ f_bkeep_TwinTopic
  unfold f_bkeep_TwinTopic fnT
  exact PureOK.of_e (ρ := ρ) (Ctx.of hname hmix (List.forall_mem_cons.2 ⟨ok_bkeep_TwinInts, List.forall_mem_cons.2 ⟨ok_bkeep_TwinKids, List.forall_mem_cons.2 ⟨ok_bkeep_TwinStream, List.forall_mem_cons.2 ⟨ok_bkeep_TwinEvents, List.forall_mem_nil _⟩⟩⟩⟩)) (.inr (by kernel_rfl)) (.inl rfl) e_bkeep_TwinTopic (by intro t ht a hp hg; obtain ⟨x_made, x_sub, x_top, x_root, x_parent, x_asked, x_other, x_age, x_path, x_kids, x_stream_epoch, x_stream_want, x_stream_known, x_stream_kept, x_stream_ahead, x_queue⟩ := a; have := w_bkeep_TwinTopic (Topic.mk x_made x_sub x_top x_root x_parent x_asked x_other x_age x_path x_kids (Stream.mk x_stream_epoch x_stream_want x_stream_known x_stream_kept x_stream_ahead) x_queue) hp; rw [← ht] at this; exact this)
theorem e_bkeep_TwinNode : (compFn Tryz.prog [⟨45, some 0, none, true⟩, sg 46] h_bkeep_TwinNode 20 ⟨22, none, none, false⟩).map (fun t (ρ : Fns) (v0 v1 v2 v3 v4 v5 v6 v7 v8 : PV) (Q : List PV → Prop) => W ρ t [v0, v1, v2, v3, v4, v5, v6, v7, v8] [] Q) = some S_bkeep_TwinNode := by kernel_rfl
theorem ok_bkeep_TwinNode : SigOK Tryz.prog ⟨22, none, none, false⟩ (ρ 22) := by
  show PureOK _ _ f_bkeep_TwinNode
  unfold f_bkeep_TwinNode fnT
  exact PureOK.of_e (ρ := ρ) (Ctx.of hname hmix (List.forall_mem_cons.2 ⟨ok_bkeep_TwinPeers, List.forall_mem_cons.2 ⟨ok_bkeep_TwinTopic, List.forall_mem_nil _⟩⟩)) (.inr (by kernel_rfl)) (.inl rfl) e_bkeep_TwinNode (by intro t ht a hp hg; obtain ⟨n_up, n_inc, n_peers, n_topics, n_calls, n_pubs, n_asks, n_marks, n_taken⟩ := a; have := w_bkeep_TwinNode (Node.mk n_up n_inc n_peers n_topics n_calls n_pubs n_asks n_marks n_taken) hp hg; rw [← ht] at this; exact this)
theorem e_bkeep_TwinFrames : (compFn Tryz.prog [⟨47, some 0, none, true⟩] h_bkeep_TwinFrames 20 ⟨23, none, none, false⟩).map (fun t (ρ : Fns) (v0 : PV) (Q : List PV → Prop) => W ρ t [v0] [] Q) = some S_bkeep_TwinFrames := by kernel_rfl
theorem ok_bkeep_TwinFrames : SigOK Tryz.prog ⟨23, none, none, false⟩ (ρ 23) := by
  show PureOK _ _ f_bkeep_TwinFrames
  unfold f_bkeep_TwinFrames fnT
  exact PureOK.of_e (ρ := ρ) (Ctx.of hname hmix (List.forall_mem_cons.2 ⟨ok_bkeep_Twin, List.forall_mem_nil _⟩)) (.inr (by kernel_rfl)) (.inl rfl) e_bkeep_TwinFrames (by intro t ht l hp hg; have := w_bkeep_TwinFrames l hp hg; rw [← ht] at this; exact this)
theorem e_bkeep_TwinWorld : (compFn Tryz.prog [sg 22, sg 23] h_bkeep_TwinWorld 20 ⟨6, none, none, false⟩).map (fun t (ρ : Fns) (v0 v1 : PV) (Q : List PV → Prop) => W ρ t [v0, v1] [] Q) = some S_bkeep_TwinWorld := by kernel_rfl
theorem ok_bkeep_TwinWorld : SigOK Tryz.prog ⟨6, none, none, false⟩ (ρ 6) := by
  show PureOK _ _ f_bkeep_TwinWorld
  unfold f_bkeep_TwinWorld fnT
  exact PureOK.of_e (ρ := ρ) (Ctx.of hname hmix (List.forall_mem_cons.2 ⟨ok_bkeep_TwinNode, List.forall_mem_cons.2 ⟨ok_bkeep_TwinFrames, List.forall_mem_nil _⟩⟩)) (.inr (by kernel_rfl)) (.inl rfl) e_bkeep_TwinWorld (by intro t ht a hp hg; obtain ⟨w_nodes, w_bag⟩ := a; have := w_bkeep_TwinWorld (World.mk w_nodes w_bag) hp hg; rw [← ht] at this; exact this)
theorem e_law18_Heavy : (compFn Tryz.prog [] h_law18_Heavy 20 ⟨69, none, none, false⟩).map (fun t (ρ : Fns) (v0 v1 v2 v3 v4 v5 : PV) (Q : List PV → Prop) => W ρ t [v0, v1, v2, v3, v4, v5] [] Q) = some S_law18_Heavy := by kernel_rfl
theorem ok_law18_Heavy : SigOK Tryz.prog ⟨69, none, none, false⟩ (ρ 69) := by
  show PureOK _ _ f_law18_Heavy
  unfold f_law18_Heavy fnT
  exact PureOK.of_e (ρ := ρ) (Ctx.of hname hmix (List.forall_mem_nil _)) (.inl (fun a p hp => by obtain ⟨_, _, _, _, _, _⟩ := a; simp only [F_law18_Heavy, List.mem_cons, List.not_mem_nil, or_false] at hp; rcases hp with rfl <;> rfl)) (.inl rfl) e_law18_Heavy (by intro t ht a hp hg; obtain ⟨s_epoch, s_want, s_known, s_kept, s_ahead, q⟩ := a; have := w_law18_Heavy (Stream.mk s_epoch s_want s_known s_kept s_ahead) q hg; rw [← ht] at this; exact this)
theorem e_law19_Heavy : (compFn Tryz.prog [sg 69] h_law19_Heavy 20 ⟨44, none, none, false⟩).map (fun t (ρ : Fns) (v0 v1 v2 v3 v4 v5 v6 v7 v8 v9 v10 v11 v12 v13 v14 v15 : PV) (Q : List PV → Prop) => W ρ t [v0, v1, v2, v3, v4, v5, v6, v7, v8, v9, v10, v11, v12, v13, v14, v15] [] Q) = some S_law19_Heavy := by kernel_rfl
theorem ok_law19_Heavy : SigOK Tryz.prog ⟨44, none, none, false⟩ (ρ 44) := by
  show PureOK _ _ f_law19_Heavy
  unfold f_law19_Heavy fnT
  exact PureOK.of_e (ρ := ρ) (Ctx.of hname hmix (List.forall_mem_cons.2 ⟨ok_law18_Heavy, List.forall_mem_nil _⟩)) (.inl (fun a p hp => by obtain ⟨_, _, _, _, _, _, _, _, _, _, _, _, _, _, _, _⟩ := a; simp only [F_law19_Heavy, List.mem_cons, List.not_mem_nil, or_false] at hp; rcases hp with rfl <;> rfl)) (.inl rfl) e_law19_Heavy (by intro t ht a hp hg; obtain ⟨x_made, x_sub, x_top, x_root, x_parent, x_asked, x_other, x_age, x_path, x_kids, x_stream_epoch, x_stream_want, x_stream_known, x_stream_kept, x_stream_ahead, x_queue⟩ := a; have := w_law19_Heavy (Topic.mk x_made x_sub x_top x_root x_parent x_asked x_other x_age x_path x_kids (Stream.mk x_stream_epoch x_stream_want x_stream_known x_stream_kept x_stream_ahead) x_queue) hg; rw [← ht] at this; exact this)
theorem e_law21_Heavy : (compFn Tryz.prog [sg 44] h_law21_Heavy 20 ⟨20, none, none, false⟩).map (fun t (ρ : Fns) (v0 v1 v2 v3 v4 v5 v6 v7 v8 : PV) (Q : List PV → Prop) => W ρ t [v0, v1, v2, v3, v4, v5, v6, v7, v8] [] Q) = some S_law21_Heavy := by kernel_rfl
theorem ok_law21_Heavy : SigOK Tryz.prog ⟨20, none, none, false⟩ (ρ 20) := by
  show PureOK _ _ f_law21_Heavy
  unfold f_law21_Heavy fnT
  exact PureOK.of_e (ρ := ρ) (Ctx.of hname hmix (List.forall_mem_cons.2 ⟨ok_law19_Heavy, List.forall_mem_nil _⟩)) (.inl (fun a p hp => by obtain ⟨_, _, _, _, _, _, _, _, _⟩ := a; simp only [F_law21_Heavy, List.mem_cons, List.not_mem_nil, or_false] at hp; rcases hp with rfl <;> rfl)) (.inl rfl) e_law21_Heavy (by intro t ht a hp hg; obtain ⟨n_up, n_inc, n_peers, n_topics, n_calls, n_pubs, n_asks, n_marks, n_taken⟩ := a; have := w_law21_Heavy (Node.mk n_up n_inc n_peers n_topics n_calls n_pubs n_asks n_marks n_taken) hg; rw [← ht] at this; exact this)
theorem e_law08_Heavy : (compFn Tryz.prog [] h_law08_Heavy 20 ⟨21, none, none, false⟩).map (fun t (ρ : Fns) (v0 : PV) (Q : List PV → Prop) => W ρ t [v0] [] Q) = some S_law08_Heavy := by kernel_rfl
theorem ok_law08_Heavy : SigOK Tryz.prog ⟨21, none, none, false⟩ (ρ 21) := by
  show PureOK _ _ f_law08_Heavy
  unfold f_law08_Heavy fnT
  exact PureOK.of_e (ρ := ρ) (Ctx.of hname hmix (List.forall_mem_nil _)) (.inl (fun a p hp => by simp only [F_law08_Heavy, List.mem_cons, List.not_mem_nil, or_false] at hp; rcases hp with rfl <;> rfl)) (.inl rfl) e_law08_Heavy (by intro t ht l hp hg; have := w_law08_Heavy l hg; rw [← ht] at this; exact this)
theorem e_law25_Heavy : (compFn Tryz.prog [sg 20, sg 21] h_law25_Heavy 20 ⟨5, none, none, false⟩).map (fun t (ρ : Fns) (v0 v1 : PV) (Q : List PV → Prop) => W ρ t [v0, v1] [] Q) = some S_law25_Heavy := by kernel_rfl
theorem ok_law25_Heavy : SigOK Tryz.prog ⟨5, none, none, false⟩ (ρ 5) := by
  show PureOK _ _ f_law25_Heavy
  unfold f_law25_Heavy fnT
  exact PureOK.of_e (ρ := ρ) (Ctx.of hname hmix (List.forall_mem_cons.2 ⟨ok_law21_Heavy, List.forall_mem_cons.2 ⟨ok_law08_Heavy, List.forall_mem_nil _⟩⟩)) (.inl (fun a p hp => by obtain ⟨_, _⟩ := a; simp only [F_law25_Heavy, List.mem_cons, List.not_mem_nil, or_false] at hp; rcases hp with rfl <;> rfl)) (.inl rfl) e_law25_Heavy (by intro t ht a hp hg; obtain ⟨w_nodes, w_bag⟩ := a; have := w_law25_Heavy (World.mk w_nodes w_bag) hg; rw [← ht] at this; exact this)
theorem e_bag_right : (compFn Tryz.prog [sg 108] h_bag_right 20 ⟨82, none, none, false⟩).map (fun t (ρ : Fns) (v0 v1 : PV) (Q : List PV → Prop) => W ρ t [v0, v1] [] Q) = some S_bag_right := by kernel_rfl
theorem ok_bag_right : SigOK Tryz.prog ⟨82, none, none, false⟩ (ρ 82) := by
  show PureOK _ _ f_bag_right
  unfold f_bag_right fnT
  exact PureOK.of_e (ρ := ρ) (Ctx.of hname hmix (List.forall_mem_cons.2 ⟨ok_ring_Is, List.forall_mem_nil _⟩)) (.inl (fun a p hp => by obtain ⟨_, _⟩ := a; simp only [F_bag_right, List.mem_cons, List.not_mem_nil, or_false] at hp; rcases hp with rfl <;> rfl)) (.inl rfl) e_bag_right (by intro t ht a hp hg; obtain ⟨f_to, f_bytes⟩ := a; have := w_bag_right (Frame.mk f_to f_bytes) hg; rw [← ht] at this; exact this)
theorem e_bag_Check : (compFn Tryz.prog [sg 82] h_bag_Check 20 ⟨50, none, none, false⟩).map (fun t (ρ : Fns) (v0 : PV) (Q : List PV → Prop) => W ρ t [v0] [] Q) = some S_bag_Check := by kernel_rfl
theorem ok_bag_Check : SigOK Tryz.prog ⟨50, none, none, false⟩ (ρ 50) := by
  show PureOK _ _ f_bag_Check
  unfold f_bag_Check fnT
  exact PureOK.of_e (ρ := ρ) (Ctx.of hname hmix (List.forall_mem_cons.2 ⟨ok_bag_right, List.forall_mem_nil _⟩)) (.inl (fun a p hp => by simp only [F_bag_Check, List.mem_cons, List.not_mem_nil, or_false] at hp; rcases hp with rfl <;> rfl)) (.inl rfl) e_bag_Check (by intro t ht l hp hg; have := w_bag_Check l hg; rw [← ht] at this; exact this)
theorem e_ref01_Frame : (compFn Tryz.prog [sg 43] h_ref01_Frame 20 ⟨61, none, none, false⟩).map (fun t (ρ : Fns) (v0 v1 : PV) (Q : List PV → Prop) => W ρ t [v0, v1] [] Q) = some S_ref01_Frame := by kernel_rfl
theorem ok_ref01_Frame : SigOK Tryz.prog ⟨61, none, none, false⟩ (ρ 61) := by
  show PureOK _ _ f_ref01_Frame
  unfold f_ref01_Frame fnT
  exact PureOK.of_e (ρ := ρ) (Ctx.of hname hmix (List.forall_mem_cons.2 ⟨ok_ref01_IsNode, List.forall_mem_nil _⟩)) (.inl (fun a p hp => by obtain ⟨_, _⟩ := a; simp only [F_ref01_Frame, List.mem_cons, List.not_mem_nil, or_false] at hp; rcases hp with rfl <;> rfl)) (.inl rfl) e_ref01_Frame (by intro t ht a hp hg; obtain ⟨f_to, f_bytes⟩ := a; have := w_ref01_Frame (Frame.mk f_to f_bytes) hg; rw [← ht] at this; exact this)
theorem e_ref01_Bag : (compFn Tryz.prog [sg 61] h_ref01_Bag 20 ⟨38, none, none, false⟩).map (fun t (ρ : Fns) (v0 : PV) (Q : List PV → Prop) => W ρ t [v0] [] Q) = some S_ref01_Bag := by kernel_rfl
theorem ok_ref01_Bag : SigOK Tryz.prog ⟨38, none, none, false⟩ (ρ 38) := by
  show PureOK _ _ f_ref01_Bag
  unfold f_ref01_Bag fnT
  exact PureOK.of_e (ρ := ρ) (Ctx.of hname hmix (List.forall_mem_cons.2 ⟨ok_ref01_Frame, List.forall_mem_nil _⟩)) (.inl (fun a p hp => by simp only [F_ref01_Bag, List.mem_cons, List.not_mem_nil, or_false] at hp; rcases hp with rfl <;> rfl)) (.inl rfl) e_ref01_Bag (by intro t ht l hp hg; have := w_ref01_Bag l hg; rw [← ht] at this; exact this)
theorem e_world_bare : (compFn Tryz.prog [] h_world_bare 20 ⟨90, none, none, false⟩).map (fun t (ρ : Fns) (v0 v1 v2 v3 v4 v5 v6 v7 v8 v9 v10 v11 v12 v13 v14 v15 : PV) (Q : List PV → Prop) => W ρ t [v0, v1, v2, v3, v4, v5, v6, v7, v8, v9, v10, v11, v12, v13, v14, v15] [] Q) = some S_world_bare := by kernel_rfl
theorem ok_world_bare : SigOK Tryz.prog ⟨90, none, none, false⟩ (ρ 90) := by
  show PureOK _ _ f_world_bare
  unfold f_world_bare fnT
  exact PureOK.of_e (ρ := ρ) (Ctx.of hname hmix (List.forall_mem_nil _)) (.inl (fun a p hp => by obtain ⟨_, _, _, _, _, _, _, _, _, _, _, _, _, _, _, _⟩ := a; simp only [F_world_bare, List.mem_cons, List.not_mem_nil, or_false] at hp; rcases hp with rfl <;> rfl)) (.inl rfl) e_world_bare (by intro t ht a hp hg; obtain ⟨x_made, x_sub, x_top, x_root, x_parent, x_asked, x_other, x_age, x_path, x_kids, x_stream_epoch, x_stream_want, x_stream_known, x_stream_kept, x_stream_ahead, x_queue⟩ := a; have := w_world_bare (Topic.mk x_made x_sub x_top x_root x_parent x_asked x_other x_age x_path x_kids (Stream.mk x_stream_epoch x_stream_want x_stream_known x_stream_kept x_stream_ahead) x_queue) hg; rw [← ht] at this; exact this)
theorem e_world_down : (compFn Tryz.prog [sg 90, sg 91] h_world_down 20 ⟨52, none, none, false⟩).map (fun t (ρ : Fns) (v0 v1 v2 v3 v4 v5 v6 v7 v8 v9 v10 v11 v12 v13 v14 v15 : PV) (Q : List PV → Prop) => W ρ t [v0, v1, v2, v3, v4, v5, v6, v7, v8, v9, v10, v11, v12, v13, v14, v15] [] Q) = some S_world_down := by kernel_rfl
theorem ok_world_down : SigOK Tryz.prog ⟨52, none, none, false⟩ (ρ 52) := by
  show PureOK _ _ f_world_down
  unfold f_world_down fnT
  exact PureOK.of_e (ρ := ρ) (Ctx.of hname hmix (List.forall_mem_cons.2 ⟨ok_world_bare, List.forall_mem_cons.2 ⟨ok_msg_Counted, List.forall_mem_nil _⟩⟩)) (.inl (fun a p hp => by obtain ⟨_, _, _, _, _, _, _, _, _, _, _, _, _, _, _, _⟩ := a; simp only [F_world_down, List.mem_cons, List.not_mem_nil, or_false] at hp; rcases hp with rfl <;> rfl)) (.inl rfl) e_world_down (by intro t ht a hp hg; obtain ⟨c_nodes, c_topics, c_kids, c_depth, c_keep, c_window, c_queue, n_up, n_inc, n_peers, n_topics, n_calls, n_pubs, n_asks, n_marks, n_taken⟩ := a; have := w_world_down (Config.mk c_nodes c_topics c_kids c_depth c_keep c_window c_queue) (Node.mk n_up n_inc n_peers n_topics n_calls n_pubs n_asks n_marks n_taken) hp hg; rw [← ht] at this; exact this)
theorem e_world_Check : (compFn Tryz.prog [sg 49, sg 50, sg 51, sg 52] h_world_Check 20 ⟨26, none, none, false⟩).map (fun t (ρ : Fns) (v0 v1 v2 v3 v4 v5 v6 v7 v8 : PV) (Q : List PV → Prop) => W ρ t [v0, v1, v2, v3, v4, v5, v6, v7, v8] [] Q) = some S_world_Check := by kernel_rfl
theorem ok_world_Check : SigOK Tryz.prog ⟨26, none, none, false⟩ (ρ 26) := by
  show PureOK _ _ f_world_Check
  unfold f_world_Check fnT
  exact PureOK.of_e (ρ := ρ) (Ctx.of hname hmix (List.forall_mem_cons.2 ⟨ok_script_Config, List.forall_mem_cons.2 ⟨ok_bag_Check, List.forall_mem_cons.2 ⟨ok_cast_Check, List.forall_mem_cons.2 ⟨ok_world_down, List.forall_mem_nil _⟩⟩⟩⟩)) (.inl (fun a p hp => by obtain ⟨_, _, _, _, _, _, _, _, _⟩ := a; simp only [F_world_Check, List.mem_cons, List.not_mem_nil, or_false] at hp; rcases hp with rfl <;> rfl)) (.inl rfl) e_world_Check (by intro t ht a hp hg; obtain ⟨c_nodes, c_topics, c_kids, c_depth, c_keep, c_window, c_queue, w_nodes, w_bag⟩ := a; have := w_world_Check (Config.mk c_nodes c_topics c_kids c_depth c_keep c_window c_queue) (World.mk w_nodes w_bag) hg; rw [← ht] at this; exact this)
theorem e_ref19_down : (compFn Tryz.prog [] h_ref19_down 20 ⟨40, none, none, false⟩).map (fun t (ρ : Fns) (v0 v1 v2 v3 v4 v5 v6 v7 v8 v9 v10 v11 v12 v13 v14 v15 : PV) (Q : List PV → Prop) => W ρ t [v0, v1, v2, v3, v4, v5, v6, v7, v8, v9, v10, v11, v12, v13, v14, v15] [] Q) = some S_ref19_down := by kernel_rfl
theorem ok_ref19_down : SigOK Tryz.prog ⟨40, none, none, false⟩ (ρ 40) := by
  show PureOK _ _ f_ref19_down
  unfold f_ref19_down fnT
  exact PureOK.of_e (ρ := ρ) (Ctx.of hname hmix (List.forall_mem_nil _)) (.inr (by kernel_rfl)) (.inl rfl) e_ref19_down (by intro t ht a hp hg; obtain ⟨c_nodes, c_topics, c_kids, c_depth, c_keep, c_window, c_queue, n_up, n_inc, n_peers, n_topics, n_calls, n_pubs, n_asks, n_marks, n_taken⟩ := a; have := w_ref19_down (Config.mk c_nodes c_topics c_kids c_depth c_keep c_window c_queue) (Node.mk n_up n_inc n_peers n_topics n_calls n_pubs n_asks n_marks n_taken) hp hg; rw [← ht] at this; exact this)
theorem e_ref19_World : (compFn Tryz.prog [sg 36, sg 38, sg 39, sg 40] h_ref19_World 20 ⟨14, none, none, false⟩).map (fun t (ρ : Fns) (v0 v1 v2 v3 v4 v5 v6 v7 v8 : PV) (Q : List PV → Prop) => W ρ t [v0, v1, v2, v3, v4, v5, v6, v7, v8] [] Q) = some S_ref19_World := by kernel_rfl
theorem ok_ref19_World : SigOK Tryz.prog ⟨14, none, none, false⟩ (ρ 14) := by
  show PureOK _ _ f_ref19_World
  unfold f_ref19_World fnT
  exact PureOK.of_e (ρ := ρ) (Ctx.of hname hmix (List.forall_mem_cons.2 ⟨ok_bkeep_Node, List.forall_mem_cons.2 ⟨ok_ref01_Bag, List.forall_mem_cons.2 ⟨ok_ref19_Node, List.forall_mem_cons.2 ⟨ok_ref19_down, List.forall_mem_nil _⟩⟩⟩⟩)) (.inl (fun a p hp => by obtain ⟨_, _, _, _, _, _, _, _, _⟩ := a; simp only [F_ref19_World, List.mem_cons, List.not_mem_nil, or_false] at hp; rcases hp with rfl <;> rfl)) (.inl rfl) e_ref19_World (by intro t ht a hp hg; obtain ⟨c_nodes, c_topics, c_kids, c_depth, c_keep, c_window, c_queue, w_nodes, w_bag⟩ := a; have := w_ref19_World (Config.mk c_nodes c_topics c_kids c_depth c_keep c_window c_queue) (World.mk w_nodes w_bag) hp hg; rw [← ht] at this; exact this)
theorem e_world_blank : (compFn Tryz.prog [] h_world_blank 20 ⟨68, none, none, false⟩).map (fun t (ρ : Fns) (v0 v1 v2 v3 v4 v5 v6 v7 v8 : PV) (Q : List PV → Prop) => W ρ t [v0, v1, v2, v3, v4, v5, v6, v7, v8] [] Q) = some S_world_blank := by kernel_rfl
theorem ok_world_blank : SigOK Tryz.prog ⟨68, none, none, false⟩ (ρ 68) := by
  show PureOK _ _ f_world_blank
  unfold f_world_blank fnT
  exact PureOK.of_e (ρ := ρ) (Ctx.of hname hmix (List.forall_mem_nil _)) (.inr (by kernel_rfl)) (.inl rfl) e_world_blank (by intro t ht a hp hg; obtain ⟨c_nodes, c_topics, c_kids, c_depth, c_keep, c_window, c_queue, inc, old⟩ := a; have := w_world_blank (Config.mk c_nodes c_topics c_kids c_depth c_keep c_window c_queue) inc old hp hg; rw [← ht] at this; exact this)
theorem e_world_up : (compFn Tryz.prog [] h_world_up 20 ⟨67, none, none, false⟩).map (fun t (ρ : Fns) (v0 v1 v2 v3 v4 v5 v6 v7 v8 : PV) (Q : List PV → Prop) => W ρ t [v0, v1, v2, v3, v4, v5, v6, v7, v8] [] Q) = some S_world_up := by kernel_rfl
theorem ok_world_up : SigOK Tryz.prog ⟨67, none, none, false⟩ (ρ 67) := by
  show PureOK _ _ f_world_up
  unfold f_world_up fnT
  exact PureOK.of_e (ρ := ρ) (Ctx.of hname hmix (List.forall_mem_nil _)) (.inr (by kernel_rfl)) (.inl rfl) e_world_up (by intro t ht a hp hg; obtain ⟨n_up, n_inc, n_peers, n_topics, n_calls, n_pubs, n_asks, n_marks, n_taken⟩ := a; have := w_world_up (Node.mk n_up n_inc n_peers n_topics n_calls n_pubs n_asks n_marks n_taken); rw [← ht] at this; exact this)
theorem e_world_New : (compFn Tryz.prog [sg 49, sg 67, sg 68] h_world_New 20 ⟨42, none, none, false⟩).map (fun t (ρ : Fns) (v0 v1 v2 v3 v4 v5 v6 : PV) (Q : List PV → Prop) => W ρ t [v0, v1, v2, v3, v4, v5, v6] [] Q) = some S_world_New := by kernel_rfl
theorem ok_world_New : SigOK Tryz.prog ⟨42, none, none, false⟩ (ρ 42) := by
  show PureOK _ _ f_world_New
  unfold f_world_New fnT
  exact PureOK.of_e (ρ := ρ) (Ctx.of hname hmix (List.forall_mem_cons.2 ⟨ok_script_Config, List.forall_mem_cons.2 ⟨ok_world_up, List.forall_mem_cons.2 ⟨ok_world_blank, List.forall_mem_nil _⟩⟩⟩)) (.inr (by kernel_rfl)) (.inl rfl) e_world_New (by intro t ht a hp hg; obtain ⟨c_nodes, c_topics, c_kids, c_depth, c_keep, c_window, c_queue⟩ := a; have := w_world_New (Config.mk c_nodes c_topics c_kids c_depth c_keep c_window c_queue); rw [← ht] at this; exact this)
theorem e_check_asked : (compFn Tryz.prog [sg 26] h_check_asked 20 ⟨24, none, none, false⟩).map (fun t (ρ : Fns) (v0 v1 v2 v3 v4 v5 v6 v7 v8 v9 : PV) (Q : List PV → Prop) => W ρ t [v0, v1, v2, v3, v4, v5, v6, v7, v8, v9] [] Q) = some S_check_asked := by kernel_rfl
theorem ok_check_asked : SigOK Tryz.prog ⟨24, none, none, false⟩ (ρ 24) := by
  show PureOK _ _ f_check_asked
  unfold f_check_asked fnT
  exact PureOK.of_e (ρ := ρ) (Ctx.of hname hmix (List.forall_mem_cons.2 ⟨ok_world_Check, List.forall_mem_nil _⟩)) (.inl (fun a p hp => by obtain ⟨_, _, _, _, _, _, _, _, _, _⟩ := a; simp only [F_check_asked, List.mem_cons, List.not_mem_nil, or_false] at hp; rcases hp with rfl <;> rfl)) (.inl rfl) e_check_asked (by intro t ht a hp hg; obtain ⟨c_nodes, c_topics, c_kids, c_depth, c_keep, c_window, c_queue, w_nodes, w_bag, t⟩ := a; have := w_check_asked (Config.mk c_nodes c_topics c_kids c_depth c_keep c_window c_queue) (World.mk w_nodes w_bag) t hg; rw [← ht] at this; exact this)
theorem e_check_Parents : (compFn Tryz.prog [sg 24] h_check_Parents 20 ⟨7, none, none, false⟩).map (fun t (ρ : Fns) (v0 v1 v2 v3 v4 v5 v6 v7 v8 v9 : PV) (Q : List PV → Prop) => W ρ t [v0, v1, v2, v3, v4, v5, v6, v7, v8, v9] [] Q) = some S_check_Parents := by kernel_rfl
theorem ok_check_Parents : SigOK Tryz.prog ⟨7, none, none, false⟩ (ρ 7) := by
  show PureOK _ _ f_check_Parents
  unfold f_check_Parents fnT
  exact PureOK.of_e (ρ := ρ) (Ctx.of hname hmix (List.forall_mem_cons.2 ⟨ok_check_asked, List.forall_mem_nil _⟩)) (.inr (by kernel_rfl)) (.inl rfl) e_check_Parents (by intro t ht a hp hg; obtain ⟨c_nodes, c_topics, c_kids, c_depth, c_keep, c_window, c_queue, w_nodes, w_bag, t⟩ := a; have := w_check_Parents (Config.mk c_nodes c_topics c_kids c_depth c_keep c_window c_queue) (World.mk w_nodes w_bag) t hg; rw [← ht] at this; exact this)
theorem e_check_Roots : (compFn Tryz.prog [sg 24] h_check_Roots 20 ⟨8, none, none, false⟩).map (fun t (ρ : Fns) (v0 v1 v2 v3 v4 v5 v6 v7 v8 v9 : PV) (Q : List PV → Prop) => W ρ t [v0, v1, v2, v3, v4, v5, v6, v7, v8, v9] [] Q) = some S_check_Roots := by kernel_rfl
theorem ok_check_Roots : SigOK Tryz.prog ⟨8, none, none, false⟩ (ρ 8) := by
  show PureOK _ _ f_check_Roots
  unfold f_check_Roots fnT
  exact PureOK.of_e (ρ := ρ) (Ctx.of hname hmix (List.forall_mem_cons.2 ⟨ok_check_asked, List.forall_mem_nil _⟩)) (.inr (by kernel_rfl)) (.inl rfl) e_check_Roots (by intro t ht a hp hg; obtain ⟨c_nodes, c_topics, c_kids, c_depth, c_keep, c_window, c_queue, w_nodes, w_bag, t⟩ := a; have := w_check_Roots (Config.mk c_nodes c_topics c_kids c_depth c_keep c_window c_queue) (World.mk w_nodes w_bag) t hg; rw [← ht] at this; exact this)
theorem e_check_whole : (compFn Tryz.prog [sg 48] h_check_whole 20 ⟨25, none, none, false⟩).map (fun t (ρ : Fns) (v0 v1 v2 : PV) (Q : List PV → Prop) => W ρ t [v0, v1, v2] [] Q) = some S_check_whole := by kernel_rfl
theorem ok_check_whole : SigOK Tryz.prog ⟨25, none, none, false⟩ (ρ 25) := by
  show PureOK _ _ f_check_whole
  unfold f_check_whole fnT
  exact PureOK.of_e (ρ := ρ) (Ctx.of hname hmix (List.forall_mem_cons.2 ⟨ok_path_Whole, List.forall_mem_nil _⟩)) (.inl (fun a p hp => by obtain ⟨_, _, _⟩ := a; simp only [F_check_whole, List.mem_cons, List.not_mem_nil, or_false] at hp; rcases hp with rfl <;> rfl)) (.inl rfl) e_check_whole (by intro t ht a hp hg; obtain ⟨w_nodes, w_bag, t⟩ := a; have := w_check_whole (World.mk w_nodes w_bag) t hp hg; rw [← ht] at this; exact this)
theorem e_check_Whole : (compFn Tryz.prog [sg 24, sg 25] h_check_Whole 20 ⟨9, none, none, false⟩).map (fun t (ρ : Fns) (v0 v1 v2 v3 v4 v5 v6 v7 v8 v9 : PV) (Q : List PV → Prop) => W ρ t [v0, v1, v2, v3, v4, v5, v6, v7, v8, v9] [] Q) = some S_check_Whole := by kernel_rfl
theorem ok_check_Whole : SigOK Tryz.prog ⟨9, none, none, false⟩ (ρ 9) := by
  show PureOK _ _ f_check_Whole
  unfold f_check_Whole fnT
  exact PureOK.of_e (ρ := ρ) (Ctx.of hname hmix (List.forall_mem_cons.2 ⟨ok_check_asked, List.forall_mem_cons.2 ⟨ok_check_whole, List.forall_mem_nil _⟩⟩)) (.inl (fun a p hp => by obtain ⟨_, _, _, _, _, _, _, _, _, _⟩ := a; simp only [F_check_Whole, List.mem_cons, List.not_mem_nil, or_false] at hp; rcases hp with rfl | rfl <;> rfl)) (.inl rfl) e_check_Whole (by intro t ht a hp hg; obtain ⟨c_nodes, c_topics, c_kids, c_depth, c_keep, c_window, c_queue, w_nodes, w_bag, t⟩ := a; have := w_check_Whole (Config.mk c_nodes c_topics c_kids c_depth c_keep c_window c_queue) (World.mk w_nodes w_bag) t hg; rw [← ht] at this; exact this)
theorem e_check_last : (compFn Tryz.prog [] h_check_last 20 ⟨34, none, none, false⟩).map (fun t (ρ : Fns) (v0 v1 v2 v3 v4 v5 : PV) (Q : List PV → Prop) => W ρ t [v0, v1, v2, v3, v4, v5] [] Q) = some S_check_last := by kernel_rfl
theorem ok_check_last : SigOK Tryz.prog ⟨34, none, none, false⟩ (ρ 34) := by
  show PureOK _ _ f_check_last
  unfold f_check_last fnT
  exact PureOK.of_e (ρ := ρ) (Ctx.of hname hmix (List.forall_mem_nil _)) (.inl (fun a p hp => by obtain ⟨_, _, _, _, _, _⟩ := a; simp only [F_check_last, List.mem_cons, List.not_mem_nil, or_false] at hp; rcases hp with rfl | rfl <;> rfl)) (.inl rfl) e_check_last (by intro t ht a hp hg; obtain ⟨x_kind, x_epoch, x_seq, x_last, x_value, x_count⟩ := a; have := w_check_last (Event.mk x_kind x_epoch x_seq x_last x_value x_count); rw [← ht] at this; exact this)
theorem e_check_Rises : (compFn Tryz.prog [sg 34] h_check_Rises 20 ⟨11, none, none, false⟩).map (fun t (ρ : Fns) (v0 : PV) (Q : List PV → Prop) => W ρ t [v0] [] Q) = some S_check_Rises := by kernel_rfl
theorem ok_check_Rises : SigOK Tryz.prog ⟨11, none, none, false⟩ (ρ 11) := by
  show PureOK _ _ f_check_Rises
  unfold f_check_Rises fnT
  exact PureOK.of_e (ρ := ρ) (Ctx.of hname hmix (List.forall_mem_cons.2 ⟨ok_check_last, List.forall_mem_nil _⟩)) (.inl (fun a p hp => by simp only [F_check_Rises, List.mem_cons, List.not_mem_nil, or_false] at hp; rcases hp with rfl <;> rfl)) (.inl rfl) e_check_Rises (by intro t ht l hp hg; have := w_check_Rises l hg; rw [← ht] at this; exact this)
theorem e_check_deep : (compFn Tryz.prog [] h_check_deep 20 ⟨29, none, none, false⟩).map (fun t (ρ : Fns) (v0 v1 v2 v3 v4 v5 v6 v7 v8 v9 v10 v11 v12 v13 v14 v15 : PV) (Q : List PV → Prop) => W ρ t [v0, v1, v2, v3, v4, v5, v6, v7, v8, v9, v10, v11, v12, v13, v14, v15] [] Q) = some S_check_deep := by kernel_rfl
theorem ok_check_deep : SigOK Tryz.prog ⟨29, none, none, false⟩ (ρ 29) := by
  show PureOK _ _ f_check_deep
  unfold f_check_deep fnT
  exact PureOK.of_e (ρ := ρ) (Ctx.of hname hmix (List.forall_mem_nil _)) (.inl (fun a p hp => by obtain ⟨_, _, _, _, _, _, _, _, _, _, _, _, _, _, _, _⟩ := a; simp only [F_check_deep, List.mem_cons, List.not_mem_nil, or_false] at hp; rcases hp with rfl <;> rfl)) (.inl rfl) e_check_deep (by intro t ht a hp hg; obtain ⟨c_nodes, c_topics, c_kids, c_depth, c_keep, c_window, c_queue, n_up, n_inc, n_peers, n_topics, n_calls, n_pubs, n_asks, n_marks, n_taken⟩ := a; have := w_check_deep (Config.mk c_nodes c_topics c_kids c_depth c_keep c_window c_queue) (Node.mk n_up n_inc n_peers n_topics n_calls n_pubs n_asks n_marks n_taken) hg; rw [← ht] at this; exact this)
theorem e_check_full : (compFn Tryz.prog [] h_check_full 20 ⟨33, none, none, false⟩).map (fun t (ρ : Fns) (v0 v1 v2 v3 v4 v5 v6 v7 v8 v9 v10 v11 v12 v13 v14 v15 v16 v17 v18 v19 v20 v21 v22 : PV) (Q : List PV → Prop) => W ρ t [v0, v1, v2, v3, v4, v5, v6, v7, v8, v9, v10, v11, v12, v13, v14, v15, v16, v17, v18, v19, v20, v21, v22] [] Q) = some S_check_full := by kernel_rfl
theorem ok_check_full : SigOK Tryz.prog ⟨33, none, none, false⟩ (ρ 33) := by
  show PureOK _ _ f_check_full
  unfold f_check_full fnT
  exact PureOK.of_e (ρ := ρ) (Ctx.of hname hmix (List.forall_mem_nil _)) (.inl (fun a p hp => by obtain ⟨_, _, _, _, _, _, _, _, _, _, _, _, _, _, _, _, _, _, _, _, _, _, _⟩ := a; simp only [F_check_full, List.mem_cons, List.not_mem_nil, or_false] at hp; rcases hp with rfl <;> rfl)) (.inl rfl) e_check_full (by intro t ht a hp hg; obtain ⟨c_nodes, c_topics, c_kids, c_depth, c_keep, c_window, c_queue, x_made, x_sub, x_top, x_root, x_parent, x_asked, x_other, x_age, x_path, x_kids, x_stream_epoch, x_stream_want, x_stream_known, x_stream_kept, x_stream_ahead, x_queue⟩ := a; have := w_check_full (Config.mk c_nodes c_topics c_kids c_depth c_keep c_window c_queue) (Topic.mk x_made x_sub x_top x_root x_parent x_asked x_other x_age x_path x_kids (Stream.mk x_stream_epoch x_stream_want x_stream_known x_stream_kept x_stream_ahead) x_queue) hg; rw [← ht] at this; exact this)
theorem e_slices_Contains_int_int : (compFn Tryz.prog [] h_slices_Contains_int_int 20 ⟨56, none, none, false⟩).map (fun t (ρ : Fns) (v0 v1 : PV) (Q : List PV → Prop) => W ρ t [v0, v1] [] Q) = some S_slices_Contains_int_int := by kernel_rfl
theorem ok_slices_Contains_int_int : SigOK Tryz.prog ⟨56, none, none, false⟩ (ρ 56) := by
  show PureOK _ _ f_slices_Contains_int_int
  unfold f_slices_Contains_int_int fnT
  exact PureOK.of_e (ρ := ρ) (Ctx.of hname hmix (List.forall_mem_nil _)) (.inl (fun a p hp => by obtain ⟨_, _⟩ := a; simp only [F_slices_Contains_int_int, List.mem_cons, List.not_mem_nil, or_false] at hp; rcases hp with rfl <;> rfl)) (.inl rfl) e_slices_Contains_int_int (by intro t ht a hp hg; obtain ⟨l, n⟩ := a; have := w_slices_Contains_int_int l n hg; rw [← ht] at this; exact this)
theorem e_check_rooted : (compFn Tryz.prog [sg 55, sg 56] h_check_rooted 20 ⟨30, none, none, false⟩).map (fun t (ρ : Fns) (v0 v1 v2 : PV) (Q : List PV → Prop) => W ρ t [v0, v1, v2] [] Q) = some S_check_rooted := by kernel_rfl
theorem ok_check_rooted : SigOK Tryz.prog ⟨30, none, none, false⟩ (ρ 30) := by
  show PureOK _ _ f_check_rooted
  unfold f_check_rooted fnT
  exact PureOK.of_e (ρ := ρ) (Ctx.of hname hmix (List.forall_mem_cons.2 ⟨ok_epoch_Who, List.forall_mem_cons.2 ⟨ok_slices_Contains_int_int, List.forall_mem_nil _⟩⟩)) (.inl (fun a p hp => by obtain ⟨_, _, _⟩ := a; simp only [F_check_rooted, List.mem_cons, List.not_mem_nil, or_false] at hp; rcases hp with rfl <;> rfl)) (.inl rfl) e_check_rooted (by intro t ht a hp hg; obtain ⟨w_nodes, w_bag, t⟩ := a; have := w_check_rooted (World.mk w_nodes w_bag) t hp hg; rw [← ht] at this; exact this)
theorem e_check_Holds : (compFn Tryz.prog [sg 25, sg 26, sg 29, sg 30, sg 33] h_check_Holds 20 ⟨10, none, none, false⟩).map (fun t (ρ : Fns) (v0 v1 v2 v3 v4 v5 v6 v7 v8 : PV) (Q : List PV → Prop) => W ρ t [v0, v1, v2, v3, v4, v5, v6, v7, v8] [] Q) = some S_check_Holds := by kernel_rfl
theorem ok_check_Holds : SigOK Tryz.prog ⟨10, none, none, false⟩ (ρ 10) := by
  show PureOK _ _ f_check_Holds
  unfold f_check_Holds fnT
  exact PureOK.of_e (ρ := ρ) (Ctx.of hname hmix (List.forall_mem_cons.2 ⟨ok_check_whole, List.forall_mem_cons.2 ⟨ok_world_Check, List.forall_mem_cons.2 ⟨ok_check_deep, List.forall_mem_cons.2 ⟨ok_check_rooted, List.forall_mem_cons.2 ⟨ok_check_full, List.forall_mem_nil _⟩⟩⟩⟩⟩)) (.inl (fun a p hp => by obtain ⟨_, _, _, _, _, _, _, _, _⟩ := a; simp only [F_check_Holds, List.mem_cons, List.not_mem_nil, or_false] at hp; rcases hp with rfl <;> rfl)) (.inl rfl) e_check_Holds (by intro t ht a hp hg; obtain ⟨c_nodes, c_topics, c_kids, c_depth, c_keep, c_window, c_queue, w_nodes, w_bag⟩ := a; have := w_check_Holds (Config.mk c_nodes c_topics c_kids c_depth c_keep c_window c_queue) (World.mk w_nodes w_bag) hg; rw [← ht] at this; exact this)
theorem e_ref19_Holds : (compFn Tryz.prog [sg 18] h_ref19_Holds 20 ⟨16, none, none, false⟩).map (fun t (ρ : Fns) (v0 v1 v2 v3 v4 v5 v6 v7 v8 : PV) (Q : List PV → Prop) => W ρ t [v0, v1, v2, v3, v4, v5, v6, v7, v8] [] Q) = some S_ref19_Holds := by kernel_rfl
theorem ok_ref19_Holds : SigOK Tryz.prog ⟨16, none, none, false⟩ (ρ 16) := by
  show PureOK _ _ f_ref19_Holds
  unfold f_ref19_Holds fnT
  exact PureOK.of_e (ρ := ρ) (Ctx.of hname hmix (List.forall_mem_cons.2 ⟨ok_ref10_Whole, List.forall_mem_nil _⟩)) (.inl (fun a p hp => by obtain ⟨_, _, _, _, _, _, _, _, _⟩ := a; simp only [F_ref19_Holds, List.mem_cons, List.not_mem_nil, or_false] at hp; rcases hp with rfl <;> rfl)) (.inl rfl) e_ref19_Holds (by intro t ht a hp hg; obtain ⟨c_nodes, c_topics, c_kids, c_depth, c_keep, c_window, c_queue, w_nodes, w_bag⟩ := a; have := w_ref19_Holds (Config.mk c_nodes c_topics c_kids c_depth c_keep c_window c_queue) (World.mk w_nodes w_bag) hp hg; rw [← ht] at this; exact this)
theorem e_law19_Full : (compFn Tryz.prog [] h_law19_Full 20 ⟨41, none, none, false⟩).map (fun t (ρ : Fns) (Q : List PV → Prop) => W ρ t [] [] Q) = some S_law19_Full := by kernel_rfl
theorem ok_law19_Full : SigOK Tryz.prog ⟨41, none, none, false⟩ (ρ 41) := by
  show PureOK _ _ f_law19_Full
  unfold f_law19_Full fnT
  exact PureOK.of_e (ρ := ρ) (Ctx.of hname hmix (List.forall_mem_nil _)) (.inl (fun a p hp => by simp only [F_law19_Full, List.mem_cons, List.not_mem_nil, or_false] at hp; rcases hp with rfl | rfl | rfl | rfl | rfl | rfl | rfl <;> rfl)) (.inl rfl) e_law19_Full (by intro t ht a hp hg; have := w_law19_Full ; rw [← ht] at this; exact this)
theorem e_law27_wakes : (compFn Tryz.prog [sg 7, sg 8, sg 9, sg 10, sg 11, sg 41, sg 42] h_law27_wakes 20 ⟨15, none, none, false⟩).map (fun t (ρ : Fns) (Q : List PV → Prop) => W ρ t [] [] Q) = some S_law27_wakes := by kernel_rfl
theorem ok_law27_wakes : SigOK Tryz.prog ⟨15, none, none, false⟩ (ρ 15) := by
  show PureOK _ _ f_law27_wakes
  unfold f_law27_wakes fnT
  exact PureOK.of_e (ρ := ρ) (Ctx.of hname hmix (List.forall_mem_cons.2 ⟨ok_check_Parents, List.forall_mem_cons.2 ⟨ok_check_Roots, List.forall_mem_cons.2 ⟨ok_check_Whole, List.forall_mem_cons.2 ⟨ok_check_Holds, List.forall_mem_cons.2 ⟨ok_check_Rises, List.forall_mem_cons.2 ⟨ok_law19_Full, List.forall_mem_cons.2 ⟨ok_world_New, List.forall_mem_nil _⟩⟩⟩⟩⟩⟩⟩)) (.inl (fun a p hp => by simp only [F_law27_wakes, List.mem_cons, List.not_mem_nil, or_false] at hp; rcases hp with rfl <;> rfl)) (.inl rfl) e_law27_wakes (by intro t ht a hp hg; have := w_law27_wakes ; rw [← ht] at this; exact this)
theorem e_law27_CheckExact : (compFn Tryz.prog [sg 5, sg 6, sg 7, sg 8, sg 9, sg 10, sg 11, sg 12, sg 13, sg 14, sg 15, sg 16, sg 17, sg 18] h_law27_CheckExact 20 ⟨3, none, none, false⟩).map (fun t (ρ : Fns) (v0 v1 v2 v3 v4 v5 v6 v7 v8 v9 v10 : PV) (Q : List PV → Prop) => W ρ t [v0, v1, v2, v3, v4, v5, v6, v7, v8, v9, v10] [] Q) = some S_law27_CheckExact := by kernel_rfl
theorem ok_law27_CheckExact : SigOK Tryz.prog ⟨3, none, none, false⟩ (ρ 3) := by
  show PureOK _ _ f_law27_CheckExact
  unfold f_law27_CheckExact fnT
  exact PureOK.of_e (ρ := ρ) (Ctx.of hname hmix (List.forall_mem_cons.2 ⟨ok_law25_Heavy, List.forall_mem_cons.2 ⟨ok_bkeep_TwinWorld, List.forall_mem_cons.2 ⟨ok_check_Parents, List.forall_mem_cons.2 ⟨ok_check_Roots, List.forall_mem_cons.2 ⟨ok_check_Whole, List.forall_mem_cons.2 ⟨ok_check_Holds, List.forall_mem_cons.2 ⟨ok_check_Rises, List.forall_mem_cons.2 ⟨ok_bkeep_World, List.forall_mem_cons.2 ⟨ok_ref01_Config, List.forall_mem_cons.2 ⟨ok_ref19_World, List.forall_mem_cons.2 ⟨ok_law27_wakes, List.forall_mem_cons.2 ⟨ok_ref19_Holds, List.forall_mem_cons.2 ⟨ok_bkeep_Ints, List.forall_mem_cons.2 ⟨ok_ref10_Whole, List.forall_mem_nil _⟩⟩⟩⟩⟩⟩⟩⟩⟩⟩⟩⟩⟩⟩)) (.inl (fun a p hp => by obtain ⟨_, _, _, _, _, _, _, _, _, _, _⟩ := a; simp only [F_law27_CheckExact, List.mem_cons, List.not_mem_nil, or_false] at hp; rcases hp with rfl <;> rfl)) (.inl rfl) e_law27_CheckExact (by intro t ht a hp hg; obtain ⟨c_nodes, c_topics, c_kids, c_depth, c_keep, c_window, c_queue, w_nodes, w_bag, t, l⟩ := a; have := w_law27_CheckExact (Config.mk c_nodes c_topics c_kids c_depth c_keep c_window c_queue) (World.mk w_nodes w_bag) t l hp hg; rw [← ht] at this; exact this)
end Go.Xt
