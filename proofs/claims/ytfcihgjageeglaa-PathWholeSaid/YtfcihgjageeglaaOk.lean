/- Each function keeps its contract. -/
import Derived.Test.YtfcihgjageeglaaH
import Derived.Test.YtfcihgjageeglaaW4
import Derived.Test.YtfcihgjageeglaaRows
open Go.Proofs
set_option maxRecDepth 100000
set_option linter.unusedVariables false
set_option linter.unusedSimpArgs false
namespace Go.Xt
theorem hname : (Try.prog.funcs.toList.all fun fn => !(fn.name == "runtime.NumGoroutine")) = true := by kernel_rfl
theorem hmix : Try.prog.follows .mixedOrders = true := by kernel_rfl
theorem e_ring_Is : (compFn Try.prog [] h_ring_Is 20 ⟨52, none⟩).map (fun t (ρ : Fns) (v0 : PV) (Q : List PV → Prop) => W ρ t [v0] [] Q) = some S_ring_Is := by kernel_rfl
theorem ok_ring_Is : PureOK Try.prog ⟨52, none⟩ (ρ 52) := by
  show PureOK _ _ f_ring_Is
  unfold f_ring_Is
  exact PureOK.of_e (ρ := ρ) (Ctx.of hname hmix (List.forall_mem_nil _)) (.inl (fun a p hp => by simp only [List.mem_cons, List.not_mem_nil, or_false] at hp; rcases hp with rfl <;> rfl)) e_ring_Is (by intro t ht n hp hg; have := w_ring_Is n; rw [← ht] at this; exact this)
theorem e_ring_Node : (compFn Try.prog [⟨52, none⟩] h_ring_Node 20 ⟨35, none⟩).map (fun t (ρ : Fns) (v0 : PV) (Q : List PV → Prop) => W ρ t [v0] [] Q) = some S_ring_Node := by kernel_rfl
theorem ok_ring_Node : PureOK Try.prog ⟨35, none⟩ (ρ 35) := by
  show PureOK _ _ f_ring_Node
  unfold f_ring_Node
  exact PureOK.of_e (ρ := ρ) (Ctx.of hname hmix (List.forall_mem_cons.2 ⟨ok_ring_Is, List.forall_mem_nil _⟩)) (.inl (fun a p hp => by simp only [List.mem_cons, List.not_mem_nil, or_false] at hp; rcases hp with rfl | rfl <;> rfl)) e_ring_Node (by intro t ht n hp hg; have := w_ring_Node n; rw [← ht] at this; exact this)
theorem e_ring_Topic : (compFn Try.prog [] h_ring_Topic 20 ⟨61, none⟩).map (fun t (ρ : Fns) (v0 : PV) (Q : List PV → Prop) => W ρ t [v0] [] Q) = some S_ring_Topic := by kernel_rfl
theorem ok_ring_Topic : PureOK Try.prog ⟨61, none⟩ (ρ 61) := by
  show PureOK _ _ f_ring_Topic
  unfold f_ring_Topic
  exact PureOK.of_e (ρ := ρ) (Ctx.of hname hmix (List.forall_mem_nil _)) (.inl (fun a p hp => by simp only [List.mem_cons, List.not_mem_nil, or_false] at hp; rcases hp with rfl | rfl <;> rfl)) e_ring_Topic (by intro t ht t hp hg; have := w_ring_Topic t; rw [← ht] at this; exact this)
theorem e_key_Far : (compFn Try.prog [] h_key_Far 20 ⟨60, none⟩).map (fun t (ρ : Fns) (v0 v1 : PV) (Q : List PV → Prop) => W ρ t [v0, v1] [] Q) = some S_key_Far := by kernel_rfl
theorem ok_key_Far : PureOK Try.prog ⟨60, none⟩ (ρ 60) := by
  show PureOK _ _ f_key_Far
  unfold f_key_Far
  exact PureOK.of_e (ρ := ρ) (Ctx.of hname hmix (List.forall_mem_nil _)) (.inl (fun a p hp => by obtain ⟨_, _⟩ := a; simp only [List.mem_cons, List.not_mem_nil, or_false] at hp; rcases hp with rfl <;> rfl)) e_key_Far (by intro t ht a hp hg; obtain ⟨k, n⟩ := a; have := w_key_Far k n hp; rw [← ht] at this; exact this)
theorem e_ref01_Node : (compFn Try.prog [] h_ref01_Node 20 ⟨54, none⟩).map (fun t (ρ : Fns) (v0 : PV) (Q : List PV → Prop) => W ρ t [v0] [] Q) = some S_ref01_Node := by kernel_rfl
theorem ok_ref01_Node : PureOK Try.prog ⟨54, none⟩ (ρ 54) := by
  show PureOK _ _ f_ref01_Node
  unfold f_ref01_Node
  exact PureOK.of_e (ρ := ρ) (Ctx.of hname hmix (List.forall_mem_nil _)) (.inl (fun a p hp => by simp only [List.mem_cons, List.not_mem_nil, or_false] at hp; rcases hp with rfl <;> rfl)) e_ref01_Node (by intro t ht n hp hg; have := w_ref01_Node n hp; rw [← ht] at this; exact this)
theorem e_ref01_Topic : (compFn Try.prog [] h_ref01_Topic 20 ⟨73, none⟩).map (fun t (ρ : Fns) (v0 : PV) (Q : List PV → Prop) => W ρ t [v0] [] Q) = some S_ref01_Topic := by kernel_rfl
theorem ok_ref01_Topic : PureOK Try.prog ⟨73, none⟩ (ρ 73) := by
  show PureOK _ _ f_ref01_Topic
  unfold f_ref01_Topic
  exact PureOK.of_e (ρ := ρ) (Ctx.of hname hmix (List.forall_mem_nil _)) (.inl (fun a p hp => by simp only [List.mem_cons, List.not_mem_nil, or_false] at hp; rcases hp with rfl <;> rfl)) e_ref01_Topic (by intro t ht t hp hg; have := w_ref01_Topic t hp; rw [← ht] at this; exact this)
theorem e_ref01_Behind : (compFn Try.prog [] h_ref01_Behind 20 ⟨55, none⟩).map (fun t (ρ : Fns) (v0 v1 : PV) (Q : List PV → Prop) => W ρ t [v0, v1] [] Q) = some S_ref01_Behind := by kernel_rfl
theorem ok_ref01_Behind : PureOK Try.prog ⟨55, none⟩ (ρ 55) := by
  show PureOK _ _ f_ref01_Behind
  unfold f_ref01_Behind
  exact PureOK.of_e (ρ := ρ) (Ctx.of hname hmix (List.forall_mem_nil _)) (.inl (fun a p hp => by obtain ⟨_, _⟩ := a; simp only [List.mem_cons, List.not_mem_nil, or_false] at hp; rcases hp with rfl <;> rfl)) e_ref01_Behind (by intro t ht a hp hg; obtain ⟨k, n⟩ := a; have := w_ref01_Behind k n hp; rw [← ht] at this; exact this)
theorem e_ring_Gap : (compFn Try.prog [⟨35, none⟩, ⟨60, none⟩, ⟨61, none⟩] h_ring_Gap 20 ⟨46, none⟩).map (fun t (ρ : Fns) (v0 v1 : PV) (Q : List PV → Prop) => W ρ t [v0, v1] [] Q) = some S_ring_Gap := by kernel_rfl
theorem ok_ring_Gap : PureOK Try.prog ⟨46, none⟩ (ρ 46) := by
  show PureOK _ _ f_ring_Gap
  unfold f_ring_Gap
  exact PureOK.of_e (ρ := ρ) (Ctx.of hname hmix (List.forall_mem_cons.2 ⟨ok_ring_Node, List.forall_mem_cons.2 ⟨ok_key_Far, List.forall_mem_cons.2 ⟨ok_ring_Topic, List.forall_mem_nil _⟩⟩⟩)) (.inl (fun a p hp => by obtain ⟨_, _⟩ := a; simp only [List.mem_cons, List.not_mem_nil, or_false] at hp; rcases hp with rfl | rfl <;> rfl)) e_ring_Gap (by intro t ht a hp hg; obtain ⟨t, n⟩ := a; have := w_ring_Gap t n; rw [← ht] at this; exact this)
theorem e_ring_Nearer : (compFn Try.prog [⟨46, none⟩] h_ring_Nearer 20 ⟨22, none⟩).map (fun t (ρ : Fns) (v0 v1 v2 : PV) (Q : List PV → Prop) => W ρ t [v0, v1, v2] [] Q) = some S_ring_Nearer := by kernel_rfl
theorem ok_ring_Nearer : PureOK Try.prog ⟨22, none⟩ (ρ 22) := by
  show PureOK _ _ f_ring_Nearer
  unfold f_ring_Nearer
  exact PureOK.of_e (ρ := ρ) (Ctx.of hname hmix (List.forall_mem_cons.2 ⟨ok_ring_Gap, List.forall_mem_nil _⟩)) (.inl (fun a p hp => by obtain ⟨_, _, _⟩ := a; simp only [List.mem_cons, List.not_mem_nil, or_false] at hp; rcases hp with rfl <;> rfl)) e_ring_Nearer (by intro t ht a hp hg; obtain ⟨t, a, b⟩ := a; have := w_ring_Nearer t a b; rw [← ht] at this; exact this)
theorem e_ref01_IsTopic : (compFn Try.prog [] h_ref01_IsTopic 20 ⟨17, none⟩).map (fun t (ρ : Fns) (v0 : PV) (Q : List PV → Prop) => W ρ t [v0] [] Q) = some S_ref01_IsTopic := by kernel_rfl
theorem ok_ref01_IsTopic : PureOK Try.prog ⟨17, none⟩ (ρ 17) := by
  show PureOK _ _ f_ref01_IsTopic
  unfold f_ref01_IsTopic
  exact PureOK.of_e (ρ := ρ) (Ctx.of hname hmix (List.forall_mem_nil _)) (.inl (fun a p hp => by simp only [List.mem_cons, List.not_mem_nil, or_false] at hp; rcases hp with rfl <;> rfl)) e_ref01_IsTopic (by intro t ht t hp hg; have := w_ref01_IsTopic t; rw [← ht] at this; exact this)
theorem e_ref01_IsNode : (compFn Try.prog [] h_ref01_IsNode 20 ⟨18, none⟩).map (fun t (ρ : Fns) (v0 : PV) (Q : List PV → Prop) => W ρ t [v0] [] Q) = some S_ref01_IsNode := by kernel_rfl
theorem ok_ref01_IsNode : PureOK Try.prog ⟨18, none⟩ (ρ 18) := by
  show PureOK _ _ f_ref01_IsNode
  unfold f_ref01_IsNode
  exact PureOK.of_e (ρ := ρ) (Ctx.of hname hmix (List.forall_mem_nil _)) (.inl (fun a p hp => by simp only [List.mem_cons, List.not_mem_nil, or_false] at hp; rcases hp with rfl <;> rfl)) e_ref01_IsNode (by intro t ht n hp hg; have := w_ref01_IsNode n; rw [← ht] at this; exact this)
theorem e_ref01_Gap : (compFn Try.prog [⟨54, none⟩, ⟨55, none⟩, ⟨73, none⟩] h_ref01_Gap 20 ⟨65, none⟩).map (fun t (ρ : Fns) (v0 v1 : PV) (Q : List PV → Prop) => W ρ t [v0, v1] [] Q) = some S_ref01_Gap := by kernel_rfl
theorem ok_ref01_Gap : PureOK Try.prog ⟨65, none⟩ (ρ 65) := by
  show PureOK _ _ f_ref01_Gap
  unfold f_ref01_Gap
  exact PureOK.of_e (ρ := ρ) (Ctx.of hname hmix (List.forall_mem_cons.2 ⟨ok_ref01_Node, List.forall_mem_cons.2 ⟨ok_ref01_Behind, List.forall_mem_cons.2 ⟨ok_ref01_Topic, List.forall_mem_nil _⟩⟩⟩)) (.inl (fun a p hp => by obtain ⟨_, _⟩ := a; simp only [List.mem_cons, List.not_mem_nil, or_false] at hp; rcases hp with rfl <;> rfl)) e_ref01_Gap (by intro t ht a hp hg; obtain ⟨t, n⟩ := a; have := w_ref01_Gap t n hp; rw [← ht] at this; exact this)
theorem e_ref01_Nearer : (compFn Try.prog [⟨17, none⟩, ⟨18, none⟩, ⟨65, none⟩] h_ref01_Nearer 20 ⟨45, none⟩).map (fun t (ρ : Fns) (v0 v1 v2 : PV) (Q : List PV → Prop) => W ρ t [v0, v1, v2] [] Q) = some S_ref01_Nearer := by kernel_rfl
theorem ok_ref01_Nearer : PureOK Try.prog ⟨45, none⟩ (ρ 45) := by
  show PureOK _ _ f_ref01_Nearer
  unfold f_ref01_Nearer
  exact PureOK.of_e (ρ := ρ) (Ctx.of hname hmix (List.forall_mem_cons.2 ⟨ok_ref01_IsTopic, List.forall_mem_cons.2 ⟨ok_ref01_IsNode, List.forall_mem_cons.2 ⟨ok_ref01_Gap, List.forall_mem_nil _⟩⟩⟩)) (.inl (fun a p hp => by obtain ⟨_, _, _⟩ := a; simp only [List.mem_cons, List.not_mem_nil, or_false] at hp; rcases hp with rfl <;> rfl)) e_ref01_Nearer (by intro t ht a hp hg; obtain ⟨t, a, b⟩ := a; have := w_ref01_Nearer t a b; rw [← ht] at this; exact this)
theorem e_ring_All : (compFn Try.prog [⟨52, none⟩] h_ring_All 20 ⟨42, none⟩).map (fun t (ρ : Fns) (v0 : PV) (Q : List PV → Prop) => W ρ t [v0] [] Q) = some S_ring_All := by kernel_rfl
theorem ok_ring_All : PureOK Try.prog ⟨42, none⟩ (ρ 42) := by
  show PureOK _ _ f_ring_All
  unfold f_ring_All
  exact PureOK.of_e (ρ := ρ) (Ctx.of hname hmix (List.forall_mem_cons.2 ⟨ok_ring_Is, List.forall_mem_nil _⟩)) (.inl (fun a p hp => by simp only [List.mem_cons, List.not_mem_nil, or_false] at hp; rcases hp with rfl <;> rfl)) e_ring_All (by intro t ht l hp hg; have := w_ring_All l hg; rw [← ht] at this; exact this)
theorem e_path_rises : (compFn Try.prog [⟨22, none⟩] h_path_rises 20 ⟨47, none⟩).map (fun t (ρ : Fns) (v0 v1 v2 : PV) (Q : List PV → Prop) => W ρ t [v0, v1, v2] [] Q) = some S_path_rises := by kernel_rfl
theorem ok_path_rises : PureOK Try.prog ⟨47, none⟩ (ρ 47) := by
  show PureOK _ _ f_path_rises
  unfold f_path_rises
  exact PureOK.of_e (ρ := ρ) (Ctx.of hname hmix (List.forall_mem_cons.2 ⟨ok_ring_Nearer, List.forall_mem_nil _⟩)) (.inl (fun a p hp => by obtain ⟨_, _, _⟩ := a; simp only [List.mem_cons, List.not_mem_nil, or_false] at hp; rcases hp with rfl <;> rfl)) e_path_rises (by intro t ht a hp hg; obtain ⟨t, self, l⟩ := a; have := w_path_rises t self l hg; rw [← ht] at this; exact this)
theorem e_path_Check : (compFn Try.prog [⟨42, none⟩, ⟨46, none⟩, ⟨47, none⟩] h_path_Check 20 ⟨20, none⟩).map (fun t (ρ : Fns) (v0 v1 v2 v3 : PV) (Q : List PV → Prop) => W ρ t [v0, v1, v2, v3] [] Q) = some S_path_Check := by kernel_rfl
theorem ok_path_Check : PureOK Try.prog ⟨20, none⟩ (ρ 20) := by
  show PureOK _ _ f_path_Check
  unfold f_path_Check
  exact PureOK.of_e (ρ := ρ) (Ctx.of hname hmix (List.forall_mem_cons.2 ⟨ok_ring_All, List.forall_mem_cons.2 ⟨ok_ring_Gap, List.forall_mem_cons.2 ⟨ok_path_rises, List.forall_mem_nil _⟩⟩⟩)) (.inl (fun a p hp => by obtain ⟨_, _, _, _⟩ := a; simp only [List.mem_cons, List.not_mem_nil, or_false] at hp; rcases hp with rfl <;> rfl)) e_path_Check (by intro t ht a hp hg; obtain ⟨t, self, l, depth⟩ := a; have := w_path_Check t self l depth hg; rw [← ht] at this; exact this)
theorem e_path_Add : (compFn Try.prog [⟨20, none⟩] h_path_Add 20 ⟨13, none⟩).map (fun t (ρ : Fns) (v0 v1 v2 : PV) (Q : List PV → Prop) => W ρ t [v0, v1, v2] [] Q) = some S_path_Add := by kernel_rfl
theorem ok_path_Add : PureOK Try.prog ⟨13, none⟩ (ρ 13) := by
  show PureOK _ _ f_path_Add
  unfold f_path_Add
  exact PureOK.of_e (ρ := ρ) (Ctx.of hname hmix (List.forall_mem_cons.2 ⟨ok_path_Check, List.forall_mem_nil _⟩)) (.inr (by kernel_rfl)) e_path_Add (by intro t ht a hp hg; obtain ⟨t, self, l⟩ := a; have := w_path_Add t self l hg; rw [← ht] at this; exact this)
theorem e_path_parent : (compFn Try.prog [] h_path_parent 20 ⟨43, none⟩).map (fun t (ρ : Fns) (v0 v1 : PV) (Q : List PV → Prop) => W ρ t [v0, v1] [] Q) = some S_path_parent := by kernel_rfl
theorem ok_path_parent : PureOK Try.prog ⟨43, none⟩ (ρ 43) := by
  show PureOK _ _ f_path_parent
  unfold f_path_parent
  exact PureOK.of_e (ρ := ρ) (Ctx.of hname hmix (List.forall_mem_nil _)) (.inl (fun a p hp => by obtain ⟨_, _⟩ := a; simp only [List.mem_cons, List.not_mem_nil, or_false] at hp; rcases hp with rfl <;> rfl)) e_path_parent (by intro t ht a hp hg; obtain ⟨paths, n⟩ := a; have := w_path_parent paths n hp; rw [← ht] at this; exact this)
theorem e_path_Whole : (compFn Try.prog [⟨42, none⟩, ⟨43, none⟩] h_path_Whole 20 ⟨14, none⟩).map (fun t (ρ : Fns) (v0 v1 : PV) (Q : List PV → Prop) => W ρ t [v0, v1] [] Q) = some S_path_Whole := by kernel_rfl
theorem ok_path_Whole : PureOK Try.prog ⟨14, none⟩ (ρ 14) := by
  show PureOK _ _ f_path_Whole
  unfold f_path_Whole
  exact PureOK.of_e (ρ := ρ) (Ctx.of hname hmix (List.forall_mem_cons.2 ⟨ok_ring_All, List.forall_mem_cons.2 ⟨ok_path_parent, List.forall_mem_nil _⟩⟩)) (.inl (fun a p hp => by obtain ⟨_, _⟩ := a; simp only [List.mem_cons, List.not_mem_nil, or_false] at hp; rcases hp with rfl <;> rfl)) e_path_Whole (by intro t ht a hp hg; obtain ⟨t, paths⟩ := a; have := w_path_Whole t paths hg; rw [← ht] at this; exact this)
theorem e_bkeep_TwinInts : (compFn Try.prog [] h_bkeep_TwinInts 20 ⟨12, some 0⟩).map (fun t (ρ : Fns) (v0 : PV) (Q : List PV → Prop) => W ρ t [v0] [] Q) = some S_bkeep_TwinInts := by kernel_rfl
theorem ok_bkeep_TwinInts : PureOK Try.prog ⟨12, some 0⟩ (ρ 12) := by
  show PureOK _ _ f_bkeep_TwinInts
  unfold f_bkeep_TwinInts
  exact PureOK.of_e (ρ := ρ) (Ctx.of hname hmix (List.forall_mem_nil _)) (.inr (by kernel_rfl)) e_bkeep_TwinInts (by intro t ht l hp hg; have := w_bkeep_TwinInts l hp; rw [← ht] at this; exact this)
theorem e_bkeep_Ints : (compFn Try.prog [] h_bkeep_Ints 20 ⟨16, none⟩).map (fun t (ρ : Fns) (v0 v1 : PV) (Q : List PV → Prop) => W ρ t [v0, v1] [] Q) = some S_bkeep_Ints := by kernel_rfl
theorem ok_bkeep_Ints : PureOK Try.prog ⟨16, none⟩ (ρ 16) := by
  show PureOK _ _ f_bkeep_Ints
  unfold f_bkeep_Ints
  exact PureOK.of_e (ρ := ρ) (Ctx.of hname hmix (List.forall_mem_nil _)) (.inl (fun a p hp => by obtain ⟨_, _⟩ := a; simp only [List.mem_cons, List.not_mem_nil, or_false] at hp; rcases hp with rfl <;> rfl)) e_bkeep_Ints (by intro t ht a hp hg; obtain ⟨a, b⟩ := a; have := w_bkeep_Ints a b hg; rw [← ht] at this; exact this)
theorem e_ref10_Path : (compFn Try.prog [⟨18, none⟩, ⟨45, none⟩] h_ref10_Path 20 ⟨19, none⟩).map (fun t (ρ : Fns) (v0 v1 v2 v3 : PV) (Q : List PV → Prop) => W ρ t [v0, v1, v2, v3] [] Q) = some S_ref10_Path := by kernel_rfl
theorem ok_ref10_Path : PureOK Try.prog ⟨19, none⟩ (ρ 19) := by
  show PureOK _ _ f_ref10_Path
  unfold f_ref10_Path
  exact PureOK.of_e (ρ := ρ) (Ctx.of hname hmix (List.forall_mem_cons.2 ⟨ok_ref01_IsNode, List.forall_mem_cons.2 ⟨ok_ref01_Nearer, List.forall_mem_nil _⟩⟩)) (.inl (fun a p hp => by obtain ⟨_, _, _, _⟩ := a; simp only [List.mem_cons, List.not_mem_nil, or_false] at hp; rcases hp with rfl <;> rfl)) e_ref10_Path (by intro t ht a hp hg; obtain ⟨t, self, l, depth⟩ := a; have := w_ref10_Path t self l depth hp hg; rw [← ht] at this; exact this)
theorem e_ref10_Whole : (compFn Try.prog [⟨18, none⟩] h_ref10_Whole 20 ⟨15, none⟩).map (fun t (ρ : Fns) (v0 : PV) (Q : List PV → Prop) => W ρ t [v0] [] Q) = some S_ref10_Whole := by kernel_rfl
theorem ok_ref10_Whole : PureOK Try.prog ⟨15, none⟩ (ρ 15) := by
  show PureOK _ _ f_ref10_Whole
  unfold f_ref10_Whole
  exact PureOK.of_e (ρ := ρ) (Ctx.of hname hmix (List.forall_mem_cons.2 ⟨ok_ref01_IsNode, List.forall_mem_nil _⟩)) (.inl (fun a p hp => by simp only [List.mem_cons, List.not_mem_nil, or_false] at hp; rcases hp with rfl <;> rfl)) e_ref10_Whole (by intro t ht paths hp hg; have := w_ref10_Whole paths hp hg; rw [← ht] at this; exact this)
theorem e_law12_wakes : (compFn Try.prog [⟨13, none⟩, ⟨14, none⟩, ⟨16, none⟩, ⟨20, none⟩] h_law12_wakes 20 ⟨21, none⟩).map (fun t (ρ : Fns) (Q : List PV → Prop) => W ρ t [] [] Q) = some S_law12_wakes := by kernel_rfl
theorem ok_law12_wakes : PureOK Try.prog ⟨21, none⟩ (ρ 21) := by
  show PureOK _ _ f_law12_wakes
  unfold f_law12_wakes
  exact PureOK.of_e (ρ := ρ) (Ctx.of hname hmix (List.forall_mem_cons.2 ⟨ok_path_Add, List.forall_mem_cons.2 ⟨ok_path_Whole, List.forall_mem_cons.2 ⟨ok_bkeep_Ints, List.forall_mem_cons.2 ⟨ok_path_Check, List.forall_mem_nil _⟩⟩⟩⟩)) (.inl (fun a p hp => by simp only [List.mem_cons, List.not_mem_nil, or_false] at hp; rcases hp with rfl <;> rfl)) e_law12_wakes (by intro t ht a hp hg; have := w_law12_wakes ; rw [← ht] at this; exact this)
theorem e_law12_PathExact : (compFn Try.prog [⟨12, some 0⟩, ⟨13, none⟩, ⟨14, none⟩, ⟨15, none⟩, ⟨16, none⟩, ⟨17, none⟩, ⟨18, none⟩, ⟨19, none⟩, ⟨20, none⟩, ⟨21, none⟩] h_law12_PathExact 20 ⟨3, none⟩).map (fun t (ρ : Fns) (v0 v1 v2 v3 v4 : PV) (Q : List PV → Prop) => W ρ t [v0, v1, v2, v3, v4] [] Q) = some S_law12_PathExact := by kernel_rfl
theorem ok_law12_PathExact : PureOK Try.prog ⟨3, none⟩ (ρ 3) := by
  show PureOK _ _ f_law12_PathExact
  unfold f_law12_PathExact
  exact PureOK.of_e (ρ := ρ) (Ctx.of hname hmix (List.forall_mem_cons.2 ⟨ok_bkeep_TwinInts, List.forall_mem_cons.2 ⟨ok_path_Add, List.forall_mem_cons.2 ⟨ok_path_Whole, List.forall_mem_cons.2 ⟨ok_ref10_Whole, List.forall_mem_cons.2 ⟨ok_bkeep_Ints, List.forall_mem_cons.2 ⟨ok_ref01_IsTopic, List.forall_mem_cons.2 ⟨ok_ref01_IsNode, List.forall_mem_cons.2 ⟨ok_ref10_Path, List.forall_mem_cons.2 ⟨ok_path_Check, List.forall_mem_cons.2 ⟨ok_law12_wakes, List.forall_mem_nil _⟩⟩⟩⟩⟩⟩⟩⟩⟩⟩)) (.inl (fun a p hp => by obtain ⟨_, _, _, _, _⟩ := a; simp only [List.mem_cons, List.not_mem_nil, or_false] at hp; rcases hp with rfl <;> rfl)) e_law12_PathExact (by intro t ht a hp hg; obtain ⟨t, self, l, depth, paths⟩ := a; have := w_law12_PathExact t self l depth paths hg; rw [← ht] at this; exact this)
theorem e_law12_PathWhole : (compFn Try.prog [⟨14, none⟩, ⟨20, none⟩, ⟨21, none⟩, ⟨22, none⟩] h_law12_PathWhole 20 ⟨4, none⟩).map (fun t (ρ : Fns) (v0 v1 : PV) (Q : List PV → Prop) => W ρ t [v0, v1] [] Q) = some S_law12_PathWhole := by kernel_rfl
theorem ok_law12_PathWhole : PureOK Try.prog ⟨4, none⟩ (ρ 4) := by
  show PureOK _ _ f_law12_PathWhole
  unfold f_law12_PathWhole
  exact PureOK.of_e (ρ := ρ) (Ctx.of hname hmix (List.forall_mem_cons.2 ⟨ok_path_Whole, List.forall_mem_cons.2 ⟨ok_path_Check, List.forall_mem_cons.2 ⟨ok_law12_wakes, List.forall_mem_cons.2 ⟨ok_ring_Nearer, List.forall_mem_nil _⟩⟩⟩⟩)) (.inl (fun a p hp => by obtain ⟨_, _⟩ := a; simp only [List.mem_cons, List.not_mem_nil, or_false] at hp; rcases hp with rfl <;> rfl)) e_law12_PathWhole (by intro t ht a hp hg; obtain ⟨t, paths⟩ := a; have := w_law12_PathWhole t paths hg; rw [← ht] at this; exact this)
end Go.Xt
