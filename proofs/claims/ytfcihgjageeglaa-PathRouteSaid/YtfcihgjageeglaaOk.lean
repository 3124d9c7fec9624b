/- Each function keeps its contract. -/
import Derived.Test.YtfcihgjageeglaaH
import Derived.Test.YtfcihgjageeglaaIp
import Derived.Test.YtfcihgjageeglaaW10
import Derived.Test.YtfcihgjageeglaaRows
open Go.Proofs
set_option maxRecDepth 100000
set_option linter.unusedVariables false
set_option linter.unusedSimpArgs false
namespace Go.Xt
theorem hname : (Try.prog.funcs.toList.all fun fn => !(fn.name == "runtime.NumGoroutine")) = true := by kernel_rfl
theorem hmix : Try.prog.follows .mixedOrders = true := by kernel_rfl
theorem e_ring_Is : (compFn Try.prog [] h_ring_Is 20 ⟨52, none, none⟩).map (fun t (ρ : Fns) (v0 : PV) (Q : List PV → Prop) => W ρ t [v0] [] Q) = some S_ring_Is := by kernel_rfl
theorem ok_ring_Is : SigOK Try.prog ⟨52, none, none⟩ (ρ 52) := by
  show PureOK _ _ f_ring_Is
  unfold f_ring_Is
  exact PureOK.of_e (ρ := ρ) (Ctx.of hname hmix (List.forall_mem_nil _)) (.inl (fun a p hp => by simp only [List.mem_cons, List.not_mem_nil, or_false] at hp; rcases hp with rfl <;> rfl)) e_ring_Is (by intro t ht n hp hg; have := w_ring_Is n; rw [← ht] at this; exact this)
theorem e_ring_Node : (compFn Try.prog [⟨52, none, none⟩] h_ring_Node 20 ⟨35, none, none⟩).map (fun t (ρ : Fns) (v0 : PV) (Q : List PV → Prop) => W ρ t [v0] [] Q) = some S_ring_Node := by kernel_rfl
theorem ok_ring_Node : SigOK Try.prog ⟨35, none, none⟩ (ρ 35) := by
  show PureOK _ _ f_ring_Node
  unfold f_ring_Node
  exact PureOK.of_e (ρ := ρ) (Ctx.of hname hmix (List.forall_mem_cons.2 ⟨ok_ring_Is, List.forall_mem_nil _⟩)) (.inl (fun a p hp => by simp only [List.mem_cons, List.not_mem_nil, or_false] at hp; rcases hp with rfl | rfl <;> rfl)) e_ring_Node (by intro t ht n hp hg; have := w_ring_Node n; rw [← ht] at this; exact this)
theorem e_ring_Topic : (compFn Try.prog [] h_ring_Topic 20 ⟨61, none, none⟩).map (fun t (ρ : Fns) (v0 : PV) (Q : List PV → Prop) => W ρ t [v0] [] Q) = some S_ring_Topic := by kernel_rfl
theorem ok_ring_Topic : SigOK Try.prog ⟨61, none, none⟩ (ρ 61) := by
  show PureOK _ _ f_ring_Topic
  unfold f_ring_Topic
  exact PureOK.of_e (ρ := ρ) (Ctx.of hname hmix (List.forall_mem_nil _)) (.inl (fun a p hp => by simp only [List.mem_cons, List.not_mem_nil, or_false] at hp; rcases hp with rfl | rfl <;> rfl)) e_ring_Topic (by intro t ht t hp hg; have := w_ring_Topic t; rw [← ht] at this; exact this)
theorem e_key_Far : (compFn Try.prog [] h_key_Far 20 ⟨60, none, none⟩).map (fun t (ρ : Fns) (v0 v1 : PV) (Q : List PV → Prop) => W ρ t [v0, v1] [] Q) = some S_key_Far := by kernel_rfl
theorem ok_key_Far : SigOK Try.prog ⟨60, none, none⟩ (ρ 60) := by
  show PureOK _ _ f_key_Far
  unfold f_key_Far
  exact PureOK.of_e (ρ := ρ) (Ctx.of hname hmix (List.forall_mem_nil _)) (.inl (fun a p hp => by obtain ⟨_, _⟩ := a; simp only [List.mem_cons, List.not_mem_nil, or_false] at hp; rcases hp with rfl <;> rfl)) e_key_Far (by intro t ht a hp hg; obtain ⟨k, n⟩ := a; have := w_key_Far k n hp; rw [← ht] at this; exact this)
theorem e_ref01_Node : (compFn Try.prog [] h_ref01_Node 20 ⟨54, none, none⟩).map (fun t (ρ : Fns) (v0 : PV) (Q : List PV → Prop) => W ρ t [v0] [] Q) = some S_ref01_Node := by kernel_rfl
theorem ok_ref01_Node : SigOK Try.prog ⟨54, none, none⟩ (ρ 54) := by
  show PureOK _ _ f_ref01_Node
  unfold f_ref01_Node
  exact PureOK.of_e (ρ := ρ) (Ctx.of hname hmix (List.forall_mem_nil _)) (.inl (fun a p hp => by simp only [List.mem_cons, List.not_mem_nil, or_false] at hp; rcases hp with rfl <;> rfl)) e_ref01_Node (by intro t ht n hp hg; have := w_ref01_Node n hp; rw [← ht] at this; exact this)
theorem e_ref01_Topic : (compFn Try.prog [] h_ref01_Topic 20 ⟨73, none, none⟩).map (fun t (ρ : Fns) (v0 : PV) (Q : List PV → Prop) => W ρ t [v0] [] Q) = some S_ref01_Topic := by kernel_rfl
theorem ok_ref01_Topic : SigOK Try.prog ⟨73, none, none⟩ (ρ 73) := by
  show PureOK _ _ f_ref01_Topic
  unfold f_ref01_Topic
  exact PureOK.of_e (ρ := ρ) (Ctx.of hname hmix (List.forall_mem_nil _)) (.inl (fun a p hp => by simp only [List.mem_cons, List.not_mem_nil, or_false] at hp; rcases hp with rfl <;> rfl)) e_ref01_Topic (by intro t ht t hp hg; have := w_ref01_Topic t hp; rw [← ht] at this; exact this)
theorem e_ref01_Behind : (compFn Try.prog [] h_ref01_Behind 20 ⟨55, none, none⟩).map (fun t (ρ : Fns) (v0 v1 : PV) (Q : List PV → Prop) => W ρ t [v0, v1] [] Q) = some S_ref01_Behind := by kernel_rfl
theorem ok_ref01_Behind : SigOK Try.prog ⟨55, none, none⟩ (ρ 55) := by
  show PureOK _ _ f_ref01_Behind
  unfold f_ref01_Behind
  exact PureOK.of_e (ρ := ρ) (Ctx.of hname hmix (List.forall_mem_nil _)) (.inl (fun a p hp => by obtain ⟨_, _⟩ := a; simp only [List.mem_cons, List.not_mem_nil, or_false] at hp; rcases hp with rfl <;> rfl)) e_ref01_Behind (by intro t ht a hp hg; obtain ⟨k, n⟩ := a; have := w_ref01_Behind k n hp; rw [← ht] at this; exact this)
theorem e_ring_Gap : (compFn Try.prog [⟨35, none, none⟩, ⟨60, none, none⟩, ⟨61, none, none⟩] h_ring_Gap 20 ⟨46, none, none⟩).map (fun t (ρ : Fns) (v0 v1 : PV) (Q : List PV → Prop) => W ρ t [v0, v1] [] Q) = some S_ring_Gap := by kernel_rfl
theorem ok_ring_Gap : SigOK Try.prog ⟨46, none, none⟩ (ρ 46) := by
  show PureOK _ _ f_ring_Gap
  unfold f_ring_Gap
  exact PureOK.of_e (ρ := ρ) (Ctx.of hname hmix (List.forall_mem_cons.2 ⟨ok_ring_Node, List.forall_mem_cons.2 ⟨ok_key_Far, List.forall_mem_cons.2 ⟨ok_ring_Topic, List.forall_mem_nil _⟩⟩⟩)) (.inl (fun a p hp => by obtain ⟨_, _⟩ := a; simp only [List.mem_cons, List.not_mem_nil, or_false] at hp; rcases hp with rfl | rfl <;> rfl)) e_ring_Gap (by intro t ht a hp hg; obtain ⟨t, n⟩ := a; have := w_ring_Gap t n; rw [← ht] at this; exact this)
theorem e_ring_Nearer : (compFn Try.prog [⟨46, none, none⟩] h_ring_Nearer 20 ⟨22, none, none⟩).map (fun t (ρ : Fns) (v0 v1 v2 : PV) (Q : List PV → Prop) => W ρ t [v0, v1, v2] [] Q) = some S_ring_Nearer := by kernel_rfl
theorem ok_ring_Nearer : SigOK Try.prog ⟨22, none, none⟩ (ρ 22) := by
  show PureOK _ _ f_ring_Nearer
  unfold f_ring_Nearer
  exact PureOK.of_e (ρ := ρ) (Ctx.of hname hmix (List.forall_mem_cons.2 ⟨ok_ring_Gap, List.forall_mem_nil _⟩)) (.inl (fun a p hp => by obtain ⟨_, _, _⟩ := a; simp only [List.mem_cons, List.not_mem_nil, or_false] at hp; rcases hp with rfl <;> rfl)) e_ring_Nearer (by intro t ht a hp hg; obtain ⟨t, a, b⟩ := a; have := w_ring_Nearer t a b; rw [← ht] at this; exact this)
theorem e_ref01_IsTopic : (compFn Try.prog [] h_ref01_IsTopic 20 ⟨17, none, none⟩).map (fun t (ρ : Fns) (v0 : PV) (Q : List PV → Prop) => W ρ t [v0] [] Q) = some S_ref01_IsTopic := by kernel_rfl
theorem ok_ref01_IsTopic : SigOK Try.prog ⟨17, none, none⟩ (ρ 17) := by
  show PureOK _ _ f_ref01_IsTopic
  unfold f_ref01_IsTopic
  exact PureOK.of_e (ρ := ρ) (Ctx.of hname hmix (List.forall_mem_nil _)) (.inl (fun a p hp => by simp only [List.mem_cons, List.not_mem_nil, or_false] at hp; rcases hp with rfl <;> rfl)) e_ref01_IsTopic (by intro t ht t hp hg; have := w_ref01_IsTopic t; rw [← ht] at this; exact this)
theorem e_ref01_IsNode : (compFn Try.prog [] h_ref01_IsNode 20 ⟨18, none, none⟩).map (fun t (ρ : Fns) (v0 : PV) (Q : List PV → Prop) => W ρ t [v0] [] Q) = some S_ref01_IsNode := by kernel_rfl
theorem ok_ref01_IsNode : SigOK Try.prog ⟨18, none, none⟩ (ρ 18) := by
  show PureOK _ _ f_ref01_IsNode
  unfold f_ref01_IsNode
  exact PureOK.of_e (ρ := ρ) (Ctx.of hname hmix (List.forall_mem_nil _)) (.inl (fun a p hp => by simp only [List.mem_cons, List.not_mem_nil, or_false] at hp; rcases hp with rfl <;> rfl)) e_ref01_IsNode (by intro t ht n hp hg; have := w_ref01_IsNode n; rw [← ht] at this; exact this)
theorem e_ref01_Gap : (compFn Try.prog [⟨54, none, none⟩, ⟨55, none, none⟩, ⟨73, none, none⟩] h_ref01_Gap 20 ⟨65, none, none⟩).map (fun t (ρ : Fns) (v0 v1 : PV) (Q : List PV → Prop) => W ρ t [v0, v1] [] Q) = some S_ref01_Gap := by kernel_rfl
theorem ok_ref01_Gap : SigOK Try.prog ⟨65, none, none⟩ (ρ 65) := by
  show PureOK _ _ f_ref01_Gap
  unfold f_ref01_Gap
  exact PureOK.of_e (ρ := ρ) (Ctx.of hname hmix (List.forall_mem_cons.2 ⟨ok_ref01_Node, List.forall_mem_cons.2 ⟨ok_ref01_Behind, List.forall_mem_cons.2 ⟨ok_ref01_Topic, List.forall_mem_nil _⟩⟩⟩)) (.inl (fun a p hp => by obtain ⟨_, _⟩ := a; simp only [List.mem_cons, List.not_mem_nil, or_false] at hp; rcases hp with rfl <;> rfl)) e_ref01_Gap (by intro t ht a hp hg; obtain ⟨t, n⟩ := a; have := w_ref01_Gap t n hp; rw [← ht] at this; exact this)
theorem e_ref01_Nearer : (compFn Try.prog [⟨17, none, none⟩, ⟨18, none, none⟩, ⟨65, none, none⟩] h_ref01_Nearer 20 ⟨45, none, none⟩).map (fun t (ρ : Fns) (v0 v1 v2 : PV) (Q : List PV → Prop) => W ρ t [v0, v1, v2] [] Q) = some S_ref01_Nearer := by kernel_rfl
theorem ok_ref01_Nearer : SigOK Try.prog ⟨45, none, none⟩ (ρ 45) := by
  show PureOK _ _ f_ref01_Nearer
  unfold f_ref01_Nearer
  exact PureOK.of_e (ρ := ρ) (Ctx.of hname hmix (List.forall_mem_cons.2 ⟨ok_ref01_IsTopic, List.forall_mem_cons.2 ⟨ok_ref01_IsNode, List.forall_mem_cons.2 ⟨ok_ref01_Gap, List.forall_mem_nil _⟩⟩⟩)) (.inl (fun a p hp => by obtain ⟨_, _, _⟩ := a; simp only [List.mem_cons, List.not_mem_nil, or_false] at hp; rcases hp with rfl <;> rfl)) e_ref01_Nearer (by intro t ht a hp hg; obtain ⟨t, a, b⟩ := a; have := w_ref01_Nearer t a b; rw [← ht] at this; exact this)
theorem e_ring_All : (compFn Try.prog [⟨52, none, none⟩] h_ring_All 20 ⟨42, none, none⟩).map (fun t (ρ : Fns) (v0 : PV) (Q : List PV → Prop) => W ρ t [v0] [] Q) = some S_ring_All := by kernel_rfl
theorem ok_ring_All : SigOK Try.prog ⟨42, none, none⟩ (ρ 42) := by
  show PureOK _ _ f_ring_All
  unfold f_ring_All
  exact PureOK.of_e (ρ := ρ) (Ctx.of hname hmix (List.forall_mem_cons.2 ⟨ok_ring_Is, List.forall_mem_nil _⟩)) (.inl (fun a p hp => by simp only [List.mem_cons, List.not_mem_nil, or_false] at hp; rcases hp with rfl <;> rfl)) e_ring_All (by intro t ht l hp hg; have := w_ring_All l hg; rw [← ht] at this; exact this)
theorem e_path_rises : (compFn Try.prog [⟨22, none, none⟩] h_path_rises 20 ⟨47, none, none⟩).map (fun t (ρ : Fns) (v0 v1 v2 : PV) (Q : List PV → Prop) => W ρ t [v0, v1, v2] [] Q) = some S_path_rises := by kernel_rfl
theorem ok_path_rises : SigOK Try.prog ⟨47, none, none⟩ (ρ 47) := by
  show PureOK _ _ f_path_rises
  unfold f_path_rises
  exact PureOK.of_e (ρ := ρ) (Ctx.of hname hmix (List.forall_mem_cons.2 ⟨ok_ring_Nearer, List.forall_mem_nil _⟩)) (.inl (fun a p hp => by obtain ⟨_, _, _⟩ := a; simp only [List.mem_cons, List.not_mem_nil, or_false] at hp; rcases hp with rfl <;> rfl)) e_path_rises (by intro t ht a hp hg; obtain ⟨t, self, l⟩ := a; have := w_path_rises t self l hg; rw [← ht] at this; exact this)
theorem e_path_Check : (compFn Try.prog [⟨42, none, none⟩, ⟨46, none, none⟩, ⟨47, none, none⟩] h_path_Check 20 ⟨20, none, none⟩).map (fun t (ρ : Fns) (v0 v1 v2 v3 : PV) (Q : List PV → Prop) => W ρ t [v0, v1, v2, v3] [] Q) = some S_path_Check := by kernel_rfl
theorem ok_path_Check : SigOK Try.prog ⟨20, none, none⟩ (ρ 20) := by
  show PureOK _ _ f_path_Check
  unfold f_path_Check
  exact PureOK.of_e (ρ := ρ) (Ctx.of hname hmix (List.forall_mem_cons.2 ⟨ok_ring_All, List.forall_mem_cons.2 ⟨ok_ring_Gap, List.forall_mem_cons.2 ⟨ok_path_rises, List.forall_mem_nil _⟩⟩⟩)) (.inl (fun a p hp => by obtain ⟨_, _, _, _⟩ := a; simp only [List.mem_cons, List.not_mem_nil, or_false] at hp; rcases hp with rfl <;> rfl)) e_path_Check (by intro t ht a hp hg; obtain ⟨t, self, l, depth⟩ := a; have := w_path_Check t self l depth hg; rw [← ht] at this; exact this)
theorem e_path_Add : (compFn Try.prog [⟨20, none, none⟩] h_path_Add 20 ⟨13, none, none⟩).map (fun t (ρ : Fns) (v0 v1 v2 : PV) (Q : List PV → Prop) => W ρ t [v0, v1, v2] [] Q) = some S_path_Add := by kernel_rfl
theorem ok_path_Add : SigOK Try.prog ⟨13, none, none⟩ (ρ 13) := by
  show PureOK _ _ f_path_Add
  unfold f_path_Add
  exact PureOK.of_e (ρ := ρ) (Ctx.of hname hmix (List.forall_mem_cons.2 ⟨ok_path_Check, List.forall_mem_nil _⟩)) (.inr (by kernel_rfl)) e_path_Add (by intro t ht a hp hg; obtain ⟨t, self, l⟩ := a; have := w_path_Add t self l hg; rw [← ht] at this; exact this)
theorem e_path_parent : (compFn Try.prog [] h_path_parent 20 ⟨43, none, none⟩).map (fun t (ρ : Fns) (v0 v1 : PV) (Q : List PV → Prop) => W ρ t [v0, v1] [] Q) = some S_path_parent := by kernel_rfl
theorem ok_path_parent : SigOK Try.prog ⟨43, none, none⟩ (ρ 43) := by
  show PureOK _ _ f_path_parent
  unfold f_path_parent
  exact PureOK.of_e (ρ := ρ) (Ctx.of hname hmix (List.forall_mem_nil _)) (.inl (fun a p hp => by obtain ⟨_, _⟩ := a; simp only [List.mem_cons, List.not_mem_nil, or_false] at hp; rcases hp with rfl <;> rfl)) e_path_parent (by intro t ht a hp hg; obtain ⟨paths, n⟩ := a; have := w_path_parent paths n hp; rw [← ht] at this; exact this)
theorem e_path_Whole : (compFn Try.prog [⟨42, none, none⟩, ⟨43, none, none⟩] h_path_Whole 20 ⟨14, none, none⟩).map (fun t (ρ : Fns) (v0 v1 : PV) (Q : List PV → Prop) => W ρ t [v0, v1] [] Q) = some S_path_Whole := by kernel_rfl
theorem ok_path_Whole : SigOK Try.prog ⟨14, none, none⟩ (ρ 14) := by
  show PureOK _ _ f_path_Whole
  unfold f_path_Whole
  exact PureOK.of_e (ρ := ρ) (Ctx.of hname hmix (List.forall_mem_cons.2 ⟨ok_ring_All, List.forall_mem_cons.2 ⟨ok_path_parent, List.forall_mem_nil _⟩⟩)) (.inl (fun a p hp => by obtain ⟨_, _⟩ := a; simp only [List.mem_cons, List.not_mem_nil, or_false] at hp; rcases hp with rfl <;> rfl)) e_path_Whole (by intro t ht a hp hg; obtain ⟨t, paths⟩ := a; have := w_path_Whole t paths hg; rw [← ht] at this; exact this)
theorem e_bkeep_TwinInts : (compFn Try.prog [] h_bkeep_TwinInts 20 ⟨12, some 0, none⟩).map (fun t (ρ : Fns) (v0 : PV) (Q : List PV → Prop) => W ρ t [v0] [] Q) = some S_bkeep_TwinInts := by kernel_rfl
theorem ok_bkeep_TwinInts : SigOK Try.prog ⟨12, some 0, none⟩ (ρ 12) := by
  show PureOK _ _ f_bkeep_TwinInts
  unfold f_bkeep_TwinInts
  exact PureOK.of_e (ρ := ρ) (Ctx.of hname hmix (List.forall_mem_nil _)) (.inr (by kernel_rfl)) e_bkeep_TwinInts (by intro t ht l hp hg; have := w_bkeep_TwinInts l hp; rw [← ht] at this; exact this)
theorem e_bkeep_Ints : (compFn Try.prog [] h_bkeep_Ints 20 ⟨16, none, none⟩).map (fun t (ρ : Fns) (v0 v1 : PV) (Q : List PV → Prop) => W ρ t [v0, v1] [] Q) = some S_bkeep_Ints := by kernel_rfl
theorem ok_bkeep_Ints : SigOK Try.prog ⟨16, none, none⟩ (ρ 16) := by
  show PureOK _ _ f_bkeep_Ints
  unfold f_bkeep_Ints
  exact PureOK.of_e (ρ := ρ) (Ctx.of hname hmix (List.forall_mem_nil _)) (.inl (fun a p hp => by obtain ⟨_, _⟩ := a; simp only [List.mem_cons, List.not_mem_nil, or_false] at hp; rcases hp with rfl <;> rfl)) e_bkeep_Ints (by intro t ht a hp hg; obtain ⟨a, b⟩ := a; have := w_bkeep_Ints a b hg; rw [← ht] at this; exact this)
theorem e_ref10_Path : (compFn Try.prog [⟨18, none, none⟩, ⟨45, none, none⟩] h_ref10_Path 20 ⟨19, none, none⟩).map (fun t (ρ : Fns) (v0 v1 v2 v3 : PV) (Q : List PV → Prop) => W ρ t [v0, v1, v2, v3] [] Q) = some S_ref10_Path := by kernel_rfl
theorem ok_ref10_Path : SigOK Try.prog ⟨19, none, none⟩ (ρ 19) := by
  show PureOK _ _ f_ref10_Path
  unfold f_ref10_Path
  exact PureOK.of_e (ρ := ρ) (Ctx.of hname hmix (List.forall_mem_cons.2 ⟨ok_ref01_IsNode, List.forall_mem_cons.2 ⟨ok_ref01_Nearer, List.forall_mem_nil _⟩⟩)) (.inl (fun a p hp => by obtain ⟨_, _, _, _⟩ := a; simp only [List.mem_cons, List.not_mem_nil, or_false] at hp; rcases hp with rfl <;> rfl)) e_ref10_Path (by intro t ht a hp hg; obtain ⟨t, self, l, depth⟩ := a; have := w_ref10_Path t self l depth hp hg; rw [← ht] at this; exact this)
theorem e_ref10_Whole : (compFn Try.prog [⟨18, none, none⟩] h_ref10_Whole 20 ⟨15, none, none⟩).map (fun t (ρ : Fns) (v0 : PV) (Q : List PV → Prop) => W ρ t [v0] [] Q) = some S_ref10_Whole := by kernel_rfl
theorem ok_ref10_Whole : SigOK Try.prog ⟨15, none, none⟩ (ρ 15) := by
  show PureOK _ _ f_ref10_Whole
  unfold f_ref10_Whole
  exact PureOK.of_e (ρ := ρ) (Ctx.of hname hmix (List.forall_mem_cons.2 ⟨ok_ref01_IsNode, List.forall_mem_nil _⟩)) (.inl (fun a p hp => by simp only [List.mem_cons, List.not_mem_nil, or_false] at hp; rcases hp with rfl <;> rfl)) e_ref10_Whole (by intro t ht paths hp hg; have := w_ref10_Whole paths hp hg; rw [← ht] at this; exact this)
theorem e_law12_wakes : (compFn Try.prog [⟨13, none, none⟩, ⟨14, none, none⟩, ⟨16, none, none⟩, ⟨20, none, none⟩] h_law12_wakes 20 ⟨21, none, none⟩).map (fun t (ρ : Fns) (Q : List PV → Prop) => W ρ t [] [] Q) = some S_law12_wakes := by kernel_rfl
theorem ok_law12_wakes : SigOK Try.prog ⟨21, none, none⟩ (ρ 21) := by
  show PureOK _ _ f_law12_wakes
  unfold f_law12_wakes
  exact PureOK.of_e (ρ := ρ) (Ctx.of hname hmix (List.forall_mem_cons.2 ⟨ok_path_Add, List.forall_mem_cons.2 ⟨ok_path_Whole, List.forall_mem_cons.2 ⟨ok_bkeep_Ints, List.forall_mem_cons.2 ⟨ok_path_Check, List.forall_mem_nil _⟩⟩⟩⟩)) (.inl (fun a p hp => by simp only [List.mem_cons, List.not_mem_nil, or_false] at hp; rcases hp with rfl <;> rfl)) e_law12_wakes (by intro t ht a hp hg; have := w_law12_wakes ; rw [← ht] at this; exact this)
theorem e_law12_PathExact : (compFn Try.prog [⟨12, some 0, none⟩, ⟨13, none, none⟩, ⟨14, none, none⟩, ⟨15, none, none⟩, ⟨16, none, none⟩, ⟨17, none, none⟩, ⟨18, none, none⟩, ⟨19, none, none⟩, ⟨20, none, none⟩, ⟨21, none, none⟩] h_law12_PathExact 20 ⟨3, none, none⟩).map (fun t (ρ : Fns) (v0 v1 v2 v3 v4 : PV) (Q : List PV → Prop) => W ρ t [v0, v1, v2, v3, v4] [] Q) = some S_law12_PathExact := by kernel_rfl
theorem ok_law12_PathExact : SigOK Try.prog ⟨3, none, none⟩ (ρ 3) := by
  show PureOK _ _ f_law12_PathExact
  unfold f_law12_PathExact
  exact PureOK.of_e (ρ := ρ) (Ctx.of hname hmix (List.forall_mem_cons.2 ⟨ok_bkeep_TwinInts, List.forall_mem_cons.2 ⟨ok_path_Add, List.forall_mem_cons.2 ⟨ok_path_Whole, List.forall_mem_cons.2 ⟨ok_ref10_Whole, List.forall_mem_cons.2 ⟨ok_bkeep_Ints, List.forall_mem_cons.2 ⟨ok_ref01_IsTopic, List.forall_mem_cons.2 ⟨ok_ref01_IsNode, List.forall_mem_cons.2 ⟨ok_ref10_Path, List.forall_mem_cons.2 ⟨ok_path_Check, List.forall_mem_cons.2 ⟨ok_law12_wakes, List.forall_mem_nil _⟩⟩⟩⟩⟩⟩⟩⟩⟩⟩)) (.inl (fun a p hp => by obtain ⟨_, _, _, _, _⟩ := a; simp only [List.mem_cons, List.not_mem_nil, or_false] at hp; rcases hp with rfl <;> rfl)) e_law12_PathExact (by intro t ht a hp hg; obtain ⟨t, self, l, depth, paths⟩ := a; have := w_law12_PathExact t self l depth paths hg; rw [← ht] at this; exact this)
theorem e_law12_PathWhole : (compFn Try.prog [⟨14, none, none⟩, ⟨20, none, none⟩, ⟨21, none, none⟩, ⟨22, none, none⟩] h_law12_PathWhole 20 ⟨4, none, none⟩).map (fun t (ρ : Fns) (v0 v1 : PV) (Q : List PV → Prop) => W ρ t [v0, v1] [] Q) = some S_law12_PathWhole := by kernel_rfl
theorem ok_law12_PathWhole : SigOK Try.prog ⟨4, none, none⟩ (ρ 4) := by
  show PureOK _ _ f_law12_PathWhole
  unfold f_law12_PathWhole
  exact PureOK.of_e (ρ := ρ) (Ctx.of hname hmix (List.forall_mem_cons.2 ⟨ok_path_Whole, List.forall_mem_cons.2 ⟨ok_path_Check, List.forall_mem_cons.2 ⟨ok_law12_wakes, List.forall_mem_cons.2 ⟨ok_ring_Nearer, List.forall_mem_nil _⟩⟩⟩⟩)) (.inl (fun a p hp => by obtain ⟨_, _⟩ := a; simp only [List.mem_cons, List.not_mem_nil, or_false] at hp; rcases hp with rfl <;> rfl)) e_law12_PathWhole (by intro t ht a hp hg; obtain ⟨t, paths⟩ := a; have := w_law12_PathWhole t paths hg; rw [← ht] at this; exact this)
theorem e_slices_Contains_int_int : (compFn Try.prog [] h_slices_Contains_int_int 20 ⟨53, none, none⟩).map (fun t (ρ : Fns) (v0 v1 : PV) (Q : List PV → Prop) => W ρ t [v0, v1] [] Q) = some S_slices_Contains_int_int := by kernel_rfl
theorem ok_slices_Contains_int_int : SigOK Try.prog ⟨53, none, none⟩ (ρ 53) := by
  show PureOK _ _ f_slices_Contains_int_int
  unfold f_slices_Contains_int_int
  exact PureOK.of_e (ρ := ρ) (Ctx.of hname hmix (List.forall_mem_nil _)) (.inl (fun a p hp => by obtain ⟨_, _⟩ := a; simp only [List.mem_cons, List.not_mem_nil, or_false] at hp; rcases hp with rfl <;> rfl)) e_slices_Contains_int_int (by intro t ht a hp hg; obtain ⟨l, n⟩ := a; have := w_slices_Contains_int_int l n hg; rw [← ht] at this; exact this)
theorem e_key_is : (compFn Try.prog [] h_key_is 20 ⟨59, none, none⟩).map (fun t (ρ : Fns) (v0 : PV) (Q : List PV → Prop) => W ρ t [v0] [] Q) = some S_key_is := by kernel_rfl
theorem ok_key_is : SigOK Try.prog ⟨59, none, none⟩ (ρ 59) := by
  show PureOK _ _ f_key_is
  unfold f_key_is
  exact PureOK.of_e (ρ := ρ) (Ctx.of hname hmix (List.forall_mem_nil _)) (.inl (fun a p hp => by simp only [List.mem_cons, List.not_mem_nil, or_false] at hp; rcases hp with rfl <;> rfl)) e_key_is (by intro t ht k hp hg; have := w_key_is k; rw [← ht] at this; exact this)
theorem e_key_Behind : (compFn Try.prog [⟨59, none, none⟩, ⟨60, none, none⟩] h_key_Behind 20 ⟨38, none, none⟩).map (fun t (ρ : Fns) (v0 v1 : PV) (Q : List PV → Prop) => W ρ t [v0, v1] [] Q) = some S_key_Behind := by kernel_rfl
theorem ok_key_Behind : SigOK Try.prog ⟨38, none, none⟩ (ρ 38) := by
  show PureOK _ _ f_key_Behind
  unfold f_key_Behind
  exact PureOK.of_e (ρ := ρ) (Ctx.of hname hmix (List.forall_mem_cons.2 ⟨ok_key_is, List.forall_mem_cons.2 ⟨ok_key_Far, List.forall_mem_nil _⟩⟩)) (.inl (fun a p hp => by obtain ⟨_, _⟩ := a; simp only [List.mem_cons, List.not_mem_nil, or_false] at hp; rcases hp with rfl | rfl <;> rfl)) e_key_Behind (by intro t ht a hp hg; obtain ⟨k, n⟩ := a; have := w_key_Behind k n; rw [← ht] at this; exact this)
theorem e_key_Between : (compFn Try.prog [⟨59, none, none⟩, ⟨60, none, none⟩] h_key_Between 20 ⟨36, none, none⟩).map (fun t (ρ : Fns) (v0 v1 v2 : PV) (Q : List PV → Prop) => W ρ t [v0, v1, v2] [] Q) = some S_key_Between := by kernel_rfl
theorem ok_key_Between : SigOK Try.prog ⟨36, none, none⟩ (ρ 36) := by
  show PureOK _ _ f_key_Between
  unfold f_key_Between
  exact PureOK.of_e (ρ := ρ) (Ctx.of hname hmix (List.forall_mem_cons.2 ⟨ok_key_is, List.forall_mem_cons.2 ⟨ok_key_Far, List.forall_mem_nil _⟩⟩)) (.inl (fun a p hp => by obtain ⟨_, _, _⟩ := a; simp only [List.mem_cons, List.not_mem_nil, or_false] at hp; rcases hp with rfl <;> rfl)) e_key_Between (by intro t ht a hp hg; obtain ⟨a, k, b⟩ := a; have := w_key_Between a k b; rw [← ht] at this; exact this)
theorem e_key_Back : (compFn Try.prog [⟨59, none, none⟩, ⟨60, none, none⟩] h_key_Back 20 ⟨37, none, none⟩).map (fun t (ρ : Fns) (v0 v1 : PV) (Q : List PV → Prop) => W ρ t [v0, v1] [] Q) = some S_key_Back := by kernel_rfl
theorem ok_key_Back : SigOK Try.prog ⟨37, none, none⟩ (ρ 37) := by
  show PureOK _ _ f_key_Back
  unfold f_key_Back
  exact PureOK.of_e (ρ := ρ) (Ctx.of hname hmix (List.forall_mem_cons.2 ⟨ok_key_is, List.forall_mem_cons.2 ⟨ok_key_Far, List.forall_mem_nil _⟩⟩)) (.inl (fun a p hp => by obtain ⟨_, _⟩ := a; simp only [List.mem_cons, List.not_mem_nil, or_false] at hp; rcases hp with rfl | rfl <;> rfl)) e_key_Back (by intro t ht a hp hg; obtain ⟨k, bits⟩ := a; have := w_key_Back k bits; rw [← ht] at this; exact this)
theorem e_ring_Owner : (compFn Try.prog [⟨22, none, none⟩, ⟨42, none, none⟩, ⟨61, none, none⟩] h_ring_Owner 20 ⟨39, none, none⟩).map (fun t (ρ : Fns) (v0 v1 : PV) (Q : List PV → Prop) => W ρ t [v0, v1] [] Q) = some S_ring_Owner := by kernel_rfl
theorem ok_ring_Owner : SigOK Try.prog ⟨39, none, none⟩ (ρ 39) := by
  show PureOK _ _ f_ring_Owner
  unfold f_ring_Owner
  exact PureOK.of_e (ρ := ρ) (Ctx.of hname hmix (List.forall_mem_cons.2 ⟨ok_ring_Nearer, List.forall_mem_cons.2 ⟨ok_ring_All, List.forall_mem_cons.2 ⟨ok_ring_Topic, List.forall_mem_nil _⟩⟩⟩)) (.inl (fun a p hp => by obtain ⟨_, _⟩ := a; simp only [List.mem_cons, List.not_mem_nil, or_false] at hp; rcases hp with rfl | rfl <;> rfl)) e_ring_Owner (by intro t ht a hp hg; obtain ⟨t, l⟩ := a; have := w_ring_Owner t l hg; rw [← ht] at this; exact this)
theorem e_route_Check : (compFn Try.prog [⟨52, none, none⟩, ⟨53, none, none⟩] h_route_Check 20 ⟨28, none, none⟩).map (fun t (ρ : Fns) (v0 v1 : PV) (Q : List PV → Prop) => W ρ t [v0, v1] [] Q) = some S_route_Check := by kernel_rfl
theorem ok_route_Check : SigOK Try.prog ⟨28, none, none⟩ (ρ 28) := by
  show PureOK _ _ f_route_Check
  unfold f_route_Check
  exact PureOK.of_e (ρ := ρ) (Ctx.of hname hmix (List.forall_mem_cons.2 ⟨ok_ring_Is, List.forall_mem_cons.2 ⟨ok_slices_Contains_int_int, List.forall_mem_nil _⟩⟩)) (.inl (fun a p hp => by obtain ⟨_, _⟩ := a; simp only [List.mem_cons, List.not_mem_nil, or_false] at hp; rcases hp with rfl <;> rfl)) e_route_Check (by intro t ht a hp hg; obtain ⟨live, self⟩ := a; have := w_route_Check live self hg; rw [← ht] at this; exact this)
theorem e_route_first : (compFn Try.prog [⟨35, none, none⟩, ⟨60, none, none⟩] h_route_first 20 ⟨66, none, none⟩).map (fun t (ρ : Fns) (v0 v1 : PV) (Q : List PV → Prop) => W ρ t [v0, v1] [] Q) = some S_route_first := by kernel_rfl
theorem ok_route_first : SigOK Try.prog ⟨66, none, none⟩ (ρ 66) := by
  show PureOK _ _ f_route_first
  unfold f_route_first
  exact PureOK.of_e (ρ := ρ) (Ctx.of hname hmix (List.forall_mem_cons.2 ⟨ok_ring_Node, List.forall_mem_cons.2 ⟨ok_key_Far, List.forall_mem_nil _⟩⟩)) (.inl (fun a p hp => by obtain ⟨_, _⟩ := a; simp only [List.mem_cons, List.not_mem_nil, or_false] at hp; rcases hp with rfl <;> rfl)) e_route_first (by intro t ht a hp hg; obtain ⟨live, k⟩ := a; have := w_route_first live k hp hg; rw [← ht] at this; exact this)
theorem e_route_ahead : (compFn Try.prog [⟨35, none, none⟩, ⟨60, none, none⟩] h_route_ahead 20 ⟨48, none, none⟩).map (fun t (ρ : Fns) (v0 v1 : PV) (Q : List PV → Prop) => W ρ t [v0, v1] [] Q) = some S_route_ahead := by kernel_rfl
theorem ok_route_ahead : SigOK Try.prog ⟨48, none, none⟩ (ρ 48) := by
  show PureOK _ _ f_route_ahead
  unfold f_route_ahead
  exact PureOK.of_e (ρ := ρ) (Ctx.of hname hmix (List.forall_mem_cons.2 ⟨ok_ring_Node, List.forall_mem_cons.2 ⟨ok_key_Far, List.forall_mem_nil _⟩⟩)) (.inl (fun a p hp => by obtain ⟨_, _⟩ := a; simp only [List.mem_cons, List.not_mem_nil, or_false] at hp; rcases hp with rfl <;> rfl)) e_route_ahead (by intro t ht a hp hg; obtain ⟨live, self⟩ := a; have := w_route_ahead live self hp hg; rw [← ht] at this; exact this)
theorem e_route_Ahead : (compFn Try.prog [⟨28, none, none⟩, ⟨48, none, none⟩] h_route_Ahead 20 ⟨23, none, none⟩).map (fun t (ρ : Fns) (v0 v1 : PV) (Q : List PV → Prop) => W ρ t [v0, v1] [] Q) = some S_route_Ahead := by kernel_rfl
theorem ok_route_Ahead : SigOK Try.prog ⟨23, none, none⟩ (ρ 23) := by
  show PureOK _ _ f_route_Ahead
  unfold f_route_Ahead
  exact PureOK.of_e (ρ := ρ) (Ctx.of hname hmix (List.forall_mem_cons.2 ⟨ok_route_Check, List.forall_mem_cons.2 ⟨ok_route_ahead, List.forall_mem_nil _⟩⟩)) (.inl (fun a p hp => by obtain ⟨_, _⟩ := a; simp only [List.mem_cons, List.not_mem_nil, or_false] at hp; rcases hp with rfl | rfl <;> rfl)) e_route_Ahead (by intro t ht a hp hg; obtain ⟨live, self⟩ := a; have := w_route_Ahead live self hg; rw [← ht] at this; exact this)
theorem e_route_fingers : (compFn Try.prog [⟨35, none, none⟩, ⟨37, none, none⟩, ⟨66, none, none⟩, ⟨67, none, some false⟩, ⟨68, none, some true⟩] h_route_fingers 20 ⟨49, some 0, none⟩).map (fun t (ρ : Fns) (v0 v1 : PV) (Q : List PV → Prop) => W ρ t [v0, v1] [] Q) = some S_route_fingers := by kernel_rfl
theorem ok_route_fingers : SigOK Try.prog ⟨49, some 0, none⟩ (ρ 49) := by
  show PureOK _ _ f_route_fingers
  unfold f_route_fingers
  exact PureOK.of_e (ρ := ρ) (Ctx.of hname hmix (List.forall_mem_cons.2 ⟨ok_ring_Node, List.forall_mem_cons.2 ⟨ok_key_Back, List.forall_mem_cons.2 ⟨ok_route_first, List.forall_mem_cons.2 ⟨ok_slices_Sort_int_int, List.forall_mem_cons.2 ⟨ok_slices_Compact_int_int, List.forall_mem_nil _⟩⟩⟩⟩⟩)) (.inr (by kernel_rfl)) e_route_fingers (by intro t ht a hp hg; obtain ⟨live, self⟩ := a; have := w_route_fingers live self hp hg; rw [← ht] at this; exact this)
theorem e_route_Fingers : (compFn Try.prog [⟨28, none, none⟩, ⟨49, some 0, none⟩] h_route_Fingers 20 ⟨24, some 0, none⟩).map (fun t (ρ : Fns) (v0 v1 : PV) (Q : List PV → Prop) => W ρ t [v0, v1] [] Q) = some S_route_Fingers := by kernel_rfl
theorem ok_route_Fingers : SigOK Try.prog ⟨24, some 0, none⟩ (ρ 24) := by
  show PureOK _ _ f_route_Fingers
  unfold f_route_Fingers
  exact PureOK.of_e (ρ := ρ) (Ctx.of hname hmix (List.forall_mem_cons.2 ⟨ok_route_Check, List.forall_mem_cons.2 ⟨ok_route_fingers, List.forall_mem_nil _⟩⟩)) (.inr (by kernel_rfl)) e_route_Fingers (by intro t ht a hp hg; obtain ⟨live, self⟩ := a; have := w_route_Fingers live self hg; rw [← ht] at this; exact this)
theorem e_route_next : (compFn Try.prog [⟨22, none, none⟩, ⟨48, none, none⟩, ⟨49, some 0, none⟩] h_route_next 20 ⟨51, none, none⟩).map (fun t (ρ : Fns) (v0 v1 v2 : PV) (Q : List PV → Prop) => W ρ t [v0, v1, v2] [] Q) = some S_route_next := by kernel_rfl
theorem ok_route_next : SigOK Try.prog ⟨51, none, none⟩ (ρ 51) := by
  show PureOK _ _ f_route_next
  unfold f_route_next
  exact PureOK.of_e (ρ := ρ) (Ctx.of hname hmix (List.forall_mem_cons.2 ⟨ok_ring_Nearer, List.forall_mem_cons.2 ⟨ok_route_ahead, List.forall_mem_cons.2 ⟨ok_route_fingers, List.forall_mem_nil _⟩⟩⟩)) (.inl (fun a p hp => by obtain ⟨_, _, _⟩ := a; simp only [List.mem_cons, List.not_mem_nil, or_false] at hp; rcases hp with rfl <;> rfl)) e_route_next (by intro t ht a hp hg; obtain ⟨t, live, self⟩ := a; have := w_route_next t live self hp hg; rw [← ht] at this; exact this)
theorem e_route_asked : (compFn Try.prog [⟨28, none, none⟩, ⟨61, none, none⟩] h_route_asked 20 ⟨50, none, none⟩).map (fun t (ρ : Fns) (v0 v1 v2 : PV) (Q : List PV → Prop) => W ρ t [v0, v1, v2] [] Q) = some S_route_asked := by kernel_rfl
theorem ok_route_asked : SigOK Try.prog ⟨50, none, none⟩ (ρ 50) := by
  show PureOK _ _ f_route_asked
  unfold f_route_asked
  exact PureOK.of_e (ρ := ρ) (Ctx.of hname hmix (List.forall_mem_cons.2 ⟨ok_route_Check, List.forall_mem_cons.2 ⟨ok_ring_Topic, List.forall_mem_nil _⟩⟩)) (.inl (fun a p hp => by obtain ⟨_, _, _⟩ := a; simp only [List.mem_cons, List.not_mem_nil, or_false] at hp; rcases hp with rfl <;> rfl)) e_route_asked (by intro t ht a hp hg; obtain ⟨t, live, self⟩ := a; have := w_route_asked t live self hg; rw [← ht] at this; exact this)
theorem e_route_Next : (compFn Try.prog [⟨50, none, none⟩, ⟨51, none, none⟩] h_route_Next 20 ⟨25, none, none⟩).map (fun t (ρ : Fns) (v0 v1 v2 : PV) (Q : List PV → Prop) => W ρ t [v0, v1, v2] [] Q) = some S_route_Next := by kernel_rfl
theorem ok_route_Next : SigOK Try.prog ⟨25, none, none⟩ (ρ 25) := by
  show PureOK _ _ f_route_Next
  unfold f_route_Next
  exact PureOK.of_e (ρ := ρ) (Ctx.of hname hmix (List.forall_mem_cons.2 ⟨ok_route_asked, List.forall_mem_cons.2 ⟨ok_route_next, List.forall_mem_nil _⟩⟩)) (.inl (fun a p hp => by obtain ⟨_, _, _⟩ := a; simp only [List.mem_cons, List.not_mem_nil, or_false] at hp; rcases hp with rfl | rfl | rfl <;> rfl)) e_route_Next (by intro t ht a hp hg; obtain ⟨t, live, self⟩ := a; have := w_route_Next t live self hg; rw [← ht] at this; exact this)
theorem e_route_Way : (compFn Try.prog [⟨50, none, none⟩, ⟨51, none, none⟩] h_route_Way 20 ⟨26, none, none⟩).map (fun t (ρ : Fns) (v0 v1 v2 : PV) (Q : List PV → Prop) => W ρ t [v0, v1, v2] [] Q) = some S_route_Way := by kernel_rfl
theorem ok_route_Way : SigOK Try.prog ⟨26, none, none⟩ (ρ 26) := by
  show PureOK _ _ f_route_Way
  unfold f_route_Way
  exact PureOK.of_e (ρ := ρ) (Ctx.of hname hmix (List.forall_mem_cons.2 ⟨ok_route_asked, List.forall_mem_cons.2 ⟨ok_route_next, List.forall_mem_nil _⟩⟩)) (.inr (by kernel_rfl)) e_route_Way (by intro t ht a hp hg; obtain ⟨t, live, self⟩ := a; have := w_route_Way t live self hg; rw [← ht] at this; exact this)
theorem e_ref10_Nodes : (compFn Try.prog [⟨18, none, none⟩] h_ref10_Nodes 20 ⟨27, none, none⟩).map (fun t (ρ : Fns) (v0 v1 : PV) (Q : List PV → Prop) => W ρ t [v0, v1] [] Q) = some S_ref10_Nodes := by kernel_rfl
theorem ok_ref10_Nodes : SigOK Try.prog ⟨27, none, none⟩ (ρ 27) := by
  show PureOK _ _ f_ref10_Nodes
  unfold f_ref10_Nodes
  exact PureOK.of_e (ρ := ρ) (Ctx.of hname hmix (List.forall_mem_cons.2 ⟨ok_ref01_IsNode, List.forall_mem_nil _⟩)) (.inl (fun a p hp => by obtain ⟨_, _⟩ := a; simp only [List.mem_cons, List.not_mem_nil, or_false] at hp; rcases hp with rfl <;> rfl)) e_ref10_Nodes (by intro t ht a hp hg; obtain ⟨live, self⟩ := a; have := w_ref10_Nodes live self hg; rw [← ht] at this; exact this)
theorem e_ref10_behind : (compFn Try.prog [⟨54, none, none⟩, ⟨55, none, none⟩] h_ref10_behind 20 ⟨56, none, none⟩).map (fun t (ρ : Fns) (v0 v1 : PV) (Q : List PV → Prop) => W ρ t [v0, v1] [] Q) = some S_ref10_behind := by kernel_rfl
theorem ok_ref10_behind : SigOK Try.prog ⟨56, none, none⟩ (ρ 56) := by
  show PureOK _ _ f_ref10_behind
  unfold f_ref10_behind
  exact PureOK.of_e (ρ := ρ) (Ctx.of hname hmix (List.forall_mem_cons.2 ⟨ok_ref01_Node, List.forall_mem_cons.2 ⟨ok_ref01_Behind, List.forall_mem_nil _⟩⟩)) (.inl (fun a p hp => by obtain ⟨_, _⟩ := a; simp only [List.mem_cons, List.not_mem_nil, or_false] at hp; rcases hp with rfl <;> rfl)) e_ref10_behind (by intro t ht a hp hg; obtain ⟨n, self⟩ := a; have := w_ref10_behind n self hp; rw [← ht] at this; exact this)
theorem e_ref10_Ahead : (compFn Try.prog [⟨56, none, none⟩] h_ref10_Ahead 20 ⟨31, none, none⟩).map (fun t (ρ : Fns) (v0 v1 : PV) (Q : List PV → Prop) => W ρ t [v0, v1] [] Q) = some S_ref10_Ahead := by kernel_rfl
theorem ok_ref10_Ahead : SigOK Try.prog ⟨31, none, none⟩ (ρ 31) := by
  show PureOK _ _ f_ref10_Ahead
  unfold f_ref10_Ahead
  exact PureOK.of_e (ρ := ρ) (Ctx.of hname hmix (List.forall_mem_cons.2 ⟨ok_ref10_behind, List.forall_mem_nil _⟩)) (.inl (fun a p hp => by obtain ⟨_, _⟩ := a; simp only [List.mem_cons, List.not_mem_nil, or_false] at hp; rcases hp with rfl <;> rfl)) e_ref10_Ahead (by intro t ht a hp hg; obtain ⟨live, self⟩ := a; have := w_ref10_Ahead live self hp hg; rw [← ht] at this; exact this)
theorem e_ref10_Fingers : (compFn Try.prog [⟨54, none, none⟩, ⟨55, none, none⟩] h_ref10_Fingers 20 ⟨30, some 0, none⟩).map (fun t (ρ : Fns) (v0 v1 : PV) (Q : List PV → Prop) => W ρ t [v0, v1] [] Q) = some S_ref10_Fingers := by kernel_rfl
theorem ok_ref10_Fingers : SigOK Try.prog ⟨30, some 0, none⟩ (ρ 30) := by
  show PureOK _ _ f_ref10_Fingers
  unfold f_ref10_Fingers
  exact PureOK.of_e (ρ := ρ) (Ctx.of hname hmix (List.forall_mem_cons.2 ⟨ok_ref01_Node, List.forall_mem_cons.2 ⟨ok_ref01_Behind, List.forall_mem_nil _⟩⟩)) (.inr (by kernel_rfl)) e_ref10_Fingers (by intro t ht a hp hg; obtain ⟨live, self⟩ := a; have := w_ref10_Fingers live self hp hg; rw [← ht] at this; exact this)
theorem e_ref01_Owner : (compFn Try.prog [⟨65, none, none⟩] h_ref01_Owner 20 ⟨57, none, none⟩).map (fun t (ρ : Fns) (v0 v1 : PV) (Q : List PV → Prop) => W ρ t [v0, v1] [] Q) = some S_ref01_Owner := by kernel_rfl
theorem ok_ref01_Owner : SigOK Try.prog ⟨57, none, none⟩ (ρ 57) := by
  show PureOK _ _ f_ref01_Owner
  unfold f_ref01_Owner
  exact PureOK.of_e (ρ := ρ) (Ctx.of hname hmix (List.forall_mem_cons.2 ⟨ok_ref01_Gap, List.forall_mem_nil _⟩)) (.inl (fun a p hp => by obtain ⟨_, _⟩ := a; simp only [List.mem_cons, List.not_mem_nil, or_false] at hp; rcases hp with rfl <;> rfl)) e_ref01_Owner (by intro t ht a hp hg; obtain ⟨t, l⟩ := a; have := w_ref01_Owner t l hp hg; rw [← ht] at this; exact this)
theorem e_ref10_Next : (compFn Try.prog [⟨30, some 0, none⟩, ⟨31, none, none⟩, ⟨45, none, none⟩, ⟨57, none, none⟩] h_ref10_Next 20 ⟨32, none, none⟩).map (fun t (ρ : Fns) (v0 v1 v2 : PV) (Q : List PV → Prop) => W ρ t [v0, v1, v2] [] Q) = some S_ref10_Next := by kernel_rfl
theorem ok_ref10_Next : SigOK Try.prog ⟨32, none, none⟩ (ρ 32) := by
  show PureOK _ _ f_ref10_Next
  unfold f_ref10_Next
  exact PureOK.of_e (ρ := ρ) (Ctx.of hname hmix (List.forall_mem_cons.2 ⟨ok_ref10_Fingers, List.forall_mem_cons.2 ⟨ok_ref10_Ahead, List.forall_mem_cons.2 ⟨ok_ref01_Nearer, List.forall_mem_cons.2 ⟨ok_ref01_Owner, List.forall_mem_nil _⟩⟩⟩⟩)) (.inl (fun a p hp => by obtain ⟨_, _, _⟩ := a; simp only [List.mem_cons, List.not_mem_nil, or_false] at hp; rcases hp with rfl <;> rfl)) e_ref10_Next (by intro t ht a hp hg; obtain ⟨t, live, self⟩ := a; have := w_ref10_Next t live self hp hg; rw [← ht] at this; exact this)
theorem e_ref10_Way : (compFn Try.prog [⟨32, none, none⟩] h_ref10_Way 20 ⟨33, none, none⟩).map (fun t (ρ : Fns) (v0 v1 v2 : PV) (Q : List PV → Prop) => W ρ t [v0, v1, v2] [] Q) = some S_ref10_Way := by kernel_rfl
theorem ok_ref10_Way : SigOK Try.prog ⟨33, none, none⟩ (ρ 33) := by
  show PureOK _ _ f_ref10_Way
  unfold f_ref10_Way
  exact PureOK.of_e (ρ := ρ) (Ctx.of hname hmix (List.forall_mem_cons.2 ⟨ok_ref10_Next, List.forall_mem_nil _⟩)) (.inr (by kernel_rfl)) e_ref10_Way (by intro t ht a hp hg; obtain ⟨t, live, self⟩ := a; have := w_ref10_Way t live self hp hg; rw [← ht] at this; exact this)
theorem e_law11_Some : (compFn Try.prog [] h_law11_Some 20 ⟨34, none, none⟩).map (fun t (ρ : Fns) (v0 v1 : PV) (Q : List PV → Prop) => W ρ t [v0, v1] [] Q) = some S_law11_Some := by kernel_rfl
theorem ok_law11_Some : SigOK Try.prog ⟨34, none, none⟩ (ρ 34) := by
  show PureOK _ _ f_law11_Some
  unfold f_law11_Some
  exact PureOK.of_e (ρ := ρ) (Ctx.of hname hmix (List.forall_mem_nil _)) (.inr (by kernel_rfl)) e_law11_Some (by intro t ht a hp hg; obtain ⟨bits, self⟩ := a; have := w_law11_Some bits self; rw [← ht] at this; exact this)
theorem e_law11_wakes : (compFn Try.prog [⟨16, none, none⟩, ⟨23, none, none⟩, ⟨24, some 0, none⟩, ⟨25, none, none⟩, ⟨26, none, none⟩, ⟨28, none, none⟩] h_law11_wakes 20 ⟨29, none, none⟩).map (fun t (ρ : Fns) (Q : List PV → Prop) => W ρ t [] [] Q) = some S_law11_wakes := by kernel_rfl
theorem ok_law11_wakes : SigOK Try.prog ⟨29, none, none⟩ (ρ 29) := by
  show PureOK _ _ f_law11_wakes
  unfold f_law11_wakes
  exact PureOK.of_e (ρ := ρ) (Ctx.of hname hmix (List.forall_mem_cons.2 ⟨ok_bkeep_Ints, List.forall_mem_cons.2 ⟨ok_route_Ahead, List.forall_mem_cons.2 ⟨ok_route_Fingers, List.forall_mem_cons.2 ⟨ok_route_Next, List.forall_mem_cons.2 ⟨ok_route_Way, List.forall_mem_cons.2 ⟨ok_route_Check, List.forall_mem_nil _⟩⟩⟩⟩⟩⟩)) (.inl (fun a p hp => by simp only [List.mem_cons, List.not_mem_nil, or_false] at hp; rcases hp with rfl <;> rfl)) e_law11_wakes (by intro t ht a hp hg; have := w_law11_wakes ; rw [← ht] at this; exact this)
theorem e_law11_RouteExact : (compFn Try.prog [⟨12, some 0, none⟩, ⟨16, none, none⟩, ⟨17, none, none⟩, ⟨23, none, none⟩, ⟨24, some 0, none⟩, ⟨25, none, none⟩, ⟨26, none, none⟩, ⟨27, none, none⟩, ⟨28, none, none⟩, ⟨29, none, none⟩, ⟨30, some 0, none⟩, ⟨31, none, none⟩, ⟨32, none, none⟩, ⟨33, none, none⟩] h_law11_RouteExact 20 ⟨5, none, none⟩).map (fun t (ρ : Fns) (v0 v1 v2 : PV) (Q : List PV → Prop) => W ρ t [v0, v1, v2] [] Q) = some S_law11_RouteExact := by kernel_rfl
theorem ok_law11_RouteExact : SigOK Try.prog ⟨5, none, none⟩ (ρ 5) := by
  show PureOK _ _ f_law11_RouteExact
  unfold f_law11_RouteExact
  exact PureOK.of_e (ρ := ρ) (Ctx.of hname hmix (List.forall_mem_cons.2 ⟨ok_bkeep_TwinInts, List.forall_mem_cons.2 ⟨ok_bkeep_Ints, List.forall_mem_cons.2 ⟨ok_ref01_IsTopic, List.forall_mem_cons.2 ⟨ok_route_Ahead, List.forall_mem_cons.2 ⟨ok_route_Fingers, List.forall_mem_cons.2 ⟨ok_route_Next, List.forall_mem_cons.2 ⟨ok_route_Way, List.forall_mem_cons.2 ⟨ok_ref10_Nodes, List.forall_mem_cons.2 ⟨ok_route_Check, List.forall_mem_cons.2 ⟨ok_law11_wakes, List.forall_mem_cons.2 ⟨ok_ref10_Fingers, List.forall_mem_cons.2 ⟨ok_ref10_Ahead, List.forall_mem_cons.2 ⟨ok_ref10_Next, List.forall_mem_cons.2 ⟨ok_ref10_Way, List.forall_mem_nil _⟩⟩⟩⟩⟩⟩⟩⟩⟩⟩⟩⟩⟩⟩)) (.inl (fun a p hp => by obtain ⟨_, _, _⟩ := a; simp only [List.mem_cons, List.not_mem_nil, or_false] at hp; rcases hp with rfl <;> rfl)) e_law11_RouteExact (by intro t ht a hp hg; obtain ⟨t, live, self⟩ := a; have := w_law11_RouteExact t live self hg; rw [← ht] at this; exact this)
theorem e_law11_RouteWay : (compFn Try.prog [⟨22, none, none⟩, ⟨25, none, none⟩, ⟨26, none, none⟩, ⟨27, none, none⟩, ⟨29, none, none⟩, ⟨34, none, none⟩, ⟨39, none, none⟩] h_law11_RouteWay 20 ⟨8, none, none⟩).map (fun t (ρ : Fns) (v0 v1 v2 : PV) (Q : List PV → Prop) => W ρ t [v0, v1, v2] [] Q) = some S_law11_RouteWay := by kernel_rfl
theorem ok_law11_RouteWay : SigOK Try.prog ⟨8, none, none⟩ (ρ 8) := by
  show PureOK _ _ f_law11_RouteWay
  unfold f_law11_RouteWay
  exact PureOK.of_e (ρ := ρ) (Ctx.of hname hmix (List.forall_mem_cons.2 ⟨ok_ring_Nearer, List.forall_mem_cons.2 ⟨ok_route_Next, List.forall_mem_cons.2 ⟨ok_route_Way, List.forall_mem_cons.2 ⟨ok_ref10_Nodes, List.forall_mem_cons.2 ⟨ok_law11_wakes, List.forall_mem_cons.2 ⟨ok_law11_Some, List.forall_mem_cons.2 ⟨ok_ring_Owner, List.forall_mem_nil _⟩⟩⟩⟩⟩⟩⟩)) (.inl (fun a p hp => by obtain ⟨_, _, _⟩ := a; simp only [List.mem_cons, List.not_mem_nil, or_false] at hp; rcases hp with rfl <;> rfl)) e_law11_RouteWay (by intro t ht a hp hg; obtain ⟨t, bits, self⟩ := a; have := w_law11_RouteWay t bits self; rw [← ht] at this; exact this)
theorem e_law11_RouteKnows : (compFn Try.prog [⟨23, none, none⟩, ⟨24, some 0, none⟩, ⟨27, none, none⟩, ⟨29, none, none⟩, ⟨34, none, none⟩, ⟨35, none, none⟩, ⟨36, none, none⟩, ⟨37, none, none⟩, ⟨38, none, none⟩] h_law11_RouteKnows 20 ⟨7, none, none⟩).map (fun t (ρ : Fns) (v0 v1 v2 : PV) (Q : List PV → Prop) => W ρ t [v0, v1, v2] [] Q) = some S_law11_RouteKnows := by kernel_rfl
theorem ok_law11_RouteKnows : SigOK Try.prog ⟨7, none, none⟩ (ρ 7) := by
  show PureOK _ _ f_law11_RouteKnows
  unfold f_law11_RouteKnows
  exact PureOK.of_e (ρ := ρ) (Ctx.of hname hmix (List.forall_mem_cons.2 ⟨ok_route_Ahead, List.forall_mem_cons.2 ⟨ok_route_Fingers, List.forall_mem_cons.2 ⟨ok_ref10_Nodes, List.forall_mem_cons.2 ⟨ok_law11_wakes, List.forall_mem_cons.2 ⟨ok_law11_Some, List.forall_mem_cons.2 ⟨ok_ring_Node, List.forall_mem_cons.2 ⟨ok_key_Between, List.forall_mem_cons.2 ⟨ok_key_Back, List.forall_mem_cons.2 ⟨ok_key_Behind, List.forall_mem_nil _⟩⟩⟩⟩⟩⟩⟩⟩⟩)) (.inl (fun a p hp => by obtain ⟨_, _, _⟩ := a; simp only [List.mem_cons, List.not_mem_nil, or_false] at hp; rcases hp with rfl <;> rfl)) e_law11_RouteKnows (by intro t ht a hp hg; obtain ⟨bits, self, at_⟩ := a; have := w_law11_RouteKnows bits self at_; rw [← ht] at this; exact this)
theorem e_law11_RouteNext : (compFn Try.prog [⟨22, none, none⟩, ⟨23, none, none⟩, ⟨24, some 0, none⟩, ⟨25, none, none⟩, ⟨29, none, none⟩, ⟨34, none, none⟩, ⟨39, none, none⟩] h_law11_RouteNext 20 ⟨9, none, none⟩).map (fun t (ρ : Fns) (v0 v1 v2 : PV) (Q : List PV → Prop) => W ρ t [v0, v1, v2] [] Q) = some S_law11_RouteNext := by kernel_rfl
theorem ok_law11_RouteNext : SigOK Try.prog ⟨9, none, none⟩ (ρ 9) := by
  show PureOK _ _ f_law11_RouteNext
  unfold f_law11_RouteNext
  exact PureOK.of_e (ρ := ρ) (Ctx.of hname hmix (List.forall_mem_cons.2 ⟨ok_ring_Nearer, List.forall_mem_cons.2 ⟨ok_route_Ahead, List.forall_mem_cons.2 ⟨ok_route_Fingers, List.forall_mem_cons.2 ⟨ok_route_Next, List.forall_mem_cons.2 ⟨ok_law11_wakes, List.forall_mem_cons.2 ⟨ok_law11_Some, List.forall_mem_cons.2 ⟨ok_ring_Owner, List.forall_mem_nil _⟩⟩⟩⟩⟩⟩⟩)) (.inl (fun a p hp => by obtain ⟨_, _, _⟩ := a; simp only [List.mem_cons, List.not_mem_nil, or_false] at hp; rcases hp with rfl <;> rfl)) e_law11_RouteNext (by intro t ht a hp hg; obtain ⟨t, bits, self⟩ := a; have := w_law11_RouteNext t bits self; rw [← ht] at this; exact this)
theorem e_law11_RouteLess : (compFn Try.prog [⟨22, none, none⟩, ⟨26, none, none⟩, ⟨29, none, none⟩, ⟨34, none, none⟩, ⟨39, none, none⟩] h_law11_RouteLess 20 ⟨10, none, none⟩).map (fun t (ρ : Fns) (v0 v1 v2 : PV) (Q : List PV → Prop) => W ρ t [v0, v1, v2] [] Q) = some S_law11_RouteLess := by kernel_rfl
theorem ok_law11_RouteLess : SigOK Try.prog ⟨10, none, none⟩ (ρ 10) := by
  show PureOK _ _ f_law11_RouteLess
  unfold f_law11_RouteLess
  exact PureOK.of_e (ρ := ρ) (Ctx.of hname hmix (List.forall_mem_cons.2 ⟨ok_ring_Nearer, List.forall_mem_cons.2 ⟨ok_route_Way, List.forall_mem_cons.2 ⟨ok_law11_wakes, List.forall_mem_cons.2 ⟨ok_law11_Some, List.forall_mem_cons.2 ⟨ok_ring_Owner, List.forall_mem_nil _⟩⟩⟩⟩⟩)) (.inl (fun a p hp => by obtain ⟨_, _, _⟩ := a; simp only [List.mem_cons, List.not_mem_nil, or_false] at hp; rcases hp with rfl <;> rfl)) e_law11_RouteLess (by intro t ht a hp hg; obtain ⟨t, bits, self⟩ := a; have := w_law11_RouteLess t bits self; rw [← ht] at this; exact this)
theorem e_law11_RouteSteps : (compFn Try.prog [⟨16, none, none⟩, ⟨25, none, none⟩, ⟨26, none, none⟩, ⟨29, none, none⟩, ⟨34, none, none⟩] h_law11_RouteSteps 20 ⟨6, none, none⟩).map (fun t (ρ : Fns) (v0 v1 v2 v3 : PV) (Q : List PV → Prop) => W ρ t [v0, v1, v2, v3] [] Q) = some S_law11_RouteSteps := by kernel_rfl
theorem ok_law11_RouteSteps : SigOK Try.prog ⟨6, none, none⟩ (ρ 6) := by
  show PureOK _ _ f_law11_RouteSteps
  unfold f_law11_RouteSteps
  exact PureOK.of_e (ρ := ρ) (Ctx.of hname hmix (List.forall_mem_cons.2 ⟨ok_bkeep_Ints, List.forall_mem_cons.2 ⟨ok_route_Next, List.forall_mem_cons.2 ⟨ok_route_Way, List.forall_mem_cons.2 ⟨ok_law11_wakes, List.forall_mem_cons.2 ⟨ok_law11_Some, List.forall_mem_nil _⟩⟩⟩⟩⟩)) (.inl (fun a p hp => by obtain ⟨_, _, _, _⟩ := a; simp only [List.mem_cons, List.not_mem_nil, or_false] at hp; rcases hp with rfl <;> rfl)) e_law11_RouteSteps (by intro t ht a hp hg; obtain ⟨t, bits, self, at_⟩ := a; have := w_law11_RouteSteps t bits self at_; rw [← ht] at this; exact this)
theorem e_law12_PathRoute : (compFn Try.prog [⟨13, none, none⟩, ⟨16, none, none⟩, ⟨20, none, none⟩, ⟨21, none, none⟩, ⟨26, none, none⟩, ⟨34, none, none⟩] h_law12_PathRoute 20 ⟨11, none, none⟩).map (fun t (ρ : Fns) (v0 v1 v2 v3 : PV) (Q : List PV → Prop) => W ρ t [v0, v1, v2, v3] [] Q) = some S_law12_PathRoute := by kernel_rfl
theorem ok_law12_PathRoute : SigOK Try.prog ⟨11, none, none⟩ (ρ 11) := by
  show PureOK _ _ f_law12_PathRoute
  unfold f_law12_PathRoute
  exact PureOK.of_e (ρ := ρ) (Ctx.of hname hmix (List.forall_mem_cons.2 ⟨ok_path_Add, List.forall_mem_cons.2 ⟨ok_bkeep_Ints, List.forall_mem_cons.2 ⟨ok_path_Check, List.forall_mem_cons.2 ⟨ok_law12_wakes, List.forall_mem_cons.2 ⟨ok_route_Way, List.forall_mem_cons.2 ⟨ok_law11_Some, List.forall_mem_nil _⟩⟩⟩⟩⟩⟩)) (.inl (fun a p hp => by obtain ⟨_, _, _, _⟩ := a; simp only [List.mem_cons, List.not_mem_nil, or_false] at hp; rcases hp with rfl <;> rfl)) e_law12_PathRoute (by intro t ht a hp hg; obtain ⟨t, bits, self, depth⟩ := a; have := w_law12_PathRoute t bits self depth; rw [← ht] at this; exact this)
end Go.Xt
