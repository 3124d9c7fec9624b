/- Regions that draw their order, some of whose operations turn the memory: taken in one order. -/
import Derived.Test.YtfcihgjageeglaaXt15
import Derived.OrdersHeld
set_option linter.unusedSimpArgs false
set_option linter.unusedVariables false
namespace Go.Xt
open Go.RowKit
section
variable {P : Program} {ops : Array Oper} {Q : Exit → Act → World → Prop} {wr : Nat → Bool}

theorem Ext.trans {w1 w2 w3 : World} (h : Ext w1 w2) (k : Ext w2 w3) : Ext w1 w3 :=
  ⟨Nat.le_trans h.siz k.siz, fun g hg => (k.blk g (Nat.lt_of_lt_of_le hg h.siz)).trans (h.blk g hg)⟩

/-- Whatever order is picked from here on; operations that are no writers leave what was there. -/
def wpAnyS (P : Program) (ops : Array Oper) (Q : Exit → Act → World → Prop) (wr : Nat → Bool) : Nat → Array Bool → Act → World → Prop
  | 0, listed, a, w => Region.ready .any ops listed = [] ∧ Q .normal a w
  | fuel + 1, listed, a, w =>
    (Region.ready .any ops listed = [] → Q .normal a w) ∧
    ∀ i ∈ Region.ready .any ops listed, wpOp P ops Q i (fun a' w' => (wr i = false → Ext w w') ∧ wpAnyS P ops Q wr fuel (listed.setIfInBounds i true) a' w') a w

theorem wpAny_of_S : ∀ (fuel : Nat) (listed : Array Bool) (a : Act) (w : World), wpAnyS P ops Q wr fuel listed a w → wpAny P .any ops Q fuel listed a w
  | 0, _, _, _, h => h
  | fuel + 1, _, _, _, h => ⟨h.1, fun i hi => wpOp_mono (fun a' w' h' => wpAny_of_S fuel _ a' w' h'.2) (h.2 i hi)⟩

theorem wpAnyS_done {listed : Array Bool} {a : Act} {w : World} (hr : Region.ready .any ops listed = []) (h : Q .normal a w) : ∀ fuel, wpAnyS P ops Q wr fuel listed a w
  | 0 => ⟨hr, h⟩
  | _ + 1 => ⟨fun _ => h, by rw [hr]; simp⟩

theorem lt_of_getD {C : Array Bool} {j : Nat} (h : C.getD j false = true) : j < C.size := by
  rcases Nat.lt_or_ge j C.size with h' | h'
  · exact h'
  · simp [Array.getElem?_eq_none h'] at h

theorem leB_spec {C D : Array Bool} (h : leB C D = true) (k : Nat) (hk : C.getD k false = true) : D.getD k false = true := by
  simp only [leB, List.all_eq_true, List.mem_range] at h
  have := h k (lt_of_getD hk)
  rw [hk] at this
  simpa using this

theorem noWr_spec {l0 C : Array Bool} (h : noWr wr l0 C = true) (k : Nat) (hk : C.getD k false = true) (h0 : l0.getD k false = false) : wr k = false := by
  simp only [noWr, List.all_eq_true, List.mem_range] at h
  have := h k (lt_of_getD hk)
  rw [hk, h0] at this
  simpa using this

theorem closedB_spec {C : Array Bool} {i : Nat} (h : closedB ops i C = true) (j : Nat) (o : Oper) (hj : ops[j]? = some o) (hne : j ≠ i) (he : ∀ e ∈ o.after, Region.binds .any e = true → C.getD e.on false = true) : C.getD j false = true := by
  simp only [closedB, List.all_eq_true, List.mem_range] at h
  have := h j (Array.getElem?_eq_some_iff.1 hj).1
  rw [hj] at this
  simp only [Option.map_some, Option.getD_some, Bool.or_eq_true, decide_eq_true_eq, Bool.not_eq_true'] at this
  rcases this with (h1 | h1) | h1
  · exact absurd h1 hne
  · exfalso
    have : edgesIn C o = true := by
      simp only [edgesIn, Array.all_eq_true_iff_forall_mem, Bool.or_eq_true, Bool.not_eq_true']
      intro e hm
      cases hb : Region.binds .any e
      · exact .inl rfl
      · exact .inr (he e hm hb)
    rw [this] at h1; cases h1
  · exact h1

theorem wpAnyS_first {i : Nat} {oi : Oper} {v : Value} {w0 : World} {l0 C : Array Bool} (hi : ops[i]? = some oi) (hsel : ∀ (j : Nat) (o : Oper) cs b, ops[j]? = some o → o.op ≠ .select cs b)
    (hQ : ∀ c a w, Q (.panic c) (a.put oi.dst v) w → Q (.panic c) a w) (hcl : closedB ops i C = true) (hnw : noWr wr l0 C = true) :
    ∀ (fuel : Nat) (listed : Array Bool) (a : Act) (w : World),
      (∀ j oj, ops[j]? = some oj → j ≠ i → listed.getD j true = false → (∀ e ∈ oj.after, Region.binds .any e = true → e.on ≠ i) → oi.apart ops oj = true) →
      i ∈ Region.ready .any ops listed → (∀ k, listed.getD k false = true → C.getD k false = true) → (∀ k, l0.getD k false = true → listed.getD k false = true) →
      YieldsIf P ops (Ext w0) oi v a → Ext w0 w →
      wpAnyS P ops Q wr fuel (listed.setIfInBounds i true) (a.put oi.dst v) w → wpAnyS P ops Q wr (fuel + 1) listed a w := by
  intro fuel
  induction fuel with
  | zero =>
    intro listed a w _ hr _ _ hy hS H
    refine ⟨fun h => (by rw [h] at hr; cases hr), fun j hj => ?_⟩
    by_cases hji : j = i
    · subst hji; exact hy.wpOp hi hS ⟨fun _ => Ext.refl w, H⟩
    · have := ready_mono hj hji
      rw [H.1] at this
      cases this
  | succ fuel ih =>
    intro listed a w hfree hr hC h0 hy hS H
    refine ⟨fun h => (by rw [h] at hr; cases hr), fun j hj => ?_⟩
    by_cases hji : j = i
    · subst hji; exact hy.wpOp hi hS ⟨fun _ => Ext.refl w, H⟩
    · have h1 := H.2 j (ready_mono hj hji)
      obtain ⟨hjun, oj, hoj, hall⟩ := mem_ready.1 hj
      have hnot : ∀ e ∈ oj.after, Region.binds .any e = true → e.on ≠ i := fun e he hb heq => by
        have h1 := hall e he hb
        have h0 := (mem_ready.1 hr).1
        rw [heq] at h1
        rcases Nat.lt_or_ge i listed.size with h' | h'
        · simp [h'] at h0 h1; rw [h0] at h1; cases h1
        · simp [Array.getElem?_eq_none h'] at h1
      have hjC : C.getD j false = true := closedB_spec hcl j oj hoj hji fun e he hb => hC _ (hall e he hb)
      have hj0 : l0.getD j false = false := by
        cases hh : l0.getD j false with
        | false => rfl
        | true =>
          have := h0 j hh
          rcases Nat.lt_or_ge j listed.size with h' | h'
          · simp [h'] at hjun this; rw [hjun] at this; cases this
          · simp [Array.getElem?_eq_none h'] at hjun
      have hwr : wr j = false := noWr_spec hnw j hjC hj0
      have h2 := wpOp_putIf hoj (hfree j oj hoj hji hjun hnot) (fun cs b => hsel i oi cs b hi) (fun cs b => hsel j oj cs b hoj) hQ hy h1
      have hfree' : ∀ k ok, ops[k]? = some ok → k ≠ i → (listed.setIfInBounds j true).getD k true = false →
          (∀ e ∈ ok.after, Region.binds .any e = true → e.on ≠ i) → oi.apart ops ok = true := fun k ok hk hki hun hno => by
        refine hfree k ok hk hki ?_ hno
        by_cases hjk : j = k
        · subst hjk; exact hjun
        · rw [getD_set_ne true hjk] at hun; exact hun
      refine wpOp_mono (fun a' w' h3 => ⟨h3.2.1, ih (listed.setIfInBounds j true) a' w' hfree' (ready_mono hr (Ne.symm hji)) (fun k hk => ?_) (fun k hk => getD_set_true (h0 k hk)) h3.1 (hS.trans (h3.2.1 hwr)) ?_⟩) h2
      · by_cases hjk : j = k
        · subst hjk; exact hjC
        · rw [getD_set_ne false hjk] at hk; exact hC k hk
      · rw [Array.setIfInBounds_comm _ _ hji]
        exact h3.2.2

def seqS (P : Program) (ops : Array Oper) (Q : Exit → Act → World → Prop) (wr : Nat → Bool) : List (Nat × Bool) → Act → World → Prop
  | [], a, w => Q .normal a w
  | (i, true) :: r, a, w => ∃ oi v, ops[i]? = some oi ∧ YieldsIf P ops (Ext w) oi v a ∧ seqS P ops Q wr r (a.put oi.dst v) w
  | (i, false) :: r, a, w => wpOp P ops Q i (fun a' w' => (wr i = false → Ext w w') ∧ seqS P ops Q wr r a' w') a w

theorem sched_sound (hsel : Region.noSelect ops = true) (hQ : ∀ c a w, ¬ Q (.panic c) a w) : ∀ (r : List (Nat × Bool)) (listed : Array Bool) (fuel : Nat) (a : Act) (w : World), schedOk ops wr r listed = true → r.length ≤ fuel → seqS P ops Q wr r a w →
    wpAnyS P ops Q wr fuel listed a w
  | [], listed, fuel, a, w, h, _, hs => by
    simp only [schedOk, decide_eq_true_eq] at h
    exact wpAnyS_done h hs fuel
  | (i, true) :: r, listed, 0, a, w, h, hf, hs => by simp at hf
  | (i, false) :: r, listed, 0, a, w, h, hf, hs => by simp at hf
  | (i, true) :: r, listed, fuel + 1, a, w, h, hf, hs => by
    simp only [schedOk, Bool.and_eq_true] at h
    obtain ⟨⟨h1, h2⟩, h3⟩ := h
    obtain ⟨oi, v, h4, h5, h6⟩ := hs
    unfold takeOk at h2
    simp only [Bool.and_eq_true] at h2
    obtain ⟨⟨⟨k1, k2⟩, k3⟩, k4⟩ := h2
    have ih := sched_sound hsel hQ r (listed.setIfInBounds i true) fuel (a.put oi.dst v) w h3 (by simpa using hf) h6
    exact wpAnyS_first (C := closure ops i ops.size listed) (l0 := listed) h4 (Region.noSelect_spec hsel) (fun c a w hq => absurd hq (hQ c _ w)) k2 k4 fuel listed a w (Region.free_spec h4 k1) (by simpa using h1) (fun k hk => leB_spec k3 k hk) (fun k hk => hk) h5 (Ext.refl w) ih
  | (i, false) :: r, listed, fuel + 1, a, w, h, hf, hs => by
    simp only [schedOk, Bool.and_eq_true, decide_eq_true_eq] at h
    obtain ⟨h1, h2⟩ := h
    refine ⟨fun h0 => (by rw [h1] at h0; cases h0), fun j hj => ?_⟩
    rw [h1] at hj
    simp only [List.mem_singleton] at hj
    subst hj
    exact wpOp_mono (fun a' w' h' => ⟨h'.1, sched_sound hsel hQ r _ fuel a' w' h2 (by simpa using hf) h'.2⟩) hs
end
end Go.Xt
