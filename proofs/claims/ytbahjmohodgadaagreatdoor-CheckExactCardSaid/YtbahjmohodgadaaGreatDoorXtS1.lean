/- Steps towards the statements of this seat; the conditions stand in each theorem. -/
import Derived.OrdersHeld
import Derived.Test.YtbahjmohodgadaaGreatDoorXt15
/- Regions that draw their order, some of whose operations turn the memory: taken in one order. -/
set_option linter.unusedSimpArgs false
set_option linter.unusedVariables false
namespace Go.Xt
open Go.RowKit
section
variable {P : Program} {ops : Array Oper} {Q : Exit → Act → World → Prop}

theorem Ext.trans {w1 w2 w3 : World} (h : Ext w1 w2) (k : Ext w2 w3) : Ext w1 w3 :=
  ⟨Nat.le_trans h.siz k.siz, fun g hg => (k.blk g (Nat.lt_of_lt_of_le hg h.siz)).trans (h.blk g hg)⟩

/-- blocks that operations of a set leave as they are -/
def Eff (pr : List (Nat × Array Bool)) (i : Nat) (w w' : World) : Prop := ∀ p ∈ pr, p.2.getD i false = true → w'.heap[p.1]? = w.heap[p.1]?

/-- Whatever order is picked from here on. -/
def wpAnyS (P : Program) (ops : Array Oper) (Q : Exit → Act → World → Prop) (pr : List (Nat × Array Bool)) : Nat → Array Bool → Act → World → Prop
  | 0, listed, a, w => Region.ready .any ops listed = [] ∧ Q .normal a w
  | fuel + 1, listed, a, w =>
    (Region.ready .any ops listed = [] → Q .normal a w) ∧
    ∀ i ∈ Region.ready .any ops listed, wpOp P ops Q i (fun a' w' => Eff pr i w w' ∧ wpAnyS P ops Q pr fuel (listed.setIfInBounds i true) a' w') a w

theorem wpAny_of_S {pr : List (Nat × Array Bool)} : ∀ (fuel : Nat) (listed : Array Bool) (a : Act) (w : World), wpAnyS P ops Q pr fuel listed a w → wpAny P .any ops Q fuel listed a w
  | 0, _, _, _, h => h
  | fuel + 1, _, _, _, h => ⟨h.1, fun i hi => wpOp_mono (fun a' w' h' => wpAny_of_S fuel _ a' w' h'.2) (h.2 i hi)⟩

theorem wpAnyS_less {pr pr' : List (Nat × Array Bool)} (hp : ∀ p ∈ pr, p ∈ pr') : ∀ (fuel : Nat) (listed : Array Bool) (a : Act) (w : World), wpAnyS P ops Q pr' fuel listed a w → wpAnyS P ops Q pr fuel listed a w
  | 0, _, _, _, h => h
  | fuel + 1, _, _, _, h => ⟨h.1, fun i hi => wpOp_mono (fun a' w' h' => ⟨fun p hm => h'.1 p (hp p hm), wpAnyS_less hp fuel _ a' w' h'.2⟩) (h.2 i hi)⟩

theorem wpAnyS_done {pr : List (Nat × Array Bool)} {listed : Array Bool} {a : Act} {w : World} (hr : Region.ready .any ops listed = []) (h : Q .normal a w) : ∀ fuel, wpAnyS P ops Q pr fuel listed a w
  | 0 => ⟨hr, h⟩
  | _ + 1 => ⟨fun _ => h, by rw [hr]; simp⟩

theorem lt_of_getD {C : Array Bool} {j : Nat} (h : C.getD j false = true) : j < C.size := by
  rcases Nat.lt_or_ge j C.size with h' | h'
  · exact h'
  · simp [Array.getElem?_eq_none h'] at h

theorem leB_spec {C D : Array Bool} (h : leB C D = true) (k : Nat) (hk : C.getD k false = true) : D.getD k false = true := by
  simp only [leB, List.all_eq_true, List.mem_range] at h
  have := h k (lt_of_getD hk)
  rw [hk] at this
  simpa using this

theorem closedB_spec {C : Array Bool} {i : Nat} (h : closedB ops i C = true) (j : Nat) (o : Oper) (hj : ops[j]? = some o) (hne : j ≠ i) (he : ∀ e ∈ o.after, Region.binds .any e = true → C.getD e.on false = true) : C.getD j false = true := by
  simp only [closedB, List.all_eq_true, List.mem_range] at h
  have := h j (Array.getElem?_eq_some_iff.1 hj).1
  rw [hj] at this
  simp only [Option.map_some, Option.getD_some, Bool.or_eq_true, decide_eq_true_eq, Bool.not_eq_true'] at this
  rcases this with (h1 | h1) | h1
  · exact absurd h1 hne
  · exfalso
    have : edgesIn C o = true := by
      simp only [edgesIn, Array.all_eq_true_iff_forall_mem, Bool.or_eq_true, Bool.not_eq_true']
      intro e hm
      cases hb : Region.binds .any e
      · exact .inl rfl
      · exact .inr (he e hm hb)
    rw [this] at h1; cases h1
  · exact h1

theorem wpAnyS_first {pr : List (Nat × Array Bool)} {i : Nat} {oi : Oper} {v : Value} {l0 C : Array Bool} (hi : ops[i]? = some oi) (hsel : ∀ (j : Nat) (o : Oper) cs b, ops[j]? = some o → o.op ≠ .select cs b)
    (hQ : ∀ c a w, Q (.panic c) (a.put oi.dst v) w → Q (.panic c) a w) (hcl : closedB ops i C = true) {S : World → Prop} (hst : ∀ j w w', C.getD j false = true → Eff pr j w w' → S w → S w') :
    ∀ (fuel : Nat) (listed : Array Bool) (a : Act) (w : World),
      (∀ j oj, ops[j]? = some oj → j ≠ i → listed.getD j true = false → (∀ e ∈ oj.after, Region.binds .any e = true → e.on ≠ i) → oi.apart ops oj = true) →
      i ∈ Region.ready .any ops listed → (∀ k, listed.getD k false = true → C.getD k false = true) → (∀ k, l0.getD k false = true → listed.getD k false = true) →
      YieldsIf P ops S oi v a → S w →
      wpAnyS P ops Q pr fuel (listed.setIfInBounds i true) (a.put oi.dst v) w → wpAnyS P ops Q pr (fuel + 1) listed a w := by
  intro fuel
  induction fuel with
  | zero =>
    intro listed a w _ hr _ _ hy hS H
    refine ⟨fun h => (by rw [h] at hr; cases hr), fun j hj => ?_⟩
    by_cases hji : j = i
    · subst hji; exact hy.wpOp hi hS ⟨fun _ _ _ => rfl, H⟩
    · have := ready_mono hj hji
      rw [H.1] at this
      cases this
  | succ fuel ih =>
    intro listed a w hfree hr hC h0 hy hS H
    refine ⟨fun h => (by rw [h] at hr; cases hr), fun j hj => ?_⟩
    by_cases hji : j = i
    · subst hji; exact hy.wpOp hi hS ⟨fun _ _ _ => rfl, H⟩
    · have h1 := H.2 j (ready_mono hj hji)
      obtain ⟨hjun, oj, hoj, hall⟩ := mem_ready.1 hj
      have hnot : ∀ e ∈ oj.after, Region.binds .any e = true → e.on ≠ i := fun e he hb heq => by
        have h1 := hall e he hb
        have h0 := (mem_ready.1 hr).1
        rw [heq] at h1
        rcases Nat.lt_or_ge i listed.size with h' | h'
        · simp [h'] at h0 h1; rw [h0] at h1; cases h1
        · simp [Array.getElem?_eq_none h'] at h1
      have hjC : C.getD j false = true := closedB_spec hcl j oj hoj hji fun e he hb => hC _ (hall e he hb)
      have hj0 : l0.getD j false = false := by
        cases hh : l0.getD j false with
        | false => rfl
        | true =>
          have := h0 j hh
          rcases Nat.lt_or_ge j listed.size with h' | h'
          · simp [h'] at hjun this; rw [hjun] at this; cases this
          · simp [Array.getElem?_eq_none h'] at hjun
      have h2 := wpOp_putIf hoj (hfree j oj hoj hji hjun hnot) (fun cs b => hsel i oi cs b hi) (fun cs b => hsel j oj cs b hoj) hQ hy h1
      have hfree' : ∀ k ok, ops[k]? = some ok → k ≠ i → (listed.setIfInBounds j true).getD k true = false →
          (∀ e ∈ ok.after, Region.binds .any e = true → e.on ≠ i) → oi.apart ops ok = true := fun k ok hk hki hun hno => by
        refine hfree k ok hk hki ?_ hno
        by_cases hjk : j = k
        · subst hjk; exact hjun
        · rw [getD_set_ne true hjk] at hun; exact hun
      refine wpOp_mono (fun a' w' h3 => ⟨h3.2.1, ih (listed.setIfInBounds j true) a' w' hfree' (ready_mono hr (Ne.symm hji)) (fun k hk => ?_) (fun k hk => getD_set_true (h0 k hk)) h3.1 (hst j _ _ hjC h3.2.1 hS) ?_⟩) h2
      · by_cases hjk : j = k
        · subst hjk; exact hjC
        · rw [getD_set_ne false hjk] at hk; exact hC k hk
      · rw [Array.setIfInBounds_comm _ _ hji]
        exact h3.2.2

def seqS (P : Program) (ops : Array Oper) (Q : Exit → Act → World → Prop) : Sched → Array Bool → List (Nat × Array Bool) → Act → World → Prop
  | .done, _, _, a, w => Q .normal a w
  | .take i r, listed, pr, a, w => ∃ oi v pr' S, ops[i]? = some oi ∧ (∀ p ∈ pr, p ∈ pr') ∧ YieldsIf P ops S oi v a ∧ S w ∧ (∀ j w1 w2, (closure ops i ops.size listed).getD j false = true → Eff pr' j w1 w2 → S w1 → S w2) ∧
      seqS P ops Q r (listed.setIfInBounds i true) pr' (a.put oi.dst v) w
  | .alt i r more, listed, pr, a, w => wpOp P ops Q i (fun a' w' => Eff pr i w w' ∧ seqS P ops Q r (listed.setIfInBounds i true) pr a' w') a w ∧ seqS P ops Q more listed pr a w
  | .stop, _, _, _, _ => True

theorem sched_sound {ok : Nat → Bool} (hsel : Region.noSelect ops = true) (hQ : ∀ c a w, ¬ Q (.panic c) a w) : ∀ (s : Sched) (ch : Bool) (listed : Array Bool) (pr : List (Nat × Array Bool)) (fuel : Nat) (a : Act) (w : World), schedOk ops ok ch s listed = true → seqS P ops Q s listed pr a w →
    (ch = false → s.deep ≤ fuel → wpAnyS P ops Q pr fuel listed a w) ∧
    (s.deep ≤ fuel + 1 → ∀ j ∈ s.ids, wpOp P ops Q j (fun a' w' => Eff pr j w w' ∧ wpAnyS P ops Q pr fuel (listed.setIfInBounds j true) a' w') a w)
  | .done, ch, listed, pr, fuel, a, w, h, hs => by
    simp only [schedOk, Bool.and_eq_true, decide_eq_true_eq] at h
    exact ⟨fun _ _ => wpAnyS_done h.2 hs fuel, fun _ j hj => by simp [Sched.ids] at hj⟩
  | .stop, ch, listed, pr, fuel, a, w, h, hs => by
    simp only [schedOk] at h
    exact ⟨fun hc => (by rw [h] at hc; cases hc), fun _ j hj => by simp [Sched.ids] at hj⟩
  | .take i r, ch, listed, pr, fuel, a, w, h, hs => by
    refine ⟨fun _ hf => ?_, fun _ j hj => by simp [Sched.ids] at hj⟩
    obtain ⟨fuel, rfl⟩ : ∃ n, fuel = n + 1 := ⟨fuel - 1, by simp only [Sched.deep] at hf; omega⟩
    simp only [Sched.deep] at hf
    simp only [schedOk, Bool.and_eq_true, decide_eq_true_eq] at h
    obtain ⟨⟨⟨⟨⟨_, _⟩, _⟩, h1⟩, h2⟩, h3⟩ := h
    obtain ⟨oi, v, pr', S, h4, hpr, h5, hSw, hst, h6⟩ := hs
    unfold takeOk at h2
    simp only [Bool.and_eq_true] at h2
    obtain ⟨⟨k1, k2⟩, k3⟩ := h2
    have ih := (sched_sound hsel hQ r false (listed.setIfInBounds i true) pr' fuel (a.put oi.dst v) w h3 h6).1 rfl (by omega)
    refine wpAnyS_less hpr _ _ _ _ ?_
    exact wpAnyS_first (C := closure ops i ops.size listed) (l0 := listed) h4 (Region.noSelect_spec hsel) (fun c a w hq => absurd hq (hQ c _ w)) k2 (S := S) hst fuel listed a w (Region.free_spec h4 k1) (by simpa using h1) (fun k hk => leB_spec k3 k hk) (fun k hk => hk) h5 hSw ih
  | .alt i r more, ch, listed, pr, fuel, a, w, h, hs => by
    simp only [schedOk, Bool.and_eq_true, decide_eq_true_eq, Bool.or_eq_true] at h
    obtain ⟨⟨⟨_, h1⟩, h2⟩, h3⟩ := h
    have one : ∀ n, r.deep ≤ n → (∀ j ∈ more.ids, wpOp P ops Q j (fun a' w' => Eff pr j w w' ∧ wpAnyS P ops Q pr n (listed.setIfInBounds j true) a' w') a w) →
        ∀ j ∈ i :: more.ids, wpOp P ops Q j (fun a' w' => Eff pr j w w' ∧ wpAnyS P ops Q pr n (listed.setIfInBounds j true) a' w') a w := by
      intro n hn hm j hj
      rcases List.mem_cons.1 hj with rfl | hj
      · exact wpOp_mono (fun a' w' h' => ⟨h'.1, (sched_sound hsel hQ r false _ pr n a' w' h2 h'.2).1 rfl hn⟩) hs.1
      · exact hm j hj
    refine ⟨fun hc hf => ?_, fun hf => ?_⟩
    · subst hc
      simp only [Bool.false_eq_true, false_or, Bool.and_eq_true, decide_eq_true_eq, List.all_eq_true, List.contains_eq_mem] at h1
      simp only [Sched.deep] at hf
      obtain ⟨fuel, rfl⟩ : ∃ n, fuel = n + 1 := ⟨fuel - 1, by omega⟩
      refine ⟨fun h0 => absurd h0 h1.1, fun j hj => ?_⟩
      exact one fuel (by omega) ((sched_sound hsel hQ more true listed pr fuel a w h3 hs.2).2 (by omega)) j (h1.2 j hj)
    · simp only [Sched.deep] at hf
      exact one fuel (by omega) ((sched_sound hsel hQ more true listed pr fuel a w h3 hs.2).2 (by omega))
end
end Go.Xt
