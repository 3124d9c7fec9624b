/- Steps towards the statements of this seat; the conditions stand in each theorem. -/
import Derived.Test.YthpnjlaaannaaaaGreatDoorPartW1
section
set_option linter.unusedSimpArgs false
set_option linter.unusedVariables false
set_option maxRecDepth 100000
namespace Go.Xt
/-! ### a right node's parts -/
structure NOk (c : Config) (me : Int) (n : Node) : Prop where
  inc : cnt n.inc = true
  pubs : rng n.pubs 0 1073741824 = true
  asks : rng n.asks 0 40 = true
  calls : callsGo c n.asks 0 n.calls = true
  cl : n.calls.length ≤ 40
  pl : (n.peers.length : Int) = c.nodes
  tl : (n.topics.length : Int) = c.topics
  ml : (n.marks.length : Int) = c.nodes
  kl : n.taken.length ≤ 64
  tops : topicsGo c me 0 n.topics = true
  peers : peersOk n.peers = true
  marks : n.marks.all markOk = true
  taken : n.taken.all (takenOk c) = true
theorem nodeOk_iff {c : Config} {self : Int} {n : Node} : nodeOk c self n = true ↔ NOk c self n := by
  constructor
  · intro h
    simp only [nodeOk, Bool.and_eq_true, decide_eq_true_eq] at h
    obtain ⟨⟨⟨⟨⟨⟨⟨⟨⟨⟨⟨⟨a, b⟩, d⟩, e⟩, f⟩, g⟩, i⟩, j⟩, k⟩, l⟩, m⟩, o⟩, p⟩ := h
    exact ⟨a, b, d, e, f, g, i, j, k, l, m, o, p⟩
  · rintro ⟨a, b, d, e, f, g, i, j, k, l, m, o, p⟩
    simp only [nodeOk, Bool.and_eq_true, decide_eq_true_eq]
    exact ⟨⟨⟨⟨⟨⟨⟨⟨⟨⟨⟨⟨a, b⟩, d⟩, e⟩, f⟩, g⟩, i⟩, j⟩, k⟩, l⟩, m⟩, o⟩, p⟩
theorem why_zero {c : Config} {self : Int} {n : Node} (h : nodeWhy c self n = 0) : cfgOk c = true ∧ rng self 0 (c.nodes - 1) = true ∧ n.up = true ∧ NOk c self n := by
  unfold nodeWhy at h
  split at h
  · split at h
    · split at h
      · rename_i h1 h2 h3
        rw [Bool.and_eq_true] at h2
        exact ⟨h1, h2.1, h2.2, nodeOk_iff.1 h3⟩
      · omega
    · omega
  · omega
theorem why_of {c : Config} {self : Int} {n : Node} (h1 : cfgOk c = true) (h2 : rng self 0 (c.nodes - 1) = true) (h3 : n.up = true) (h4 : NOk c self n) : nodeWhy c self n = 0 := by
  unfold nodeWhy; rw [if_pos h1, if_pos (by simp [h2, h3]), if_pos (nodeOk_iff.2 h4)]
theorem tops_get {c : Config} {self : Int} : ∀ {l : List Topic} {t : Int} {k : Nat} {x : Topic}, topicsGo c self t l = true → l[k]? = some x → topicOk c (t + k) self x = true
  | [], _, _, _, _, h => by simp at h
  | y :: r, t, 0, x, h, hx => by
    rw [topicsGo, Bool.and_eq_true] at h
    simp at hx; subst hx; simpa using h.1
  | y :: r, t, k + 1, x, h, hx => by
    rw [topicsGo, Bool.and_eq_true] at h
    have := tops_get (k := k) (x := x) h.2 (by simpa using hx)
    rw [show t + 1 + (k : Int) = t + ((k + 1 : Nat) : Int) by omega] at this; exact this
theorem tops_set {c : Config} {self : Int} : ∀ {l : List Topic} {t : Int} {k : Nat} {x : Topic}, topicsGo c self t l = true → topicOk c (t + k) self x = true → topicsGo c self t (l.set k x) = true
  | [], _, _, _, _, h => rfl
  | y :: r, t, 0, x, h, hx => by
    rw [topicsGo, Bool.and_eq_true] at h
    rw [List.set_cons_zero, topicsGo, Bool.and_eq_true]
    exact ⟨by simpa using hx, h.2⟩
  | y :: r, t, k + 1, x, h, hx => by
    rw [topicsGo, Bool.and_eq_true] at h
    rw [List.set_cons_succ, topicsGo, Bool.and_eq_true]
    exact ⟨h.1, tops_set h.2 (by rw [show t + 1 + (k : Int) = t + ((k + 1 : Nat) : Int) by omega]; exact hx)⟩
theorem chk_len {t n c : Int} {xs : List Int} (h : chk t n xs c = 0) : (xs.length : Int) ≤ c := by
  unfold chk at h
  split at h
  · split at h
    · omega
    · omega
  · omega
structure TBd (c : Config) (x : Topic) : Prop where
  path : x.path.length ≤ 8
  kids : x.kids.length ≤ 4
  kept : x.stream.kept.length ≤ 16
  ahead : x.stream.ahead.length ≤ 16
  queue : x.queue.length ≤ 32
theorem topic_sz {c : Config} {t self : Int} {x : Topic} (hc : cfgOk c = true) (h : topicOk c t self x = true) : TBd c x ∧ 0 ≤ x.parent ∧ x.parent ≤ 8 := by
  have hb := cfg_bd hc
  have hf := topic_full hc h
  simp only [fullT, Bool.or_eq_false_iff, decide_eq_false_iff_not] at hf
  obtain ⟨⟨⟨f1, f2⟩, f3⟩, f4⟩ := hf
  simp only [topicOk, Bool.and_eq_true, decide_eq_true_eq] at h
  have hp := chk_len h.1.1.2
  have hl := link_bd h.1.1.1.1.1.1.1.2
  exact ⟨⟨by omega, by omega, by omega, by omega, by omega⟩, hl⟩
theorem topic_light {c : Config} {t self : Int} {x : Topic} (hc : cfgOk c = true) (h : topicOk c t self x = true) : heavy19 x = false := by
  obtain ⟨⟨a, b, d, e, f⟩, _⟩ := topic_sz hc h
  simp [heavy19, heavy18]; omega
theorem node_light {c : Config} {self : Int} {n : Node} (hc : cfgOk c = true) (h : NOk c self n) {k : Nat} {x : Topic} (hx : n.topics[k]? = some x) : heavy19 x = false :=
  topic_light hc (tops_get h.tops hx)
theorem does_of {c : Config} {self : Int} {n m : Node} {t : Int} (hc : cfgOk c = true) (hs : rng self 0 (c.nodes - 1) = true) (h : NOk c self n) (ht : rng t 0 (c.topics - 1) = true) (e1 : m.topics = n.topics) (e2 : m.peers = n.peers) (e3 : m.calls.length ≤ 100) (e4 : m.taken.length ≤ 100) : DoesOk self m t := by
  have hb := cfg_bd hc
  have h1 := rng_bd ht; have h2 := rng_bd hs
  obtain ⟨k, rfl⟩ := Int.eq_ofNat_of_zero_le h1.1
  have htl := h.tl
  obtain ⟨x, hx⟩ := get_ex (xs := n.topics) (i := k) (by omega)
  have hgd : topAt m k = x := by simp [topAt, e1, List.getD_eq_getElem?_getD, hx]
  obtain ⟨⟨a, b, d, e, f⟩, g, g2⟩ := topic_sz hc (tops_get h.tops hx)
  refine ⟨isT_iff.2 (by omega), by rw [e1]; omega, by rw [e2]; exact h.peers, by rw [e2, h.pl]; exact hs, by rw [hgd]; omega, by rw [hgd]; omega, by rw [hgd]; omega, e3, e4, by rw [hgd]; omega⟩
/-! ### bits -/
theorem OP_shr {a b : Int} {k : PV → Prop} (h0 : 0 ≤ b) (h1 : b ≤ 62) : OP (.bin .shr) [I a, I b] k = k (I (a / 2 ^ b.toNat)) := OP_of (by
  have h2 : ¬ b < 0 := by omega
  have h3 : min b.toNat 64 = b.toNat := by omega
  simp [ev, evBin, h2, IntKind.bits, h3]
  rw [Int.fdiv_eq_ediv_of_nonneg]
  exact Int.le_of_lt (Int.pow_pos (by decide)))
theorem ofInt_nat (m : Nat) : BitVec.ofInt 64 (m : Int) = BitVec.ofNat 64 m := by simp
theorem OP_and1 {a : Int} {k : PV → Prop} (h0 : 0 ≤ a) : OP (.bin .and) [I a, I 1] k = k (I (a % 2)) := OP_of (by
  obtain ⟨m, rfl⟩ := Int.eq_ofNat_of_zero_le h0
  have e : (BitVec.ofInt 64 (m : Int) &&& BitVec.ofInt 64 (1 : Int)).toNat = m % 2 := by
    rw [BitVec.toNat_and, ofInt_nat, show BitVec.ofInt 64 (1 : Int) = BitVec.ofNat 64 1 from rfl, BitVec.toNat_ofNat, BitVec.toNat_ofNat, show 1 % 2 ^ 64 = 1 from rfl, Nat.and_one_is_mod]
    omega
  show some (PV.int .i64 (IntKind.i64.wrap ((BitVec.ofInt 64 (m : Int) &&& BitVec.ofInt 64 (1 : Int)).toNat : Int))) = _
  rw [e, wr (by omega) (by omega)]; simp)
theorem or_pow {m b : Nat} (h : m / 2 ^ b % 2 = 0) : m ||| 2 ^ b = m + 2 ^ b := by
  have e1 : m = 2 ^ (b + 1) * (m / 2 ^ (b + 1)) + m % 2 ^ b := by
    have h1 := Nat.div_add_mod m (2 ^ (b + 1))
    have h2 : m % 2 ^ (b + 1) = m % 2 ^ b := by
      rw [Nat.mod_pow_succ, h]; omega
    rw [h2] at h1; exact h1.symm
  have h3 : m % 2 ^ b < 2 ^ b := Nat.mod_lt _ (Nat.two_pow_pos b)
  have h4 : 2 ^ b + m % 2 ^ b < 2 ^ (b + 1) := by rw [Nat.pow_succ]; omega
  have e2 : 2 ^ b + m % 2 ^ b = 2 ^ b ||| m % 2 ^ b := by
    have := Nat.two_pow_add_eq_or_of_lt h3 1
    rwa [Nat.mul_one] at this
  have e3 := Nat.two_pow_add_eq_or_of_lt h4 (m / 2 ^ (b + 1))
  have e4 := Nat.two_pow_add_eq_or_of_lt (show m % 2 ^ b < 2 ^ (b + 1) by omega) (m / 2 ^ (b + 1))
  rw [← e1] at e4
  have e5 : m ||| 2 ^ b = 2 ^ (b + 1) * (m / 2 ^ (b + 1)) ||| (2 ^ b + m % 2 ^ b) := by
    rw [e2]
    conv => lhs; rw [e4]
    rw [Nat.or_assoc, Nat.or_comm (m % 2 ^ b)]
  rw [e5, ← e3]; omega
theorem OP_or_pow {a b : Int} {k : PV → Prop} (h0 : 0 ≤ a) (h1 : a < 4611686018427387904) (h2 : 0 ≤ b) (h3 : b ≤ 61) (h : a / 2 ^ b.toNat % 2 = 0) : OP (.bin .or) [I a, I (2 ^ b.toNat)] k = k (I (a + 2 ^ b.toNat)) := OP_of (by
  obtain ⟨m, rfl⟩ := Int.eq_ofNat_of_zero_le h0
  obtain ⟨d, rfl⟩ := Int.eq_ofNat_of_zero_le h2
  simp only [Int.toNat_natCast] at h ⊢
  have e0 : ((2 : Int) ^ d) = ((2 ^ d : Nat) : Int) := (Int.natCast_pow 2 d).symm
  have h4 : m / 2 ^ d % 2 = 0 := by
    rw [e0] at h
    have : ((m / 2 ^ d % 2 : Nat) : Int) = 0 := by rw [Int.natCast_emod, Int.natCast_ediv]; exact h
    omega
  have h5 : 2 ^ d ≤ 2305843009213693952 := Nat.pow_le_pow_right (n := 2) (show 0 < 2 by decide) (show d ≤ 61 by omega)
  have e : (BitVec.ofInt 64 (m : Int) ||| BitVec.ofInt 64 ((2 ^ d : Nat) : Int)).toNat = m + 2 ^ d := by
    rw [BitVec.toNat_or, ofInt_nat, ofInt_nat, BitVec.toNat_ofNat, BitVec.toNat_ofNat, Nat.mod_eq_of_lt (by omega), Nat.mod_eq_of_lt (by omega), or_pow h4]
  rw [e0]
  show some (PV.int .i64 (IntKind.i64.wrap ((BitVec.ofInt 64 (m : Int) ||| BitVec.ofInt 64 ((2 ^ d : Nat) : Int)).toNat : Int))) = _
  rw [e, wr (by omega) (by omega)]; simp)
end Go.Xt
end
section
set_option linter.unusedSimpArgs false
set_option linter.unusedVariables false
set_option maxRecDepth 100000
namespace Go.Xt
theorem set_same {α : Type} {l : List α} {k : Nat} {x : α} (h : l[k]? = some x) : l.set k x = l := by
  obtain ⟨h1, h2⟩ := List.getElem?_eq_some_iff.1 h
  rw [← h2]; exact List.set_getElem_self h1
theorem mark_bd {n : Node} {k : Nat} {y : Mark} (h : n.marks.all markOk = true) (hy : n.marks[k]? = some y) : 0 ≤ y.met ∧ y.met ≤ 2199023255551 := by
  rw [List.all_eq_true] at h
  have := h y (List.mem_of_getElem? hy)
  simp only [markOk, Bool.and_eq_true] at this
  exact rng_bd this.2
theorem w_cast_Begin (c : Config) (self : Int) (n : Node) (t : Int) (value : Int) (hg : Goods [I c.nodes, I c.topics, I c.kids, I c.depth, I c.keep, I c.window, I c.queue, I self, bb n.up, I n.inc, L n.peers, L n.topics, L n.calls, I n.pubs, I n.asks, L n.marks, L n.taken, I t, I value]) : S_cast_Begin ρ (I c.nodes) (I c.topics) (I c.kids) (I c.depth) (I c.keep) (I c.window) (I c.queue) (I self) (bb n.up) (I n.inc) (L n.peers) (L n.topics) (L n.calls) (I n.pubs) (I n.asks) (L n.marks) (L n.taken) (I t) (I value) (· = [bb (beginN c self n t value).1.up, I (beginN c self n t value).1.inc, L (beginN c self n t value).1.peers, L (beginN c self n t value).1.topics, L (beginN c self n t value).1.calls, I (beginN c self n t value).1.pubs, I (beginN c self n t value).1.asks, L (beginN c self n t value).1.marks, L (beginN c self n t value).1.taken, L (beginN c self n t value).2.1, I (beginN c self n t value).2.2.1, I (beginN c self n t value).2.2.2]) := by
  unfold S_cast_Begin
  simp only [Goods, good_L] at hg
  generalize hE : beginN c self n t value = q
  unfold beginN at hE
  simp (disch := first | omega | assumption | exact ⟨by first | assumption | omega, by first | assumption | omega⟩ | (simp only [List.length_cons, List.length_nil]; omega)) only [↓S0, ↓ITE_bool, S1, eq_self, if_true, if_false, true_implies, false_implies, implies_true, ↓c_cast_Check, ↓c_cast_in, ↓c_msg_Value, ↓c_slices_Contains_int_int, ↓c_graft_Twin, ↓c_slices_Clone_api_Peer_api_Peer, ↓c_slices_Clone_api_Call_api_Call, ↓c_slices_Clone_api_Mark_api_Mark, ↓c_slices_Clone_api_Mark2_api_Mark2, ↓c_slices_Clone_int_int, ↓c_cast_near, ↓c_cast_Heed, ↓c_slices_Delete_api_Call_api_Call, ↓c_queue_Fit]
  refine ⟨fun hw => ?_, fun hw => ?_⟩
  · rw [if_neg hw] at hE; rw [← hE]; rfl
  rw [if_pos hw] at hE
  obtain ⟨hc, hsr, hu, H⟩ := why_zero hw
  have hb := cfg_bd hc
  have hsb := rng_bd hsr
  refine SUB.v1 (bb (!(rng t 0 (c.topics - 1) && val value))) ?_ ?_
  · repeat' (first | apply And.intro | intro _ | simp (disch := first | omega | assumption | exact ⟨by first | assumption | omega, by first | assumption | omega⟩ | (simp only [List.length_cons, List.length_nil]; omega)) only [↓S0, ↓ITE_bool, S1, eq_self, if_true, if_false, true_implies, false_implies, implies_true, ↓c_cast_Check, ↓c_cast_in, ↓c_msg_Value, ↓c_slices_Contains_int_int, ↓c_graft_Twin, ↓c_slices_Clone_api_Peer_api_Peer, ↓c_slices_Clone_api_Call_api_Call, ↓c_slices_Clone_api_Mark_api_Mark, ↓c_slices_Clone_api_Mark2_api_Mark2, ↓c_slices_Clone_int_int, ↓c_cast_near, ↓c_cast_Heed, ↓c_slices_Delete_api_Call_api_Call, ↓c_queue_Fit])
    all_goals simp [*]
  cases htv : (rng t 0 (c.topics - 1) && val value)
  · simp (disch := first | omega | assumption | exact ⟨by first | assumption | omega, by first | assumption | omega⟩ | (simp only [List.length_cons, List.length_nil]; omega)) only [↓S0, ↓ITE_bool, S1, eq_self, if_true, if_false, true_implies, false_implies, implies_true, ↓c_cast_Check, ↓c_cast_in, ↓c_msg_Value, ↓c_slices_Contains_int_int, ↓c_graft_Twin, ↓c_slices_Clone_api_Peer_api_Peer, ↓c_slices_Clone_api_Call_api_Call, ↓c_slices_Clone_api_Mark_api_Mark, ↓c_slices_Clone_api_Mark2_api_Mark2, ↓c_slices_Clone_int_int, ↓c_cast_near, ↓c_cast_Heed, ↓c_slices_Delete_api_Call_api_Call, ↓c_queue_Fit]
    rw [htv, if_neg (by simp)] at hE; rw [← hE]; rfl
  rw [if_pos htv] at hE
  rw [Bool.and_eq_true] at htv
  simp (disch := first | omega | assumption | exact ⟨by first | assumption | omega, by first | assumption | omega⟩ | (simp only [List.length_cons, List.length_nil]; omega)) only [↓S0, ↓ITE_bool, S1, eq_self, if_true, if_false, true_implies, false_implies, implies_true, ↓c_cast_Check, ↓c_cast_in, ↓c_msg_Value, ↓c_slices_Contains_int_int, ↓c_graft_Twin, ↓c_slices_Clone_api_Peer_api_Peer, ↓c_slices_Clone_api_Call_api_Call, ↓c_slices_Clone_api_Mark_api_Mark, ↓c_slices_Clone_api_Mark2_api_Mark2, ↓c_slices_Clone_int_int, ↓c_cast_near, ↓c_cast_Heed, ↓c_slices_Delete_api_Call_api_Call, ↓c_queue_Fit]
  refine ⟨fun ha => ?_, fun ha => ?_⟩
  · rw [if_neg (by omega)] at hE; rw [← hE]; rfl
  rw [if_pos (by omega)] at hE
  have hab := rng_bd H.asks
  have hpl := H.pl; have hml := H.ml; have hkl := H.kl; have hcl := H.cl
  have htl := H.tl
  refine SUB.val [L n.taken, L n.marks, L n.calls, L n.peers, L n.topics] rfl ?_ ?_
  · refine LOOP.rule (α := Nat) (fun i => [I i, L (n.topics.take i)]) (fun i => i ≤ n.topics.length) (fun i => n.topics.length - i) 0 rfl (by omega) (fun _ => rfl) ?_
    intro i hl
    simp only [app]
    simp (disch := first | omega | assumption | exact ⟨by first | assumption | omega, by first | assumption | omega⟩ | (simp only [List.length_cons, List.length_nil]; omega)) only [↓S0, ↓ITE_bool, S1, eq_self, if_true, if_false, true_implies, false_implies, implies_true, ↓c_cast_Check, ↓c_cast_in, ↓c_msg_Value, ↓c_slices_Contains_int_int, ↓c_graft_Twin, ↓c_slices_Clone_api_Peer_api_Peer, ↓c_slices_Clone_api_Call_api_Call, ↓c_slices_Clone_api_Mark_api_Mark, ↓c_slices_Clone_api_Mark2_api_Mark2, ↓c_slices_Clone_int_int, ↓c_cast_near, ↓c_cast_Heed, ↓c_slices_Delete_api_Call_api_Call, ↓c_queue_Fit]
    refine ⟨fun hcc => ?_, fun hcc => ?_⟩
    · obtain ⟨x, hx⟩ := get_ex hcc
      have hx9 := node_light hc H hx
      have hlt : (n.topics.take i).length = i := by simp; omega
      simp (disch := first | omega | assumption | exact ⟨by first | assumption | omega, by first | assumption | omega⟩ | (simp only [List.length_cons, List.length_nil]; omega)) only [↓S0, ↓ITE_bool, S1, eq_self, if_true, if_false, true_implies, false_implies, implies_true, ↓c_cast_Check, ↓c_cast_in, ↓c_msg_Value, ↓c_slices_Contains_int_int, ↓c_graft_Twin, ↓c_slices_Clone_api_Peer_api_Peer, ↓c_slices_Clone_api_Call_api_Call, ↓c_slices_Clone_api_Mark_api_Mark, ↓c_slices_Clone_api_Mark2_api_Mark2, ↓c_slices_Clone_int_int, ↓c_cast_near, ↓c_cast_Heed, ↓c_slices_Delete_api_Call_api_Call, ↓c_queue_Fit, cell_L hx]
      exact ⟨i + 1, by simp [take_one hx], by omega, by omega⟩
    rw [List.take_of_length_le (by omega)]
  simp only [app]
  simp (disch := first | omega | assumption | exact ⟨by first | assumption | omega, by first | assumption | omega⟩ | (simp only [List.length_cons, List.length_nil]; omega)) only [↓S0, ↓ITE_bool, S1, eq_self, if_true, if_false, true_implies, false_implies, implies_true, ↓c_cast_Check, ↓c_cast_in, ↓c_msg_Value, ↓c_slices_Contains_int_int, ↓c_graft_Twin, ↓c_slices_Clone_api_Peer_api_Peer, ↓c_slices_Clone_api_Call_api_Call, ↓c_slices_Clone_api_Mark_api_Mark, ↓c_slices_Clone_api_Mark2_api_Mark2, ↓c_slices_Clone_int_int, ↓c_cast_near, ↓c_cast_Heed, ↓c_slices_Delete_api_Call_api_Call, ↓c_queue_Fit]
  rw [show L [(⟨n.asks + 1, t, 0⟩ : Kid)] = L [(⟨n.asks + 1, t, 0⟩ : Call)] from rfl]
  simp (disch := first | omega | assumption | exact ⟨by first | assumption | omega, by first | assumption | omega⟩ | (simp only [List.length_cons, List.length_nil]; omega)) only [↓S0, ↓ITE_bool, S1, eq_self, if_true, if_false, true_implies, false_implies, implies_true, ↓c_cast_Check, ↓c_cast_in, ↓c_msg_Value, ↓c_slices_Contains_int_int, ↓c_graft_Twin, ↓c_slices_Clone_api_Peer_api_Peer, ↓c_slices_Clone_api_Call_api_Call, ↓c_slices_Clone_api_Mark_api_Mark, ↓c_slices_Clone_api_Mark2_api_Mark2, ↓c_slices_Clone_int_int, ↓c_cast_near, ↓c_cast_Heed, ↓c_slices_Delete_api_Call_api_Call, ↓c_queue_Fit]
  obtain ⟨s, hk⟩ := Int.eq_ofNat_of_zero_le hsb.1
  subst hk
  obtain ⟨mk, hmk⟩ := get_ex (xs := n.marks) (i := s) (by omega)
  have hmd : n.marks.getD s mark0 = mk := by simp [List.getD_eq_getElem?_getD, hmk]
  have hmb := mark_bd H.marks hmk
  have hml2 : meetL n.marks s n.inc (n.asks + 1) = if meets n.marks s n.inc (n.asks + 1) = true then n.marks.set s { newer mk n.inc with met := (newer mk n.inc).met + 2 ^ (n.asks + 1).toNat } else n.marks := by
    unfold meetL; rw [Int.toNat_natCast, hmd]
  have hme : meets n.marks s n.inc (n.asks + 1) = (decide (mk.inc ≤ n.inc) && !metYet (newer mk n.inc) (n.asks + 1)) := by unfold meets; rw [Int.toNat_natCast, hmd]
  refine SUB.v2 (bb (meets n.marks s n.inc (n.asks + 1))) (L (meetL n.marks s n.inc (n.asks + 1))) ?_ ?_
  · rw [hml2, hme]
    simp (disch := first | omega | assumption | exact ⟨by first | assumption | omega, by first | assumption | omega⟩ | (simp only [List.length_cons, List.length_nil]; omega)) only [↓S0, ↓ITE_bool, S1, eq_self, if_true, if_false, true_implies, false_implies, implies_true, ↓c_cast_Check, ↓c_cast_in, ↓c_msg_Value, ↓c_slices_Contains_int_int, ↓c_graft_Twin, ↓c_slices_Clone_api_Peer_api_Peer, ↓c_slices_Clone_api_Call_api_Call, ↓c_slices_Clone_api_Mark_api_Mark, ↓c_slices_Clone_api_Mark2_api_Mark2, ↓c_slices_Clone_int_int, ↓c_cast_near, ↓c_cast_Heed, ↓c_slices_Delete_api_Call_api_Call, ↓c_queue_Fit, cell_L hmk]
    refine ⟨fun hgt => ?_, fun hle => ⟨fun hlt => ?_, fun hge => ?_⟩⟩
    · have e : decide (mk.inc ≤ n.inc) = false := by simp; omega
      simp [e]
    · have e : newer mk n.inc = ⟨n.inc, 0, 0⟩ := by unfold newer; rw [if_pos hlt]
      have hsz := (List.getElem?_eq_some_iff.1 hmk).1
      have h1 : (n.marks.set s ⟨n.inc, mk.pubs, mk.met⟩)[s]? = some ⟨n.inc, mk.pubs, mk.met⟩ := by simp [hsz]
      have h2 : ((n.marks.set s ⟨n.inc, mk.pubs, mk.met⟩).set s ⟨n.inc, 0, mk.met⟩)[s]? = some ⟨n.inc, 0, mk.met⟩ := by simp [hsz]
      have h3 : (n.marks.set s ⟨n.inc, 0, 0⟩)[s]? = some ⟨n.inc, 0, 0⟩ := by simp [hsz]
      rw [OP_set hmk (y := ⟨n.inc, mk.pubs, mk.met⟩) rfl, OP_set h1 (y := ⟨n.inc, 0, mk.met⟩) rfl, OP_set h2 (y := ⟨n.inc, 0, 0⟩) rfl, List.set_set, List.set_set, e]
      simp (disch := first | omega | assumption | exact ⟨by first | assumption | omega, by first | assumption | omega⟩ | (simp only [List.length_cons, List.length_nil]; omega)) only [↓S0, ↓ITE_bool, S1, eq_self, if_true, if_false, true_implies, false_implies, implies_true, ↓c_cast_Check, ↓c_cast_in, ↓c_msg_Value, ↓c_slices_Contains_int_int, ↓c_graft_Twin, ↓c_slices_Clone_api_Peer_api_Peer, ↓c_slices_Clone_api_Call_api_Call, ↓c_slices_Clone_api_Mark_api_Mark, ↓c_slices_Clone_api_Mark2_api_Mark2, ↓c_slices_Clone_int_int, ↓c_cast_near, ↓c_cast_Heed, ↓c_slices_Delete_api_Call_api_Call, ↓c_queue_Fit, cell_L h3]
      rw [OP_shr (by omega) (by omega), OP_and1 (Int.ediv_nonneg (by decide) (Int.le_of_lt (Int.pow_pos (by decide))))]
      simp (disch := first | omega | assumption | exact ⟨by first | assumption | omega, by first | assumption | omega⟩ | (simp only [List.length_cons, List.length_nil]; omega)) only [↓S0, ↓ITE_bool, S1, eq_self, if_true, if_false, true_implies, false_implies, implies_true, ↓c_cast_Check, ↓c_cast_in, ↓c_msg_Value, ↓c_slices_Contains_int_int, ↓c_graft_Twin, ↓c_slices_Clone_api_Peer_api_Peer, ↓c_slices_Clone_api_Call_api_Call, ↓c_slices_Clone_api_Mark_api_Mark, ↓c_slices_Clone_api_Mark2_api_Mark2, ↓c_slices_Clone_int_int, ↓c_cast_near, ↓c_cast_Heed, ↓c_slices_Delete_api_Call_api_Call, ↓c_queue_Fit]
      have hz : (0 : Int) / 2 ^ (n.asks + 1).toNat % 2 = 0 := by simp
      refine ⟨fun hm => by rw [hz] at hm; omega, fun hm => ?_⟩
      rw [OP_shl (by omega) (by omega), OP_or_pow (by omega) (by omega) (by omega) (by omega) hz, OP_set h3 (y := ⟨n.inc, 0, 0 + 2 ^ (n.asks + 1).toNat⟩) rfl, List.set_set]
      have e5 : decide (mk.inc ≤ n.inc) = true := by simp; omega
      simp [e5, metYet]
    · have e : newer mk n.inc = mk := by unfold newer; rw [if_neg hge]
      rw [OP_shr (by omega) (by omega), OP_and1 (Int.ediv_nonneg hmb.1 (Int.le_of_lt (Int.pow_pos (by decide)))), e]
      simp (disch := first | omega | assumption | exact ⟨by first | assumption | omega, by first | assumption | omega⟩ | (simp only [List.length_cons, List.length_nil]; omega)) only [↓S0, ↓ITE_bool, S1, eq_self, if_true, if_false, true_implies, false_implies, implies_true, ↓c_cast_Check, ↓c_cast_in, ↓c_msg_Value, ↓c_slices_Contains_int_int, ↓c_graft_Twin, ↓c_slices_Clone_api_Peer_api_Peer, ↓c_slices_Clone_api_Call_api_Call, ↓c_slices_Clone_api_Mark_api_Mark, ↓c_slices_Clone_api_Mark2_api_Mark2, ↓c_slices_Clone_int_int, ↓c_cast_near, ↓c_cast_Heed, ↓c_slices_Delete_api_Call_api_Call, ↓c_queue_Fit]
      have e5 : decide (mk.inc ≤ n.inc) = true := by simp; omega
      refine ⟨fun hm => by simp [e5, metYet, hm], fun hm => ?_⟩
      have h0 : mk.met / 2 ^ (n.asks + 1).toNat % 2 = 0 := by omega
      rw [OP_shl (by omega) (by omega), OP_or_pow hmb.1 (by omega) (by omega) (by omega) h0, OP_set hmk (y := { mk with met := mk.met + 2 ^ (n.asks + 1).toNat }) rfl]
      simp [e5, metYet, hm]
  have hcl2 : (n.calls ++ [(⟨n.asks + 1, t, 0⟩ : Call)]).length ≤ 100 := by simp; omega
  have HD : DoesOk (s : Int) (⟨n.up, n.inc, n.peers, n.topics, n.calls ++ [⟨n.asks + 1, t, 0⟩], n.pubs, n.asks + 1, meetL n.marks s n.inc (n.asks + 1), n.taken⟩ : Node) t := does_of hc hsr H htv.1 rfl rfl hcl2 (by show n.taken.length ≤ 100; omega)
  dsimp only at hE
  generalize n.calls ++ [(⟨n.asks + 1, t, 0⟩ : Call)] = calls at hE HD ⊢
  generalize hcnt : n.asks + 1 = cnt at hE HD ⊢
  generalize meetL n.marks s n.inc cnt = marks at hE HD ⊢
  obtain ⟨h1, h2, h3, h4, h5, h6, h7, h8, h9, h10⟩ := HD
  have hbt := isT_iff.1 h1
  have hs := rng_bd h4
  obtain ⟨k, rfl⟩ := Int.eq_ofNat_of_zero_le hbt.1
  obtain ⟨y, hy⟩ := get_ex (xs := n.topics) (i := k) (by omega)
  have hgd : ∀ (a : Bool) (b : Int) (d : List Peer) (e : List Call) (f g : Int) (i : List Mark) (j : List Mark2), topAt (⟨a, b, d, n.topics, e, f, g, i, j⟩ : Node) k = y := by intros; simp [topAt, List.getD_eq_getElem?_getD, hy]
  have hbc : (calls.length : Int) ≤ 100 := by have := h8; dsimp only at this; omega
  rw [hgd] at h5 h6 h7 h10
  dsimp only at h2 h3 h4 h9
  generalize hr : visitN c s (⟨n.up, n.inc, n.peers, n.topics, calls, n.pubs, cnt, marks, n.taken⟩ : Node) { msg0 with topic := (k : Int), node := (s : Int), inc := n.inc, count := cnt, value := value } = r at hE
  have hQ : [bb r.1.up, I r.1.inc, L r.1.peers, L r.1.topics, L r.1.calls, I r.1.pubs, I r.1.asks, L r.1.marks, L r.1.taken, L r.2, I cnt, I 0] = [bb q.fst.up, I q.fst.inc, L q.fst.peers, L q.fst.topics, L q.fst.calls, I q.fst.pubs, I q.fst.asks, L q.fst.marks, L q.fst.taken, L q.snd.fst, I q.snd.snd.fst, I q.snd.snd.snd] := by rw [← hE]
  clear hE
  generalize [bb q.fst.up, I q.fst.inc, L q.fst.peers, L q.fst.topics, L q.fst.calls, I q.fst.pubs, I q.fst.asks, L q.fst.marks, L q.fst.taken, L q.snd.fst, I q.snd.snd.fst, I q.snd.snd.snd] = z at hQ ⊢
  simp only [visitN, msg0, hgd, List.nil_append] at hr
  cases hsub : y.sub
  · simp (disch := first | omega | assumption | exact ⟨by first | assumption | omega, by first | assumption | omega⟩ | (simp only [List.length_cons, List.length_nil]; omega)) only [↓S0, ↓ITE_bool, S1, eq_self, if_true, if_false, true_implies, false_implies, implies_true, ↓c_cast_Check, ↓c_cast_in, ↓c_msg_Value, ↓c_slices_Contains_int_int, ↓c_graft_Twin, ↓c_slices_Clone_api_Peer_api_Peer, ↓c_slices_Clone_api_Call_api_Call, ↓c_slices_Clone_api_Mark_api_Mark, ↓c_slices_Clone_api_Mark2_api_Mark2, ↓c_slices_Clone_int_int, ↓c_cast_near, ↓c_cast_Heed, ↓c_slices_Delete_api_Call_api_Call, ↓c_queue_Fit, cell_L hy, hsub]
    simp only [hsub, Bool.false_eq_true, if_false] at hr
    refine SUB.v3 (L ([] : List Int)) (L [(s : Int)]) (L [(s : Int)]) ?_ ?_
    · simp (disch := first | omega | assumption | exact ⟨by first | assumption | omega, by first | assumption | omega⟩ | (simp only [List.length_cons, List.length_nil]; omega)) only [↓S0, ↓ITE_bool, S1, eq_self, if_true, if_false, true_implies, false_implies, implies_true, ↓c_cast_Check, ↓c_cast_in, ↓c_msg_Value, ↓c_slices_Contains_int_int, ↓c_graft_Twin, ↓c_slices_Clone_api_Peer_api_Peer, ↓c_slices_Clone_api_Call_api_Call, ↓c_slices_Clone_api_Mark_api_Mark, ↓c_slices_Clone_api_Mark2_api_Mark2, ↓c_slices_Clone_int_int, ↓c_cast_near, ↓c_cast_Heed, ↓c_slices_Delete_api_Call_api_Call, ↓c_queue_Fit, List.nil_append]
    have hcn : peersOk (⟨n.up, n.inc, n.peers, n.topics, calls, n.pubs, cnt, marks, n.taken⟩ : Node).peers = true ∧ rng (s : Int) 0 (n.peers.length - 1) = true ∧ isT (k : Int) = true ∧ (k : Int) < n.topics.length ∧ (topAt (⟨n.up, n.inc, n.peers, n.topics, calls, n.pubs, cnt, marks, n.taken⟩ : Node) k).kids.length ≤ 8 ∧ (topAt (⟨n.up, n.inc, n.peers, n.topics, calls, n.pubs, cnt, marks, n.taken⟩ : Node) k).parent ≤ 8 ∧ 0 ≤ (topAt (⟨n.up, n.inc, n.peers, n.topics, calls, n.pubs, cnt, marks, n.taken⟩ : Node) k).parent :=
      ⟨h3, h4, h1, h2, by rw [hgd]; exact h5, by rw [hgd]; exact h6, by rw [hgd]; exact h7⟩
    have hnl : (nearL s (⟨n.up, n.inc, n.peers, n.topics, calls, n.pubs, cnt, marks, n.taken⟩ : Node) k).length ≤ 10 := by
      simp only [nearL, hgd, List.length_append, List.length_map, List.length_singleton]
      split <;> simp <;> omega
    rw [c_cast_near hcn]
    generalize hNL : nearL s (⟨n.up, n.inc, n.peers, n.topics, calls, n.pubs, cnt, marks, n.taken⟩ : Node) k = nl at hnl hr ⊢
    simp (disch := first | omega | assumption | exact ⟨by first | assumption | omega, by first | assumption | omega⟩ | (simp only [List.length_cons, List.length_nil]; omega)) only [↓S0, ↓ITE_bool, S1, eq_self, if_true, if_false, true_implies, false_implies, implies_true, ↓c_cast_Check, ↓c_cast_in, ↓c_msg_Value, ↓c_slices_Contains_int_int, ↓c_graft_Twin, ↓c_slices_Clone_api_Peer_api_Peer, ↓c_slices_Clone_api_Call_api_Call, ↓c_slices_Clone_api_Mark_api_Mark, ↓c_slices_Clone_api_Mark2_api_Mark2, ↓c_slices_Clone_int_int, ↓c_cast_near, ↓c_cast_Heed, ↓c_slices_Delete_api_Call_api_Call, ↓c_queue_Fit]
    generalize hT : todoGo (⟨n.up, n.inc, n.peers, n.topics, calls, n.pubs, cnt, marks, n.taken⟩ : Node) [(s : Int)] [] nl = todo at hr
    refine LOOP.rule (α := Nat × List Int) (fun p => [I p.1, L p.2]) (fun p => p.1 ≤ nl.length ∧ p.2.length ≤ p.1 ∧ todoGo (⟨n.up, n.inc, n.peers, n.topics, calls, n.pubs, cnt, marks, n.taken⟩ : Node) [(s : Int)] p.2 (nl.drop p.1) = todo) (fun p => nl.length - p.1) (0, []) rfl ⟨by simp, by simp, by simpa using hT⟩ (fun _ => rfl) ?_
    rintro ⟨i, a⟩ ⟨hi, ha, hs2⟩
    simp only at hi ha hs2
    simp only [app]
    simp (disch := first | omega | assumption | exact ⟨by first | assumption | omega, by first | assumption | omega⟩ | (simp only [List.length_cons, List.length_nil]; omega)) only [↓S0, ↓ITE_bool, S1, eq_self, if_true, if_false, true_implies, false_implies, implies_true, ↓c_cast_Check, ↓c_cast_in, ↓c_msg_Value, ↓c_slices_Contains_int_int, ↓c_graft_Twin, ↓c_slices_Clone_api_Peer_api_Peer, ↓c_slices_Clone_api_Call_api_Call, ↓c_slices_Clone_api_Mark_api_Mark, ↓c_slices_Clone_api_Mark2_api_Mark2, ↓c_slices_Clone_int_int, ↓c_cast_near, ↓c_cast_Heed, ↓c_slices_Delete_api_Call_api_Call, ↓c_queue_Fit]
    refine ⟨fun h => ?_, fun h => ?_⟩
    · obtain ⟨x, hx⟩ := get_ex h
      rw [drop_eq hx, todoGo] at hs2
      simp (disch := first | omega | assumption | exact ⟨by first | assumption | omega, by first | assumption | omega⟩ | (simp only [List.length_cons, List.length_nil]; omega)) only [↓S0, ↓ITE_bool, S1, eq_self, if_true, if_false, true_implies, false_implies, implies_true, ↓c_cast_Check, ↓c_cast_in, ↓c_msg_Value, ↓c_slices_Contains_int_int, ↓c_graft_Twin, ↓c_slices_Clone_api_Peer_api_Peer, ↓c_slices_Clone_api_Call_api_Call, ↓c_slices_Clone_api_Mark_api_Mark, ↓c_slices_Clone_api_Mark2_api_Mark2, ↓c_slices_Clone_int_int, ↓c_cast_near, ↓c_cast_Heed, ↓c_slices_Delete_api_Call_api_Call, ↓c_queue_Fit, cell_L hx]
      refine ⟨fun e1 => ⟨fun e2 => ⟨fun e3 => ⟨(i + 1, a ++ [x]), rfl, ⟨by simp; omega, by simp; omega, ?_⟩, by simp; omega⟩, fun e3 => ⟨(i + 1, a), rfl, ⟨by simp; omega, by simp; omega, ?_⟩, by simp; omega⟩⟩, fun e2 => ⟨(i + 1, a), rfl, ⟨by simp; omega, by simp; omega, ?_⟩, by simp; omega⟩⟩, fun e1 => ⟨(i + 1, a), rfl, ⟨by simp; omega, by simp; omega, ?_⟩, by simp; omega⟩⟩
      · simp only [e1, e2, e3, Bool.not_false, Bool.and_self, if_true] at hs2; exact hs2
      · simp only [e1, e2, e3, Bool.not_false, Bool.not_true, Bool.and_false, Bool.false_eq_true, if_false] at hs2; exact hs2
      · simp only [e1, e2, Bool.not_false, Bool.not_true, Bool.and_false, Bool.false_and, Bool.false_eq_true, if_false] at hs2; exact hs2
      · simp only [e1, Bool.false_and, Bool.false_eq_true, if_false] at hs2; exact hs2
    rw [drop_nil h, todoGo] at hs2
    subst hs2
    unfold goN at hr
    refine SUB.v1 (bb (decide (a = []))) ?_ ?_
    · simp (disch := first | omega | assumption | exact ⟨by first | assumption | omega, by first | assumption | omega⟩ | (simp only [List.length_cons, List.length_nil]; omega)) only [↓S0, ↓ITE_bool, S1, eq_self, if_true, if_false, true_implies, false_implies, implies_true, ↓c_cast_Check, ↓c_cast_in, ↓c_msg_Value, ↓c_slices_Contains_int_int, ↓c_graft_Twin, ↓c_slices_Clone_api_Peer_api_Peer, ↓c_slices_Clone_api_Call_api_Call, ↓c_slices_Clone_api_Mark_api_Mark, ↓c_slices_Clone_api_Mark2_api_Mark2, ↓c_slices_Clone_int_int, ↓c_cast_near, ↓c_cast_Heed, ↓c_slices_Delete_api_Call_api_Call, ↓c_queue_Fit]
      refine ⟨fun h => ?_, fun h => ?_⟩
      · have : a = [] := List.eq_nil_of_length_eq_zero (by omega)
        simp [this]
      · have : a ≠ [] := by intro h'; subst h'; simp at h
        simp [this]
    by_cases ha0 : a = []
    · rw [if_pos (.inl ha0)] at hr
      unfold tellN at hr
      rw [if_pos rfl] at hr
      dsimp only at hr
      subst ha0
      simp (disch := first | omega | assumption | exact ⟨by first | assumption | omega, by first | assumption | omega⟩ | (simp only [List.length_cons, List.length_nil]; omega)) only [↓S0, ↓ITE_bool, S1, eq_self, if_true, if_false, true_implies, false_implies, implies_true, ↓c_cast_Check, ↓c_cast_in, ↓c_msg_Value, ↓c_slices_Contains_int_int, ↓c_graft_Twin, ↓c_slices_Clone_api_Peer_api_Peer, ↓c_slices_Clone_api_Call_api_Call, ↓c_slices_Clone_api_Mark_api_Mark, ↓c_slices_Clone_api_Mark2_api_Mark2, ↓c_slices_Clone_int_int, ↓c_cast_near, ↓c_cast_Heed, ↓c_slices_Delete_api_Call_api_Call, ↓c_queue_Fit]
      refine SUB.v3 (bb (calls.any (isCall k cnt))) (bb (!calls.any (isCall k cnt))) (L (calls.eraseP (isCall k cnt))) ?_ ?_
      · simp (disch := first | omega | assumption | exact ⟨by first | assumption | omega, by first | assumption | omega⟩ | (simp only [List.length_cons, List.length_nil]; omega)) only [↓S0, ↓ITE_bool, S1, eq_self, if_true, if_false, true_implies, false_implies, implies_true, ↓c_cast_Check, ↓c_cast_in, ↓c_msg_Value, ↓c_slices_Contains_int_int, ↓c_graft_Twin, ↓c_slices_Clone_api_Peer_api_Peer, ↓c_slices_Clone_api_Call_api_Call, ↓c_slices_Clone_api_Mark_api_Mark, ↓c_slices_Clone_api_Mark2_api_Mark2, ↓c_slices_Clone_int_int, ↓c_cast_near, ↓c_cast_Heed, ↓c_slices_Delete_api_Call_api_Call, ↓c_queue_Fit]
        refine LOOP.rule (α := Nat) (fun i => [I i]) (fun i => i ≤ calls.length ∧ (calls.take i).any (isCall k cnt) = false) (fun i => calls.length - i) 0 rfl ⟨by omega, by simp⟩ (fun _ => rfl) ?_
        rintro i ⟨hi3, hs3⟩
        simp only [app]
        simp (disch := first | omega | assumption | exact ⟨by first | assumption | omega, by first | assumption | omega⟩ | (simp only [List.length_cons, List.length_nil]; omega)) only [↓S0, ↓ITE_bool, S1, eq_self, if_true, if_false, true_implies, false_implies, implies_true, ↓c_cast_Check, ↓c_cast_in, ↓c_msg_Value, ↓c_slices_Contains_int_int, ↓c_graft_Twin, ↓c_slices_Clone_api_Peer_api_Peer, ↓c_slices_Clone_api_Call_api_Call, ↓c_slices_Clone_api_Mark_api_Mark, ↓c_slices_Clone_api_Mark2_api_Mark2, ↓c_slices_Clone_int_int, ↓c_cast_near, ↓c_cast_Heed, ↓c_slices_Delete_api_Call_api_Call, ↓c_queue_Fit]
        refine ⟨fun h => ?_, fun h => ⟨fun _ => ?_, fun h9 => absurd (show (-1 : Int) < 0 by omega) h9⟩⟩
        · obtain ⟨x, hx⟩ := get_ex h
          simp (disch := first | omega | assumption | exact ⟨by first | assumption | omega, by first | assumption | omega⟩ | (simp only [List.length_cons, List.length_nil]; omega)) only [↓S0, ↓ITE_bool, S1, eq_self, if_true, if_false, true_implies, false_implies, implies_true, ↓c_cast_Check, ↓c_cast_in, ↓c_msg_Value, ↓c_slices_Contains_int_int, ↓c_graft_Twin, ↓c_slices_Clone_api_Peer_api_Peer, ↓c_slices_Clone_api_Call_api_Call, ↓c_slices_Clone_api_Mark_api_Mark, ↓c_slices_Clone_api_Mark2_api_Mark2, ↓c_slices_Clone_int_int, ↓c_cast_near, ↓c_cast_Heed, ↓c_slices_Delete_api_Call_api_Call, ↓c_queue_Fit, cell_L hx]
          refine SUB.v1 (bb (isCall k cnt x)) ?_ ?_
          · unfold isCall; repeat' (first | apply And.intro | intro _ | simp (disch := first | omega | assumption | exact ⟨by first | assumption | omega, by first | assumption | omega⟩ | (simp only [List.length_cons, List.length_nil]; omega)) only [↓S0, ↓ITE_bool, S1, eq_self, if_true, if_false, true_implies, false_implies, implies_true, ↓c_cast_Check, ↓c_cast_in, ↓c_msg_Value, ↓c_slices_Contains_int_int, ↓c_graft_Twin, ↓c_slices_Clone_api_Peer_api_Peer, ↓c_slices_Clone_api_Call_api_Call, ↓c_slices_Clone_api_Mark_api_Mark, ↓c_slices_Clone_api_Mark2_api_Mark2, ↓c_slices_Clone_int_int, ↓c_cast_near, ↓c_cast_Heed, ↓c_slices_Delete_api_Call_api_Call, ↓c_queue_Fit])
            all_goals simp [*]
          cases hcx : isCall k cnt x
          · simp (disch := first | omega | assumption | exact ⟨by first | assumption | omega, by first | assumption | omega⟩ | (simp only [List.length_cons, List.length_nil]; omega)) only [↓S0, ↓ITE_bool, S1, eq_self, if_true, if_false, true_implies, false_implies, implies_true, ↓c_cast_Check, ↓c_cast_in, ↓c_msg_Value, ↓c_slices_Contains_int_int, ↓c_graft_Twin, ↓c_slices_Clone_api_Peer_api_Peer, ↓c_slices_Clone_api_Call_api_Call, ↓c_slices_Clone_api_Mark_api_Mark, ↓c_slices_Clone_api_Mark2_api_Mark2, ↓c_slices_Clone_int_int, ↓c_cast_near, ↓c_cast_Heed, ↓c_slices_Delete_api_Call_api_Call, ↓c_queue_Fit]
            exact ⟨i + 1, rfl, ⟨by omega, any_take hs3 hx hcx⟩, by omega⟩
          · have hpre : (0 : Int) ≤ (i : Int) ∧ (i : Int) ≤ (i : Int) + 1 ∧ (i : Int) + 1 ≤ calls.length ∧ calls.length < 4611686018427387904 := ⟨by omega, by omega, by omega, by omega⟩
            obtain ⟨e5, e6⟩ := erase_cut hs3 hx hcx
            simp (disch := first | omega | assumption | exact ⟨by first | assumption | omega, by first | assumption | omega⟩ | (simp only [List.length_cons, List.length_nil]; omega)) only [↓S0, ↓ITE_bool, S1, eq_self, if_true, if_false, true_implies, false_implies, implies_true, ↓c_cast_Check, ↓c_cast_in, ↓c_msg_Value, ↓c_slices_Contains_int_int, ↓c_graft_Twin, ↓c_slices_Clone_api_Peer_api_Peer, ↓c_slices_Clone_api_Call_api_Call, ↓c_slices_Clone_api_Mark_api_Mark, ↓c_slices_Clone_api_Mark2_api_Mark2, ↓c_slices_Clone_int_int, ↓c_cast_near, ↓c_cast_Heed, ↓c_slices_Delete_api_Call_api_Call, ↓c_queue_Fit]
            refine ⟨fun h => by omega, fun _ => ?_⟩
            rw [e5, e6]; rfl
        · have hi4 : i = calls.length := by omega
          subst hi4
          rw [List.take_length] at hs3
          rw [hs3, erase_not hs3]; rfl
      simp (disch := first | omega | assumption | exact ⟨by first | assumption | omega, by first | assumption | omega⟩ | (simp only [List.length_cons, List.length_nil]; omega)) only [↓S0, ↓ITE_bool, S1, eq_self, if_true, if_false, true_implies, false_implies, implies_true, ↓c_cast_Check, ↓c_cast_in, ↓c_msg_Value, ↓c_slices_Contains_int_int, ↓c_graft_Twin, ↓c_slices_Clone_api_Peer_api_Peer, ↓c_slices_Clone_api_Call_api_Call, ↓c_slices_Clone_api_Mark_api_Mark, ↓c_slices_Clone_api_Mark2_api_Mark2, ↓c_slices_Clone_int_int, ↓c_cast_near, ↓c_cast_Heed, ↓c_slices_Delete_api_Call_api_Call, ↓c_queue_Fit]
      cases hany : calls.any (isCall k cnt)
      · rw [endCall_miss (n := ⟨n.up, n.inc, n.peers, n.topics, calls, n.pubs, cnt, marks, n.taken⟩) hany] at hr
        rw [erase_not hany]
        simp (disch := first | omega | assumption | exact ⟨by first | assumption | omega, by first | assumption | omega⟩ | (simp only [List.length_cons, List.length_nil]; omega)) only [↓S0, ↓ITE_bool, S1, eq_self, if_true, if_false, true_implies, false_implies, implies_true, ↓c_cast_Check, ↓c_cast_in, ↓c_msg_Value, ↓c_slices_Contains_int_int, ↓c_graft_Twin, ↓c_slices_Clone_api_Peer_api_Peer, ↓c_slices_Clone_api_Call_api_Call, ↓c_slices_Clone_api_Mark_api_Mark, ↓c_slices_Clone_api_Mark2_api_Mark2, ↓c_slices_Clone_int_int, ↓c_cast_near, ↓c_cast_Heed, ↓c_slices_Delete_api_Call_api_Call, ↓c_queue_Fit]
        subst hr
        exact hQ
      · rw [endCall_true (n := ⟨n.up, n.inc, n.peers, n.topics, calls, n.pubs, cnt, marks, n.taken⟩) hany rfl hy] at hr
        simp (disch := first | omega | assumption | exact ⟨by first | assumption | omega, by first | assumption | omega⟩ | (simp only [List.length_cons, List.length_nil]; omega)) only [↓S0, ↓ITE_bool, S1, eq_self, if_true, if_false, true_implies, false_implies, implies_true, ↓c_cast_Check, ↓c_cast_in, ↓c_msg_Value, ↓c_slices_Contains_int_int, ↓c_graft_Twin, ↓c_slices_Clone_api_Peer_api_Peer, ↓c_slices_Clone_api_Call_api_Call, ↓c_slices_Clone_api_Mark_api_Mark, ↓c_slices_Clone_api_Mark2_api_Mark2, ↓c_slices_Clone_int_int, ↓c_cast_near, ↓c_cast_Heed, ↓c_slices_Delete_api_Call_api_Call, ↓c_queue_Fit, cell_L hy, ↓OP_set hy (j := 15) (v := L (fitE y.queue c.queue ⟨4, 0, 0, 0, 0, cnt⟩)) (y := { y with queue := fitE y.queue c.queue ⟨4, 0, 0, 0, 0, cnt⟩ }) rfl]
        rw [show evCall cnt (-1) = ⟨4, 0, 0, 0, 0, cnt⟩ from rfl] at hr
        subst hr
        refine ⟨fun h => by omega, fun _ => ?_⟩
        exact hQ
    · rw [if_neg (by rintro (h | h); exact ha0 h; simp at h)] at hr
      have hpos : 0 < a.length := List.length_pos_iff.2 ha0
      obtain ⟨j, hj⟩ : ∃ j, a.length = j + 1 := ⟨a.length - 1, by omega⟩
      have e1 : ((a.length : Int) - 1) = (j : Nat) := by omega
      obtain ⟨w, hw2⟩ := get_ex (xs := a) (i := j) (by omega)
      have e2 : a.take j = a.dropLast := by rw [List.dropLast_eq_take]; congr 1; omega
      have e3 : a.getLastD 0 = w := by
        rw [List.getLastD_eq_getLast?, List.getLast?_eq_getElem?, hj, Nat.add_sub_cancel, hw2]; rfl
      have e4 : (a.take j).length ≤ 1000000 := by simp; omega
      simp (disch := first | omega | assumption | exact ⟨by first | assumption | omega, by first | assumption | omega⟩ | (simp only [List.length_cons, List.length_nil]; omega)) only [↓S0, ↓ITE_bool, S1, eq_self, if_true, if_false, true_implies, false_implies, implies_true, ↓c_cast_Check, ↓c_cast_in, ↓c_msg_Value, ↓c_slices_Contains_int_int, ↓c_graft_Twin, ↓c_slices_Clone_api_Peer_api_Peer, ↓c_slices_Clone_api_Call_api_Call, ↓c_slices_Clone_api_Mark_api_Mark, ↓c_slices_Clone_api_Mark2_api_Mark2, ↓c_slices_Clone_int_int, ↓c_cast_near, ↓c_cast_Heed, ↓c_slices_Delete_api_Call_api_Call, ↓c_queue_Fit, ha0, e1, cell_L hw2, Int.toNat_natCast, ↓OP_rowMsg]
      rw [e3] at hr
      rw [e2]
      subst hr
      exact hQ
  · simp only [hsub, if_true] at hr
    unfold tellN at hr
    rw [if_pos rfl] at hr
    dsimp only at hr
    have e1 : ((n.taken ++ [(⟨s, n.inc, cnt, k, value⟩ : Mark2)]).length : Int) ≤ 101 := by simp; omega
    have e2 : (max (((n.taken ++ [(⟨s, n.inc, cnt, k, value⟩ : Mark2)]).length : Int) - 64) 0).toNat = (n.taken ++ [(⟨s, n.inc, cnt, k, value⟩ : Mark2)]).length - 64 := by omega
    have e3 : (lastN (n.taken ++ [(⟨s, n.inc, cnt, k, value⟩ : Mark2)]) 64).length ≤ 1000000 := by unfold lastN; simp; omega
    simp (disch := first | omega | assumption | exact ⟨by first | assumption | omega, by first | assumption | omega⟩ | (simp only [List.length_cons, List.length_nil]; omega)) only [↓S0, ↓ITE_bool, S1, eq_self, if_true, if_false, true_implies, false_implies, implies_true, ↓c_cast_Check, ↓c_cast_in, ↓c_msg_Value, ↓c_slices_Contains_int_int, ↓c_graft_Twin, ↓c_slices_Clone_api_Peer_api_Peer, ↓c_slices_Clone_api_Call_api_Call, ↓c_slices_Clone_api_Mark_api_Mark, ↓c_slices_Clone_api_Mark2_api_Mark2, ↓c_slices_Clone_int_int, ↓c_cast_near, ↓c_cast_Heed, ↓c_slices_Delete_api_Call_api_Call, ↓c_queue_Fit, cell_L hy, hsub]
    rw [e2]
    show CALL _ _ [L (lastN _ 64)] _ _
    simp (disch := first | omega | assumption | exact ⟨by first | assumption | omega, by first | assumption | omega⟩ | (simp only [List.length_cons, List.length_nil]; omega)) only [↓S0, ↓ITE_bool, S1, eq_self, if_true, if_false, true_implies, false_implies, implies_true, ↓c_cast_Check, ↓c_cast_in, ↓c_msg_Value, ↓c_slices_Contains_int_int, ↓c_graft_Twin, ↓c_slices_Clone_api_Peer_api_Peer, ↓c_slices_Clone_api_Call_api_Call, ↓c_slices_Clone_api_Mark_api_Mark, ↓c_slices_Clone_api_Mark2_api_Mark2, ↓c_slices_Clone_int_int, ↓c_cast_near, ↓c_cast_Heed, ↓c_slices_Delete_api_Call_api_Call, ↓c_queue_Fit]
    refine SUB.v3 (bb (calls.any (isCall k cnt))) (bb (!calls.any (isCall k cnt))) (L (calls.eraseP (isCall k cnt))) ?_ ?_
    · simp (disch := first | omega | assumption | exact ⟨by first | assumption | omega, by first | assumption | omega⟩ | (simp only [List.length_cons, List.length_nil]; omega)) only [↓S0, ↓ITE_bool, S1, eq_self, if_true, if_false, true_implies, false_implies, implies_true, ↓c_cast_Check, ↓c_cast_in, ↓c_msg_Value, ↓c_slices_Contains_int_int, ↓c_graft_Twin, ↓c_slices_Clone_api_Peer_api_Peer, ↓c_slices_Clone_api_Call_api_Call, ↓c_slices_Clone_api_Mark_api_Mark, ↓c_slices_Clone_api_Mark2_api_Mark2, ↓c_slices_Clone_int_int, ↓c_cast_near, ↓c_cast_Heed, ↓c_slices_Delete_api_Call_api_Call, ↓c_queue_Fit]
      refine LOOP.rule (α := Nat) (fun i => [I i]) (fun i => i ≤ calls.length ∧ (calls.take i).any (isCall k cnt) = false) (fun i => calls.length - i) 0 rfl ⟨by omega, by simp⟩ (fun _ => rfl) ?_
      rintro i ⟨hi3, hs3⟩
      simp only [app]
      simp (disch := first | omega | assumption | exact ⟨by first | assumption | omega, by first | assumption | omega⟩ | (simp only [List.length_cons, List.length_nil]; omega)) only [↓S0, ↓ITE_bool, S1, eq_self, if_true, if_false, true_implies, false_implies, implies_true, ↓c_cast_Check, ↓c_cast_in, ↓c_msg_Value, ↓c_slices_Contains_int_int, ↓c_graft_Twin, ↓c_slices_Clone_api_Peer_api_Peer, ↓c_slices_Clone_api_Call_api_Call, ↓c_slices_Clone_api_Mark_api_Mark, ↓c_slices_Clone_api_Mark2_api_Mark2, ↓c_slices_Clone_int_int, ↓c_cast_near, ↓c_cast_Heed, ↓c_slices_Delete_api_Call_api_Call, ↓c_queue_Fit]
      refine ⟨fun h => ?_, fun h => ⟨fun _ => ?_, fun h9 => absurd (show (-1 : Int) < 0 by omega) h9⟩⟩
      · obtain ⟨x, hx⟩ := get_ex h
        simp (disch := first | omega | assumption | exact ⟨by first | assumption | omega, by first | assumption | omega⟩ | (simp only [List.length_cons, List.length_nil]; omega)) only [↓S0, ↓ITE_bool, S1, eq_self, if_true, if_false, true_implies, false_implies, implies_true, ↓c_cast_Check, ↓c_cast_in, ↓c_msg_Value, ↓c_slices_Contains_int_int, ↓c_graft_Twin, ↓c_slices_Clone_api_Peer_api_Peer, ↓c_slices_Clone_api_Call_api_Call, ↓c_slices_Clone_api_Mark_api_Mark, ↓c_slices_Clone_api_Mark2_api_Mark2, ↓c_slices_Clone_int_int, ↓c_cast_near, ↓c_cast_Heed, ↓c_slices_Delete_api_Call_api_Call, ↓c_queue_Fit, cell_L hx]
        refine SUB.v1 (bb (isCall k cnt x)) ?_ ?_
        · unfold isCall; repeat' (first | apply And.intro | intro _ | simp (disch := first | omega | assumption | exact ⟨by first | assumption | omega, by first | assumption | omega⟩ | (simp only [List.length_cons, List.length_nil]; omega)) only [↓S0, ↓ITE_bool, S1, eq_self, if_true, if_false, true_implies, false_implies, implies_true, ↓c_cast_Check, ↓c_cast_in, ↓c_msg_Value, ↓c_slices_Contains_int_int, ↓c_graft_Twin, ↓c_slices_Clone_api_Peer_api_Peer, ↓c_slices_Clone_api_Call_api_Call, ↓c_slices_Clone_api_Mark_api_Mark, ↓c_slices_Clone_api_Mark2_api_Mark2, ↓c_slices_Clone_int_int, ↓c_cast_near, ↓c_cast_Heed, ↓c_slices_Delete_api_Call_api_Call, ↓c_queue_Fit])
          all_goals simp [*]
        cases hcx : isCall k cnt x
        · simp (disch := first | omega | assumption | exact ⟨by first | assumption | omega, by first | assumption | omega⟩ | (simp only [List.length_cons, List.length_nil]; omega)) only [↓S0, ↓ITE_bool, S1, eq_self, if_true, if_false, true_implies, false_implies, implies_true, ↓c_cast_Check, ↓c_cast_in, ↓c_msg_Value, ↓c_slices_Contains_int_int, ↓c_graft_Twin, ↓c_slices_Clone_api_Peer_api_Peer, ↓c_slices_Clone_api_Call_api_Call, ↓c_slices_Clone_api_Mark_api_Mark, ↓c_slices_Clone_api_Mark2_api_Mark2, ↓c_slices_Clone_int_int, ↓c_cast_near, ↓c_cast_Heed, ↓c_slices_Delete_api_Call_api_Call, ↓c_queue_Fit]
          exact ⟨i + 1, rfl, ⟨by omega, any_take hs3 hx hcx⟩, by omega⟩
        · have hpre : (0 : Int) ≤ (i : Int) ∧ (i : Int) ≤ (i : Int) + 1 ∧ (i : Int) + 1 ≤ calls.length ∧ calls.length < 4611686018427387904 := ⟨by omega, by omega, by omega, by omega⟩
          obtain ⟨e5, e6⟩ := erase_cut hs3 hx hcx
          simp (disch := first | omega | assumption | exact ⟨by first | assumption | omega, by first | assumption | omega⟩ | (simp only [List.length_cons, List.length_nil]; omega)) only [↓S0, ↓ITE_bool, S1, eq_self, if_true, if_false, true_implies, false_implies, implies_true, ↓c_cast_Check, ↓c_cast_in, ↓c_msg_Value, ↓c_slices_Contains_int_int, ↓c_graft_Twin, ↓c_slices_Clone_api_Peer_api_Peer, ↓c_slices_Clone_api_Call_api_Call, ↓c_slices_Clone_api_Mark_api_Mark, ↓c_slices_Clone_api_Mark2_api_Mark2, ↓c_slices_Clone_int_int, ↓c_cast_near, ↓c_cast_Heed, ↓c_slices_Delete_api_Call_api_Call, ↓c_queue_Fit]
          refine ⟨fun h => by omega, fun _ => ?_⟩
          rw [e5, e6]; rfl
      · have hi4 : i = calls.length := by omega
        subst hi4
        rw [List.take_length] at hs3
        rw [hs3, erase_not hs3]; rfl
    simp (disch := first | omega | assumption | exact ⟨by first | assumption | omega, by first | assumption | omega⟩ | (simp only [List.length_cons, List.length_nil]; omega)) only [↓S0, ↓ITE_bool, S1, eq_self, if_true, if_false, true_implies, false_implies, implies_true, ↓c_cast_Check, ↓c_cast_in, ↓c_msg_Value, ↓c_slices_Contains_int_int, ↓c_graft_Twin, ↓c_slices_Clone_api_Peer_api_Peer, ↓c_slices_Clone_api_Call_api_Call, ↓c_slices_Clone_api_Mark_api_Mark, ↓c_slices_Clone_api_Mark2_api_Mark2, ↓c_slices_Clone_int_int, ↓c_cast_near, ↓c_cast_Heed, ↓c_slices_Delete_api_Call_api_Call, ↓c_queue_Fit]
    cases hany : calls.any (isCall k cnt)
    · rw [endCall_miss (n := ⟨n.up, n.inc, n.peers, n.topics, calls, n.pubs, cnt, marks, lastN (n.taken ++ [(⟨s, n.inc, cnt, k, value⟩ : Mark2)]) 64⟩) hany] at hr
      rw [erase_not hany]
      simp (disch := first | omega | assumption | exact ⟨by first | assumption | omega, by first | assumption | omega⟩ | (simp only [List.length_cons, List.length_nil]; omega)) only [↓S0, ↓ITE_bool, S1, eq_self, if_true, if_false, true_implies, false_implies, implies_true, ↓c_cast_Check, ↓c_cast_in, ↓c_msg_Value, ↓c_slices_Contains_int_int, ↓c_graft_Twin, ↓c_slices_Clone_api_Peer_api_Peer, ↓c_slices_Clone_api_Call_api_Call, ↓c_slices_Clone_api_Mark_api_Mark, ↓c_slices_Clone_api_Mark2_api_Mark2, ↓c_slices_Clone_int_int, ↓c_cast_near, ↓c_cast_Heed, ↓c_slices_Delete_api_Call_api_Call, ↓c_queue_Fit]
      subst hr
      exact hQ
    · rw [endCall_true (n := ⟨n.up, n.inc, n.peers, n.topics, calls, n.pubs, cnt, marks, lastN (n.taken ++ [(⟨s, n.inc, cnt, k, value⟩ : Mark2)]) 64⟩) hany rfl hy] at hr
      simp (disch := first | omega | assumption | exact ⟨by first | assumption | omega, by first | assumption | omega⟩ | (simp only [List.length_cons, List.length_nil]; omega)) only [↓S0, ↓ITE_bool, S1, eq_self, if_true, if_false, true_implies, false_implies, implies_true, ↓c_cast_Check, ↓c_cast_in, ↓c_msg_Value, ↓c_slices_Contains_int_int, ↓c_graft_Twin, ↓c_slices_Clone_api_Peer_api_Peer, ↓c_slices_Clone_api_Call_api_Call, ↓c_slices_Clone_api_Mark_api_Mark, ↓c_slices_Clone_api_Mark2_api_Mark2, ↓c_slices_Clone_int_int, ↓c_cast_near, ↓c_cast_Heed, ↓c_slices_Delete_api_Call_api_Call, ↓c_queue_Fit, cell_L hy, ↓OP_set hy (j := 15) (v := L (fitE y.queue c.queue ⟨3, 0, 0, 0, s, cnt⟩)) (y := { y with queue := fitE y.queue c.queue ⟨3, 0, 0, 0, s, cnt⟩ }) rfl]
      rw [show evCall cnt s = ⟨3, 0, 0, 0, s, cnt⟩ from if_pos hs.1] at hr
      subst hr
      refine ⟨fun _ => ?_, fun h => by omega⟩
      exact hQ
end Go.Xt
end
section
set_option linter.unusedSimpArgs false
set_option linter.unusedVariables false
set_option maxRecDepth 100000
namespace Go.Xt
/-! ### queues stay right -/
theorem queueOk_iff {l : List Event} {limit : Int} : queueOk l limit = true ↔ rng limit 2 32 = true ∧ (l.length : Int) ≤ limit ∧ l.all evOk = true ∧ ((l.length : Int) < limit ∨ lastGap l = true) := by
  simp only [queueOk, Bool.and_eq_true, Bool.or_eq_true, decide_eq_true_eq, and_assoc]
theorem gap_ok {x : Event} (h : evOk x = true) (hs : ofStream x = true) : evOk (gapE x) = true ∧ (gapE x).kind = 2 ∧ (gapE x).seq ≤ (gapE x).last ∧ (gapE x).last ≤ 1073741824 ∧ 1 ≤ (gapE x).seq := by
  simp only [ofStream, Bool.or_eq_true, decide_eq_true_eq] at hs
  unfold evOk at h
  unfold gapE
  by_cases h1 : x.kind = 1
  · rw [if_pos h1] at h ⊢
    simp only [Bool.and_eq_true, decide_eq_true_eq, cnt, rng] at h
    obtain ⟨⟨⟨⟨h2, h3⟩, _⟩, _⟩, _⟩ := h
    simp [evOk, h2, cnt, rng, h3]
  · have h2 : x.kind = 2 := by omega
    rw [if_neg h1, if_pos h2] at h
    rw [if_neg h1, if_pos h2]
    refine ⟨by unfold evOk; rw [if_neg h1, if_pos h2]; exact h, h2, ?_⟩
    simp only [Bool.and_eq_true, decide_eq_true_eq, cnt, rng] at h
    omega
theorem lastGap_app {l : List Event} {x : Event} (h : x.kind = 2) : lastGap (l ++ [x]) = true := by simp [lastGap, h]
theorem put_ok {l : List Event} {limit : Int} {x : Event} (h : (putE l limit x).2 = 0) : queueOk (putE l limit x).1 limit = true := by
  unfold putE at h ⊢
  split at h
  · rename_i h0
    rw [if_pos h0]
    rw [Bool.and_eq_true] at h0
    obtain ⟨hr, hl, ha, hg⟩ := queueOk_iff.1 h0.1
    have hrb := rng_bd hr
    split at h
    · rename_i h1
      rw [if_pos h1]
      refine queueOk_iff.2 ⟨hr, by simp; omega, by simp only [List.all_append, ha, List.all_cons, List.all_nil, h0.2, Bool.and_self], .inl (by simp; omega)⟩
    · rename_i h1
      rw [if_neg h1]
      split at h
      · rename_i h2
        rw [if_pos h2]
        obtain ⟨g1, g2, g3, g4, g5⟩ := gap_ok h0.2 h2
        split at h
        · rename_i h3
          rw [if_pos h3]
          refine queueOk_iff.2 ⟨hr, by simp; omega, by simp only [List.all_append, ha, List.all_cons, List.all_nil, g1, Bool.and_self], .inr (lastGap_app g2)⟩
        · rename_i h3
          rw [if_neg h3]
          split at h
          · rename_i h4
            rw [if_pos h4]
            have hlen : (l.length : Int) = limit := by omega
            obtain ⟨j, hj⟩ : ∃ j, l.length = j + 1 := ⟨l.length - 1, by omega⟩
            have e1 : (limit - 1).toNat = j := by omega
            rw [e1] at h4 ⊢
            have hjl : j < l.length := by omega
            have hy : l.getD j event0 = l[j] := by simp [List.getD_eq_getElem?_getD, hjl]
            rw [hy] at h4 ⊢
            have hlg : lastGap l = true := by rcases hg with hg | hg; omega; exact hg
            have hk : l[j].kind = 2 := by
              have : l.getLast? = some l[j] := by rw [List.getLast?_eq_getElem?, hj, Nat.add_sub_cancel]; simp [hjl]
              simp only [lastGap, this, decide_eq_true_eq] at hlg; exact hlg
            rw [List.all_eq_true] at ha
            have hev := ha l[j] (List.getElem_mem hjl)
            unfold evOk at hev
            rw [if_neg (by omega), if_pos hk] at hev
            simp only [Bool.and_eq_true, decide_eq_true_eq, cnt, rng] at hev
            have hw : IntKind.i64.wrap (l[j].last + 1) = l[j].last + 1 := wr (by omega) (by omega)
            rw [hw] at h4
            have hnew : evOk { l[j] with last := (gapE x).last } = true := by
              unfold evOk
              rw [if_neg (by show ¬ l[j].kind = 1; omega), if_pos hk]
              simp only [Bool.and_eq_true, decide_eq_true_eq, cnt, rng]
              obtain ⟨⟨⟨⟨d1, d2⟩, d3⟩, d4⟩, d5⟩ := hev
              exact ⟨⟨⟨⟨d1, d2⟩, by omega, by omega⟩, d4⟩, d5⟩
            refine queueOk_iff.2 ⟨hr, by simpa using hl, ?_, .inr ?_⟩
            · rw [List.all_eq_true]
              intro y hy
              rcases List.mem_or_eq_of_mem_set hy with hy | hy
              · exact ha y hy
              · rw [hy]; exact hnew
            · have : (l.set j { l[j] with last := (gapE x).last }).getLast? = some { l[j] with last := (gapE x).last } := by
                rw [List.getLast?_eq_getElem?, List.length_set, hj, Nat.add_sub_cancel]; simp [hjl]
              unfold lastGap; rw [this]; exact decide_eq_true hk
          · omega
      · omega
  · omega
theorem fit_ok {l : List Event} {limit : Int} {x : Event} (h : queueOk l limit = true) : queueOk (fitE l limit x) limit = true := by
  unfold fitE
  split
  · rename_i h0; exact put_ok h0
  · exact h
theorem topic_queue {c : Config} {t self : Int} {x : Topic} {q : List Event} (h : topicOk c t self x = true) (hq : queueOk q c.queue = true) : topicOk c t self { x with queue := q } = true := by
  simp only [topicOk, flowOk, Bool.and_eq_true] at h ⊢
  exact ⟨h.1, h.2.1, hq⟩
theorem topic_q {c : Config} {t self : Int} {x : Topic} (h : topicOk c t self x = true) : queueOk x.queue c.queue = true := by
  simp only [topicOk, flowOk, Bool.and_eq_true] at h; exact h.2.2
theorem putQ_ok {c : Config} {self : Int} {l : List Topic} {t : Int} {x : Event} (h : topicsGo c self 0 l = true) (h0 : 0 ≤ t) (h1 : t < l.length) : topicsGo c self 0 (putQ c l t x) = true ∧ (putQ c l t x).length = l.length := by
  obtain ⟨k, rfl⟩ := Int.eq_ofNat_of_zero_le h0
  obtain ⟨y, hy⟩ := get_ex h1
  have hgd : l.getD k topic0 = y := by simp [List.getD_eq_getElem?_getD, hy]
  unfold putQ
  rw [Int.toNat_natCast, hgd]
  refine ⟨tops_set h ?_, by simp⟩
  have := tops_get h hy
  exact topic_queue this (fit_ok (topic_q this))
/-! ### calls -/
theorem calls_mono {c : Config} {a b : Int} : ∀ {l : List Call} {p q : Int}, callsGo c a p l = true → a ≤ b → q ≤ p → callsGo c b q l = true
  | [], _, _, _, _, _ => rfl
  | x :: r, p, q, h, hab, hqp => by
    simp only [callsGo, Bool.and_eq_true, decide_eq_true_eq] at h ⊢
    obtain ⟨⟨⟨⟨h1, h2⟩, h3⟩, h4⟩, h5⟩ := h
    exact ⟨⟨⟨⟨by omega, by omega⟩, h3⟩, h4⟩, calls_mono h5 hab (Int.le_refl _)⟩
theorem calls_len {c : Config} {a : Int} : ∀ {l : List Call} {p : Int}, p ≤ a → callsGo c a p l = true → (l.length : Int) ≤ a - p
  | [], p, h0, _ => by simp; omega
  | x :: r, p, h0, h => by
    simp only [callsGo, Bool.and_eq_true, decide_eq_true_eq] at h
    have := calls_len (by omega) h.2
    simp only [List.length_cons]; omega
theorem calls_erase {c : Config} {a : Int} {f : Call → Bool} : ∀ {l : List Call} {p : Int}, callsGo c a p l = true → callsGo c a p (l.eraseP f) = true
  | [], _, _ => rfl
  | x :: r, p, h => by
    have h' := h
    simp only [callsGo, Bool.and_eq_true, decide_eq_true_eq] at h
    rw [List.eraseP_cons]
    cases f x
    · simp only [cond_false]
      simp only [callsGo, Bool.and_eq_true, decide_eq_true_eq]
      exact ⟨h.1, calls_erase h.2⟩
    · exact calls_mono h.2 (Int.le_refl _) (by omega)
theorem calls_app {c : Config} {a b t : Int} : ∀ {l : List Call} {p : Int}, p ≤ a → callsGo c a p l = true → a < b → rng t 0 (c.topics - 1) = true → callsGo c b p (l ++ [⟨b, t, 0⟩]) = true
  | [], p, h0, _, hab, ht => by
    simp only [List.nil_append, callsGo, Bool.and_eq_true, decide_eq_true_eq]
    exact ⟨⟨⟨⟨by omega, by omega⟩, ht⟩, by unfold rng; simp⟩, trivial⟩
  | x :: r, p, h0, h, hab, ht => by
    simp only [callsGo, Bool.and_eq_true, decide_eq_true_eq] at h
    simp only [List.cons_append, callsGo, Bool.and_eq_true, decide_eq_true_eq]
    obtain ⟨⟨⟨⟨h1, h2⟩, h3⟩, h4⟩, h5⟩ := h
    exact ⟨⟨⟨⟨by omega, by omega⟩, h3⟩, h4⟩, calls_app (by omega) h5 hab ht⟩
theorem endCall_ok {c : Config} {self : Int} {n : Node} {t count who : Int} (H : NOk c self n) (ht : rng t 0 (c.topics - 1) = true) :
    NOk c self (endCall c n t count who) ∧ (endCall c n t count who).asks = n.asks ∧ (endCall c n t count who).inc = n.inc ∧ (endCall c n t count who).up = n.up := by
  unfold endCall
  split
  · have hb := rng_bd ht
    have htl := H.tl
    obtain ⟨h1, h2⟩ := putQ_ok (x := evCall count who) (t := t) H.tops hb.1 (by omega)
    refine ⟨⟨H.inc, H.pubs, H.asks, calls_erase H.calls, ?_, H.pl, by rw [← H.tl]; exact congrArg _ h2, H.ml, H.kl, h1, H.peers, H.marks, H.taken⟩, rfl, rfl, rfl⟩
    have := List.length_eraseP_le (p := isCall t count) (l := n.calls)
    have := H.cl
    show (n.calls.eraseP _).length ≤ 40
    omega
  · exact ⟨H, rfl, rfl, rfl⟩
/-! ### marks -/
theorem met_lt {m b : Int} (h0 : 0 ≤ m) (h1 : m ≤ 2199023255551) (h2 : 0 ≤ b) (h3 : b ≤ 40) (h : m / 2 ^ b.toNat % 2 = 0) : 0 ≤ m + 2 ^ b.toNat ∧ m + 2 ^ b.toNat ≤ 2199023255551 := by
  obtain ⟨m, rfl⟩ := Int.eq_ofNat_of_zero_le h0
  obtain ⟨d, rfl⟩ := Int.eq_ofNat_of_zero_le h2
  simp only [Int.toNat_natCast] at h ⊢
  have e0 : ((2 : Int) ^ d) = ((2 ^ d : Nat) : Int) := (Int.natCast_pow 2 d).symm
  rw [e0] at h ⊢
  have h4 : m / 2 ^ d % 2 = 0 := by
    have : ((m / 2 ^ d % 2 : Nat) : Int) = 0 := by rw [Int.natCast_emod, Int.natCast_ediv]; exact h
    omega
  have h5 : 2 ^ d < 2199023255552 := Nat.pow_lt_pow_right (a := 2) (n := 41) (by decide) (by omega)
  have h6 : m ||| 2 ^ d < 2 ^ 41 := Nat.or_lt_two_pow (by omega) (by omega)
  rw [or_pow h4] at h6
  generalize 2 ^ d = P at h6 ⊢
  omega
theorem meet_ok {l : List Mark} {o inc count : Int} (h : l.all markOk = true) (hi : cnt inc = true) (h0 : 0 ≤ count) (h1 : count ≤ 40) : (meetL l o inc count).all markOk = true ∧ (meetL l o inc count).length = l.length := by
  unfold meetL
  split
  · rename_i hm
    refine ⟨?_, by simp⟩
    simp only [meets, Bool.and_eq_true, Bool.not_eq_true'] at hm
    have hmk : markOk (l.getD o.toNat mark0) = true := by
      rw [List.getD_eq_getElem?_getD]
      cases hx : l[o.toNat]? with
      | none => rfl
      | some x => exact (List.all_eq_true.1 h) x (List.mem_of_getElem? hx)
    generalize l.getD o.toNat mark0 = y at hm hmk ⊢
    have hnw : markOk (newer y inc) = true := by
      unfold newer; split
      · simp only [cnt] at hi
        have := rng_bd hi
        simp [markOk, rng]; omega
      · exact hmk
    generalize newer y inc = z at hm hnw ⊢
    simp only [markOk, Bool.and_eq_true] at hnw
    have hb := rng_bd hnw.2
    have hz : z.met / 2 ^ count.toNat % 2 = 0 := by
      have := hm.2
      simp only [metYet, decide_eq_false_iff_not] at this
      omega
    have := met_lt hb.1 hb.2 h0 h1 hz
    rw [List.all_eq_true]
    intro x hx
    rcases List.mem_or_eq_of_mem_set hx with hx | hx
    · exact (List.all_eq_true.1 h) x hx
    · rw [hx]
      simp only [markOk, Bool.and_eq_true]
      exact ⟨hnw.1, by unfold rng; simp; omega⟩
  · exact ⟨h, rfl⟩
end Go.Xt
end
section
set_option linter.unusedSimpArgs false
set_option linter.unusedVariables false
set_option maxRecDepth 100000
namespace Go.Xt
/-! ### a visit keeps a node right -/
structure VOk (c : Config) (x : Msg) : Prop where
  t : rng x.topic 0 (c.topics - 1) = true
  o : rng x.node 0 (c.nodes - 1) = true
  i : cnt x.inc = true
  k : rng x.count 1 40 = true
  v : val x.value = true
theorem tell_ok {c : Config} {self : Int} {n : Node} {x : Msg} {who : Int} (H : NOk c self n) (ht : rng x.topic 0 (c.topics - 1) = true) :
    NOk c self (tellN c self n x who).1 ∧ (tellN c self n x who).1.asks = n.asks ∧ (tellN c self n x who).1.inc = n.inc ∧ (tellN c self n x who).1.up = n.up := by
  unfold tellN
  split
  · exact endCall_ok H ht
  · exact ⟨H, rfl, rfl, rfl⟩
theorem lastN_len {α : Type} {l : List α} {k : Nat} : (lastN l k).length ≤ k := by unfold lastN; simp; omega
theorem lastN_mem {α : Type} {l : List α} {k : Nat} {x : α} (h : x ∈ lastN l k) : x ∈ l := List.mem_of_mem_drop h
theorem visit_ok {c : Config} {self : Int} {n : Node} {x : Msg} (H : NOk c self n) (V : VOk c x) :
    NOk c self (visitN c self n x).1 ∧ (visitN c self n x).1.asks = n.asks ∧ (visitN c self n x).1.inc = n.inc ∧ (visitN c self n x).1.up = n.up := by
  unfold visitN
  split
  · refine tell_ok (n := { n with taken := _ }) ⟨H.inc, H.pubs, H.asks, H.calls, H.cl, H.pl, H.tl, H.ml, lastN_len, H.tops, H.peers, H.marks, ?_⟩ V.t
    rw [List.all_eq_true]
    intro y hy
    have := lastN_mem hy
    rw [List.mem_append, List.mem_singleton] at this
    rcases this with h | h
    · exact (List.all_eq_true.1 H.taken) y h
    · subst h
      have hk := rng_bd V.k
      simp only [takenOk, Bool.and_eq_true]
      exact ⟨⟨⟨⟨V.o, V.t⟩, V.i⟩, by unfold cnt rng; simp; omega⟩, V.v⟩
  · unfold goN
    split
    · exact tell_ok H V.t
    · exact ⟨H, rfl, rfl, rfl⟩
theorem begin_law {c : Config} {self : Int} {n : Node} {t value : Int} (hw : nodeWhy c self n = 0) (ht : rng t 0 (c.topics - 1) = true) (hv : val value = true) (ha : n.asks < 40) {q : Node × List Msg × Int × Int} (hE : beginN c self n t value = q) :
    q.2.2.2 = 0 ∧ q.2.2.1 = n.asks + 1 ∧ q.1.asks = n.asks + 1 ∧ nodeWhy c self q.1 = 0 ∧ q.1.inc = n.inc ∧
    ((q.2.1 = [] ∧ q.1.calls.length = n.calls.length) ∨ ∃ m, q.2.1 = [m] ∧ m.kind = 11 ∧ m.node = self ∧ m.inc = n.inc ∧ m.count = n.asks + 1 ∧ m.hops = 1 ∧ q.1.calls.length = n.calls.length + 1) := by
  obtain ⟨hc, hs, hu, H⟩ := why_zero hw
  have hab := rng_bd H.asks
  unfold beginN at hE
  rw [if_pos hw, if_pos (by rw [ht, hv]; rfl), if_pos ha] at hE
  dsimp only at hE
  have hlen := calls_len hab.1 H.calls
  have hcalls := calls_app (t := t) (b := n.asks + 1) hab.1 H.calls (by omega) ht
  have hmk := meet_ok (o := self) (count := n.asks + 1) H.marks H.inc (by omega) (by omega)
  have H1 : NOk c self { n with asks := n.asks + 1, calls := n.calls ++ [⟨n.asks + 1, t, 0⟩], marks := meetL n.marks self n.inc (n.asks + 1) } :=
    ⟨H.inc, H.pubs, by unfold rng; simp; omega, hcalls, by simp; omega, H.pl, H.tl, by rw [← H.ml]; exact congrArg _ hmk.2, H.kl, H.tops, H.peers, hmk.1, H.taken⟩
  have V : VOk c { msg0 with topic := t, node := self, inc := n.inc, count := n.asks + 1, value := value } :=
    ⟨ht, hs, H.inc, by unfold rng; simp; omega, hv⟩
  obtain ⟨v1, v2, v3, v4⟩ := visit_ok H1 V
  subst hE
  refine ⟨rfl, rfl, v2, why_of hc hs (by rw [v4]; exact hu) v1, v3, ?_⟩
  have hany : (n.calls ++ [(⟨n.asks + 1, t, 0⟩ : Call)]).any (isCall t (n.asks + 1)) = true := by simp [isCall]
  have hend : ∀ (m : Node) (who : Int), m.calls = n.calls ++ [(⟨n.asks + 1, t, 0⟩ : Call)] → (endCall c m t (n.asks + 1) who).calls.length = n.calls.length := by
    intro m who hm
    unfold endCall
    rw [if_pos (by rw [hm]; exact hany)]
    show (m.calls.eraseP _).length = _
    rw [hm]
    obtain ⟨a, h1, h2⟩ := List.any_eq_true.1 hany
    rw [List.length_eraseP_of_mem h1 h2]; simp
  have htell : ∀ (m : Node) (who : Int), m.calls = n.calls ++ [(⟨n.asks + 1, t, 0⟩ : Call)] → (tellN c self m { msg0 with topic := t, node := self, inc := n.inc, count := n.asks + 1, value := value } who).2 = [] ∧ (tellN c self m { msg0 with topic := t, node := self, inc := n.inc, count := n.asks + 1, value := value } who).1.calls.length = n.calls.length := by
    intro m who hm
    unfold tellN
    rw [if_pos rfl]
    exact ⟨rfl, hend m who hm⟩
  unfold visitN
  split
  · exact .inl (htell _ _ rfl)
  · unfold goN
    split
    · exact .inl (htell _ _ rfl)
    · exact .inr ⟨_, rfl, rfl, rfl, rfl, rfl, rfl, by simp⟩
/-! ### it wakes -/
def wN0 : Node := ⟨true, 1, List.replicate 8 ⟨0, 0⟩, List.replicate 4 topic0, [], 0, 0, List.replicate 8 ⟨0, 0, 0⟩, []⟩
def wN1 : Node := { wN0 with topics := wN0.topics.set 2 { topic0 with made := true, sub := true } }
def wB0 := beginN fullC 3 wN0 2 7
def wB1 := beginN fullC 3 wN1 2 7
theorem wk1 : wB1.2.2.2 = 0 ∧ wB1.2.2.1 = 1 ∧ wB1.2.1 = [] ∧ wB1.1.topics.length = 4 ∧ (topAt wB1.1 2).queue = [⟨3, 0, 0, 0, 3, 1⟩] ∧ wB1.1.taken.length = 1 := by decide +kernel
theorem wk0 : wB0.2.2.2 = 0 ∧ wB0.1.topics.length = 4 ∧ (topAt wB0.1 2).queue = [⟨4, 0, 0, 0, 0, 1⟩] := by decide +kernel
theorem wk2 : nodeWhy fullC 3 wN1 = 0 ∧ nodeWhy fullC 3 node0 = 9 := by decide +kernel
end Go.Xt
end
section
set_option linter.unusedSimpArgs false
set_option linter.unusedVariables false
set_option maxRecDepth 100000
namespace Go.Xt
theorem cell2 {xs : List Topic} (h : xs.length = 4) (j : Nat) : (L xs).cellAt (I 2) j = look (Row.row (xs.getD 2 topic0)) j := by
  have h2 : xs[2]? = some (xs.getD 2 topic0) := by
    have : 2 < xs.length := by omega
    simp [List.getD_eq_getElem?_getD, this]
  exact cell_L (i := 2) h2
theorem cellq {x : Event} (j : Nat) : (L [x]).cellAt (I 0) j = look (Row.row x) j := cell_L (i := 0) rfl
theorem w_law21_wakes  : S_law21_wakes ρ  (· = [bb true]) := by
  unfold S_law21_wakes
  have e8 : (8 : Int).toNat = 8 := rfl
  have e4 : (4 : Int).toNat = 4 := rfl
  simp (disch := first | omega | assumption | exact ⟨by first | assumption | omega, by first | assumption | omega⟩ | (simp only [List.length_cons, List.length_nil]; omega)) only [↓S0, ↓ITE_bool, S1, eq_self, if_true, if_false, true_implies, false_implies, implies_true, ↓c_cast_Begin, ↓c_cast_Check, ↓c_law19_Full]
  refine SUB.v3 (L wN0.marks) (L wN0.topics) (L wN0.peers) ?_ ?_
  · simp (disch := first | omega | assumption | exact ⟨by first | assumption | omega, by first | assumption | omega⟩ | (simp only [List.length_cons, List.length_nil]; omega)) only [↓S0, ↓ITE_bool, S1, eq_self, if_true, if_false, true_implies, false_implies, implies_true, ↓c_cast_Begin, ↓c_cast_Check, ↓c_law19_Full, e8, e4]
    exact ⟨⟨rfl, rfl⟩, ⟨rfl, rfl⟩, rfl, rfl⟩
  have h2 : wN0.topics[2]? = some topic0 := rfl
  have h2' : (wN0.topics.set 2 { topic0 with made := true })[2]? = some { topic0 with made := true } := rfl
  refine SUB.v1 (L wN1.topics) ?_ ?_
  · rw [show (I 2 : PV) = PV.int .i64 ((2 : Nat) : Int) from rfl, OP_idx (by decide) (by decide), OP_set h2 (y := { topic0 with made := true }) rfl, OP_idx (by decide) (by decide), OP_set h2' (y := { topic0 with made := true, sub := true }) rfl]
    rfl
  have c1 : ∀ k, CALL ρ 10 [I 8, I 4, I 2, I 8, I 8, I 8, I 16, I 3, bb true, I 1, L wN0.peers, L wN1.topics, L (α := Call) [], I 0, I 0, L wN0.marks, L (α := Mark2) [], I 2, I 7] 12 k = k (bb wB1.1.up) (I wB1.1.inc) (L wB1.1.peers) (L wB1.1.topics) (L wB1.1.calls) (I wB1.1.pubs) (I wB1.1.asks) (L wB1.1.marks) (L wB1.1.taken) (L wB1.2.1) (I wB1.2.2.1) (I wB1.2.2.2) :=
    fun k => c_cast_Begin (k_ := k)
  have c0 : ∀ k, CALL ρ 10 [I 8, I 4, I 2, I 8, I 8, I 8, I 16, I 3, bb true, I 1, L wN0.peers, L wN0.topics, L (α := Call) [], I 0, I 0, L wN0.marks, L (α := Mark2) [], I 2, I 7] 12 k = k (bb wB0.1.up) (I wB0.1.inc) (L wB0.1.peers) (L wB0.1.topics) (L wB0.1.calls) (I wB0.1.pubs) (I wB0.1.asks) (L wB0.1.marks) (L wB0.1.taken) (L wB0.2.1) (I wB0.2.2.1) (I wB0.2.2.2) :=
    fun k => c_cast_Begin (k_ := k)
  rw [c1]
  refine Or.inl ⟨[L wN0.peers, L wN0.topics, L wN0.marks, bb wB0.1.up, I wB0.1.inc, L wB0.1.peers, L wB0.1.topics, L wB0.1.calls, I wB0.1.pubs, I wB0.1.asks, L wB0.1.marks, L wB0.1.taken, L wB0.2.1, I wB0.2.2.1, I wB0.2.2.2, L wB0.2.1, I wB0.2.2.1, I wB0.2.2.2, bb wB0.1.up, I wB0.1.inc, L wB0.1.peers, L wB0.1.topics, L wB0.1.calls, I wB0.1.pubs, I wB0.1.asks, L wB0.1.marks, L wB0.1.taken, L wN0.peers, L wN0.topics, L wN0.marks], rfl, ?_, ?_⟩
  · have f1 : (List.replicate 8 (⟨0, 0⟩ : Peer)) = wN0.peers := rfl
    have f2 : (List.replicate 4 topic0) = wN0.topics := rfl
    have f3 : (List.replicate 8 (⟨0, 0, 0⟩ : Mark)) = wN0.marks := rfl
    simp (disch := omega) only [OP_replPeer, OP_replTopic, OP_replMark, e8, e4, f1, f2, f3, c0, and_self]
    rfl
  simp only [app]
  obtain ⟨g1, g2, g3, g4, g5, g6⟩ := wk1
  obtain ⟨j1, j2, j3⟩ := wk0
  obtain ⟨l1, l2⟩ := wk2
  have g4' : (wB1.1.topics.length : Int) = 4 := by rw [g4]; rfl
  have j2' : (wB0.1.topics.length : Int) = 4 := by rw [j2]; rfl
  have g7 : wB1.1.topics.getD 2 topic0 = topAt wB1.1 2 := rfl
  have j7 : wB0.1.topics.getD 2 topic0 = topAt wB0.1 2 := rfl
  have g6' : (wB1.1.taken.length : Int) = 1 := by rw [g6]; rfl
  have m1 : nodeWhy (⟨8, 4, 2, 8, 8, 8, 16⟩ : Config) 3 (⟨true, 1, wN0.peers, wN1.topics, [], 0, 0, wN0.marks, []⟩ : Node) = 0 := l1
  have m2 : nodeWhy (⟨8, 4, 2, 8, 8, 8, 16⟩ : Config) 3 (⟨false, 0, [], [], [], 0, 0, [], []⟩ : Node) = 9 := l2
  rw [g1, g2, g3, j1]
  simp (disch := first | omega | assumption | exact ⟨by first | assumption | omega, by first | assumption | omega⟩ | (simp only [List.length_cons, List.length_nil]; omega)) only [↓S0, ↓ITE_bool, S1, eq_self, if_true, if_false, true_implies, false_implies, implies_true, ↓c_cast_Begin, ↓c_cast_Check, ↓c_law19_Full, cell2 g4, cell2 j2, g7, j7, g5, j3, g4', j2', g6', cellq]
  simp [m1, m2]
end Go.Xt
end
section
set_option linter.unusedSimpArgs false
set_option linter.unusedVariables false
set_option maxRecDepth 100000
namespace Go.Xt
theorem cellm {m : Msg} (j : Nat) : (L [m]).cellAt (I 0) j = look (Row.row m) j := cell_L (i := 0) rfl
theorem w_law21_CastCalls (c : Config) (self : Int) (n : Node) (t : Int) (value : Int) (more : Int) (hg : Goods [I c.nodes, I c.topics, I c.kids, I c.depth, I c.keep, I c.window, I c.queue, I self, bb n.up, I n.inc, L n.peers, L n.topics, L n.calls, I n.pubs, I n.asks, L n.marks, L n.taken, I t, I value, I more]) : S_law21_CastCalls ρ (I c.nodes) (I c.topics) (I c.kids) (I c.depth) (I c.keep) (I c.window) (I c.queue) (I self) (bb n.up) (I n.inc) (L n.peers) (L n.topics) (L n.calls) (I n.pubs) (I n.asks) (L n.marks) (L n.taken) (I t) (I value) (I more) (· = [bb true]) := by
  unfold S_law21_CastCalls
  simp only [Goods, good_L] at hg
  refine SUB.v1 (bb (heavy21 n || !decide (nodeWhy c self n = 0))) ?_ ?_
  · repeat' (first | apply And.intro | intro _ | simp (disch := first | omega | assumption | exact ⟨by first | assumption | omega, by first | assumption | omega⟩ | (simp only [List.length_cons, List.length_nil]; omega)) only [↓S0, ↓ITE_bool, S1, eq_self, if_true, if_false, true_implies, false_implies, implies_true, ↓c_law21_Heavy, ↓c_ref19_Check, ↓c_cast_Begin, ↓c_law21_wakes, ↓c_cast_Check])
    all_goals simp [*]
  by_cases hh0 : (heavy21 n || !decide (nodeWhy c self n = 0)) = true
  · simp (disch := first | omega | assumption | exact ⟨by first | assumption | omega, by first | assumption | omega⟩ | (simp only [List.length_cons, List.length_nil]; omega)) only [↓S0, ↓ITE_bool, S1, eq_self, if_true, if_false, true_implies, false_implies, implies_true, ↓c_law21_Heavy, ↓c_ref19_Check, ↓c_cast_Begin, ↓c_law21_wakes, ↓c_cast_Check, hh0]
  have hh : (heavy21 n || !decide (nodeWhy c self n = 0)) = false := by simpa using hh0
  simp only [Bool.or_eq_false_iff, Bool.not_eq_false', decide_eq_true_eq] at hh
  obtain ⟨hheavy, hw⟩ := hh
  obtain ⟨hc, hs, hu, H⟩ := why_zero hw
  have hb := cfg_bd hc
  have hu1 := u64_bd t; have hu2 := u64_bd value; have hu3 := u64_bd more
  have ec : u64 c.topics = c.topics := by unfold u64; omega
  have h1 : 0 ≤ u64 t % c.topics ∧ u64 t % c.topics < c.topics := ⟨Int.emod_nonneg _ (by omega), Int.emod_lt_of_pos _ (by omega)⟩
  have h2 : 0 ≤ u64 value % 1000 ∧ u64 value % 1000 < 1000 := ⟨Int.emod_nonneg _ (by omega), Int.emod_lt_of_pos _ (by omega)⟩
  have h3 : 0 ≤ u64 more % 4 ∧ u64 more % 4 < 4 := ⟨Int.emod_nonneg _ (by omega), Int.emod_lt_of_pos _ (by omega)⟩
  simp (disch := first | omega | assumption | exact ⟨by first | assumption | omega, by first | assumption | omega⟩ | (simp only [List.length_cons, List.length_nil]; omega)) only [↓S0, ↓ITE_bool, S1, eq_self, if_true, if_false, true_implies, false_implies, implies_true, ↓c_law21_Heavy, ↓c_ref19_Check, ↓c_cast_Begin, ↓c_law21_wakes, ↓c_cast_Check, ec]
  generalize hT : u64 t % c.topics = T at h1 ⊢
  generalize hV : u64 value % 1000 = V at h2 ⊢
  generalize hM : u64 more % 4 = M at h3 ⊢
  have hTr : rng T 0 (c.topics - 1) = true := by unfold rng; simp; omega
  have hVr : val V = true := by unfold val rng; simp; omega
  intro _
  refine LOOP.rule (α := Node × Int) (fun p => [I p.1.asks, I p.2, bb p.1.up, I p.1.inc, L p.1.peers, L p.1.topics, L p.1.calls, I p.1.pubs, I p.1.asks, L p.1.marks, L p.1.taken]) (fun p => nodeWhy c self p.1 = 0 ∧ -1 ≤ p.2 ∧ p.2 ≤ 3) (fun p => (p.2 + 1).toNat) (n, M) rfl ⟨hw, by omega, by omega⟩ (fun _ => rfl) ?_
  rintro ⟨m, i⟩ ⟨hmw, hi0, hi1⟩
  simp only at hmw hi0 hi1
  simp only [app]
  obtain ⟨_, _, hmu, Hm⟩ := why_zero hmw
  have hmab := rng_bd Hm.asks
  have hmcl := Hm.cl
  generalize hE : beginN c self m T V = q
  by_cases ha : m.asks < 40
  · obtain ⟨q1, q2, q3, q4, q5, q6⟩ := begin_law hmw hTr hVr ha hE
    have hcq : q.1.calls.length ≤ 40 := (why_zero q4).2.2.2.cl
    have q4' : nodeWhy c self { up := q.1.up, inc := q.1.inc, peers := q.1.peers, topics := q.1.topics, calls := q.1.calls, pubs := q.1.pubs, asks := m.asks + 1, marks := q.1.marks, taken := q.1.taken } = 0 := by rw [← q3]; exact q4
    have fin : 0 ≤ i → ∃ a' : Node × Int, [I (m.asks + 1), I (i - 1), bb q.fst.up, I q.fst.inc, L q.fst.peers, L q.fst.topics, L q.fst.calls, I q.fst.pubs, I (m.asks + 1), L q.fst.marks, L q.fst.taken] =
        [I a'.fst.asks, I a'.snd, bb a'.fst.up, I a'.fst.inc, L a'.fst.peers, L a'.fst.topics, L a'.fst.calls, I a'.fst.pubs, I a'.fst.asks, L a'.fst.marks, L a'.fst.taken] ∧ (nodeWhy c self a'.fst = 0 ∧ -1 ≤ a'.snd ∧ a'.snd ≤ 3) ∧ (a'.snd + 1).toNat < (i + 1).toNat :=
      fun hi => ⟨(q.1, i - 1), by simp only [q3], ⟨q4, by dsimp only; omega, by dsimp only; omega⟩, by dsimp only; omega⟩
    rcases q6 with ⟨q6, q7⟩ | ⟨x, q6, q7, q8, q9, q10, q11, q12⟩
    · simp (disch := first | omega | assumption | exact ⟨by first | assumption | omega, by first | assumption | omega⟩ | (simp only [List.length_cons, List.length_nil]; omega)) only [↓S0, ↓ITE_bool, S1, eq_self, if_true, if_false, true_implies, false_implies, implies_true, ↓c_law21_Heavy, ↓c_ref19_Check, ↓c_cast_Begin, ↓c_law21_wakes, ↓c_cast_Check, hE, q1, q2, q3, q4, q6, Config.eta, Node.eta]
      exact fun hi => ⟨fun h => absurd h (by simp), fun _ => ⟨fun h => absurd (show ((q.1.calls.length : Int) - m.calls.length = 0) by omega) h, fun _ => ⟨fun h => absurd h (by simp), fun _ => ⟨fun h => absurd q4' h, fun _ => fin hi⟩⟩⟩⟩
    · simp (disch := first | omega | assumption | exact ⟨by first | assumption | omega, by first | assumption | omega⟩ | (simp only [List.length_cons, List.length_nil]; omega)) only [↓S0, ↓ITE_bool, S1, eq_self, if_true, if_false, true_implies, false_implies, implies_true, ↓c_law21_Heavy, ↓c_ref19_Check, ↓c_cast_Begin, ↓c_law21_wakes, ↓c_cast_Check, hE, q1, q2, q3, q4, q6, Config.eta, Node.eta, cellm, q7, q8, q9, q10, q11]
      exact fun hi => ⟨fun h => absurd h (by simp), fun _ => ⟨fun h => absurd (show ((q.1.calls.length : Int) - m.calls.length = ([x].length : Nat)) by simp; omega) h, fun _ => ⟨fun _ => ⟨fun h => absurd q4' h, fun _ => fin hi⟩, fun h => absurd (by simp) h⟩⟩⟩
  · have hq : q = (node0, [], 0, 11) := by
      rw [← hE]; unfold beginN; rw [if_pos hmw, if_pos (by rw [hTr, hVr]; rfl), if_neg ha]
    simp (disch := first | omega | assumption | exact ⟨by first | assumption | omega, by first | assumption | omega⟩ | (simp only [List.length_cons, List.length_nil]; omega)) only [↓S0, ↓ITE_bool, S1, eq_self, if_true, if_false, true_implies, false_implies, implies_true, ↓c_law21_Heavy, ↓c_ref19_Check, ↓c_cast_Begin, ↓c_law21_wakes, ↓c_cast_Check, hE, hq, Config.eta, Node.eta]
    exact fun hi => ⟨fun _ h => absurd (show m.asks = 40 by omega) h, fun h => absurd h (by decide)⟩
end Go.Xt
end
section
set_option linter.unusedSimpArgs false
set_option linter.unusedVariables false
set_option maxRecDepth 100000
namespace Go.Xt
theorem nodup_take {α : Type} [DecidableEq α] {l : List α} {i : Nat} {x : α} (hx : l[i]? = some x) : (l.take (i + 1)).Nodup ↔ (l.take i).Nodup ∧ x ∉ l.take i := by
  rw [List.take_add_one, hx, Option.toList_some, List.nodup_append]
  constructor
  · rintro ⟨h1, _, h3⟩
    exact ⟨h1, fun hm => h3 x hm x (by simp) rfl⟩
  · rintro ⟨h1, h2⟩
    refine ⟨h1, by simp, fun a ha b hb => ?_⟩
    rw [List.mem_singleton] at hb
    subst hb
    rintro rfl; exact h2 ha
theorem nodup_pre {α : Type} {l : List α} {i : Nat} (h : l.Nodup) : (l.take i).Nodup := List.Nodup.sublist (List.take_sublist _ _) h
end Go.Xt
end
section
set_option linter.unusedSimpArgs false
set_option linter.unusedVariables false
set_option maxRecDepth 100000
namespace Go.Xt
theorem msg_heard {x : Msg} {c : Config} (h : (msgOk x && (decide (x.kind = 12) || decide (x.kind = 13)) && decide (x.topic < c.topics)) = true) : rng x.topic 0 (c.topics - 1) = true ∧ rng x.count 1 40 = true ∧ (x.kind = 12 → isN x.value = true) ∧ (x.kind = 12 ∨ x.kind = 13) := by
  simp only [Bool.and_eq_true, Bool.or_eq_true, decide_eq_true_eq] at h
  obtain ⟨⟨h1, h2⟩, h3⟩ := h
  simp only [msgOk, Bool.and_eq_true] at h1
  obtain ⟨⟨⟨⟨k1, k2⟩, _⟩, _⟩, _⟩ := h1
  simp only [knownM, Bool.and_eq_true] at k2
  have k3 := k2.2
  rw [if_neg (by omega), Bool.and_eq_true] at k3
  have k4 := rng_bd k3.2
  refine ⟨by unfold rng; simp; omega, ?_, fun h12 => ?_, h2⟩
  · unfold bareM at k1
    rcases h2 with h2 | h2
    · rw [if_neg (by omega), if_neg (by omega), if_neg (by omega), if_neg (by omega), if_neg (by omega), if_neg (by omega), if_neg (by omega), if_neg (by omega), if_neg (by omega), if_pos h2, Bool.and_eq_true] at k1
      exact k1.1
    · rw [if_neg (by omega), if_neg (by omega), if_neg (by omega), if_neg (by omega), if_neg (by omega), if_neg (by omega), if_neg (by omega), if_neg (by omega), if_neg (by omega), if_neg (by omega), if_pos h2] at k1
      exact k1
  · unfold bareM at k1
    rw [if_neg (by omega), if_neg (by omega), if_neg (by omega), if_neg (by omega), if_neg (by omega), if_neg (by omega), if_neg (by omega), if_neg (by omega), if_neg (by omega), if_pos h12, Bool.and_eq_true] at k1
    exact k1.2
end Go.Xt
end
section
set_option linter.unusedSimpArgs false
set_option linter.unusedVariables false
set_option maxRecDepth 100000
namespace Go.Xt
theorem calls_high {c : Config} {a : Int} : ∀ {l : List Call} {p : Int} {t cnt : Int}, callsGo c a p l = true → cnt ≤ p → l.any (isCall t cnt) = false
  | [], _, _, _, _, _ => rfl
  | x :: r, p, t, cnt, h, hp => by
    simp only [callsGo, Bool.and_eq_true, decide_eq_true_eq] at h
    rw [List.any_cons, calls_high h.2 (by omega), Bool.or_false]
    have : ¬ x.count = cnt := by omega
    simp [isCall, this]
theorem calls_once {c : Config} {a : Int} {t cnt : Int} : ∀ {l : List Call} {p : Int}, callsGo c a p l = true → (l.eraseP (isCall t cnt)).any (isCall t cnt) = false
  | [], _, _ => rfl
  | x :: r, p, h => by
    simp only [callsGo, Bool.and_eq_true, decide_eq_true_eq] at h
    rw [List.eraseP_cons]
    cases hx : isCall t cnt x
    · simp only [cond_false, List.any_cons, hx, Bool.false_or]
      exact calls_once h.2
    · simp only [cond_true]
      have : x.count = cnt := by simp only [isCall, Bool.and_eq_true, decide_eq_true_eq] at hx; exact hx.1
      exact calls_high h.2 (by omega)
theorem endCall_twice {c : Config} {self : Int} {n : Node} {t cnt who : Int} (H : NOk c self n) : endCall c (endCall c n t cnt who) t cnt who = endCall c n t cnt who := by
  refine endCall_miss ?_
  unfold endCall
  cases h : n.calls.any (isCall t cnt)
  · rw [if_neg (by simp)]; exact h
  · rw [if_pos rfl]; exact calls_once H.calls
theorem fit_len (l : List Event) (limit : Int) (x : Event) : (fitE l limit x).length = l.length ∨ (fitE l limit x).length = l.length + 1 := by
  unfold fitE
  split
  · rename_i h
    unfold putE at h ⊢
    split
    · rename_i h0
      rw [if_pos h0] at h
      split
      · right; simp
      · rename_i h1
        rw [if_neg h1] at h
        split
        · rename_i h2
          rw [if_pos h2] at h
          split
          · right; simp
          · rename_i h3
            rw [if_neg h3] at h
            split
            · left; simp
            · rename_i h4
              rw [if_neg h4] at h; cases h
        · rename_i h2
          rw [if_neg h2] at h; cases h
    · rename_i h0
      rw [if_neg h0] at h; cases h
  · exact .inl rfl
def wordM (self t cnt kind value : Int) : Msg := ⟨kind, (self + 1) % 8, 1, self, 1, t, 0, 0, 0, value, 0, 0, cnt, 0, [], []⟩
theorem word_ok {self t cn kind value : Int} (hs : 0 ≤ self ∧ self < 8) (ht : 0 ≤ t ∧ t < 4) (hc : 1 ≤ cn ∧ cn ≤ 40) (hk : (kind = 12 ∧ 0 ≤ value ∧ value < 8) ∨ (kind = 13 ∧ value = 0)) : msgOk (wordM self t cn kind value) = true := by
  have h1 : isN ((self + 1) % 8) = true := isN_iff.2 (by omega)
  have h2 : isN self = true := isN_iff.2 hs
  have h3 : ¬ (self + 1) % 8 = self := by omega
  have h4 : rng t 0 3 = true := by unfold rng; simp; omega
  have h5 : rng cn 1 40 = true := by unfold rng; simp; omega
  have h6 : cnt 1 = true := by decide
  rcases hk with ⟨rfl, hv⟩ | ⟨rfl, rfl⟩
  · have h7 : isN value = true := isN_iff.2 hv
    simp [msgOk, bareM, wordM, knownM, endsOk, spareM, h1, h2, h3, h4, h5, h6, h7]
  · simp [msgOk, bareM, wordM, knownM, endsOk, spareM, h1, h2, h3, h4, h5, h6]
end Go.Xt
end
