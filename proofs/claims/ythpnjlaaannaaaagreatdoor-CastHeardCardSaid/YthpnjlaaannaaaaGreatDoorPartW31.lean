/- Steps towards the statements of this seat; the conditions stand in each theorem. -/
import Derived.Test.YthpnjlaaannaaaaGreatDoorPartW1
section
set_option linter.unusedSimpArgs false
set_option linter.unusedVariables false
set_option maxRecDepth 100000
namespace Go.Xt
theorem set_same {α : Type} {l : List α} {k : Nat} {x : α} (h : l[k]? = some x) : l.set k x = l := by
  obtain ⟨h1, h2⟩ := List.getElem?_eq_some_iff.1 h
  rw [← h2]; exact List.set_getElem_self h1
theorem mark_bd {n : Node} {k : Nat} {y : Mark} (h : n.marks.all markOk = true) (hy : n.marks[k]? = some y) : 0 ≤ y.met ∧ y.met ≤ 2199023255551 := by
  rw [List.all_eq_true] at h
  have := h y (List.mem_of_getElem? hy)
  simp only [markOk, Bool.and_eq_true] at this
  exact rng_bd this.2
theorem w_cast_Begin (c : Config) (self : Int) (n : Node) (t : Int) (value : Int) (hg : Goods [I c.nodes, I c.topics, I c.kids, I c.depth, I c.keep, I c.window, I c.queue, I self, bb n.up, I n.inc, L n.peers, L n.topics, L n.calls, I n.pubs, I n.asks, L n.marks, L n.taken, I t, I value]) : S_cast_Begin ρ (I c.nodes) (I c.topics) (I c.kids) (I c.depth) (I c.keep) (I c.window) (I c.queue) (I self) (bb n.up) (I n.inc) (L n.peers) (L n.topics) (L n.calls) (I n.pubs) (I n.asks) (L n.marks) (L n.taken) (I t) (I value) (· = [bb (beginN c self n t value).1.up, I (beginN c self n t value).1.inc, L (beginN c self n t value).1.peers, L (beginN c self n t value).1.topics, L (beginN c self n t value).1.calls, I (beginN c self n t value).1.pubs, I (beginN c self n t value).1.asks, L (beginN c self n t value).1.marks, L (beginN c self n t value).1.taken, L (beginN c self n t value).2.1, I (beginN c self n t value).2.2.1, I (beginN c self n t value).2.2.2]) := by
  unfold S_cast_Begin
  simp only [Goods, good_L] at hg
  generalize hE : beginN c self n t value = q
  unfold beginN at hE
  simp (disch := first | omega | assumption | exact ⟨by first | assumption | omega, by first | assumption | omega⟩ | (simp only [List.length_cons, List.length_nil]; omega)) only [↓S0, ↓ITE_bool, S1, eq_self, if_true, if_false, true_implies, false_implies, implies_true, ↓c_cast_Check, ↓c_cast_in, ↓c_msg_Value, ↓c_slices_Contains_int_int, ↓c_graft_Twin, ↓c_slices_Clone_api_Peer_api_Peer, ↓c_slices_Clone_api_Call_api_Call, ↓c_slices_Clone_api_Mark_api_Mark, ↓c_slices_Clone_api_Mark2_api_Mark2, ↓c_slices_Clone_int_int, ↓c_cast_near, ↓c_cast_Heed, ↓c_slices_Delete_api_Call_api_Call, ↓c_queue_Fit]
  refine ⟨fun hw => ?_, fun hw => ?_⟩
  · rw [if_neg hw] at hE; rw [← hE]; rfl
  rw [if_pos hw] at hE
  obtain ⟨hc, hsr, hu, H⟩ := why_zero hw
  have hb := cfg_bd hc
  have hsb := rng_bd hsr
  refine SUB.v1 (bb (!(rng t 0 (c.topics - 1) && val value))) ?_ ?_
  · repeat' (first | apply And.intro | intro _ | simp (disch := first | omega | assumption | exact ⟨by first | assumption | omega, by first | assumption | omega⟩ | (simp only [List.length_cons, List.length_nil]; omega)) only [↓S0, ↓ITE_bool, S1, eq_self, if_true, if_false, true_implies, false_implies, implies_true, ↓c_cast_Check, ↓c_cast_in, ↓c_msg_Value, ↓c_slices_Contains_int_int, ↓c_graft_Twin, ↓c_slices_Clone_api_Peer_api_Peer, ↓c_slices_Clone_api_Call_api_Call, ↓c_slices_Clone_api_Mark_api_Mark, ↓c_slices_Clone_api_Mark2_api_Mark2, ↓c_slices_Clone_int_int, ↓c_cast_near, ↓c_cast_Heed, ↓c_slices_Delete_api_Call_api_Call, ↓c_queue_Fit])
    all_goals simp [*]
  cases htv : (rng t 0 (c.topics - 1) && val value)
  · simp (disch := first | omega | assumption | exact ⟨by first | assumption | omega, by first | assumption | omega⟩ | (simp only [List.length_cons, List.length_nil]; omega)) only [↓S0, ↓ITE_bool, S1, eq_self, if_true, if_false, true_implies, false_implies, implies_true, ↓c_cast_Check, ↓c_cast_in, ↓c_msg_Value, ↓c_slices_Contains_int_int, ↓c_graft_Twin, ↓c_slices_Clone_api_Peer_api_Peer, ↓c_slices_Clone_api_Call_api_Call, ↓c_slices_Clone_api_Mark_api_Mark, ↓c_slices_Clone_api_Mark2_api_Mark2, ↓c_slices_Clone_int_int, ↓c_cast_near, ↓c_cast_Heed, ↓c_slices_Delete_api_Call_api_Call, ↓c_queue_Fit]
    rw [htv, if_neg (by simp)] at hE; rw [← hE]; rfl
  rw [if_pos htv] at hE
  rw [Bool.and_eq_true] at htv
  simp (disch := first | omega | assumption | exact ⟨by first | assumption | omega, by first | assumption | omega⟩ | (simp only [List.length_cons, List.length_nil]; omega)) only [↓S0, ↓ITE_bool, S1, eq_self, if_true, if_false, true_implies, false_implies, implies_true, ↓c_cast_Check, ↓c_cast_in, ↓c_msg_Value, ↓c_slices_Contains_int_int, ↓c_graft_Twin, ↓c_slices_Clone_api_Peer_api_Peer, ↓c_slices_Clone_api_Call_api_Call, ↓c_slices_Clone_api_Mark_api_Mark, ↓c_slices_Clone_api_Mark2_api_Mark2, ↓c_slices_Clone_int_int, ↓c_cast_near, ↓c_cast_Heed, ↓c_slices_Delete_api_Call_api_Call, ↓c_queue_Fit]
  refine ⟨fun ha => ?_, fun ha => ?_⟩
  · rw [if_neg (by omega)] at hE; rw [← hE]; rfl
  rw [if_pos (by omega)] at hE
  have hab := rng_bd H.asks
  have hpl := H.pl; have hml := H.ml; have hkl := H.kl; have hcl := H.cl
  have htl := H.tl
  refine SUB.val [L n.taken, L n.marks, L n.calls, L n.peers, L n.topics] rfl ?_ ?_
  · refine LOOP.rule (α := Nat) (fun i => [I i, L (n.topics.take i)]) (fun i => i ≤ n.topics.length) (fun i => n.topics.length - i) 0 rfl (by omega) (fun _ => rfl) ?_
    intro i hl
    simp only [app]
    simp (disch := first | omega | assumption | exact ⟨by first | assumption | omega, by first | assumption | omega⟩ | (simp only [List.length_cons, List.length_nil]; omega)) only [↓S0, ↓ITE_bool, S1, eq_self, if_true, if_false, true_implies, false_implies, implies_true, ↓c_cast_Check, ↓c_cast_in, ↓c_msg_Value, ↓c_slices_Contains_int_int, ↓c_graft_Twin, ↓c_slices_Clone_api_Peer_api_Peer, ↓c_slices_Clone_api_Call_api_Call, ↓c_slices_Clone_api_Mark_api_Mark, ↓c_slices_Clone_api_Mark2_api_Mark2, ↓c_slices_Clone_int_int, ↓c_cast_near, ↓c_cast_Heed, ↓c_slices_Delete_api_Call_api_Call, ↓c_queue_Fit]
    refine ⟨fun hcc => ?_, fun hcc => ?_⟩
    · obtain ⟨x, hx⟩ := get_ex hcc
      have hx9 := node_light hc H hx
      have hlt : (n.topics.take i).length = i := by simp; omega
      simp (disch := first | omega | assumption | exact ⟨by first | assumption | omega, by first | assumption | omega⟩ | (simp only [List.length_cons, List.length_nil]; omega)) only [↓S0, ↓ITE_bool, S1, eq_self, if_true, if_false, true_implies, false_implies, implies_true, ↓c_cast_Check, ↓c_cast_in, ↓c_msg_Value, ↓c_slices_Contains_int_int, ↓c_graft_Twin, ↓c_slices_Clone_api_Peer_api_Peer, ↓c_slices_Clone_api_Call_api_Call, ↓c_slices_Clone_api_Mark_api_Mark, ↓c_slices_Clone_api_Mark2_api_Mark2, ↓c_slices_Clone_int_int, ↓c_cast_near, ↓c_cast_Heed, ↓c_slices_Delete_api_Call_api_Call, ↓c_queue_Fit, cell_L hx]
      exact ⟨i + 1, by simp [take_one hx], by omega, by omega⟩
    rw [List.take_of_length_le (by omega)]
  simp only [app]
  simp (disch := first | omega | assumption | exact ⟨by first | assumption | omega, by first | assumption | omega⟩ | (simp only [List.length_cons, List.length_nil]; omega)) only [↓S0, ↓ITE_bool, S1, eq_self, if_true, if_false, true_implies, false_implies, implies_true, ↓c_cast_Check, ↓c_cast_in, ↓c_msg_Value, ↓c_slices_Contains_int_int, ↓c_graft_Twin, ↓c_slices_Clone_api_Peer_api_Peer, ↓c_slices_Clone_api_Call_api_Call, ↓c_slices_Clone_api_Mark_api_Mark, ↓c_slices_Clone_api_Mark2_api_Mark2, ↓c_slices_Clone_int_int, ↓c_cast_near, ↓c_cast_Heed, ↓c_slices_Delete_api_Call_api_Call, ↓c_queue_Fit]
  rw [show L [(⟨n.asks + 1, t, 0⟩ : Kid)] = L [(⟨n.asks + 1, t, 0⟩ : Call)] from rfl]
  simp (disch := first | omega | assumption | exact ⟨by first | assumption | omega, by first | assumption | omega⟩ | (simp only [List.length_cons, List.length_nil]; omega)) only [↓S0, ↓ITE_bool, S1, eq_self, if_true, if_false, true_implies, false_implies, implies_true, ↓c_cast_Check, ↓c_cast_in, ↓c_msg_Value, ↓c_slices_Contains_int_int, ↓c_graft_Twin, ↓c_slices_Clone_api_Peer_api_Peer, ↓c_slices_Clone_api_Call_api_Call, ↓c_slices_Clone_api_Mark_api_Mark, ↓c_slices_Clone_api_Mark2_api_Mark2, ↓c_slices_Clone_int_int, ↓c_cast_near, ↓c_cast_Heed, ↓c_slices_Delete_api_Call_api_Call, ↓c_queue_Fit]
  obtain ⟨s, hk⟩ := Int.eq_ofNat_of_zero_le hsb.1
  subst hk
  obtain ⟨mk, hmk⟩ := get_ex (xs := n.marks) (i := s) (by omega)
  have hmd : n.marks.getD s mark0 = mk := by simp [List.getD_eq_getElem?_getD, hmk]
  have hmb := mark_bd H.marks hmk
  have hml2 : meetL n.marks s n.inc (n.asks + 1) = if meets n.marks s n.inc (n.asks + 1) = true then n.marks.set s { newer mk n.inc with met := (newer mk n.inc).met + 2 ^ (n.asks + 1).toNat } else n.marks := by
    unfold meetL; rw [Int.toNat_natCast, hmd]
  have hme : meets n.marks s n.inc (n.asks + 1) = (decide (mk.inc ≤ n.inc) && !metYet (newer mk n.inc) (n.asks + 1)) := by unfold meets; rw [Int.toNat_natCast, hmd]
  refine SUB.v2 (bb (meets n.marks s n.inc (n.asks + 1))) (L (meetL n.marks s n.inc (n.asks + 1))) ?_ ?_
  · rw [hml2, hme]
    simp (disch := first | omega | assumption | exact ⟨by first | assumption | omega, by first | assumption | omega⟩ | (simp only [List.length_cons, List.length_nil]; omega)) only [↓S0, ↓ITE_bool, S1, eq_self, if_true, if_false, true_implies, false_implies, implies_true, ↓c_cast_Check, ↓c_cast_in, ↓c_msg_Value, ↓c_slices_Contains_int_int, ↓c_graft_Twin, ↓c_slices_Clone_api_Peer_api_Peer, ↓c_slices_Clone_api_Call_api_Call, ↓c_slices_Clone_api_Mark_api_Mark, ↓c_slices_Clone_api_Mark2_api_Mark2, ↓c_slices_Clone_int_int, ↓c_cast_near, ↓c_cast_Heed, ↓c_slices_Delete_api_Call_api_Call, ↓c_queue_Fit, cell_L hmk]
    refine ⟨fun hgt => ?_, fun hle => ⟨fun hlt => ?_, fun hge => ?_⟩⟩
    · have e : decide (mk.inc ≤ n.inc) = false := by simp; omega
      simp [e]
    · have e : newer mk n.inc = ⟨n.inc, 0, 0⟩ := by unfold newer; rw [if_pos hlt]
      have hsz := (List.getElem?_eq_some_iff.1 hmk).1
      have h1 : (n.marks.set s ⟨n.inc, mk.pubs, mk.met⟩)[s]? = some ⟨n.inc, mk.pubs, mk.met⟩ := by simp [hsz]
      have h2 : ((n.marks.set s ⟨n.inc, mk.pubs, mk.met⟩).set s ⟨n.inc, 0, mk.met⟩)[s]? = some ⟨n.inc, 0, mk.met⟩ := by simp [hsz]
      have h3 : (n.marks.set s ⟨n.inc, 0, 0⟩)[s]? = some ⟨n.inc, 0, 0⟩ := by simp [hsz]
      rw [OP_set hmk (y := ⟨n.inc, mk.pubs, mk.met⟩) rfl, OP_set h1 (y := ⟨n.inc, 0, mk.met⟩) rfl, OP_set h2 (y := ⟨n.inc, 0, 0⟩) rfl, List.set_set, List.set_set, e]
      simp (disch := first | omega | assumption | exact ⟨by first | assumption | omega, by first | assumption | omega⟩ | (simp only [List.length_cons, List.length_nil]; omega)) only [↓S0, ↓ITE_bool, S1, eq_self, if_true, if_false, true_implies, false_implies, implies_true, ↓c_cast_Check, ↓c_cast_in, ↓c_msg_Value, ↓c_slices_Contains_int_int, ↓c_graft_Twin, ↓c_slices_Clone_api_Peer_api_Peer, ↓c_slices_Clone_api_Call_api_Call, ↓c_slices_Clone_api_Mark_api_Mark, ↓c_slices_Clone_api_Mark2_api_Mark2, ↓c_slices_Clone_int_int, ↓c_cast_near, ↓c_cast_Heed, ↓c_slices_Delete_api_Call_api_Call, ↓c_queue_Fit, cell_L h3]
      rw [OP_shr (by omega) (by omega), OP_and1 (Int.ediv_nonneg (by decide) (Int.le_of_lt (Int.pow_pos (by decide))))]
      simp (disch := first | omega | assumption | exact ⟨by first | assumption | omega, by first | assumption | omega⟩ | (simp only [List.length_cons, List.length_nil]; omega)) only [↓S0, ↓ITE_bool, S1, eq_self, if_true, if_false, true_implies, false_implies, implies_true, ↓c_cast_Check, ↓c_cast_in, ↓c_msg_Value, ↓c_slices_Contains_int_int, ↓c_graft_Twin, ↓c_slices_Clone_api_Peer_api_Peer, ↓c_slices_Clone_api_Call_api_Call, ↓c_slices_Clone_api_Mark_api_Mark, ↓c_slices_Clone_api_Mark2_api_Mark2, ↓c_slices_Clone_int_int, ↓c_cast_near, ↓c_cast_Heed, ↓c_slices_Delete_api_Call_api_Call, ↓c_queue_Fit]
      have hz : (0 : Int) / 2 ^ (n.asks + 1).toNat % 2 = 0 := by simp
      refine ⟨fun hm => by rw [hz] at hm; omega, fun hm => ?_⟩
      rw [OP_shl (by omega) (by omega), OP_or_pow (by omega) (by omega) (by omega) (by omega) hz, OP_set h3 (y := ⟨n.inc, 0, 0 + 2 ^ (n.asks + 1).toNat⟩) rfl, List.set_set]
      have e5 : decide (mk.inc ≤ n.inc) = true := by simp; omega
      simp [e5, metYet]
    · have e : newer mk n.inc = mk := by unfold newer; rw [if_neg hge]
      rw [OP_shr (by omega) (by omega), OP_and1 (Int.ediv_nonneg hmb.1 (Int.le_of_lt (Int.pow_pos (by decide)))), e]
      simp (disch := first | omega | assumption | exact ⟨by first | assumption | omega, by first | assumption | omega⟩ | (simp only [List.length_cons, List.length_nil]; omega)) only [↓S0, ↓ITE_bool, S1, eq_self, if_true, if_false, true_implies, false_implies, implies_true, ↓c_cast_Check, ↓c_cast_in, ↓c_msg_Value, ↓c_slices_Contains_int_int, ↓c_graft_Twin, ↓c_slices_Clone_api_Peer_api_Peer, ↓c_slices_Clone_api_Call_api_Call, ↓c_slices_Clone_api_Mark_api_Mark, ↓c_slices_Clone_api_Mark2_api_Mark2, ↓c_slices_Clone_int_int, ↓c_cast_near, ↓c_cast_Heed, ↓c_slices_Delete_api_Call_api_Call, ↓c_queue_Fit]
      have e5 : decide (mk.inc ≤ n.inc) = true := by simp; omega
      refine ⟨fun hm => by simp [e5, metYet, hm], fun hm => ?_⟩
      have h0 : mk.met / 2 ^ (n.asks + 1).toNat % 2 = 0 := by omega
      rw [OP_shl (by omega) (by omega), OP_or_pow hmb.1 (by omega) (by omega) (by omega) h0, OP_set hmk (y := { mk with met := mk.met + 2 ^ (n.asks + 1).toNat }) rfl]
      simp [e5, metYet, hm]
  have hcl2 : (n.calls ++ [(⟨n.asks + 1, t, 0⟩ : Call)]).length ≤ 100 := by simp; omega
  have HD : DoesOk (s : Int) (⟨n.up, n.inc, n.peers, n.topics, n.calls ++ [⟨n.asks + 1, t, 0⟩], n.pubs, n.asks + 1, meetL n.marks s n.inc (n.asks + 1), n.taken⟩ : Node) t := does_of hc hsr H htv.1 rfl rfl hcl2 (by show n.taken.length ≤ 100; omega)
  dsimp only at hE
  generalize n.calls ++ [(⟨n.asks + 1, t, 0⟩ : Call)] = calls at hE HD ⊢
  generalize hcnt : n.asks + 1 = cnt at hE HD ⊢
  generalize meetL n.marks s n.inc cnt = marks at hE HD ⊢
  obtain ⟨h1, h2, h3, h4, h5, h6, h7, h8, h9, h10⟩ := HD
  have hbt := isT_iff.1 h1
  have hs := rng_bd h4
  obtain ⟨k, rfl⟩ := Int.eq_ofNat_of_zero_le hbt.1
  obtain ⟨y, hy⟩ := get_ex (xs := n.topics) (i := k) (by omega)
  have hgd : ∀ (a : Bool) (b : Int) (d : List Peer) (e : List Call) (f g : Int) (i : List Mark) (j : List Mark2), topAt (⟨a, b, d, n.topics, e, f, g, i, j⟩ : Node) k = y := by intros; simp [topAt, List.getD_eq_getElem?_getD, hy]
  have hbc : (calls.length : Int) ≤ 100 := by have := h8; dsimp only at this; omega
  rw [hgd] at h5 h6 h7 h10
  dsimp only at h2 h3 h4 h9
  generalize hr : visitN c s (⟨n.up, n.inc, n.peers, n.topics, calls, n.pubs, cnt, marks, n.taken⟩ : Node) { msg0 with topic := (k : Int), node := (s : Int), inc := n.inc, count := cnt, value := value } = r at hE
  have hQ : [bb r.1.up, I r.1.inc, L r.1.peers, L r.1.topics, L r.1.calls, I r.1.pubs, I r.1.asks, L r.1.marks, L r.1.taken, L r.2, I cnt, I 0] = [bb q.fst.up, I q.fst.inc, L q.fst.peers, L q.fst.topics, L q.fst.calls, I q.fst.pubs, I q.fst.asks, L q.fst.marks, L q.fst.taken, L q.snd.fst, I q.snd.snd.fst, I q.snd.snd.snd] := by rw [← hE]
  clear hE
  generalize [bb q.fst.up, I q.fst.inc, L q.fst.peers, L q.fst.topics, L q.fst.calls, I q.fst.pubs, I q.fst.asks, L q.fst.marks, L q.fst.taken, L q.snd.fst, I q.snd.snd.fst, I q.snd.snd.snd] = z at hQ ⊢
  simp only [visitN, msg0, hgd, List.nil_append] at hr
  cases hsub : y.sub
  · simp (disch := first | omega | assumption | exact ⟨by first | assumption | omega, by first | assumption | omega⟩ | (simp only [List.length_cons, List.length_nil]; omega)) only [↓S0, ↓ITE_bool, S1, eq_self, if_true, if_false, true_implies, false_implies, implies_true, ↓c_cast_Check, ↓c_cast_in, ↓c_msg_Value, ↓c_slices_Contains_int_int, ↓c_graft_Twin, ↓c_slices_Clone_api_Peer_api_Peer, ↓c_slices_Clone_api_Call_api_Call, ↓c_slices_Clone_api_Mark_api_Mark, ↓c_slices_Clone_api_Mark2_api_Mark2, ↓c_slices_Clone_int_int, ↓c_cast_near, ↓c_cast_Heed, ↓c_slices_Delete_api_Call_api_Call, ↓c_queue_Fit, cell_L hy, hsub]
    simp only [hsub, Bool.false_eq_true, if_false] at hr
    refine SUB.v3 (L ([] : List Int)) (L [(s : Int)]) (L [(s : Int)]) ?_ ?_
    · simp (disch := first | omega | assumption | exact ⟨by first | assumption | omega, by first | assumption | omega⟩ | (simp only [List.length_cons, List.length_nil]; omega)) only [↓S0, ↓ITE_bool, S1, eq_self, if_true, if_false, true_implies, false_implies, implies_true, ↓c_cast_Check, ↓c_cast_in, ↓c_msg_Value, ↓c_slices_Contains_int_int, ↓c_graft_Twin, ↓c_slices_Clone_api_Peer_api_Peer, ↓c_slices_Clone_api_Call_api_Call, ↓c_slices_Clone_api_Mark_api_Mark, ↓c_slices_Clone_api_Mark2_api_Mark2, ↓c_slices_Clone_int_int, ↓c_cast_near, ↓c_cast_Heed, ↓c_slices_Delete_api_Call_api_Call, ↓c_queue_Fit, List.nil_append]
    have hcn : peersOk (⟨n.up, n.inc, n.peers, n.topics, calls, n.pubs, cnt, marks, n.taken⟩ : Node).peers = true ∧ rng (s : Int) 0 (n.peers.length - 1) = true ∧ isT (k : Int) = true ∧ (k : Int) < n.topics.length ∧ (topAt (⟨n.up, n.inc, n.peers, n.topics, calls, n.pubs, cnt, marks, n.taken⟩ : Node) k).kids.length ≤ 8 ∧ (topAt (⟨n.up, n.inc, n.peers, n.topics, calls, n.pubs, cnt, marks, n.taken⟩ : Node) k).parent ≤ 8 ∧ 0 ≤ (topAt (⟨n.up, n.inc, n.peers, n.topics, calls, n.pubs, cnt, marks, n.taken⟩ : Node) k).parent :=
      ⟨h3, h4, h1, h2, by rw [hgd]; exact h5, by rw [hgd]; exact h6, by rw [hgd]; exact h7⟩
    have hnl : (nearL s (⟨n.up, n.inc, n.peers, n.topics, calls, n.pubs, cnt, marks, n.taken⟩ : Node) k).length ≤ 10 := by
      simp only [nearL, hgd, List.length_append, List.length_map, List.length_singleton]
      split <;> simp <;> omega
    rw [c_cast_near hcn]
    generalize hNL : nearL s (⟨n.up, n.inc, n.peers, n.topics, calls, n.pubs, cnt, marks, n.taken⟩ : Node) k = nl at hnl hr ⊢
    simp (disch := first | omega | assumption | exact ⟨by first | assumption | omega, by first | assumption | omega⟩ | (simp only [List.length_cons, List.length_nil]; omega)) only [↓S0, ↓ITE_bool, S1, eq_self, if_true, if_false, true_implies, false_implies, implies_true, ↓c_cast_Check, ↓c_cast_in, ↓c_msg_Value, ↓c_slices_Contains_int_int, ↓c_graft_Twin, ↓c_slices_Clone_api_Peer_api_Peer, ↓c_slices_Clone_api_Call_api_Call, ↓c_slices_Clone_api_Mark_api_Mark, ↓c_slices_Clone_api_Mark2_api_Mark2, ↓c_slices_Clone_int_int, ↓c_cast_near, ↓c_cast_Heed, ↓c_slices_Delete_api_Call_api_Call, ↓c_queue_Fit]
    generalize hT : todoGo (⟨n.up, n.inc, n.peers, n.topics, calls, n.pubs, cnt, marks, n.taken⟩ : Node) [(s : Int)] [] nl = todo at hr
    refine LOOP.rule (α := Nat × List Int) (fun p => [I p.1, L p.2]) (fun p => p.1 ≤ nl.length ∧ p.2.length ≤ p.1 ∧ todoGo (⟨n.up, n.inc, n.peers, n.topics, calls, n.pubs, cnt, marks, n.taken⟩ : Node) [(s : Int)] p.2 (nl.drop p.1) = todo) (fun p => nl.length - p.1) (0, []) rfl ⟨by simp, by simp, by simpa using hT⟩ (fun _ => rfl) ?_
    rintro ⟨i, a⟩ ⟨hi, ha, hs2⟩
    simp only at hi ha hs2
    simp only [app]
    simp (disch := first | omega | assumption | exact ⟨by first | assumption | omega, by first | assumption | omega⟩ | (simp only [List.length_cons, List.length_nil]; omega)) only [↓S0, ↓ITE_bool, S1, eq_self, if_true, if_false, true_implies, false_implies, implies_true, ↓c_cast_Check, ↓c_cast_in, ↓c_msg_Value, ↓c_slices_Contains_int_int, ↓c_graft_Twin, ↓c_slices_Clone_api_Peer_api_Peer, ↓c_slices_Clone_api_Call_api_Call, ↓c_slices_Clone_api_Mark_api_Mark, ↓c_slices_Clone_api_Mark2_api_Mark2, ↓c_slices_Clone_int_int, ↓c_cast_near, ↓c_cast_Heed, ↓c_slices_Delete_api_Call_api_Call, ↓c_queue_Fit]
    refine ⟨fun h => ?_, fun h => ?_⟩
    · obtain ⟨x, hx⟩ := get_ex h
      rw [drop_eq hx, todoGo] at hs2
      simp (disch := first | omega | assumption | exact ⟨by first | assumption | omega, by first | assumption | omega⟩ | (simp only [List.length_cons, List.length_nil]; omega)) only [↓S0, ↓ITE_bool, S1, eq_self, if_true, if_false, true_implies, false_implies, implies_true, ↓c_cast_Check, ↓c_cast_in, ↓c_msg_Value, ↓c_slices_Contains_int_int, ↓c_graft_Twin, ↓c_slices_Clone_api_Peer_api_Peer, ↓c_slices_Clone_api_Call_api_Call, ↓c_slices_Clone_api_Mark_api_Mark, ↓c_slices_Clone_api_Mark2_api_Mark2, ↓c_slices_Clone_int_int, ↓c_cast_near, ↓c_cast_Heed, ↓c_slices_Delete_api_Call_api_Call, ↓c_queue_Fit, cell_L hx]
      refine ⟨fun e1 => ⟨fun e2 => ⟨fun e3 => ⟨(i + 1, a ++ [x]), rfl, ⟨by simp; omega, by simp; omega, ?_⟩, by simp; omega⟩, fun e3 => ⟨(i + 1, a), rfl, ⟨by simp; omega, by simp; omega, ?_⟩, by simp; omega⟩⟩, fun e2 => ⟨(i + 1, a), rfl, ⟨by simp; omega, by simp; omega, ?_⟩, by simp; omega⟩⟩, fun e1 => ⟨(i + 1, a), rfl, ⟨by simp; omega, by simp; omega, ?_⟩, by simp; omega⟩⟩
      · simp only [e1, e2, e3, Bool.not_false, Bool.and_self, if_true] at hs2; exact hs2
      · simp only [e1, e2, e3, Bool.not_false, Bool.not_true, Bool.and_false, Bool.false_eq_true, if_false] at hs2; exact hs2
      · simp only [e1, e2, Bool.not_false, Bool.not_true, Bool.and_false, Bool.false_and, Bool.false_eq_true, if_false] at hs2; exact hs2
      · simp only [e1, Bool.false_and, Bool.false_eq_true, if_false] at hs2; exact hs2
    rw [drop_nil h, todoGo] at hs2
    subst hs2
    unfold goN at hr
    refine SUB.v1 (bb (decide (a = []))) ?_ ?_
    · simp (disch := first | omega | assumption | exact ⟨by first | assumption | omega, by first | assumption | omega⟩ | (simp only [List.length_cons, List.length_nil]; omega)) only [↓S0, ↓ITE_bool, S1, eq_self, if_true, if_false, true_implies, false_implies, implies_true, ↓c_cast_Check, ↓c_cast_in, ↓c_msg_Value, ↓c_slices_Contains_int_int, ↓c_graft_Twin, ↓c_slices_Clone_api_Peer_api_Peer, ↓c_slices_Clone_api_Call_api_Call, ↓c_slices_Clone_api_Mark_api_Mark, ↓c_slices_Clone_api_Mark2_api_Mark2, ↓c_slices_Clone_int_int, ↓c_cast_near, ↓c_cast_Heed, ↓c_slices_Delete_api_Call_api_Call, ↓c_queue_Fit]
      refine ⟨fun h => ?_, fun h => ?_⟩
      · have : a = [] := List.eq_nil_of_length_eq_zero (by omega)
        simp [this]
      · have : a ≠ [] := by intro h'; subst h'; simp at h
        simp [this]
    by_cases ha0 : a = []
    · rw [if_pos (.inl ha0)] at hr
      unfold tellN at hr
      rw [if_pos rfl] at hr
      dsimp only at hr
      subst ha0
      simp (disch := first | omega | assumption | exact ⟨by first | assumption | omega, by first | assumption | omega⟩ | (simp only [List.length_cons, List.length_nil]; omega)) only [↓S0, ↓ITE_bool, S1, eq_self, if_true, if_false, true_implies, false_implies, implies_true, ↓c_cast_Check, ↓c_cast_in, ↓c_msg_Value, ↓c_slices_Contains_int_int, ↓c_graft_Twin, ↓c_slices_Clone_api_Peer_api_Peer, ↓c_slices_Clone_api_Call_api_Call, ↓c_slices_Clone_api_Mark_api_Mark, ↓c_slices_Clone_api_Mark2_api_Mark2, ↓c_slices_Clone_int_int, ↓c_cast_near, ↓c_cast_Heed, ↓c_slices_Delete_api_Call_api_Call, ↓c_queue_Fit]
      refine SUB.v3 (bb (calls.any (isCall k cnt))) (bb (!calls.any (isCall k cnt))) (L (calls.eraseP (isCall k cnt))) ?_ ?_
      · simp (disch := first | omega | assumption | exact ⟨by first | assumption | omega, by first | assumption | omega⟩ | (simp only [List.length_cons, List.length_nil]; omega)) only [↓S0, ↓ITE_bool, S1, eq_self, if_true, if_false, true_implies, false_implies, implies_true, ↓c_cast_Check, ↓c_cast_in, ↓c_msg_Value, ↓c_slices_Contains_int_int, ↓c_graft_Twin, ↓c_slices_Clone_api_Peer_api_Peer, ↓c_slices_Clone_api_Call_api_Call, ↓c_slices_Clone_api_Mark_api_Mark, ↓c_slices_Clone_api_Mark2_api_Mark2, ↓c_slices_Clone_int_int, ↓c_cast_near, ↓c_cast_Heed, ↓c_slices_Delete_api_Call_api_Call, ↓c_queue_Fit]
        refine LOOP.rule (α := Nat) (fun i => [I i]) (fun i => i ≤ calls.length ∧ (calls.take i).any (isCall k cnt) = false) (fun i => calls.length - i) 0 rfl ⟨by omega, by simp⟩ (fun _ => rfl) ?_
        rintro i ⟨hi3, hs3⟩
        simp only [app]
        simp (disch := first | omega | assumption | exact ⟨by first | assumption | omega, by first | assumption | omega⟩ | (simp only [List.length_cons, List.length_nil]; omega)) only [↓S0, ↓ITE_bool, S1, eq_self, if_true, if_false, true_implies, false_implies, implies_true, ↓c_cast_Check, ↓c_cast_in, ↓c_msg_Value, ↓c_slices_Contains_int_int, ↓c_graft_Twin, ↓c_slices_Clone_api_Peer_api_Peer, ↓c_slices_Clone_api_Call_api_Call, ↓c_slices_Clone_api_Mark_api_Mark, ↓c_slices_Clone_api_Mark2_api_Mark2, ↓c_slices_Clone_int_int, ↓c_cast_near, ↓c_cast_Heed, ↓c_slices_Delete_api_Call_api_Call, ↓c_queue_Fit]
        refine ⟨fun h => ?_, fun h => ⟨fun _ => ?_, fun h9 => absurd (show (-1 : Int) < 0 by omega) h9⟩⟩
        · obtain ⟨x, hx⟩ := get_ex h
          simp (disch := first | omega | assumption | exact ⟨by first | assumption | omega, by first | assumption | omega⟩ | (simp only [List.length_cons, List.length_nil]; omega)) only [↓S0, ↓ITE_bool, S1, eq_self, if_true, if_false, true_implies, false_implies, implies_true, ↓c_cast_Check, ↓c_cast_in, ↓c_msg_Value, ↓c_slices_Contains_int_int, ↓c_graft_Twin, ↓c_slices_Clone_api_Peer_api_Peer, ↓c_slices_Clone_api_Call_api_Call, ↓c_slices_Clone_api_Mark_api_Mark, ↓c_slices_Clone_api_Mark2_api_Mark2, ↓c_slices_Clone_int_int, ↓c_cast_near, ↓c_cast_Heed, ↓c_slices_Delete_api_Call_api_Call, ↓c_queue_Fit, cell_L hx]
          refine SUB.v1 (bb (isCall k cnt x)) ?_ ?_
          · unfold isCall; repeat' (first | apply And.intro | intro _ | simp (disch := first | omega | assumption | exact ⟨by first | assumption | omega, by first | assumption | omega⟩ | (simp only [List.length_cons, List.length_nil]; omega)) only [↓S0, ↓ITE_bool, S1, eq_self, if_true, if_false, true_implies, false_implies, implies_true, ↓c_cast_Check, ↓c_cast_in, ↓c_msg_Value, ↓c_slices_Contains_int_int, ↓c_graft_Twin, ↓c_slices_Clone_api_Peer_api_Peer, ↓c_slices_Clone_api_Call_api_Call, ↓c_slices_Clone_api_Mark_api_Mark, ↓c_slices_Clone_api_Mark2_api_Mark2, ↓c_slices_Clone_int_int, ↓c_cast_near, ↓c_cast_Heed, ↓c_slices_Delete_api_Call_api_Call, ↓c_queue_Fit])
            all_goals simp [*]
          cases hcx : isCall k cnt x
          · simp (disch := first | omega | assumption | exact ⟨by first | assumption | omega, by first | assumption | omega⟩ | (simp only [List.length_cons, List.length_nil]; omega)) only [↓S0, ↓ITE_bool, S1, eq_self, if_true, if_false, true_implies, false_implies, implies_true, ↓c_cast_Check, ↓c_cast_in, ↓c_msg_Value, ↓c_slices_Contains_int_int, ↓c_graft_Twin, ↓c_slices_Clone_api_Peer_api_Peer, ↓c_slices_Clone_api_Call_api_Call, ↓c_slices_Clone_api_Mark_api_Mark, ↓c_slices_Clone_api_Mark2_api_Mark2, ↓c_slices_Clone_int_int, ↓c_cast_near, ↓c_cast_Heed, ↓c_slices_Delete_api_Call_api_Call, ↓c_queue_Fit]
            exact ⟨i + 1, rfl, ⟨by omega, any_take hs3 hx hcx⟩, by omega⟩
          · have hpre : (0 : Int) ≤ (i : Int) ∧ (i : Int) ≤ (i : Int) + 1 ∧ (i : Int) + 1 ≤ calls.length ∧ calls.length < 4611686018427387904 := ⟨by omega, by omega, by omega, by omega⟩
            obtain ⟨e5, e6⟩ := erase_cut hs3 hx hcx
            simp (disch := first | omega | assumption | exact ⟨by first | assumption | omega, by first | assumption | omega⟩ | (simp only [List.length_cons, List.length_nil]; omega)) only [↓S0, ↓ITE_bool, S1, eq_self, if_true, if_false, true_implies, false_implies, implies_true, ↓c_cast_Check, ↓c_cast_in, ↓c_msg_Value, ↓c_slices_Contains_int_int, ↓c_graft_Twin, ↓c_slices_Clone_api_Peer_api_Peer, ↓c_slices_Clone_api_Call_api_Call, ↓c_slices_Clone_api_Mark_api_Mark, ↓c_slices_Clone_api_Mark2_api_Mark2, ↓c_slices_Clone_int_int, ↓c_cast_near, ↓c_cast_Heed, ↓c_slices_Delete_api_Call_api_Call, ↓c_queue_Fit]
            refine ⟨fun h => by omega, fun _ => ?_⟩
            rw [e5, e6]; rfl
        · have hi4 : i = calls.length := by omega
          subst hi4
          rw [List.take_length] at hs3
          rw [hs3, erase_not hs3]; rfl
      simp (disch := first | omega | assumption | exact ⟨by first | assumption | omega, by first | assumption | omega⟩ | (simp only [List.length_cons, List.length_nil]; omega)) only [↓S0, ↓ITE_bool, S1, eq_self, if_true, if_false, true_implies, false_implies, implies_true, ↓c_cast_Check, ↓c_cast_in, ↓c_msg_Value, ↓c_slices_Contains_int_int, ↓c_graft_Twin, ↓c_slices_Clone_api_Peer_api_Peer, ↓c_slices_Clone_api_Call_api_Call, ↓c_slices_Clone_api_Mark_api_Mark, ↓c_slices_Clone_api_Mark2_api_Mark2, ↓c_slices_Clone_int_int, ↓c_cast_near, ↓c_cast_Heed, ↓c_slices_Delete_api_Call_api_Call, ↓c_queue_Fit]
      cases hany : calls.any (isCall k cnt)
      · rw [endCall_miss (n := ⟨n.up, n.inc, n.peers, n.topics, calls, n.pubs, cnt, marks, n.taken⟩) hany] at hr
        rw [erase_not hany]
        simp (disch := first | omega | assumption | exact ⟨by first | assumption | omega, by first | assumption | omega⟩ | (simp only [List.length_cons, List.length_nil]; omega)) only [↓S0, ↓ITE_bool, S1, eq_self, if_true, if_false, true_implies, false_implies, implies_true, ↓c_cast_Check, ↓c_cast_in, ↓c_msg_Value, ↓c_slices_Contains_int_int, ↓c_graft_Twin, ↓c_slices_Clone_api_Peer_api_Peer, ↓c_slices_Clone_api_Call_api_Call, ↓c_slices_Clone_api_Mark_api_Mark, ↓c_slices_Clone_api_Mark2_api_Mark2, ↓c_slices_Clone_int_int, ↓c_cast_near, ↓c_cast_Heed, ↓c_slices_Delete_api_Call_api_Call, ↓c_queue_Fit]
        subst hr
        exact hQ
      · rw [endCall_true (n := ⟨n.up, n.inc, n.peers, n.topics, calls, n.pubs, cnt, marks, n.taken⟩) hany rfl hy] at hr
        simp (disch := first | omega | assumption | exact ⟨by first | assumption | omega, by first | assumption | omega⟩ | (simp only [List.length_cons, List.length_nil]; omega)) only [↓S0, ↓ITE_bool, S1, eq_self, if_true, if_false, true_implies, false_implies, implies_true, ↓c_cast_Check, ↓c_cast_in, ↓c_msg_Value, ↓c_slices_Contains_int_int, ↓c_graft_Twin, ↓c_slices_Clone_api_Peer_api_Peer, ↓c_slices_Clone_api_Call_api_Call, ↓c_slices_Clone_api_Mark_api_Mark, ↓c_slices_Clone_api_Mark2_api_Mark2, ↓c_slices_Clone_int_int, ↓c_cast_near, ↓c_cast_Heed, ↓c_slices_Delete_api_Call_api_Call, ↓c_queue_Fit, cell_L hy, ↓OP_set hy (j := 15) (v := L (fitE y.queue c.queue ⟨4, 0, 0, 0, 0, cnt⟩)) (y := { y with queue := fitE y.queue c.queue ⟨4, 0, 0, 0, 0, cnt⟩ }) rfl]
        rw [show evCall cnt (-1) = ⟨4, 0, 0, 0, 0, cnt⟩ from rfl] at hr
        subst hr
        refine ⟨fun h => by omega, fun _ => ?_⟩
        exact hQ
    · rw [if_neg (by rintro (h | h); exact ha0 h; simp at h)] at hr
      have hpos : 0 < a.length := List.length_pos_iff.2 ha0
      obtain ⟨j, hj⟩ : ∃ j, a.length = j + 1 := ⟨a.length - 1, by omega⟩
      have e1 : ((a.length : Int) - 1) = (j : Nat) := by omega
      obtain ⟨w, hw2⟩ := get_ex (xs := a) (i := j) (by omega)
      have e2 : a.take j = a.dropLast := by rw [List.dropLast_eq_take]; congr 1; omega
      have e3 : a.getLastD 0 = w := by
        rw [List.getLastD_eq_getLast?, List.getLast?_eq_getElem?, hj, Nat.add_sub_cancel, hw2]; rfl
      have e4 : (a.take j).length ≤ 1000000 := by simp; omega
      simp (disch := first | omega | assumption | exact ⟨by first | assumption | omega, by first | assumption | omega⟩ | (simp only [List.length_cons, List.length_nil]; omega)) only [↓S0, ↓ITE_bool, S1, eq_self, if_true, if_false, true_implies, false_implies, implies_true, ↓c_cast_Check, ↓c_cast_in, ↓c_msg_Value, ↓c_slices_Contains_int_int, ↓c_graft_Twin, ↓c_slices_Clone_api_Peer_api_Peer, ↓c_slices_Clone_api_Call_api_Call, ↓c_slices_Clone_api_Mark_api_Mark, ↓c_slices_Clone_api_Mark2_api_Mark2, ↓c_slices_Clone_int_int, ↓c_cast_near, ↓c_cast_Heed, ↓c_slices_Delete_api_Call_api_Call, ↓c_queue_Fit, ha0, e1, cell_L hw2, Int.toNat_natCast, ↓OP_rowMsg]
      rw [e3] at hr
      rw [e2]
      subst hr
      exact hQ
  · simp only [hsub, if_true] at hr
    unfold tellN at hr
    rw [if_pos rfl] at hr
    dsimp only at hr
    have e1 : ((n.taken ++ [(⟨s, n.inc, cnt, k, value⟩ : Mark2)]).length : Int) ≤ 101 := by simp; omega
    have e2 : (max (((n.taken ++ [(⟨s, n.inc, cnt, k, value⟩ : Mark2)]).length : Int) - 64) 0).toNat = (n.taken ++ [(⟨s, n.inc, cnt, k, value⟩ : Mark2)]).length - 64 := by omega
    have e3 : (lastN (n.taken ++ [(⟨s, n.inc, cnt, k, value⟩ : Mark2)]) 64).length ≤ 1000000 := by unfold lastN; simp; omega
    simp (disch := first | omega | assumption | exact ⟨by first | assumption | omega, by first | assumption | omega⟩ | (simp only [List.length_cons, List.length_nil]; omega)) only [↓S0, ↓ITE_bool, S1, eq_self, if_true, if_false, true_implies, false_implies, implies_true, ↓c_cast_Check, ↓c_cast_in, ↓c_msg_Value, ↓c_slices_Contains_int_int, ↓c_graft_Twin, ↓c_slices_Clone_api_Peer_api_Peer, ↓c_slices_Clone_api_Call_api_Call, ↓c_slices_Clone_api_Mark_api_Mark, ↓c_slices_Clone_api_Mark2_api_Mark2, ↓c_slices_Clone_int_int, ↓c_cast_near, ↓c_cast_Heed, ↓c_slices_Delete_api_Call_api_Call, ↓c_queue_Fit, cell_L hy, hsub]
    rw [e2]
    show CALL _ _ [L (lastN _ 64)] _ _
    simp (disch := first | omega | assumption | exact ⟨by first | assumption | omega, by first | assumption | omega⟩ | (simp only [List.length_cons, List.length_nil]; omega)) only [↓S0, ↓ITE_bool, S1, eq_self, if_true, if_false, true_implies, false_implies, implies_true, ↓c_cast_Check, ↓c_cast_in, ↓c_msg_Value, ↓c_slices_Contains_int_int, ↓c_graft_Twin, ↓c_slices_Clone_api_Peer_api_Peer, ↓c_slices_Clone_api_Call_api_Call, ↓c_slices_Clone_api_Mark_api_Mark, ↓c_slices_Clone_api_Mark2_api_Mark2, ↓c_slices_Clone_int_int, ↓c_cast_near, ↓c_cast_Heed, ↓c_slices_Delete_api_Call_api_Call, ↓c_queue_Fit]
    refine SUB.v3 (bb (calls.any (isCall k cnt))) (bb (!calls.any (isCall k cnt))) (L (calls.eraseP (isCall k cnt))) ?_ ?_
    · simp (disch := first | omega | assumption | exact ⟨by first | assumption | omega, by first | assumption | omega⟩ | (simp only [List.length_cons, List.length_nil]; omega)) only [↓S0, ↓ITE_bool, S1, eq_self, if_true, if_false, true_implies, false_implies, implies_true, ↓c_cast_Check, ↓c_cast_in, ↓c_msg_Value, ↓c_slices_Contains_int_int, ↓c_graft_Twin, ↓c_slices_Clone_api_Peer_api_Peer, ↓c_slices_Clone_api_Call_api_Call, ↓c_slices_Clone_api_Mark_api_Mark, ↓c_slices_Clone_api_Mark2_api_Mark2, ↓c_slices_Clone_int_int, ↓c_cast_near, ↓c_cast_Heed, ↓c_slices_Delete_api_Call_api_Call, ↓c_queue_Fit]
      refine LOOP.rule (α := Nat) (fun i => [I i]) (fun i => i ≤ calls.length ∧ (calls.take i).any (isCall k cnt) = false) (fun i => calls.length - i) 0 rfl ⟨by omega, by simp⟩ (fun _ => rfl) ?_
      rintro i ⟨hi3, hs3⟩
      simp only [app]
      simp (disch := first | omega | assumption | exact ⟨by first | assumption | omega, by first | assumption | omega⟩ | (simp only [List.length_cons, List.length_nil]; omega)) only [↓S0, ↓ITE_bool, S1, eq_self, if_true, if_false, true_implies, false_implies, implies_true, ↓c_cast_Check, ↓c_cast_in, ↓c_msg_Value, ↓c_slices_Contains_int_int, ↓c_graft_Twin, ↓c_slices_Clone_api_Peer_api_Peer, ↓c_slices_Clone_api_Call_api_Call, ↓c_slices_Clone_api_Mark_api_Mark, ↓c_slices_Clone_api_Mark2_api_Mark2, ↓c_slices_Clone_int_int, ↓c_cast_near, ↓c_cast_Heed, ↓c_slices_Delete_api_Call_api_Call, ↓c_queue_Fit]
      refine ⟨fun h => ?_, fun h => ⟨fun _ => ?_, fun h9 => absurd (show (-1 : Int) < 0 by omega) h9⟩⟩
      · obtain ⟨x, hx⟩ := get_ex h
        simp (disch := first | omega | assumption | exact ⟨by first | assumption | omega, by first | assumption | omega⟩ | (simp only [List.length_cons, List.length_nil]; omega)) only [↓S0, ↓ITE_bool, S1, eq_self, if_true, if_false, true_implies, false_implies, implies_true, ↓c_cast_Check, ↓c_cast_in, ↓c_msg_Value, ↓c_slices_Contains_int_int, ↓c_graft_Twin, ↓c_slices_Clone_api_Peer_api_Peer, ↓c_slices_Clone_api_Call_api_Call, ↓c_slices_Clone_api_Mark_api_Mark, ↓c_slices_Clone_api_Mark2_api_Mark2, ↓c_slices_Clone_int_int, ↓c_cast_near, ↓c_cast_Heed, ↓c_slices_Delete_api_Call_api_Call, ↓c_queue_Fit, cell_L hx]
        refine SUB.v1 (bb (isCall k cnt x)) ?_ ?_
        · unfold isCall; repeat' (first | apply And.intro | intro _ | simp (disch := first | omega | assumption | exact ⟨by first | assumption | omega, by first | assumption | omega⟩ | (simp only [List.length_cons, List.length_nil]; omega)) only [↓S0, ↓ITE_bool, S1, eq_self, if_true, if_false, true_implies, false_implies, implies_true, ↓c_cast_Check, ↓c_cast_in, ↓c_msg_Value, ↓c_slices_Contains_int_int, ↓c_graft_Twin, ↓c_slices_Clone_api_Peer_api_Peer, ↓c_slices_Clone_api_Call_api_Call, ↓c_slices_Clone_api_Mark_api_Mark, ↓c_slices_Clone_api_Mark2_api_Mark2, ↓c_slices_Clone_int_int, ↓c_cast_near, ↓c_cast_Heed, ↓c_slices_Delete_api_Call_api_Call, ↓c_queue_Fit])
          all_goals simp [*]
        cases hcx : isCall k cnt x
        · simp (disch := first | omega | assumption | exact ⟨by first | assumption | omega, by first | assumption | omega⟩ | (simp only [List.length_cons, List.length_nil]; omega)) only [↓S0, ↓ITE_bool, S1, eq_self, if_true, if_false, true_implies, false_implies, implies_true, ↓c_cast_Check, ↓c_cast_in, ↓c_msg_Value, ↓c_slices_Contains_int_int, ↓c_graft_Twin, ↓c_slices_Clone_api_Peer_api_Peer, ↓c_slices_Clone_api_Call_api_Call, ↓c_slices_Clone_api_Mark_api_Mark, ↓c_slices_Clone_api_Mark2_api_Mark2, ↓c_slices_Clone_int_int, ↓c_cast_near, ↓c_cast_Heed, ↓c_slices_Delete_api_Call_api_Call, ↓c_queue_Fit]
          exact ⟨i + 1, rfl, ⟨by omega, any_take hs3 hx hcx⟩, by omega⟩
        · have hpre : (0 : Int) ≤ (i : Int) ∧ (i : Int) ≤ (i : Int) + 1 ∧ (i : Int) + 1 ≤ calls.length ∧ calls.length < 4611686018427387904 := ⟨by omega, by omega, by omega, by omega⟩
          obtain ⟨e5, e6⟩ := erase_cut hs3 hx hcx
          simp (disch := first | omega | assumption | exact ⟨by first | assumption | omega, by first | assumption | omega⟩ | (simp only [List.length_cons, List.length_nil]; omega)) only [↓S0, ↓ITE_bool, S1, eq_self, if_true, if_false, true_implies, false_implies, implies_true, ↓c_cast_Check, ↓c_cast_in, ↓c_msg_Value, ↓c_slices_Contains_int_int, ↓c_graft_Twin, ↓c_slices_Clone_api_Peer_api_Peer, ↓c_slices_Clone_api_Call_api_Call, ↓c_slices_Clone_api_Mark_api_Mark, ↓c_slices_Clone_api_Mark2_api_Mark2, ↓c_slices_Clone_int_int, ↓c_cast_near, ↓c_cast_Heed, ↓c_slices_Delete_api_Call_api_Call, ↓c_queue_Fit]
          refine ⟨fun h => by omega, fun _ => ?_⟩
          rw [e5, e6]; rfl
      · have hi4 : i = calls.length := by omega
        subst hi4
        rw [List.take_length] at hs3
        rw [hs3, erase_not hs3]; rfl
    simp (disch := first | omega | assumption | exact ⟨by first | assumption | omega, by first | assumption | omega⟩ | (simp only [List.length_cons, List.length_nil]; omega)) only [↓S0, ↓ITE_bool, S1, eq_self, if_true, if_false, true_implies, false_implies, implies_true, ↓c_cast_Check, ↓c_cast_in, ↓c_msg_Value, ↓c_slices_Contains_int_int, ↓c_graft_Twin, ↓c_slices_Clone_api_Peer_api_Peer, ↓c_slices_Clone_api_Call_api_Call, ↓c_slices_Clone_api_Mark_api_Mark, ↓c_slices_Clone_api_Mark2_api_Mark2, ↓c_slices_Clone_int_int, ↓c_cast_near, ↓c_cast_Heed, ↓c_slices_Delete_api_Call_api_Call, ↓c_queue_Fit]
    cases hany : calls.any (isCall k cnt)
    · rw [endCall_miss (n := ⟨n.up, n.inc, n.peers, n.topics, calls, n.pubs, cnt, marks, lastN (n.taken ++ [(⟨s, n.inc, cnt, k, value⟩ : Mark2)]) 64⟩) hany] at hr
      rw [erase_not hany]
      simp (disch := first | omega | assumption | exact ⟨by first | assumption | omega, by first | assumption | omega⟩ | (simp only [List.length_cons, List.length_nil]; omega)) only [↓S0, ↓ITE_bool, S1, eq_self, if_true, if_false, true_implies, false_implies, implies_true, ↓c_cast_Check, ↓c_cast_in, ↓c_msg_Value, ↓c_slices_Contains_int_int, ↓c_graft_Twin, ↓c_slices_Clone_api_Peer_api_Peer, ↓c_slices_Clone_api_Call_api_Call, ↓c_slices_Clone_api_Mark_api_Mark, ↓c_slices_Clone_api_Mark2_api_Mark2, ↓c_slices_Clone_int_int, ↓c_cast_near, ↓c_cast_Heed, ↓c_slices_Delete_api_Call_api_Call, ↓c_queue_Fit]
      subst hr
      exact hQ
    · rw [endCall_true (n := ⟨n.up, n.inc, n.peers, n.topics, calls, n.pubs, cnt, marks, lastN (n.taken ++ [(⟨s, n.inc, cnt, k, value⟩ : Mark2)]) 64⟩) hany rfl hy] at hr
      simp (disch := first | omega | assumption | exact ⟨by first | assumption | omega, by first | assumption | omega⟩ | (simp only [List.length_cons, List.length_nil]; omega)) only [↓S0, ↓ITE_bool, S1, eq_self, if_true, if_false, true_implies, false_implies, implies_true, ↓c_cast_Check, ↓c_cast_in, ↓c_msg_Value, ↓c_slices_Contains_int_int, ↓c_graft_Twin, ↓c_slices_Clone_api_Peer_api_Peer, ↓c_slices_Clone_api_Call_api_Call, ↓c_slices_Clone_api_Mark_api_Mark, ↓c_slices_Clone_api_Mark2_api_Mark2, ↓c_slices_Clone_int_int, ↓c_cast_near, ↓c_cast_Heed, ↓c_slices_Delete_api_Call_api_Call, ↓c_queue_Fit, cell_L hy, ↓OP_set hy (j := 15) (v := L (fitE y.queue c.queue ⟨3, 0, 0, 0, s, cnt⟩)) (y := { y with queue := fitE y.queue c.queue ⟨3, 0, 0, 0, s, cnt⟩ }) rfl]
      rw [show evCall cnt s = ⟨3, 0, 0, 0, s, cnt⟩ from if_pos hs.1] at hr
      subst hr
      refine ⟨fun _ => ?_, fun h => by omega⟩
      exact hQ
end Go.Xt
end
section
set_option linter.unusedSimpArgs false
set_option linter.unusedVariables false
set_option maxRecDepth 100000
namespace Go.Xt
/-! ### queues stay right -/
theorem queueOk_iff {l : List Event} {limit : Int} : queueOk l limit = true ↔ rng limit 2 32 = true ∧ (l.length : Int) ≤ limit ∧ l.all evOk = true ∧ ((l.length : Int) < limit ∨ lastGap l = true) := by
  simp only [queueOk, Bool.and_eq_true, Bool.or_eq_true, decide_eq_true_eq, and_assoc]
theorem gap_ok {x : Event} (h : evOk x = true) (hs : ofStream x = true) : evOk (gapE x) = true ∧ (gapE x).kind = 2 ∧ (gapE x).seq ≤ (gapE x).last ∧ (gapE x).last ≤ 1073741824 ∧ 1 ≤ (gapE x).seq := by
  simp only [ofStream, Bool.or_eq_true, decide_eq_true_eq] at hs
  unfold evOk at h
  unfold gapE
  by_cases h1 : x.kind = 1
  · rw [if_pos h1] at h ⊢
    simp only [Bool.and_eq_true, decide_eq_true_eq, cnt, rng] at h
    obtain ⟨⟨⟨⟨h2, h3⟩, _⟩, _⟩, _⟩ := h
    simp [evOk, h2, cnt, rng, h3]
  · have h2 : x.kind = 2 := by omega
    rw [if_neg h1, if_pos h2] at h
    rw [if_neg h1, if_pos h2]
    refine ⟨by unfold evOk; rw [if_neg h1, if_pos h2]; exact h, h2, ?_⟩
    simp only [Bool.and_eq_true, decide_eq_true_eq, cnt, rng] at h
    omega
theorem lastGap_app {l : List Event} {x : Event} (h : x.kind = 2) : lastGap (l ++ [x]) = true := by simp [lastGap, h]
theorem put_ok {l : List Event} {limit : Int} {x : Event} (h : (putE l limit x).2 = 0) : queueOk (putE l limit x).1 limit = true := by
  unfold putE at h ⊢
  split at h
  · rename_i h0
    rw [if_pos h0]
    rw [Bool.and_eq_true] at h0
    obtain ⟨hr, hl, ha, hg⟩ := queueOk_iff.1 h0.1
    have hrb := rng_bd hr
    split at h
    · rename_i h1
      rw [if_pos h1]
      refine queueOk_iff.2 ⟨hr, by simp; omega, by simp only [List.all_append, ha, List.all_cons, List.all_nil, h0.2, Bool.and_self], .inl (by simp; omega)⟩
    · rename_i h1
      rw [if_neg h1]
      split at h
      · rename_i h2
        rw [if_pos h2]
        obtain ⟨g1, g2, g3, g4, g5⟩ := gap_ok h0.2 h2
        split at h
        · rename_i h3
          rw [if_pos h3]
          refine queueOk_iff.2 ⟨hr, by simp; omega, by simp only [List.all_append, ha, List.all_cons, List.all_nil, g1, Bool.and_self], .inr (lastGap_app g2)⟩
        · rename_i h3
          rw [if_neg h3]
          split at h
          · rename_i h4
            rw [if_pos h4]
            have hlen : (l.length : Int) = limit := by omega
            obtain ⟨j, hj⟩ : ∃ j, l.length = j + 1 := ⟨l.length - 1, by omega⟩
            have e1 : (limit - 1).toNat = j := by omega
            rw [e1] at h4 ⊢
            have hjl : j < l.length := by omega
            have hy : l.getD j event0 = l[j] := by simp [List.getD_eq_getElem?_getD, hjl]
            rw [hy] at h4 ⊢
            have hlg : lastGap l = true := by rcases hg with hg | hg; omega; exact hg
            have hk : l[j].kind = 2 := by
              have : l.getLast? = some l[j] := by rw [List.getLast?_eq_getElem?, hj, Nat.add_sub_cancel]; simp [hjl]
              simp only [lastGap, this, decide_eq_true_eq] at hlg; exact hlg
            rw [List.all_eq_true] at ha
            have hev := ha l[j] (List.getElem_mem hjl)
            unfold evOk at hev
            rw [if_neg (by omega), if_pos hk] at hev
            simp only [Bool.and_eq_true, decide_eq_true_eq, cnt, rng] at hev
            have hw : IntKind.i64.wrap (l[j].last + 1) = l[j].last + 1 := wr (by omega) (by omega)
            rw [hw] at h4
            have hnew : evOk { l[j] with last := (gapE x).last } = true := by
              unfold evOk
              rw [if_neg (by show ¬ l[j].kind = 1; omega), if_pos hk]
              simp only [Bool.and_eq_true, decide_eq_true_eq, cnt, rng]
              obtain ⟨⟨⟨⟨d1, d2⟩, d3⟩, d4⟩, d5⟩ := hev
              exact ⟨⟨⟨⟨d1, d2⟩, by omega, by omega⟩, d4⟩, d5⟩
            refine queueOk_iff.2 ⟨hr, by simpa using hl, ?_, .inr ?_⟩
            · rw [List.all_eq_true]
              intro y hy
              rcases List.mem_or_eq_of_mem_set hy with hy | hy
              · exact ha y hy
              · rw [hy]; exact hnew
            · have : (l.set j { l[j] with last := (gapE x).last }).getLast? = some { l[j] with last := (gapE x).last } := by
                rw [List.getLast?_eq_getElem?, List.length_set, hj, Nat.add_sub_cancel]; simp [hjl]
              unfold lastGap; rw [this]; exact decide_eq_true hk
          · omega
      · omega
  · omega
theorem fit_ok {l : List Event} {limit : Int} {x : Event} (h : queueOk l limit = true) : queueOk (fitE l limit x) limit = true := by
  unfold fitE
  split
  · rename_i h0; exact put_ok h0
  · exact h
theorem topic_queue {c : Config} {t self : Int} {x : Topic} {q : List Event} (h : topicOk c t self x = true) (hq : queueOk q c.queue = true) : topicOk c t self { x with queue := q } = true := by
  simp only [topicOk, flowOk, Bool.and_eq_true] at h ⊢
  exact ⟨h.1, h.2.1, hq⟩
theorem topic_q {c : Config} {t self : Int} {x : Topic} (h : topicOk c t self x = true) : queueOk x.queue c.queue = true := by
  simp only [topicOk, flowOk, Bool.and_eq_true] at h; exact h.2.2
theorem putQ_ok {c : Config} {self : Int} {l : List Topic} {t : Int} {x : Event} (h : topicsGo c self 0 l = true) (h0 : 0 ≤ t) (h1 : t < l.length) : topicsGo c self 0 (putQ c l t x) = true ∧ (putQ c l t x).length = l.length := by
  obtain ⟨k, rfl⟩ := Int.eq_ofNat_of_zero_le h0
  obtain ⟨y, hy⟩ := get_ex h1
  have hgd : l.getD k topic0 = y := by simp [List.getD_eq_getElem?_getD, hy]
  unfold putQ
  rw [Int.toNat_natCast, hgd]
  refine ⟨tops_set h ?_, by simp⟩
  have := tops_get h hy
  exact topic_queue this (fit_ok (topic_q this))
/-! ### calls -/
theorem calls_mono {c : Config} {a b : Int} : ∀ {l : List Call} {p q : Int}, callsGo c a p l = true → a ≤ b → q ≤ p → callsGo c b q l = true
  | [], _, _, _, _, _ => rfl
  | x :: r, p, q, h, hab, hqp => by
    simp only [callsGo, Bool.and_eq_true, decide_eq_true_eq] at h ⊢
    obtain ⟨⟨⟨⟨h1, h2⟩, h3⟩, h4⟩, h5⟩ := h
    exact ⟨⟨⟨⟨by omega, by omega⟩, h3⟩, h4⟩, calls_mono h5 hab (Int.le_refl _)⟩
theorem calls_len {c : Config} {a : Int} : ∀ {l : List Call} {p : Int}, p ≤ a → callsGo c a p l = true → (l.length : Int) ≤ a - p
  | [], p, h0, _ => by simp; omega
  | x :: r, p, h0, h => by
    simp only [callsGo, Bool.and_eq_true, decide_eq_true_eq] at h
    have := calls_len (by omega) h.2
    simp only [List.length_cons]; omega
theorem calls_erase {c : Config} {a : Int} {f : Call → Bool} : ∀ {l : List Call} {p : Int}, callsGo c a p l = true → callsGo c a p (l.eraseP f) = true
  | [], _, _ => rfl
  | x :: r, p, h => by
    have h' := h
    simp only [callsGo, Bool.and_eq_true, decide_eq_true_eq] at h
    rw [List.eraseP_cons]
    cases f x
    · simp only [cond_false]
      simp only [callsGo, Bool.and_eq_true, decide_eq_true_eq]
      exact ⟨h.1, calls_erase h.2⟩
    · exact calls_mono h.2 (Int.le_refl _) (by omega)
theorem calls_app {c : Config} {a b t : Int} : ∀ {l : List Call} {p : Int}, p ≤ a → callsGo c a p l = true → a < b → rng t 0 (c.topics - 1) = true → callsGo c b p (l ++ [⟨b, t, 0⟩]) = true
  | [], p, h0, _, hab, ht => by
    simp only [List.nil_append, callsGo, Bool.and_eq_true, decide_eq_true_eq]
    exact ⟨⟨⟨⟨by omega, by omega⟩, ht⟩, by unfold rng; simp⟩, trivial⟩
  | x :: r, p, h0, h, hab, ht => by
    simp only [callsGo, Bool.and_eq_true, decide_eq_true_eq] at h
    simp only [List.cons_append, callsGo, Bool.and_eq_true, decide_eq_true_eq]
    obtain ⟨⟨⟨⟨h1, h2⟩, h3⟩, h4⟩, h5⟩ := h
    exact ⟨⟨⟨⟨by omega, by omega⟩, h3⟩, h4⟩, calls_app (by omega) h5 hab ht⟩
theorem endCall_ok {c : Config} {self : Int} {n : Node} {t count who : Int} (H : NOk c self n) (ht : rng t 0 (c.topics - 1) = true) :
    NOk c self (endCall c n t count who) ∧ (endCall c n t count who).asks = n.asks ∧ (endCall c n t count who).inc = n.inc ∧ (endCall c n t count who).up = n.up := by
  unfold endCall
  split
  · have hb := rng_bd ht
    have htl := H.tl
    obtain ⟨h1, h2⟩ := putQ_ok (x := evCall count who) (t := t) H.tops hb.1 (by omega)
    refine ⟨⟨H.inc, H.pubs, H.asks, calls_erase H.calls, ?_, H.pl, by rw [← H.tl]; exact congrArg _ h2, H.ml, H.kl, h1, H.peers, H.marks, H.taken⟩, rfl, rfl, rfl⟩
    have := List.length_eraseP_le (p := isCall t count) (l := n.calls)
    have := H.cl
    show (n.calls.eraseP _).length ≤ 40
    omega
  · exact ⟨H, rfl, rfl, rfl⟩
/-! ### marks -/
theorem met_lt {m b : Int} (h0 : 0 ≤ m) (h1 : m ≤ 2199023255551) (h2 : 0 ≤ b) (h3 : b ≤ 40) (h : m / 2 ^ b.toNat % 2 = 0) : 0 ≤ m + 2 ^ b.toNat ∧ m + 2 ^ b.toNat ≤ 2199023255551 := by
  obtain ⟨m, rfl⟩ := Int.eq_ofNat_of_zero_le h0
  obtain ⟨d, rfl⟩ := Int.eq_ofNat_of_zero_le h2
  simp only [Int.toNat_natCast] at h ⊢
  have e0 : ((2 : Int) ^ d) = ((2 ^ d : Nat) : Int) := (Int.natCast_pow 2 d).symm
  rw [e0] at h ⊢
  have h4 : m / 2 ^ d % 2 = 0 := by
    have : ((m / 2 ^ d % 2 : Nat) : Int) = 0 := by rw [Int.natCast_emod, Int.natCast_ediv]; exact h
    omega
  have h5 : 2 ^ d < 2199023255552 := Nat.pow_lt_pow_right (a := 2) (n := 41) (by decide) (by omega)
  have h6 : m ||| 2 ^ d < 2 ^ 41 := Nat.or_lt_two_pow (by omega) (by omega)
  rw [or_pow h4] at h6
  generalize 2 ^ d = P at h6 ⊢
  omega
theorem meet_ok {l : List Mark} {o inc count : Int} (h : l.all markOk = true) (hi : cnt inc = true) (h0 : 0 ≤ count) (h1 : count ≤ 40) : (meetL l o inc count).all markOk = true ∧ (meetL l o inc count).length = l.length := by
  unfold meetL
  split
  · rename_i hm
    refine ⟨?_, by simp⟩
    simp only [meets, Bool.and_eq_true, Bool.not_eq_true'] at hm
    have hmk : markOk (l.getD o.toNat mark0) = true := by
      rw [List.getD_eq_getElem?_getD]
      cases hx : l[o.toNat]? with
      | none => rfl
      | some x => exact (List.all_eq_true.1 h) x (List.mem_of_getElem? hx)
    generalize l.getD o.toNat mark0 = y at hm hmk ⊢
    have hnw : markOk (newer y inc) = true := by
      unfold newer; split
      · simp only [cnt] at hi
        have := rng_bd hi
        simp [markOk, rng]; omega
      · exact hmk
    generalize newer y inc = z at hm hnw ⊢
    simp only [markOk, Bool.and_eq_true] at hnw
    have hb := rng_bd hnw.2
    have hz : z.met / 2 ^ count.toNat % 2 = 0 := by
      have := hm.2
      simp only [metYet, decide_eq_false_iff_not] at this
      omega
    have := met_lt hb.1 hb.2 h0 h1 hz
    rw [List.all_eq_true]
    intro x hx
    rcases List.mem_or_eq_of_mem_set hx with hx | hx
    · exact (List.all_eq_true.1 h) x hx
    · rw [hx]
      simp only [markOk, Bool.and_eq_true]
      exact ⟨hnw.1, by unfold rng; simp; omega⟩
  · exact ⟨h, rfl⟩
end Go.Xt
end
section
set_option linter.unusedSimpArgs false
set_option linter.unusedVariables false
set_option maxRecDepth 100000
namespace Go.Xt
/-! ### a visit keeps a node right -/
structure VOk (c : Config) (x : Msg) : Prop where
  t : rng x.topic 0 (c.topics - 1) = true
  o : rng x.node 0 (c.nodes - 1) = true
  i : cnt x.inc = true
  k : rng x.count 1 40 = true
  v : val x.value = true
theorem tell_ok {c : Config} {self : Int} {n : Node} {x : Msg} {who : Int} (H : NOk c self n) (ht : rng x.topic 0 (c.topics - 1) = true) :
    NOk c self (tellN c self n x who).1 ∧ (tellN c self n x who).1.asks = n.asks ∧ (tellN c self n x who).1.inc = n.inc ∧ (tellN c self n x who).1.up = n.up := by
  unfold tellN
  split
  · exact endCall_ok H ht
  · exact ⟨H, rfl, rfl, rfl⟩
theorem lastN_len {α : Type} {l : List α} {k : Nat} : (lastN l k).length ≤ k := by unfold lastN; simp; omega
theorem lastN_mem {α : Type} {l : List α} {k : Nat} {x : α} (h : x ∈ lastN l k) : x ∈ l := List.mem_of_mem_drop h
theorem visit_ok {c : Config} {self : Int} {n : Node} {x : Msg} (H : NOk c self n) (V : VOk c x) :
    NOk c self (visitN c self n x).1 ∧ (visitN c self n x).1.asks = n.asks ∧ (visitN c self n x).1.inc = n.inc ∧ (visitN c self n x).1.up = n.up := by
  unfold visitN
  split
  · refine tell_ok (n := { n with taken := _ }) ⟨H.inc, H.pubs, H.asks, H.calls, H.cl, H.pl, H.tl, H.ml, lastN_len, H.tops, H.peers, H.marks, ?_⟩ V.t
    rw [List.all_eq_true]
    intro y hy
    have := lastN_mem hy
    rw [List.mem_append, List.mem_singleton] at this
    rcases this with h | h
    · exact (List.all_eq_true.1 H.taken) y h
    · subst h
      have hk := rng_bd V.k
      simp only [takenOk, Bool.and_eq_true]
      exact ⟨⟨⟨⟨V.o, V.t⟩, V.i⟩, by unfold cnt rng; simp; omega⟩, V.v⟩
  · unfold goN
    split
    · exact tell_ok H V.t
    · exact ⟨H, rfl, rfl, rfl⟩
theorem begin_law {c : Config} {self : Int} {n : Node} {t value : Int} (hw : nodeWhy c self n = 0) (ht : rng t 0 (c.topics - 1) = true) (hv : val value = true) (ha : n.asks < 40) {q : Node × List Msg × Int × Int} (hE : beginN c self n t value = q) :
    q.2.2.2 = 0 ∧ q.2.2.1 = n.asks + 1 ∧ q.1.asks = n.asks + 1 ∧ nodeWhy c self q.1 = 0 ∧ q.1.inc = n.inc ∧
    ((q.2.1 = [] ∧ q.1.calls.length = n.calls.length) ∨ ∃ m, q.2.1 = [m] ∧ m.kind = 11 ∧ m.node = self ∧ m.inc = n.inc ∧ m.count = n.asks + 1 ∧ m.hops = 1 ∧ q.1.calls.length = n.calls.length + 1) := by
  obtain ⟨hc, hs, hu, H⟩ := why_zero hw
  have hab := rng_bd H.asks
  unfold beginN at hE
  rw [if_pos hw, if_pos (by rw [ht, hv]; rfl), if_pos ha] at hE
  dsimp only at hE
  have hlen := calls_len hab.1 H.calls
  have hcalls := calls_app (t := t) (b := n.asks + 1) hab.1 H.calls (by omega) ht
  have hmk := meet_ok (o := self) (count := n.asks + 1) H.marks H.inc (by omega) (by omega)
  have H1 : NOk c self { n with asks := n.asks + 1, calls := n.calls ++ [⟨n.asks + 1, t, 0⟩], marks := meetL n.marks self n.inc (n.asks + 1) } :=
    ⟨H.inc, H.pubs, by unfold rng; simp; omega, hcalls, by simp; omega, H.pl, H.tl, by rw [← H.ml]; exact congrArg _ hmk.2, H.kl, H.tops, H.peers, hmk.1, H.taken⟩
  have V : VOk c { msg0 with topic := t, node := self, inc := n.inc, count := n.asks + 1, value := value } :=
    ⟨ht, hs, H.inc, by unfold rng; simp; omega, hv⟩
  obtain ⟨v1, v2, v3, v4⟩ := visit_ok H1 V
  subst hE
  refine ⟨rfl, rfl, v2, why_of hc hs (by rw [v4]; exact hu) v1, v3, ?_⟩
  have hany : (n.calls ++ [(⟨n.asks + 1, t, 0⟩ : Call)]).any (isCall t (n.asks + 1)) = true := by simp [isCall]
  have hend : ∀ (m : Node) (who : Int), m.calls = n.calls ++ [(⟨n.asks + 1, t, 0⟩ : Call)] → (endCall c m t (n.asks + 1) who).calls.length = n.calls.length := by
    intro m who hm
    unfold endCall
    rw [if_pos (by rw [hm]; exact hany)]
    show (m.calls.eraseP _).length = _
    rw [hm]
    obtain ⟨a, h1, h2⟩ := List.any_eq_true.1 hany
    rw [List.length_eraseP_of_mem h1 h2]; simp
  have htell : ∀ (m : Node) (who : Int), m.calls = n.calls ++ [(⟨n.asks + 1, t, 0⟩ : Call)] → (tellN c self m { msg0 with topic := t, node := self, inc := n.inc, count := n.asks + 1, value := value } who).2 = [] ∧ (tellN c self m { msg0 with topic := t, node := self, inc := n.inc, count := n.asks + 1, value := value } who).1.calls.length = n.calls.length := by
    intro m who hm
    unfold tellN
    rw [if_pos rfl]
    exact ⟨rfl, hend m who hm⟩
  unfold visitN
  split
  · exact .inl (htell _ _ rfl)
  · unfold goN
    split
    · exact .inl (htell _ _ rfl)
    · exact .inr ⟨_, rfl, rfl, rfl, rfl, rfl, rfl, by simp⟩
/-! ### it wakes -/
def wN0 : Node := ⟨true, 1, List.replicate 8 ⟨0, 0⟩, List.replicate 4 topic0, [], 0, 0, List.replicate 8 ⟨0, 0, 0⟩, []⟩
def wN1 : Node := { wN0 with topics := wN0.topics.set 2 { topic0 with made := true, sub := true } }
def wB0 := beginN fullC 3 wN0 2 7
def wB1 := beginN fullC 3 wN1 2 7
theorem wk1 : wB1.2.2.2 = 0 ∧ wB1.2.2.1 = 1 ∧ wB1.2.1 = [] ∧ wB1.1.topics.length = 4 ∧ (topAt wB1.1 2).queue = [⟨3, 0, 0, 0, 3, 1⟩] ∧ wB1.1.taken.length = 1 := by decide +kernel
theorem wk0 : wB0.2.2.2 = 0 ∧ wB0.1.topics.length = 4 ∧ (topAt wB0.1 2).queue = [⟨4, 0, 0, 0, 0, 1⟩] := by decide +kernel
theorem wk2 : nodeWhy fullC 3 wN1 = 0 ∧ nodeWhy fullC 3 node0 = 9 := by decide +kernel
end Go.Xt
end
section
set_option linter.unusedSimpArgs false
set_option linter.unusedVariables false
set_option maxRecDepth 100000
namespace Go.Xt
theorem cell2 {xs : List Topic} (h : xs.length = 4) (j : Nat) : (L xs).cellAt (I 2) j = look (Row.row (xs.getD 2 topic0)) j := by
  have h2 : xs[2]? = some (xs.getD 2 topic0) := by
    have : 2 < xs.length := by omega
    simp [List.getD_eq_getElem?_getD, this]
  exact cell_L (i := 2) h2
theorem cellq {x : Event} (j : Nat) : (L [x]).cellAt (I 0) j = look (Row.row x) j := cell_L (i := 0) rfl
theorem w_law21_wakes  : S_law21_wakes ρ  (· = [bb true]) := by
  unfold S_law21_wakes
  have e8 : (8 : Int).toNat = 8 := rfl
  have e4 : (4 : Int).toNat = 4 := rfl
  simp (disch := first | omega | assumption | exact ⟨by first | assumption | omega, by first | assumption | omega⟩ | (simp only [List.length_cons, List.length_nil]; omega)) only [↓S0, ↓ITE_bool, S1, eq_self, if_true, if_false, true_implies, false_implies, implies_true, ↓c_cast_Begin, ↓c_cast_Check, ↓c_law19_Full]
  refine SUB.v3 (L wN0.marks) (L wN0.topics) (L wN0.peers) ?_ ?_
  · simp (disch := first | omega | assumption | exact ⟨by first | assumption | omega, by first | assumption | omega⟩ | (simp only [List.length_cons, List.length_nil]; omega)) only [↓S0, ↓ITE_bool, S1, eq_self, if_true, if_false, true_implies, false_implies, implies_true, ↓c_cast_Begin, ↓c_cast_Check, ↓c_law19_Full, e8, e4]
    exact ⟨⟨rfl, rfl⟩, ⟨rfl, rfl⟩, rfl, rfl⟩
  have h2 : wN0.topics[2]? = some topic0 := rfl
  have h2' : (wN0.topics.set 2 { topic0 with made := true })[2]? = some { topic0 with made := true } := rfl
  refine SUB.v1 (L wN1.topics) ?_ ?_
  · rw [show (I 2 : PV) = PV.int .i64 ((2 : Nat) : Int) from rfl, OP_idx (by decide) (by decide), OP_set h2 (y := { topic0 with made := true }) rfl, OP_idx (by decide) (by decide), OP_set h2' (y := { topic0 with made := true, sub := true }) rfl]
    rfl
  have c1 : ∀ k, CALL ρ 10 [I 8, I 4, I 2, I 8, I 8, I 8, I 16, I 3, bb true, I 1, L wN0.peers, L wN1.topics, L (α := Call) [], I 0, I 0, L wN0.marks, L (α := Mark2) [], I 2, I 7] 12 k = k (bb wB1.1.up) (I wB1.1.inc) (L wB1.1.peers) (L wB1.1.topics) (L wB1.1.calls) (I wB1.1.pubs) (I wB1.1.asks) (L wB1.1.marks) (L wB1.1.taken) (L wB1.2.1) (I wB1.2.2.1) (I wB1.2.2.2) :=
    fun k => c_cast_Begin (k_ := k)
  have c0 : ∀ k, CALL ρ 10 [I 8, I 4, I 2, I 8, I 8, I 8, I 16, I 3, bb true, I 1, L wN0.peers, L wN0.topics, L (α := Call) [], I 0, I 0, L wN0.marks, L (α := Mark2) [], I 2, I 7] 12 k = k (bb wB0.1.up) (I wB0.1.inc) (L wB0.1.peers) (L wB0.1.topics) (L wB0.1.calls) (I wB0.1.pubs) (I wB0.1.asks) (L wB0.1.marks) (L wB0.1.taken) (L wB0.2.1) (I wB0.2.2.1) (I wB0.2.2.2) :=
    fun k => c_cast_Begin (k_ := k)
  rw [c1]
  refine Or.inl ⟨[L wN0.peers, L wN0.topics, L wN0.marks, bb wB0.1.up, I wB0.1.inc, L wB0.1.peers, L wB0.1.topics, L wB0.1.calls, I wB0.1.pubs, I wB0.1.asks, L wB0.1.marks, L wB0.1.taken, L wB0.2.1, I wB0.2.2.1, I wB0.2.2.2, L wB0.2.1, I wB0.2.2.1, I wB0.2.2.2, bb wB0.1.up, I wB0.1.inc, L wB0.1.peers, L wB0.1.topics, L wB0.1.calls, I wB0.1.pubs, I wB0.1.asks, L wB0.1.marks, L wB0.1.taken, L wN0.peers, L wN0.topics, L wN0.marks], rfl, ?_, ?_⟩
  · have f1 : (List.replicate 8 (⟨0, 0⟩ : Peer)) = wN0.peers := rfl
    have f2 : (List.replicate 4 topic0) = wN0.topics := rfl
    have f3 : (List.replicate 8 (⟨0, 0, 0⟩ : Mark)) = wN0.marks := rfl
    simp (disch := omega) only [OP_replPeer, OP_replTopic, OP_replMark, e8, e4, f1, f2, f3, c0, and_self]
    rfl
  simp only [app]
  obtain ⟨g1, g2, g3, g4, g5, g6⟩ := wk1
  obtain ⟨j1, j2, j3⟩ := wk0
  obtain ⟨l1, l2⟩ := wk2
  have g4' : (wB1.1.topics.length : Int) = 4 := by rw [g4]; rfl
  have j2' : (wB0.1.topics.length : Int) = 4 := by rw [j2]; rfl
  have g7 : wB1.1.topics.getD 2 topic0 = topAt wB1.1 2 := rfl
  have j7 : wB0.1.topics.getD 2 topic0 = topAt wB0.1 2 := rfl
  have g6' : (wB1.1.taken.length : Int) = 1 := by rw [g6]; rfl
  have m1 : nodeWhy (⟨8, 4, 2, 8, 8, 8, 16⟩ : Config) 3 (⟨true, 1, wN0.peers, wN1.topics, [], 0, 0, wN0.marks, []⟩ : Node) = 0 := l1
  have m2 : nodeWhy (⟨8, 4, 2, 8, 8, 8, 16⟩ : Config) 3 (⟨false, 0, [], [], [], 0, 0, [], []⟩ : Node) = 9 := l2
  rw [g1, g2, g3, j1]
  simp (disch := first | omega | assumption | exact ⟨by first | assumption | omega, by first | assumption | omega⟩ | (simp only [List.length_cons, List.length_nil]; omega)) only [↓S0, ↓ITE_bool, S1, eq_self, if_true, if_false, true_implies, false_implies, implies_true, ↓c_cast_Begin, ↓c_cast_Check, ↓c_law19_Full, cell2 g4, cell2 j2, g7, j7, g5, j3, g4', j2', g6', cellq]
  simp [m1, m2]
end Go.Xt
end
section
set_option linter.unusedSimpArgs false
set_option linter.unusedVariables false
set_option maxRecDepth 100000
namespace Go.Xt
theorem w_msg_ends (m : Msg) : S_msg_ends ρ (I m.kind) (I m.frm) (I m.fromInc) (I m.to) (I m.toInc) (I m.topic) (I m.epoch) (I m.seq) (I m.last) (I m.value) (I m.node) (I m.inc) (I m.count) (I m.hops) (L m.path) (L m.todo) (· = [bb (endsOk m)]) := by
  unfold S_msg_ends endsOk
  simp (disch := first | omega | assumption | exact ⟨by first | assumption | omega, by first | assumption | omega⟩ | (simp only [List.length_cons, List.length_nil]; omega)) only [↓S0, ITE_R, ITE_eq, ite_c, ite_bb, ite_I, ite_L, ite_L0, ite_0L, ite_self, SUB_r1, SUB_r2, SUB_r3, S1, eq_self, if_true, if_false, true_implies, false_implies, implies_true, ↓c_msg_Counted, ↓c_ring_Is]
  cases isN m.frm <;> cases isN m.to <;> simp
theorem w_msg_place (m : Msg) : S_msg_place ρ (I m.kind) (I m.frm) (I m.fromInc) (I m.to) (I m.toInc) (I m.topic) (I m.epoch) (I m.seq) (I m.last) (I m.value) (I m.node) (I m.inc) (I m.count) (I m.hops) (L m.path) (L m.todo) (· = [bb (placeM m)]) := by
  unfold S_msg_place placeM
  simp (disch := first | omega | assumption | exact ⟨by first | assumption | omega, by first | assumption | omega⟩ | (simp only [List.length_cons, List.length_nil]; omega)) only [↓S0, ITE_R, ITE_eq, ite_c, ite_bb, ite_I, ite_L, ite_L0, ite_0L, ite_self, SUB_r1, SUB_r2, SUB_r3, S1, eq_self, if_true, if_false, true_implies, false_implies, implies_true, ↓c_msg_in, ↓c_msg_Counted]
  cases rng m.epoch 1 1073741824 <;> simp
theorem w_msg_whose (m : Msg) : S_msg_whose ρ (I m.kind) (I m.frm) (I m.fromInc) (I m.to) (I m.toInc) (I m.topic) (I m.epoch) (I m.seq) (I m.last) (I m.value) (I m.node) (I m.inc) (I m.count) (I m.hops) (L m.path) (L m.todo) (· = [bb (whoseM m)]) := by
  unfold S_msg_whose whoseM
  simp (disch := first | omega | assumption | exact ⟨by first | assumption | omega, by first | assumption | omega⟩ | (simp only [List.length_cons, List.length_nil]; omega)) only [↓S0, ITE_R, ITE_eq, ite_c, ite_bb, ite_I, ite_L, ite_L0, ite_0L, ite_self, SUB_r1, SUB_r2, SUB_r3, S1, eq_self, if_true, if_false, true_implies, false_implies, implies_true, ↓c_msg_Value, ↓c_msg_in, ↓c_msg_Counted, ↓c_ring_Is]
  cases isN m.node <;> cases cnt m.inc <;> cases val m.value <;> simp
theorem nodup_take {α : Type} [DecidableEq α] {l : List α} {i : Nat} {x : α} (hx : l[i]? = some x) : (l.take (i + 1)).Nodup ↔ (l.take i).Nodup ∧ x ∉ l.take i := by
  rw [List.take_add_one, hx, Option.toList_some, List.nodup_append]
  constructor
  · rintro ⟨h1, _, h3⟩
    exact ⟨h1, fun hm => h3 x hm x (by simp) rfl⟩
  · rintro ⟨h1, h2⟩
    refine ⟨h1, by simp, fun a ha b hb => ?_⟩
    rw [List.mem_singleton] at hb
    subst hb
    rintro rfl; exact h2 ha
theorem nodup_pre {α : Type} {l : List α} {i : Nat} (h : l.Nodup) : (l.take i).Nodup := List.Nodup.sublist (List.take_sublist _ _) h
theorem w_msg_Unlike (l : List Int) (hg : Goods [L l]) : S_msg_Unlike ρ (L l) (· = [bb (decide l.Nodup)]) := by
  unfold S_msg_Unlike
  simp only [Goods, good_L] at hg
  generalize hE : decide l.Nodup = q
  simp (disch := first | omega | assumption | exact ⟨by first | assumption | omega, by first | assumption | omega⟩ | (simp only [List.length_cons, List.length_nil]; omega)) only [↓S0, ↓ITE_bool, S1, eq_self, if_true, if_false, true_implies, false_implies, implies_true, ↓c_slices_Contains_int_int]
  refine LOOP.rule (α := Nat) (fun i => [I i]) (fun i => i ≤ l.length ∧ (l.take i).Nodup) (fun i => l.length - i) 0 rfl ⟨by omega, by simp⟩ (fun _ => rfl) ?_
  rintro i ⟨hl, hs⟩
  simp only [app]
  simp (disch := first | omega | assumption | exact ⟨by first | assumption | omega, by first | assumption | omega⟩ | (simp only [List.length_cons, List.length_nil]; omega)) only [↓S0, ↓ITE_bool, S1, eq_self, if_true, if_false, true_implies, false_implies, implies_true, ↓c_slices_Contains_int_int]
  refine ⟨fun h => ?_, fun h => ?_⟩
  · obtain ⟨x, hx⟩ := get_ex h
    simp (disch := first | omega | assumption | exact ⟨by first | assumption | omega, by first | assumption | omega⟩ | (simp only [List.length_cons, List.length_nil]; omega)) only [↓S0, ↓ITE_bool, S1, eq_self, if_true, if_false, true_implies, false_implies, implies_true, ↓c_slices_Contains_int_int, cell_L hx, Int.toNat_natCast]
    refine ⟨fun h3 => ?_, fun h3 => ⟨i + 1, rfl, ⟨by omega, (nodup_take hx).2 ⟨hs, fun hm => ?_⟩⟩, by omega⟩⟩
    · rw [← hE]
      have : ¬ l.Nodup := fun hn => ((nodup_take hx).1 (nodup_pre hn)).2 (by simpa using h3)
      simp [this]
    · have : (l.take i).contains x = true := by simpa using hm
      rw [h3] at this; cases this
  · rw [List.take_of_length_le (by omega)] at hs
    rw [← hE]; simp [hs]
theorem w_msg_way (l : List Int) (hg : Goods [L l]) : S_msg_way ρ (L l) (· = [bb (wayOk l)]) := by
  unfold S_msg_way wayOk
  simp (disch := first | omega | assumption | exact ⟨by first | assumption | omega, by first | assumption | omega⟩ | (simp only [List.length_cons, List.length_nil]; omega)) only [↓S0, ↓ITE_bool, S1, eq_self, if_true, if_false, true_implies, false_implies, implies_true, ↓c_ring_All, ↓c_msg_Unlike]
  refine ⟨fun h => ?_, fun h => ?_⟩
  · have e : decide (l.length ≤ 8) = true := by simp; omega
    rw [e]
    cases l.all isN <;> simp
  · have e : decide (l.length ≤ 8) = false := by simp; omega
    simp [e]
theorem w_msg_bare (m : Msg) (hp : m.kind ≠ 11) (hg : Goods [I m.kind, I m.frm, I m.fromInc, I m.to, I m.toInc, I m.topic, I m.epoch, I m.seq, I m.last, I m.value, I m.node, I m.inc, I m.count, I m.hops, L m.path, L m.todo]) : S_msg_bare ρ (I m.kind) (I m.frm) (I m.fromInc) (I m.to) (I m.toInc) (I m.topic) (I m.epoch) (I m.seq) (I m.last) (I m.value) (I m.node) (I m.inc) (I m.count) (I m.hops) (L m.path) (L m.todo) (· = [I (bareM m).1.kind, I (bareM m).1.frm, I (bareM m).1.fromInc, I (bareM m).1.to, I (bareM m).1.toInc, I (bareM m).1.topic, I (bareM m).1.epoch, I (bareM m).1.seq, I (bareM m).1.last, I (bareM m).1.value, I (bareM m).1.node, I (bareM m).1.inc, I (bareM m).1.count, I (bareM m).1.hops, L (bareM m).1.path, L (bareM m).1.todo, bb (bareM m).2]) := by
  unfold S_msg_bare
  simp only [Goods, good_I, good_L] at hg
  generalize hE : bareM m = q
  simp (disch := first | omega | assumption | exact ⟨by first | assumption | omega, by first | assumption | omega⟩ | (simp only [List.length_cons, List.length_nil]; omega)) only [↓S0, ↓ITE_bool, S1, eq_self, if_true, if_false, true_implies, false_implies, implies_true, ↓c_msg_Value, ↓c_slices_Concat_int_int, ↓c_msg_in, ↓c_msg_Counted, ↓c_msg_way, ↓c_ring_Is, ↓c_msg_place, ↓c_msg_whose, ↓c_msg_Unlike]
  refine SUB.v1 (bb (decide (m.kind = 1) || decide (m.kind = 5) || decide (m.kind = 6))) ?_ ?_
  · repeat' (first | apply And.intro | intro _ | simp (disch := first | omega | assumption | exact ⟨by first | assumption | omega, by first | assumption | omega⟩ | (simp only [List.length_cons, List.length_nil]; omega)) only [↓S0, ↓ITE_bool, S1, eq_self, if_true, if_false, true_implies, false_implies, implies_true, ↓c_msg_Value, ↓c_slices_Concat_int_int, ↓c_msg_in, ↓c_msg_Counted, ↓c_msg_way, ↓c_ring_Is, ↓c_msg_place, ↓c_msg_whose, ↓c_msg_Unlike])
    all_goals simp_all
  unfold bareM at hE
  by_cases k1 : m.kind = 1 ∨ m.kind = 5 ∨ m.kind = 6
  · rw [if_pos k1] at hE
    have e : (decide (m.kind = 1) || decide (m.kind = 5) || decide (m.kind = 6)) = true := by simp; omega
    simp (disch := first | omega | assumption | exact ⟨by first | assumption | omega, by first | assumption | omega⟩ | (simp only [List.length_cons, List.length_nil]; omega)) only [↓S0, ↓ITE_bool, S1, eq_self, if_true, if_false, true_implies, false_implies, implies_true, ↓c_msg_Value, ↓c_slices_Concat_int_int, ↓c_msg_in, ↓c_msg_Counted, ↓c_msg_way, ↓c_ring_Is, ↓c_msg_place, ↓c_msg_whose, ↓c_msg_Unlike, e]
    rw [← hE]
  rw [if_neg k1] at hE
  have e : (decide (m.kind = 1) || decide (m.kind = 5) || decide (m.kind = 6)) = false := by simp; omega
  simp (disch := first | omega | assumption | exact ⟨by first | assumption | omega, by first | assumption | omega⟩ | (simp only [List.length_cons, List.length_nil]; omega)) only [↓S0, ↓ITE_bool, S1, eq_self, if_true, if_false, true_implies, false_implies, implies_true, ↓c_msg_Value, ↓c_slices_Concat_int_int, ↓c_msg_in, ↓c_msg_Counted, ↓c_msg_way, ↓c_ring_Is, ↓c_msg_place, ↓c_msg_whose, ↓c_msg_Unlike, e]
  refine ⟨fun k2 => ?_, fun k2 => ?_⟩
  · rw [if_pos k2] at hE
    rw [← hE]
    repeat' (first | apply And.intro | intro _ | simp (disch := first | omega | assumption | exact ⟨by first | assumption | omega, by first | assumption | omega⟩ | (simp only [List.length_cons, List.length_nil]; omega)) only [↓S0, ↓ITE_bool, S1, eq_self, if_true, if_false, true_implies, false_implies, implies_true, ↓c_msg_Value, ↓c_slices_Concat_int_int, ↓c_msg_in, ↓c_msg_Counted, ↓c_msg_way, ↓c_ring_Is, ↓c_msg_place, ↓c_msg_whose, ↓c_msg_Unlike])
    all_goals simp_all
  rw [if_neg k2] at hE
  refine ⟨fun k3 => ?_, fun k3 => ?_⟩
  · rw [if_pos k3] at hE
    rw [← hE]
    have eL : (PV.list [] : PV) = L ([] : List Int) := rfl
    cases hpa : m.path with
    | nil =>
      repeat' (first | apply And.intro | intro _ | simp (disch := first | omega | assumption | exact ⟨by first | assumption | omega, by first | assumption | omega⟩ | (simp only [List.length_cons, List.length_nil]; omega)) only [↓S0, ↓ITE_bool, S1, eq_self, if_true, if_false, true_implies, false_implies, implies_true, ↓c_msg_Value, ↓c_slices_Concat_int_int, ↓c_msg_in, ↓c_msg_Counted, ↓c_msg_way, ↓c_ring_Is, ↓c_msg_place, ↓c_msg_whose, ↓c_msg_Unlike])
      all_goals (rw [eL]; simp_all)
    | cons p r =>
      have hc0 : (L (p :: r)).cellAt (I 0) 0 = I p := cell_L (i := 0) (x := p) rfl
      repeat' (first | apply And.intro | intro _ | simp (disch := first | omega | assumption | exact ⟨by first | assumption | omega, by first | assumption | omega⟩ | (simp only [List.length_cons, List.length_nil]; omega)) only [↓S0, ↓ITE_bool, S1, eq_self, if_true, if_false, true_implies, false_implies, implies_true, ↓c_msg_Value, ↓c_slices_Concat_int_int, ↓c_msg_in, ↓c_msg_Counted, ↓c_msg_way, ↓c_ring_Is, ↓c_msg_place, ↓c_msg_whose, ↓c_msg_Unlike, hc0, eL])
      all_goals simp_all
  rw [if_neg k3] at hE
  refine ⟨fun k4 => ?_, fun k4 => ?_⟩
  · rw [if_pos k4] at hE
    rw [← hE]
    repeat' (first | apply And.intro | intro _ | simp (disch := first | omega | assumption | exact ⟨by first | assumption | omega, by first | assumption | omega⟩ | (simp only [List.length_cons, List.length_nil]; omega)) only [↓S0, ↓ITE_bool, S1, eq_self, if_true, if_false, true_implies, false_implies, implies_true, ↓c_msg_Value, ↓c_slices_Concat_int_int, ↓c_msg_in, ↓c_msg_Counted, ↓c_msg_way, ↓c_ring_Is, ↓c_msg_place, ↓c_msg_whose, ↓c_msg_Unlike])
    all_goals simp_all
  rw [if_neg k4] at hE
  refine ⟨fun k7 => ?_, fun k7 => ?_⟩
  · rw [if_pos k7] at hE
    rw [← hE]
    repeat' (first | apply And.intro | intro _ | simp (disch := first | omega | assumption | exact ⟨by first | assumption | omega, by first | assumption | omega⟩ | (simp only [List.length_cons, List.length_nil]; omega)) only [↓S0, ↓ITE_bool, S1, eq_self, if_true, if_false, true_implies, false_implies, implies_true, ↓c_msg_Value, ↓c_slices_Concat_int_int, ↓c_msg_in, ↓c_msg_Counted, ↓c_msg_way, ↓c_ring_Is, ↓c_msg_place, ↓c_msg_whose, ↓c_msg_Unlike])
    all_goals simp_all
  rw [if_neg k7] at hE
  refine ⟨fun k8 => ?_, fun k8 => ?_⟩
  · rw [if_pos k8] at hE
    rw [← hE]
    repeat' (first | apply And.intro | intro _ | simp (disch := first | omega | assumption | exact ⟨by first | assumption | omega, by first | assumption | omega⟩ | (simp only [List.length_cons, List.length_nil]; omega)) only [↓S0, ↓ITE_bool, S1, eq_self, if_true, if_false, true_implies, false_implies, implies_true, ↓c_msg_Value, ↓c_slices_Concat_int_int, ↓c_msg_in, ↓c_msg_Counted, ↓c_msg_way, ↓c_ring_Is, ↓c_msg_place, ↓c_msg_whose, ↓c_msg_Unlike])
    all_goals simp_all
  rw [if_neg k8] at hE
  refine ⟨fun k9 => ?_, fun k9 => ?_⟩
  · rw [if_pos k9] at hE
    rw [← hE]
    repeat' (first | apply And.intro | intro _ | simp (disch := first | omega | assumption | exact ⟨by first | assumption | omega, by first | assumption | omega⟩ | (simp only [List.length_cons, List.length_nil]; omega)) only [↓S0, ↓ITE_bool, S1, eq_self, if_true, if_false, true_implies, false_implies, implies_true, ↓c_msg_Value, ↓c_slices_Concat_int_int, ↓c_msg_in, ↓c_msg_Counted, ↓c_msg_way, ↓c_ring_Is, ↓c_msg_place, ↓c_msg_whose, ↓c_msg_Unlike])
    all_goals simp_all
  rw [if_neg k9] at hE
  refine ⟨fun k10 => ?_, fun k10 => ?_⟩
  · rw [if_pos k10] at hE
    rw [← hE]
    repeat' (first | apply And.intro | intro _ | simp (disch := first | omega | assumption | exact ⟨by first | assumption | omega, by first | assumption | omega⟩ | (simp only [List.length_cons, List.length_nil]; omega)) only [↓S0, ↓ITE_bool, S1, eq_self, if_true, if_false, true_implies, false_implies, implies_true, ↓c_msg_Value, ↓c_slices_Concat_int_int, ↓c_msg_in, ↓c_msg_Counted, ↓c_msg_way, ↓c_ring_Is, ↓c_msg_place, ↓c_msg_whose, ↓c_msg_Unlike])
    all_goals simp_all
  rw [if_neg k10] at hE
  refine ⟨fun k11 => absurd k11 hp, fun k11 => ?_⟩
  rw [if_neg k11] at hE
  refine ⟨fun k12 => ?_, fun k12 => ?_⟩
  · rw [if_pos k12] at hE
    rw [← hE]
    repeat' (first | apply And.intro | intro _ | simp (disch := first | omega | assumption | exact ⟨by first | assumption | omega, by first | assumption | omega⟩ | (simp only [List.length_cons, List.length_nil]; omega)) only [↓S0, ↓ITE_bool, S1, eq_self, if_true, if_false, true_implies, false_implies, implies_true, ↓c_msg_Value, ↓c_slices_Concat_int_int, ↓c_msg_in, ↓c_msg_Counted, ↓c_msg_way, ↓c_ring_Is, ↓c_msg_place, ↓c_msg_whose, ↓c_msg_Unlike])
    all_goals simp_all
  rw [if_neg k12] at hE
  refine ⟨fun k13 => ?_, fun k13 => ?_⟩
  · rw [if_pos k13] at hE
    rw [← hE]
    repeat' (first | apply And.intro | intro _ | simp (disch := first | omega | assumption | exact ⟨by first | assumption | omega, by first | assumption | omega⟩ | (simp only [List.length_cons, List.length_nil]; omega)) only [↓S0, ↓ITE_bool, S1, eq_self, if_true, if_false, true_implies, false_implies, implies_true, ↓c_msg_Value, ↓c_slices_Concat_int_int, ↓c_msg_in, ↓c_msg_Counted, ↓c_msg_way, ↓c_ring_Is, ↓c_msg_place, ↓c_msg_whose, ↓c_msg_Unlike])
    all_goals simp_all
  rw [if_neg k13] at hE
  rw [← hE]
theorem w_msg_Check (m : Msg) (hp : m.kind ≠ 11) (hg : Goods [I m.kind, I m.frm, I m.fromInc, I m.to, I m.toInc, I m.topic, I m.epoch, I m.seq, I m.last, I m.value, I m.node, I m.inc, I m.count, I m.hops, L m.path, L m.todo]) : S_msg_Check ρ (I m.kind) (I m.frm) (I m.fromInc) (I m.to) (I m.toInc) (I m.topic) (I m.epoch) (I m.seq) (I m.last) (I m.value) (I m.node) (I m.inc) (I m.count) (I m.hops) (L m.path) (L m.todo) (· = [I (if msgOk m = true then 0 else 5)]) := by
  unfold S_msg_Check
  simp only [Goods, good_I, good_L] at hg
  simp (disch := first | omega | assumption | exact ⟨by first | assumption | omega, by first | assumption | omega⟩ | (simp only [List.length_cons, List.length_nil]; omega)) only [↓S0, ↓ITE_bool, S1, eq_self, if_true, if_false, true_implies, false_implies, implies_true, ↓c_msg_in, ↓c_msg_Counted, ↓c_msg_bare, ↓c_msg_ends]
  refine SUB.v1 (bb (knownM m)) ?_ ?_
  · unfold knownM
    refine ⟨fun k => ?_, fun k => ?_⟩
    · rw [if_pos k]
      repeat' (first | apply And.intro | intro _ | simp (disch := first | omega | assumption | exact ⟨by first | assumption | omega, by first | assumption | omega⟩ | (simp only [List.length_cons, List.length_nil]; omega)) only [↓S0, ↓ITE_bool, S1, eq_self, if_true, if_false, true_implies, false_implies, implies_true, ↓c_msg_in, ↓c_msg_Counted, ↓c_msg_bare, ↓c_msg_ends])
      all_goals simp_all
    · rw [if_neg k]
      repeat' (first | apply And.intro | intro _ | simp (disch := first | omega | assumption | exact ⟨by first | assumption | omega, by first | assumption | omega⟩ | (simp only [List.length_cons, List.length_nil]; omega)) only [↓S0, ↓ITE_bool, S1, eq_self, if_true, if_false, true_implies, false_implies, implies_true, ↓c_msg_in, ↓c_msg_Counted, ↓c_msg_bare, ↓c_msg_ends])
      all_goals simp_all
  refine SUB.v1 (bb (spareM (bareM m).1)) ?_ ?_
  · unfold spareM
    repeat' (first | apply And.intro | intro _ | simp (disch := first | omega | assumption | exact ⟨by first | assumption | omega, by first | assumption | omega⟩ | (simp only [List.length_cons, List.length_nil]; omega)) only [↓S0, ↓ITE_bool, S1, eq_self, if_true, if_false, true_implies, false_implies, implies_true, ↓c_msg_in, ↓c_msg_Counted, ↓c_msg_bare, ↓c_msg_ends])
    all_goals simp_all
  unfold msgOk
  cases e1 : (bareM m).2 <;> cases e2 : knownM m <;> cases e3 : spareM (bareM m).1
  all_goals simp (disch := first | omega | assumption | exact ⟨by first | assumption | omega, by first | assumption | omega⟩ | (simp only [List.length_cons, List.length_nil]; omega)) only [↓S0, ↓ITE_bool, S1, eq_self, if_true, if_false, true_implies, false_implies, implies_true, ↓c_msg_in, ↓c_msg_Counted, ↓c_msg_bare, ↓c_msg_ends, e1, e2, e3]
  all_goals simp
  refine ⟨fun h h2 => by rw [h2] at h; simp at h, fun h => ⟨fun h2 _ h3 => by rw [h3] at h2; simp at h2, fun h2 => ⟨h, h2⟩⟩⟩
end Go.Xt
end
section
set_option linter.unusedSimpArgs false
set_option linter.unusedVariables false
set_option maxRecDepth 100000
namespace Go.Xt
theorem msg_heard {x : Msg} {c : Config} (h : (msgOk x && (decide (x.kind = 12) || decide (x.kind = 13)) && decide (x.topic < c.topics)) = true) : rng x.topic 0 (c.topics - 1) = true ∧ rng x.count 1 40 = true ∧ (x.kind = 12 → isN x.value = true) ∧ (x.kind = 12 ∨ x.kind = 13) := by
  simp only [Bool.and_eq_true, Bool.or_eq_true, decide_eq_true_eq] at h
  obtain ⟨⟨h1, h2⟩, h3⟩ := h
  simp only [msgOk, Bool.and_eq_true] at h1
  obtain ⟨⟨⟨⟨k1, k2⟩, _⟩, _⟩, _⟩ := h1
  simp only [knownM, Bool.and_eq_true] at k2
  have k3 := k2.2
  rw [if_neg (by omega), Bool.and_eq_true] at k3
  have k4 := rng_bd k3.2
  refine ⟨by unfold rng; simp; omega, ?_, fun h12 => ?_, h2⟩
  · unfold bareM at k1
    rcases h2 with h2 | h2
    · rw [if_neg (by omega), if_neg (by omega), if_neg (by omega), if_neg (by omega), if_neg (by omega), if_neg (by omega), if_neg (by omega), if_neg (by omega), if_neg (by omega), if_pos h2, Bool.and_eq_true] at k1
      exact k1.1
    · rw [if_neg (by omega), if_neg (by omega), if_neg (by omega), if_neg (by omega), if_neg (by omega), if_neg (by omega), if_neg (by omega), if_neg (by omega), if_neg (by omega), if_neg (by omega), if_pos h2] at k1
      exact k1
  · unfold bareM at k1
    rw [if_neg (by omega), if_neg (by omega), if_neg (by omega), if_neg (by omega), if_neg (by omega), if_neg (by omega), if_neg (by omega), if_neg (by omega), if_neg (by omega), if_pos h12, Bool.and_eq_true] at k1
    exact k1.2
theorem w_cast_Heard (c : Config) (self : Int) (n : Node) (x : Msg) (hp : x.kind ≠ 11) (hg : Goods [I c.nodes, I c.topics, I c.kids, I c.depth, I c.keep, I c.window, I c.queue, I self, bb n.up, I n.inc, L n.peers, L n.topics, L n.calls, I n.pubs, I n.asks, L n.marks, L n.taken, I x.kind, I x.frm, I x.fromInc, I x.to, I x.toInc, I x.topic, I x.epoch, I x.seq, I x.last, I x.value, I x.node, I x.inc, I x.count, I x.hops, L x.path, L x.todo]) : S_cast_Heard ρ (I c.nodes) (I c.topics) (I c.kids) (I c.depth) (I c.keep) (I c.window) (I c.queue) (I self) (bb n.up) (I n.inc) (L n.peers) (L n.topics) (L n.calls) (I n.pubs) (I n.asks) (L n.marks) (L n.taken) (I x.kind) (I x.frm) (I x.fromInc) (I x.to) (I x.toInc) (I x.topic) (I x.epoch) (I x.seq) (I x.last) (I x.value) (I x.node) (I x.inc) (I x.count) (I x.hops) (L x.path) (L x.todo) (· = [bb (heardN c self n x).1.up, I (heardN c self n x).1.inc, L (heardN c self n x).1.peers, L (heardN c self n x).1.topics, L (heardN c self n x).1.calls, I (heardN c self n x).1.pubs, I (heardN c self n x).1.asks, L (heardN c self n x).1.marks, L (heardN c self n x).1.taken, I (heardN c self n x).2]) := by
  unfold S_cast_Heard
  simp only [Goods, good_I, good_L] at hg
  generalize hE : heardN c self n x = q
  unfold heardN at hE
  simp (disch := first | omega | assumption | exact ⟨by first | assumption | omega, by first | assumption | omega⟩ | (simp only [List.length_cons, List.length_nil]; omega)) only [↓S0, ↓ITE_bool, S1, eq_self, if_true, if_false, true_implies, false_implies, implies_true, ↓c_cast_Check, ↓c_msg_Check, ↓c_graft_Twin, ↓c_slices_Clone_api_Peer_api_Peer, ↓c_slices_Clone_api_Call_api_Call, ↓c_slices_Clone_api_Mark_api_Mark, ↓c_slices_Clone_api_Mark2_api_Mark2, ↓c_slices_Delete_api_Call_api_Call, ↓c_queue_Fit]
  refine ⟨fun hw => ?_, fun hw => ?_⟩
  · rw [if_neg hw] at hE; rw [← hE]; rfl
  rw [if_pos hw] at hE
  obtain ⟨hc, hsr, hu, H⟩ := why_zero hw
  have hb := cfg_bd hc
  have hsb := rng_bd hsr
  refine SUB.v1 (bb (!(msgOk x && (decide (x.kind = 12) || decide (x.kind = 13)) && decide (x.topic < c.topics)))) ?_ ?_
  · cases hm : msgOk x
    · simp (disch := first | omega | assumption | exact ⟨by first | assumption | omega, by first | assumption | omega⟩ | (simp only [List.length_cons, List.length_nil]; omega)) only [↓S0, ↓ITE_bool, S1, eq_self, if_true, if_false, true_implies, false_implies, implies_true, ↓c_cast_Check, ↓c_msg_Check, ↓c_graft_Twin, ↓c_slices_Clone_api_Peer_api_Peer, ↓c_slices_Clone_api_Call_api_Call, ↓c_slices_Clone_api_Mark_api_Mark, ↓c_slices_Clone_api_Mark2_api_Mark2, ↓c_slices_Delete_api_Call_api_Call, ↓c_queue_Fit, hm]
      simp
    · simp (disch := first | omega | assumption | exact ⟨by first | assumption | omega, by first | assumption | omega⟩ | (simp only [List.length_cons, List.length_nil]; omega)) only [↓S0, ↓ITE_bool, S1, eq_self, if_true, if_false, true_implies, false_implies, implies_true, ↓c_cast_Check, ↓c_msg_Check, ↓c_graft_Twin, ↓c_slices_Clone_api_Peer_api_Peer, ↓c_slices_Clone_api_Call_api_Call, ↓c_slices_Clone_api_Mark_api_Mark, ↓c_slices_Clone_api_Mark2_api_Mark2, ↓c_slices_Delete_api_Call_api_Call, ↓c_queue_Fit, hm]
      simp
      refine ⟨fun k12 => ⟨fun k13 => ?_, fun k13 => ?_⟩, fun k12 => ?_⟩
      · simp [k12, k13]
      · simp [k13]; rw [← decide_not]; simp
      · simp [k12]; rw [← decide_not]; simp
  cases hok : (msgOk x && (decide (x.kind = 12) || decide (x.kind = 13)) && decide (x.topic < c.topics))
  · simp (disch := first | omega | assumption | exact ⟨by first | assumption | omega, by first | assumption | omega⟩ | (simp only [List.length_cons, List.length_nil]; omega)) only [↓S0, ↓ITE_bool, S1, eq_self, if_true, if_false, true_implies, false_implies, implies_true, ↓c_cast_Check, ↓c_msg_Check, ↓c_graft_Twin, ↓c_slices_Clone_api_Peer_api_Peer, ↓c_slices_Clone_api_Call_api_Call, ↓c_slices_Clone_api_Mark_api_Mark, ↓c_slices_Clone_api_Mark2_api_Mark2, ↓c_slices_Delete_api_Call_api_Call, ↓c_queue_Fit]
    rw [hok, if_neg (by simp)] at hE; rw [← hE]; rfl
  rw [if_pos hok] at hE
  obtain ⟨ht, hcnt, hv, hk⟩ := msg_heard hok
  simp (disch := first | omega | assumption | exact ⟨by first | assumption | omega, by first | assumption | omega⟩ | (simp only [List.length_cons, List.length_nil]; omega)) only [↓S0, ↓ITE_bool, S1, eq_self, if_true, if_false, true_implies, false_implies, implies_true, ↓c_cast_Check, ↓c_msg_Check, ↓c_graft_Twin, ↓c_slices_Clone_api_Peer_api_Peer, ↓c_slices_Clone_api_Call_api_Call, ↓c_slices_Clone_api_Mark_api_Mark, ↓c_slices_Clone_api_Mark2_api_Mark2, ↓c_slices_Delete_api_Call_api_Call, ↓c_queue_Fit]
  have hpl := H.pl; have hml := H.ml; have hkl := H.kl; have hcl := H.cl
  have htl := H.tl
  refine SUB.val [L n.taken, L n.marks, L n.calls, L n.peers, L n.topics] rfl ?_ ?_
  · refine LOOP.rule (α := Nat) (fun i => [I i, L (n.topics.take i)]) (fun i => i ≤ n.topics.length) (fun i => n.topics.length - i) 0 rfl (by omega) (fun _ => rfl) ?_
    intro i hl
    simp only [app]
    simp (disch := first | omega | assumption | exact ⟨by first | assumption | omega, by first | assumption | omega⟩ | (simp only [List.length_cons, List.length_nil]; omega)) only [↓S0, ↓ITE_bool, S1, eq_self, if_true, if_false, true_implies, false_implies, implies_true, ↓c_cast_Check, ↓c_msg_Check, ↓c_graft_Twin, ↓c_slices_Clone_api_Peer_api_Peer, ↓c_slices_Clone_api_Call_api_Call, ↓c_slices_Clone_api_Mark_api_Mark, ↓c_slices_Clone_api_Mark2_api_Mark2, ↓c_slices_Delete_api_Call_api_Call, ↓c_queue_Fit]
    refine ⟨fun hcc => ?_, fun hcc => ?_⟩
    · obtain ⟨x, hx⟩ := get_ex hcc
      have hx9 := node_light hc H hx
      have hlt : (n.topics.take i).length = i := by simp; omega
      simp (disch := first | omega | assumption | exact ⟨by first | assumption | omega, by first | assumption | omega⟩ | (simp only [List.length_cons, List.length_nil]; omega)) only [↓S0, ↓ITE_bool, S1, eq_self, if_true, if_false, true_implies, false_implies, implies_true, ↓c_cast_Check, ↓c_msg_Check, ↓c_graft_Twin, ↓c_slices_Clone_api_Peer_api_Peer, ↓c_slices_Clone_api_Call_api_Call, ↓c_slices_Clone_api_Mark_api_Mark, ↓c_slices_Clone_api_Mark2_api_Mark2, ↓c_slices_Delete_api_Call_api_Call, ↓c_queue_Fit, cell_L hx]
      exact ⟨i + 1, by simp [take_one hx], by omega, by omega⟩
    rw [List.take_of_length_le (by omega)]
  simp only [app]
  have htb := rng_bd ht
  obtain ⟨k, hk2⟩ := Int.eq_ofNat_of_zero_le htb.1
  rw [hk2] at ht htb hE
  obtain ⟨y, hy⟩ := get_ex (xs := n.topics) (i := k) (by omega)
  obtain ⟨⟨_, _, _, _, hyq⟩, _⟩ := topic_sz hc (tops_get H.tops hy)
  generalize hr : endCall c n k x.count (if x.kind = 12 then x.value else -1) = r at hE
  have hQ : [bb r.up, I r.inc, L r.peers, L r.topics, L r.calls, I r.pubs, I r.asks, L r.marks, L r.taken, I 0] = [bb q.1.up, I q.1.inc, L q.1.peers, L q.1.topics, L q.1.calls, I q.1.pubs, I q.1.asks, L q.1.marks, L q.1.taken, I q.2] := by rw [← hE]
  clear hE
  generalize [bb q.1.up, I q.1.inc, L q.1.peers, L q.1.topics, L q.1.calls, I q.1.pubs, I q.1.asks, L q.1.marks, L q.1.taken, I q.2] = z at hQ ⊢
  generalize hcnt2 : x.count = cnt at hr hcnt ⊢
  rw [hk2]
  refine SUB.v3 (bb (n.calls.any (isCall k cnt))) (bb (!n.calls.any (isCall k cnt))) (L (n.calls.eraseP (isCall k cnt))) ?_ ?_
  · simp (disch := first | omega | assumption | exact ⟨by first | assumption | omega, by first | assumption | omega⟩ | (simp only [List.length_cons, List.length_nil]; omega)) only [↓S0, ↓ITE_bool, S1, eq_self, if_true, if_false, true_implies, false_implies, implies_true, ↓c_cast_Check, ↓c_msg_Check, ↓c_graft_Twin, ↓c_slices_Clone_api_Peer_api_Peer, ↓c_slices_Clone_api_Call_api_Call, ↓c_slices_Clone_api_Mark_api_Mark, ↓c_slices_Clone_api_Mark2_api_Mark2, ↓c_slices_Delete_api_Call_api_Call, ↓c_queue_Fit]
    refine LOOP.rule (α := Nat) (fun i => [I i]) (fun i => i ≤ n.calls.length ∧ (n.calls.take i).any (isCall k cnt) = false) (fun i => n.calls.length - i) 0 rfl ⟨by omega, by simp⟩ (fun _ => rfl) ?_
    rintro i ⟨hi3, hs3⟩
    simp only [app]
    simp (disch := first | omega | assumption | exact ⟨by first | assumption | omega, by first | assumption | omega⟩ | (simp only [List.length_cons, List.length_nil]; omega)) only [↓S0, ↓ITE_bool, S1, eq_self, if_true, if_false, true_implies, false_implies, implies_true, ↓c_cast_Check, ↓c_msg_Check, ↓c_graft_Twin, ↓c_slices_Clone_api_Peer_api_Peer, ↓c_slices_Clone_api_Call_api_Call, ↓c_slices_Clone_api_Mark_api_Mark, ↓c_slices_Clone_api_Mark2_api_Mark2, ↓c_slices_Delete_api_Call_api_Call, ↓c_queue_Fit]
    refine ⟨fun h => ?_, fun h => ⟨fun _ => ?_, fun h9 => absurd (show (-1 : Int) < 0 by omega) h9⟩⟩
    · obtain ⟨x, hx⟩ := get_ex h
      simp (disch := first | omega | assumption | exact ⟨by first | assumption | omega, by first | assumption | omega⟩ | (simp only [List.length_cons, List.length_nil]; omega)) only [↓S0, ↓ITE_bool, S1, eq_self, if_true, if_false, true_implies, false_implies, implies_true, ↓c_cast_Check, ↓c_msg_Check, ↓c_graft_Twin, ↓c_slices_Clone_api_Peer_api_Peer, ↓c_slices_Clone_api_Call_api_Call, ↓c_slices_Clone_api_Mark_api_Mark, ↓c_slices_Clone_api_Mark2_api_Mark2, ↓c_slices_Delete_api_Call_api_Call, ↓c_queue_Fit, cell_L hx]
      refine SUB.v1 (bb (isCall k cnt x)) ?_ ?_
      · unfold isCall; repeat' (first | apply And.intro | intro _ | simp (disch := first | omega | assumption | exact ⟨by first | assumption | omega, by first | assumption | omega⟩ | (simp only [List.length_cons, List.length_nil]; omega)) only [↓S0, ↓ITE_bool, S1, eq_self, if_true, if_false, true_implies, false_implies, implies_true, ↓c_cast_Check, ↓c_msg_Check, ↓c_graft_Twin, ↓c_slices_Clone_api_Peer_api_Peer, ↓c_slices_Clone_api_Call_api_Call, ↓c_slices_Clone_api_Mark_api_Mark, ↓c_slices_Clone_api_Mark2_api_Mark2, ↓c_slices_Delete_api_Call_api_Call, ↓c_queue_Fit])
        all_goals simp [*]
      cases hcx : isCall k cnt x
      · simp (disch := first | omega | assumption | exact ⟨by first | assumption | omega, by first | assumption | omega⟩ | (simp only [List.length_cons, List.length_nil]; omega)) only [↓S0, ↓ITE_bool, S1, eq_self, if_true, if_false, true_implies, false_implies, implies_true, ↓c_cast_Check, ↓c_msg_Check, ↓c_graft_Twin, ↓c_slices_Clone_api_Peer_api_Peer, ↓c_slices_Clone_api_Call_api_Call, ↓c_slices_Clone_api_Mark_api_Mark, ↓c_slices_Clone_api_Mark2_api_Mark2, ↓c_slices_Delete_api_Call_api_Call, ↓c_queue_Fit]
        exact ⟨i + 1, rfl, ⟨by omega, any_take hs3 hx hcx⟩, by omega⟩
      · have hpre : (0 : Int) ≤ (i : Int) ∧ (i : Int) ≤ (i : Int) + 1 ∧ (i : Int) + 1 ≤ n.calls.length ∧ n.calls.length < 4611686018427387904 := ⟨by omega, by omega, by omega, by omega⟩
        obtain ⟨e5, e6⟩ := erase_cut hs3 hx hcx
        simp (disch := first | omega | assumption | exact ⟨by first | assumption | omega, by first | assumption | omega⟩ | (simp only [List.length_cons, List.length_nil]; omega)) only [↓S0, ↓ITE_bool, S1, eq_self, if_true, if_false, true_implies, false_implies, implies_true, ↓c_cast_Check, ↓c_msg_Check, ↓c_graft_Twin, ↓c_slices_Clone_api_Peer_api_Peer, ↓c_slices_Clone_api_Call_api_Call, ↓c_slices_Clone_api_Mark_api_Mark, ↓c_slices_Clone_api_Mark2_api_Mark2, ↓c_slices_Delete_api_Call_api_Call, ↓c_queue_Fit]
        refine ⟨fun h => by omega, fun _ => ?_⟩
        rw [e5, e6]; rfl
    · have hi4 : i = n.calls.length := by omega
      subst hi4
      rw [List.take_length] at hs3
      rw [hs3, erase_not hs3]; rfl
  cases hany : n.calls.any (isCall k cnt)
  · rw [endCall_miss hany] at hr
    rw [erase_not hany]
    simp (disch := first | omega | assumption | exact ⟨by first | assumption | omega, by first | assumption | omega⟩ | (simp only [List.length_cons, List.length_nil]; omega)) only [↓S0, ↓ITE_bool, S1, eq_self, if_true, if_false, true_implies, false_implies, implies_true, ↓c_cast_Check, ↓c_msg_Check, ↓c_graft_Twin, ↓c_slices_Clone_api_Peer_api_Peer, ↓c_slices_Clone_api_Call_api_Call, ↓c_slices_Clone_api_Mark_api_Mark, ↓c_slices_Clone_api_Mark2_api_Mark2, ↓c_slices_Delete_api_Call_api_Call, ↓c_queue_Fit]
    subst hr
    exact hQ
  · rw [endCall_true hany rfl hy] at hr
    by_cases k12 : x.kind = 12
    · rw [if_pos k12, show evCall cnt x.value = ⟨3, 0, 0, 0, x.value, cnt⟩ from if_pos (isN_iff.1 (hv k12)).1] at hr
      simp (disch := first | omega | assumption | exact ⟨by first | assumption | omega, by first | assumption | omega⟩ | (simp only [List.length_cons, List.length_nil]; omega)) only [↓S0, ↓ITE_bool, S1, eq_self, if_true, if_false, true_implies, false_implies, implies_true, ↓c_cast_Check, ↓c_msg_Check, ↓c_graft_Twin, ↓c_slices_Clone_api_Peer_api_Peer, ↓c_slices_Clone_api_Call_api_Call, ↓c_slices_Clone_api_Mark_api_Mark, ↓c_slices_Clone_api_Mark2_api_Mark2, ↓c_slices_Delete_api_Call_api_Call, ↓c_queue_Fit, k12, cell_L hy, ↓OP_set hy (j := 15) (v := L (fitE y.queue c.queue ⟨3, 0, 0, 0, x.value, cnt⟩)) (y := { y with queue := fitE y.queue c.queue ⟨3, 0, 0, 0, x.value, cnt⟩ }) rfl]
      subst hr
      exact hQ
    · rw [if_neg k12, show evCall cnt (-1) = ⟨4, 0, 0, 0, 0, cnt⟩ from rfl] at hr
      simp (disch := first | omega | assumption | exact ⟨by first | assumption | omega, by first | assumption | omega⟩ | (simp only [List.length_cons, List.length_nil]; omega)) only [↓S0, ↓ITE_bool, S1, eq_self, if_true, if_false, true_implies, false_implies, implies_true, ↓c_cast_Check, ↓c_msg_Check, ↓c_graft_Twin, ↓c_slices_Clone_api_Peer_api_Peer, ↓c_slices_Clone_api_Call_api_Call, ↓c_slices_Clone_api_Mark_api_Mark, ↓c_slices_Clone_api_Mark2_api_Mark2, ↓c_slices_Delete_api_Call_api_Call, ↓c_queue_Fit, k12, cell_L hy, ↓OP_set hy (j := 15) (v := L (fitE y.queue c.queue ⟨4, 0, 0, 0, 0, cnt⟩)) (y := { y with queue := fitE y.queue c.queue ⟨4, 0, 0, 0, 0, cnt⟩ }) rfl]
      subst hr
      exact hQ
end Go.Xt
end
section
set_option linter.unusedSimpArgs false
set_option linter.unusedVariables false
set_option maxRecDepth 100000
namespace Go.Xt
theorem calls_high {c : Config} {a : Int} : ∀ {l : List Call} {p : Int} {t cnt : Int}, callsGo c a p l = true → cnt ≤ p → l.any (isCall t cnt) = false
  | [], _, _, _, _, _ => rfl
  | x :: r, p, t, cnt, h, hp => by
    simp only [callsGo, Bool.and_eq_true, decide_eq_true_eq] at h
    rw [List.any_cons, calls_high h.2 (by omega), Bool.or_false]
    have : ¬ x.count = cnt := by omega
    simp [isCall, this]
theorem calls_once {c : Config} {a : Int} {t cnt : Int} : ∀ {l : List Call} {p : Int}, callsGo c a p l = true → (l.eraseP (isCall t cnt)).any (isCall t cnt) = false
  | [], _, _ => rfl
  | x :: r, p, h => by
    simp only [callsGo, Bool.and_eq_true, decide_eq_true_eq] at h
    rw [List.eraseP_cons]
    cases hx : isCall t cnt x
    · simp only [cond_false, List.any_cons, hx, Bool.false_or]
      exact calls_once h.2
    · simp only [cond_true]
      have : x.count = cnt := by simp only [isCall, Bool.and_eq_true, decide_eq_true_eq] at hx; exact hx.1
      exact calls_high h.2 (by omega)
theorem endCall_twice {c : Config} {self : Int} {n : Node} {t cnt who : Int} (H : NOk c self n) : endCall c (endCall c n t cnt who) t cnt who = endCall c n t cnt who := by
  refine endCall_miss ?_
  unfold endCall
  cases h : n.calls.any (isCall t cnt)
  · rw [if_neg (by simp)]; exact h
  · rw [if_pos rfl]; exact calls_once H.calls
theorem fit_len (l : List Event) (limit : Int) (x : Event) : (fitE l limit x).length = l.length ∨ (fitE l limit x).length = l.length + 1 := by
  unfold fitE
  split
  · rename_i h
    unfold putE at h ⊢
    split
    · rename_i h0
      rw [if_pos h0] at h
      split
      · right; simp
      · rename_i h1
        rw [if_neg h1] at h
        split
        · rename_i h2
          rw [if_pos h2] at h
          split
          · right; simp
          · rename_i h3
            rw [if_neg h3] at h
            split
            · left; simp
            · rename_i h4
              rw [if_neg h4] at h; cases h
        · rename_i h2
          rw [if_neg h2] at h; cases h
    · rename_i h0
      rw [if_neg h0] at h; cases h
  · exact .inl rfl
def wordM (self t cnt kind value : Int) : Msg := ⟨kind, (self + 1) % 8, 1, self, 1, t, 0, 0, 0, value, 0, 0, cnt, 0, [], []⟩
theorem word_ok {self t cn kind value : Int} (hs : 0 ≤ self ∧ self < 8) (ht : 0 ≤ t ∧ t < 4) (hc : 1 ≤ cn ∧ cn ≤ 40) (hk : (kind = 12 ∧ 0 ≤ value ∧ value < 8) ∨ (kind = 13 ∧ value = 0)) : msgOk (wordM self t cn kind value) = true := by
  have h1 : isN ((self + 1) % 8) = true := isN_iff.2 (by omega)
  have h2 : isN self = true := isN_iff.2 hs
  have h3 : ¬ (self + 1) % 8 = self := by omega
  have h4 : rng t 0 3 = true := by unfold rng; simp; omega
  have h5 : rng cn 1 40 = true := by unfold rng; simp; omega
  have h6 : cnt 1 = true := by decide
  rcases hk with ⟨rfl, hv⟩ | ⟨rfl, rfl⟩
  · have h7 : isN value = true := isN_iff.2 hv
    simp [msgOk, bareM, wordM, knownM, endsOk, spareM, h1, h2, h3, h4, h5, h6, h7]
  · simp [msgOk, bareM, wordM, knownM, endsOk, spareM, h1, h2, h3, h4, h5, h6]
theorem w_law21_CastHeard (c : Config) (self : Int) (n : Node) (count : Int) (t : Int) (who : Int) (found : Bool) (hg : Goods [I c.nodes, I c.topics, I c.kids, I c.depth, I c.keep, I c.window, I c.queue, I self, bb n.up, I n.inc, L n.peers, L n.topics, L n.calls, I n.pubs, I n.asks, L n.marks, L n.taken, I count, I t, I who, bb found]) : S_law21_CastHeard ρ (I c.nodes) (I c.topics) (I c.kids) (I c.depth) (I c.keep) (I c.window) (I c.queue) (I self) (bb n.up) (I n.inc) (L n.peers) (L n.topics) (L n.calls) (I n.pubs) (I n.asks) (L n.marks) (L n.taken) (I count) (I t) (I who) (bb found) (· = [bb true]) := by
  unfold S_law21_CastHeard
  simp only [Goods, good_L] at hg
  refine SUB.v1 (bb (heavy21 n || !decide (nodeWhy c self n = 0) || decide (c.nodes < 2))) ?_ ?_
  · repeat' (first | apply And.intro | intro _ | simp (disch := first | omega | assumption | exact ⟨by first | assumption | omega, by first | assumption | omega⟩ | (simp only [List.length_cons, List.length_nil]; omega)) only [↓S0, ↓ITE_bool, S1, eq_self, if_true, if_false, true_implies, false_implies, implies_true, ↓c_law21_Heavy, ↓c_ref19_Check, ↓c_law21_wakes, ↓c_bkeep_Node, ↓c_cast_Heard])
    all_goals simp_all
  by_cases hh0 : (heavy21 n || !decide (nodeWhy c self n = 0) || decide (c.nodes < 2)) = true
  · simp (disch := first | omega | assumption | exact ⟨by first | assumption | omega, by first | assumption | omega⟩ | (simp only [List.length_cons, List.length_nil]; omega)) only [↓S0, ↓ITE_bool, S1, eq_self, if_true, if_false, true_implies, false_implies, implies_true, ↓c_law21_Heavy, ↓c_ref19_Check, ↓c_law21_wakes, ↓c_bkeep_Node, ↓c_cast_Heard, hh0]
  have hh : (heavy21 n || !decide (nodeWhy c self n = 0) || decide (c.nodes < 2)) = false := by simpa using hh0
  simp only [Bool.or_eq_false_iff, Bool.not_eq_false', decide_eq_true_eq, decide_eq_false_iff_not] at hh
  obtain ⟨⟨hheavy, hw⟩, hn2⟩ := hh
  obtain ⟨hc, hs, hu, H⟩ := why_zero hw
  have hb := cfg_bd hc
  have hsb := rng_bd hs
  have hu1 := u64_bd t; have hu2 := u64_bd count; have hu3 := u64_bd who
  have ec : u64 c.topics = c.topics := by unfold u64; omega
  have h1 : 0 ≤ u64 t % c.topics ∧ u64 t % c.topics < c.topics := ⟨Int.emod_nonneg _ (by omega), Int.emod_lt_of_pos _ (by omega)⟩
  have h2 : 0 ≤ u64 count % 40 ∧ u64 count % 40 < 40 := ⟨Int.emod_nonneg _ (by omega), Int.emod_lt_of_pos _ (by omega)⟩
  have h3 : 0 ≤ u64 who % 8 ∧ u64 who % 8 < 8 := ⟨Int.emod_nonneg _ (by omega), Int.emod_lt_of_pos _ (by omega)⟩
  simp (disch := first | omega | assumption | exact ⟨by first | assumption | omega, by first | assumption | omega⟩ | (simp only [List.length_cons, List.length_nil]; omega)) only [↓S0, ↓ITE_bool, S1, eq_self, if_true, if_false, true_implies, false_implies, implies_true, ↓c_law21_Heavy, ↓c_ref19_Check, ↓c_law21_wakes, ↓c_bkeep_Node, ↓c_cast_Heard, ec]
  intro _
  generalize hT : u64 t % c.topics = T at h1 ⊢
  generalize hC : 1 + u64 count % 40 = C
  generalize hW : u64 who % 8 = W at h3 ⊢
  have hC2 : 1 ≤ C ∧ C ≤ 40 := by omega
  have hTr : rng T 0 (c.topics - 1) = true := by unfold rng; simp; omega
  refine SUB.v2 (I (if found = true then 12 else 13)) (I (if found = true then W else 0)) ?_ ?_
  · cases found <;> simp
  generalize hK : (if found = true then (12 : Int) else 13) = kind
  generalize hV : (if found = true then W else 0) = value
  have hkv : (kind = 12 ∧ 0 ≤ value ∧ value < 8) ∨ (kind = 13 ∧ value = 0) := by
    cases found
    · right; rw [← hK, ← hV]; simp
    · left; rw [← hK, ← hV]; simp; omega
  have hk11 : kind ≠ 11 := by omega
  have hmsg := word_ok (self := self) (t := T) (cn := C) (by omega) (by omega) hC2 hkv
  have hheard : ∀ m : Node, nodeWhy c self m = 0 → heardN c self m (wordM self T C kind value) = (endCall c m T C (if kind = 12 then value else -1), 0) := by
    intro m hm
    unfold heardN
    rw [if_pos hm, if_pos]
    · rfl
    rw [hmsg]
    have : T < c.topics := by omega
    simp only [wordM, Bool.true_and, this, decide_true, Bool.and_true]
    rcases hkv with h | h <;> simp [h.1]
  generalize (if kind = 12 then value else -1 : Int) = wh at hheard
  obtain ⟨k1, k2, k3, k4⟩ := endCall_ok (count := C) (who := wh) H hTr
  have hw2 : nodeWhy c self (endCall c n T C wh) = 0 := why_of hc hs (by rw [k4]; exact hu) k1
  have e1 := hheard n hw
  have e2 := hheard _ hw2
  rw [endCall_twice H] at e2
  have ch : ∀ (m r : Node), heardN c self m (wordM self T C kind value) = (r, 0) → ∀ k, CALL ρ 18 [I c.nodes, I c.topics, I c.kids, I c.depth, I c.keep, I c.window, I c.queue, I self, bb m.up, I m.inc, L m.peers, L m.topics, L m.calls, I m.pubs, I m.asks, L m.marks, L m.taken, I kind, I ((self + 1) % 8), I 1, I self, I 1, I T, I 0, I 0, I 0, I value, I 0, I 0, I C, I 0, L (α := Int) [], L (α := Int) []] 10 k = k (bb r.up) (I r.inc) (L r.peers) (L r.topics) (L r.calls) (I r.pubs) (I r.asks) (L r.marks) (L r.taken) (I 0) := by
    intro m r hr k
    exact (c_cast_Heard (k_ := k) hk11).trans (congrArg (fun z : Node × Int => k (bb z.1.up) (I z.1.inc) (L z.1.peers) (L z.1.topics) (L z.1.calls) (I z.1.pubs) (I z.1.asks) (L z.1.marks) (L z.1.taken) (I z.2)) hr)
  rw [ch n _ e1, ch _ _ e2]
  have htl := H.tl; have hcl := H.cl
  have hmtl : ((endCall c n T C wh).topics.length : Int) = n.topics.length := by rw [k1.tl, htl]
  have hmcl := k1.cl
  refine SUB.v1 (bb false) ?_ ?_
  · simp (disch := first | omega | assumption | exact ⟨by first | assumption | omega, by first | assumption | omega⟩ | (simp only [List.length_cons, List.length_nil]; omega)) only [↓S0, ↓ITE_bool, S1, eq_self, if_true, if_false, true_implies, false_implies, implies_true, ↓c_law21_Heavy, ↓c_ref19_Check, ↓c_law21_wakes, ↓c_bkeep_Node, ↓c_cast_Heard, Node.eta, hmtl]
  simp (disch := first | omega | assumption | exact ⟨by first | assumption | omega, by first | assumption | omega⟩ | (simp only [List.length_cons, List.length_nil]; omega)) only [↓S0, ↓ITE_bool, S1, eq_self, if_true, if_false, true_implies, false_implies, implies_true, ↓c_law21_Heavy, ↓c_ref19_Check, ↓c_law21_wakes, ↓c_bkeep_Node, ↓c_cast_Heard]
  refine LOOP.rule (α := Nat × Bool) (fun p => [bb p.2, I p.1]) (fun p => p.1 ≤ n.calls.length ∧ (n.calls.take p.1).any (isCall T C) = p.2) (fun p => n.calls.length - p.1) (0, false) rfl ⟨by simp, by simp⟩ (fun _ => rfl) ?_
  rintro ⟨i, b⟩ ⟨hi, hs3⟩
  simp only at hi hs3
  simp only [app]
  simp (disch := first | omega | assumption | exact ⟨by first | assumption | omega, by first | assumption | omega⟩ | (simp only [List.length_cons, List.length_nil]; omega)) only [↓S0, ↓ITE_bool, S1, eq_self, if_true, if_false, true_implies, false_implies, implies_true, ↓c_law21_Heavy, ↓c_ref19_Check, ↓c_law21_wakes, ↓c_bkeep_Node, ↓c_cast_Heard]
  refine ⟨fun h => ?_, fun h => ?_⟩
  · obtain ⟨x, hx⟩ := get_ex h
    have ht1 : (n.calls.take (i + 1)).any (isCall T C) = (b || isCall T C x) := by
      rw [List.take_add_one, hx, List.any_append, hs3]; simp
    simp (disch := first | omega | assumption | exact ⟨by first | assumption | omega, by first | assumption | omega⟩ | (simp only [List.length_cons, List.length_nil]; omega)) only [↓S0, ↓ITE_bool, S1, eq_self, if_true, if_false, true_implies, false_implies, implies_true, ↓c_law21_Heavy, ↓c_ref19_Check, ↓c_law21_wakes, ↓c_bkeep_Node, ↓c_cast_Heard, cell_L hx]
    refine ⟨fun hb1 => ⟨(i + 1, true), rfl, ⟨by simp; omega, by rw [ht1, hb1]; rfl⟩, by simp; omega⟩, fun hb1 => ⟨fun hc1 => ?_, fun hc1 => ⟨(i + 1, false), rfl, ⟨by simp; omega, by rw [ht1, hb1]; simp [isCall, hc1]⟩, by simp; omega⟩⟩⟩
    exact ⟨(i + 1, decide (x.topic = T)), rfl, ⟨by simp; omega, by rw [ht1, hb1]; simp [isCall, hc1]⟩, by simp; omega⟩
  rw [List.take_of_length_le (by omega)] at hs3
  cases b
  · rw [endCall_miss hs3]
    simp (disch := first | omega | assumption | exact ⟨by first | assumption | omega, by first | assumption | omega⟩ | (simp only [List.length_cons, List.length_nil]; omega)) only [↓S0, ↓ITE_bool, S1, eq_self, if_true, if_false, true_implies, false_implies, implies_true, ↓c_law21_Heavy, ↓c_ref19_Check, ↓c_law21_wakes, ↓c_bkeep_Node, ↓c_cast_Heard, Node.eta]
  · obtain ⟨k, hk⟩ := Int.eq_ofNat_of_zero_le h1.1
    obtain ⟨y, hy⟩ := get_ex (xs := n.topics) (i := k) (by omega)
    have hm := endCall_true (c := c) (who := wh) hs3 hk hy
    rw [hm]
    have hlc : ((n.calls.eraseP (isCall T C)).length : Int) = n.calls.length - 1 := by
      obtain ⟨a, h4, h5⟩ := List.any_eq_true.1 hs3
      have h6 := List.length_eraseP_of_mem h4 h5
      have h7 : 0 < n.calls.length := List.length_pos_of_mem h4
      omega
    obtain ⟨⟨_, _, _, _, hyq⟩, _⟩ := topic_sz hc (tops_get H.tops hy)
    have hy2 : (n.topics.set k { y with queue := fitE y.queue c.queue (evCall C wh) })[k]? = some { y with queue := fitE y.queue c.queue (evCall C wh) } := by
      have := (List.getElem?_eq_some_iff.1 hy).1
      simp [this]
    have hfl := fit_len y.queue c.queue (evCall C wh)
    have hl2 : ((n.topics.set k { y with queue := fitE y.queue c.queue (evCall C wh) }).length : Int) = n.topics.length := by simp
    rw [hk]
    rw [hk] at h1 hlc
    simp (disch := first | omega | assumption | exact ⟨by first | assumption | omega, by first | assumption | omega⟩ | (simp only [List.length_cons, List.length_nil]; omega)) only [↓S0, ↓ITE_bool, S1, eq_self, if_true, if_false, true_implies, false_implies, implies_true, ↓c_law21_Heavy, ↓c_ref19_Check, ↓c_law21_wakes, ↓c_bkeep_Node, ↓c_cast_Heard, cell_L hy2, cell_L hy, hl2]
    exact ⟨fun _ => ⟨fun _ h => absurd (by omega) h, fun h => absurd (by omega) h⟩, fun h => absurd hlc h⟩
end Go.Xt
end
