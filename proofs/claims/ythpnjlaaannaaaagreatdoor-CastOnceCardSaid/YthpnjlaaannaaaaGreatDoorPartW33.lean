/- Steps towards the statements of this seat; the conditions stand in each theorem. -/
import Derived.Test.YthpnjlaaannaaaaGreatDoorPartW1
section
set_option linter.unusedSimpArgs false
set_option linter.unusedVariables false
set_option maxRecDepth 100000
namespace Go.Xt
/-! ### a visit keeps a node right -/
structure VOk (c : Config) (x : Msg) : Prop where
  t : rng x.topic 0 (c.topics - 1) = true
  o : rng x.node 0 (c.nodes - 1) = true
  i : cnt x.inc = true
  k : rng x.count 1 40 = true
  v : val x.value = true
theorem tell_ok {c : Config} {self : Int} {n : Node} {x : Msg} {who : Int} (H : NOk c self n) (ht : rng x.topic 0 (c.topics - 1) = true) :
    NOk c self (tellN c self n x who).1 ∧ (tellN c self n x who).1.asks = n.asks ∧ (tellN c self n x who).1.inc = n.inc ∧ (tellN c self n x who).1.up = n.up := by
  unfold tellN
  split
  · exact endCall_ok H ht
  · exact ⟨H, rfl, rfl, rfl⟩
theorem lastN_len {α : Type} {l : List α} {k : Nat} : (lastN l k).length ≤ k := by unfold lastN; simp; omega
theorem lastN_mem {α : Type} {l : List α} {k : Nat} {x : α} (h : x ∈ lastN l k) : x ∈ l := List.mem_of_mem_drop h
theorem visit_ok {c : Config} {self : Int} {n : Node} {x : Msg} (H : NOk c self n) (V : VOk c x) :
    NOk c self (visitN c self n x).1 ∧ (visitN c self n x).1.asks = n.asks ∧ (visitN c self n x).1.inc = n.inc ∧ (visitN c self n x).1.up = n.up := by
  unfold visitN
  split
  · refine tell_ok (n := { n with taken := _ }) ⟨H.inc, H.pubs, H.asks, H.calls, H.cl, H.pl, H.tl, H.ml, lastN_len, H.tops, H.peers, H.marks, ?_⟩ V.t
    rw [List.all_eq_true]
    intro y hy
    have := lastN_mem hy
    rw [List.mem_append, List.mem_singleton] at this
    rcases this with h | h
    · exact (List.all_eq_true.1 H.taken) y h
    · subst h
      have hk := rng_bd V.k
      simp only [takenOk, Bool.and_eq_true]
      exact ⟨⟨⟨⟨V.o, V.t⟩, V.i⟩, by unfold cnt rng; simp; omega⟩, V.v⟩
  · unfold goN
    split
    · exact tell_ok H V.t
    · exact ⟨H, rfl, rfl, rfl⟩
theorem begin_law {c : Config} {self : Int} {n : Node} {t value : Int} (hw : nodeWhy c self n = 0) (ht : rng t 0 (c.topics - 1) = true) (hv : val value = true) (ha : n.asks < 40) {q : Node × List Msg × Int × Int} (hE : beginN c self n t value = q) :
    q.2.2.2 = 0 ∧ q.2.2.1 = n.asks + 1 ∧ q.1.asks = n.asks + 1 ∧ nodeWhy c self q.1 = 0 ∧ q.1.inc = n.inc ∧
    ((q.2.1 = [] ∧ q.1.calls.length = n.calls.length) ∨ ∃ m, q.2.1 = [m] ∧ m.kind = 11 ∧ m.node = self ∧ m.inc = n.inc ∧ m.count = n.asks + 1 ∧ m.hops = 1 ∧ q.1.calls.length = n.calls.length + 1) := by
  obtain ⟨hc, hs, hu, H⟩ := why_zero hw
  have hab := rng_bd H.asks
  unfold beginN at hE
  rw [if_pos hw, if_pos (by rw [ht, hv]; rfl), if_pos ha] at hE
  dsimp only at hE
  have hlen := calls_len hab.1 H.calls
  have hcalls := calls_app (t := t) (b := n.asks + 1) hab.1 H.calls (by omega) ht
  have hmk := meet_ok (o := self) (count := n.asks + 1) H.marks H.inc (by omega) (by omega)
  have H1 : NOk c self { n with asks := n.asks + 1, calls := n.calls ++ [⟨n.asks + 1, t, 0⟩], marks := meetL n.marks self n.inc (n.asks + 1) } :=
    ⟨H.inc, H.pubs, by unfold rng; simp; omega, hcalls, by simp; omega, H.pl, H.tl, by rw [← H.ml]; exact congrArg _ hmk.2, H.kl, H.tops, H.peers, hmk.1, H.taken⟩
  have V : VOk c { msg0 with topic := t, node := self, inc := n.inc, count := n.asks + 1, value := value } :=
    ⟨ht, hs, H.inc, by unfold rng; simp; omega, hv⟩
  obtain ⟨v1, v2, v3, v4⟩ := visit_ok H1 V
  subst hE
  refine ⟨rfl, rfl, v2, why_of hc hs (by rw [v4]; exact hu) v1, v3, ?_⟩
  have hany : (n.calls ++ [(⟨n.asks + 1, t, 0⟩ : Call)]).any (isCall t (n.asks + 1)) = true := by simp [isCall]
  have hend : ∀ (m : Node) (who : Int), m.calls = n.calls ++ [(⟨n.asks + 1, t, 0⟩ : Call)] → (endCall c m t (n.asks + 1) who).calls.length = n.calls.length := by
    intro m who hm
    unfold endCall
    rw [if_pos (by rw [hm]; exact hany)]
    show (m.calls.eraseP _).length = _
    rw [hm]
    obtain ⟨a, h1, h2⟩ := List.any_eq_true.1 hany
    rw [List.length_eraseP_of_mem h1 h2]; simp
  have htell : ∀ (m : Node) (who : Int), m.calls = n.calls ++ [(⟨n.asks + 1, t, 0⟩ : Call)] → (tellN c self m { msg0 with topic := t, node := self, inc := n.inc, count := n.asks + 1, value := value } who).2 = [] ∧ (tellN c self m { msg0 with topic := t, node := self, inc := n.inc, count := n.asks + 1, value := value } who).1.calls.length = n.calls.length := by
    intro m who hm
    unfold tellN
    rw [if_pos rfl]
    exact ⟨rfl, hend m who hm⟩
  unfold visitN
  split
  · exact .inl (htell _ _ rfl)
  · unfold goN
    split
    · exact .inl (htell _ _ rfl)
    · exact .inr ⟨_, rfl, rfl, rfl, rfl, rfl, rfl, by simp⟩
/-! ### it wakes -/
def wN0 : Node := ⟨true, 1, List.replicate 8 ⟨0, 0⟩, List.replicate 4 topic0, [], 0, 0, List.replicate 8 ⟨0, 0, 0⟩, []⟩
def wN1 : Node := { wN0 with topics := wN0.topics.set 2 { topic0 with made := true, sub := true } }
def wB0 := beginN fullC 3 wN0 2 7
def wB1 := beginN fullC 3 wN1 2 7
theorem wk1 : wB1.2.2.2 = 0 ∧ wB1.2.2.1 = 1 ∧ wB1.2.1 = [] ∧ wB1.1.topics.length = 4 ∧ (topAt wB1.1 2).queue = [⟨3, 0, 0, 0, 3, 1⟩] ∧ wB1.1.taken.length = 1 := by decide +kernel
theorem wk0 : wB0.2.2.2 = 0 ∧ wB0.1.topics.length = 4 ∧ (topAt wB0.1 2).queue = [⟨4, 0, 0, 0, 0, 1⟩] := by decide +kernel
theorem wk2 : nodeWhy fullC 3 wN1 = 0 ∧ nodeWhy fullC 3 node0 = 9 := by decide +kernel
end Go.Xt
end
section
set_option linter.unusedSimpArgs false
set_option linter.unusedVariables false
set_option maxRecDepth 100000
namespace Go.Xt
theorem cell2 {xs : List Topic} (h : xs.length = 4) (j : Nat) : (L xs).cellAt (I 2) j = look (Row.row (xs.getD 2 topic0)) j := by
  have h2 : xs[2]? = some (xs.getD 2 topic0) := by
    have : 2 < xs.length := by omega
    simp [List.getD_eq_getElem?_getD, this]
  exact cell_L (i := 2) h2
theorem cellq {x : Event} (j : Nat) : (L [x]).cellAt (I 0) j = look (Row.row x) j := cell_L (i := 0) rfl
theorem w_law21_wakes  : S_law21_wakes ρ  (· = [bb true]) := by
  unfold S_law21_wakes
  have e8 : (8 : Int).toNat = 8 := rfl
  have e4 : (4 : Int).toNat = 4 := rfl
  simp (disch := first | omega | assumption | exact ⟨by first | assumption | omega, by first | assumption | omega⟩ | (simp only [List.length_cons, List.length_nil]; omega)) only [↓S0, ↓ITE_bool, S1, eq_self, if_true, if_false, true_implies, false_implies, implies_true, ↓c_cast_Begin, ↓c_cast_Check, ↓c_law19_Full]
  refine SUB.v3 (L wN0.marks) (L wN0.topics) (L wN0.peers) ?_ ?_
  · simp (disch := first | omega | assumption | exact ⟨by first | assumption | omega, by first | assumption | omega⟩ | (simp only [List.length_cons, List.length_nil]; omega)) only [↓S0, ↓ITE_bool, S1, eq_self, if_true, if_false, true_implies, false_implies, implies_true, ↓c_cast_Begin, ↓c_cast_Check, ↓c_law19_Full, e8, e4]
    exact ⟨⟨rfl, rfl⟩, ⟨rfl, rfl⟩, rfl, rfl⟩
  have h2 : wN0.topics[2]? = some topic0 := rfl
  have h2' : (wN0.topics.set 2 { topic0 with made := true })[2]? = some { topic0 with made := true } := rfl
  refine SUB.v1 (L wN1.topics) ?_ ?_
  · rw [show (I 2 : PV) = PV.int .i64 ((2 : Nat) : Int) from rfl, OP_idx (by decide) (by decide), OP_set h2 (y := { topic0 with made := true }) rfl, OP_idx (by decide) (by decide), OP_set h2' (y := { topic0 with made := true, sub := true }) rfl]
    rfl
  have c1 : ∀ k, CALL ρ 10 [I 8, I 4, I 2, I 8, I 8, I 8, I 16, I 3, bb true, I 1, L wN0.peers, L wN1.topics, L (α := Call) [], I 0, I 0, L wN0.marks, L (α := Mark2) [], I 2, I 7] 12 k = k (bb wB1.1.up) (I wB1.1.inc) (L wB1.1.peers) (L wB1.1.topics) (L wB1.1.calls) (I wB1.1.pubs) (I wB1.1.asks) (L wB1.1.marks) (L wB1.1.taken) (L wB1.2.1) (I wB1.2.2.1) (I wB1.2.2.2) :=
    fun k => c_cast_Begin (k_ := k)
  have c0 : ∀ k, CALL ρ 10 [I 8, I 4, I 2, I 8, I 8, I 8, I 16, I 3, bb true, I 1, L wN0.peers, L wN0.topics, L (α := Call) [], I 0, I 0, L wN0.marks, L (α := Mark2) [], I 2, I 7] 12 k = k (bb wB0.1.up) (I wB0.1.inc) (L wB0.1.peers) (L wB0.1.topics) (L wB0.1.calls) (I wB0.1.pubs) (I wB0.1.asks) (L wB0.1.marks) (L wB0.1.taken) (L wB0.2.1) (I wB0.2.2.1) (I wB0.2.2.2) :=
    fun k => c_cast_Begin (k_ := k)
  rw [c1]
  refine Or.inl ⟨[L wN0.peers, L wN0.topics, L wN0.marks, bb wB0.1.up, I wB0.1.inc, L wB0.1.peers, L wB0.1.topics, L wB0.1.calls, I wB0.1.pubs, I wB0.1.asks, L wB0.1.marks, L wB0.1.taken, L wB0.2.1, I wB0.2.2.1, I wB0.2.2.2, L wB0.2.1, I wB0.2.2.1, I wB0.2.2.2, bb wB0.1.up, I wB0.1.inc, L wB0.1.peers, L wB0.1.topics, L wB0.1.calls, I wB0.1.pubs, I wB0.1.asks, L wB0.1.marks, L wB0.1.taken, L wN0.peers, L wN0.topics, L wN0.marks], rfl, ?_, ?_⟩
  · have f1 : (List.replicate 8 (⟨0, 0⟩ : Peer)) = wN0.peers := rfl
    have f2 : (List.replicate 4 topic0) = wN0.topics := rfl
    have f3 : (List.replicate 8 (⟨0, 0, 0⟩ : Mark)) = wN0.marks := rfl
    simp (disch := omega) only [OP_replPeer, OP_replTopic, OP_replMark, e8, e4, f1, f2, f3, c0, and_self]
    rfl
  simp only [app]
  obtain ⟨g1, g2, g3, g4, g5, g6⟩ := wk1
  obtain ⟨j1, j2, j3⟩ := wk0
  obtain ⟨l1, l2⟩ := wk2
  have g4' : (wB1.1.topics.length : Int) = 4 := by rw [g4]; rfl
  have j2' : (wB0.1.topics.length : Int) = 4 := by rw [j2]; rfl
  have g7 : wB1.1.topics.getD 2 topic0 = topAt wB1.1 2 := rfl
  have j7 : wB0.1.topics.getD 2 topic0 = topAt wB0.1 2 := rfl
  have g6' : (wB1.1.taken.length : Int) = 1 := by rw [g6]; rfl
  have m1 : nodeWhy (⟨8, 4, 2, 8, 8, 8, 16⟩ : Config) 3 (⟨true, 1, wN0.peers, wN1.topics, [], 0, 0, wN0.marks, []⟩ : Node) = 0 := l1
  have m2 : nodeWhy (⟨8, 4, 2, 8, 8, 8, 16⟩ : Config) 3 (⟨false, 0, [], [], [], 0, 0, [], []⟩ : Node) = 9 := l2
  rw [g1, g2, g3, j1]
  simp (disch := first | omega | assumption | exact ⟨by first | assumption | omega, by first | assumption | omega⟩ | (simp only [List.length_cons, List.length_nil]; omega)) only [↓S0, ↓ITE_bool, S1, eq_self, if_true, if_false, true_implies, false_implies, implies_true, ↓c_cast_Begin, ↓c_cast_Check, ↓c_law19_Full, cell2 g4, cell2 j2, g7, j7, g5, j3, g4', j2', g6', cellq]
  simp [m1, m2]
end Go.Xt
end
section
set_option linter.unusedSimpArgs false
set_option linter.unusedVariables false
set_option maxRecDepth 100000
namespace Go.Xt
theorem cellm {m : Msg} (j : Nat) : (L [m]).cellAt (I 0) j = look (Row.row m) j := cell_L (i := 0) rfl
end Go.Xt
end
section
set_option linter.unusedSimpArgs false
set_option linter.unusedVariables false
set_option maxRecDepth 100000
namespace Go.Xt
theorem concat_len : ∀ (ls : List (List Int)) (i : Nat), ((ls.take i).flatten).length ≤ ls.flatten.length
  | [], i => by simp
  | l :: r, 0 => by simp
  | l :: r, i + 1 => by
    have := concat_len r i
    simp only [List.take_succ_cons, List.flatten_cons, List.length_append]; omega
theorem flat_take {ls : List (List Int)} {i : Nat} {x : List Int} (hx : ls[i]? = some x) : (ls.take (i + 1)).flatten = (ls.take i).flatten ++ x := by
  rw [List.take_add_one, hx]; simp
theorem w_slices_Concat_int_int (ls : List (List Int)) (hp : ls.flatten.length ≤ 1000000) (hg : Goods [L ls]) : S_slices_Concat_int_int ρ (L ls) (· = [L ls.flatten]) := by
  unfold S_slices_Concat_int_int
  simp only [Goods, good_L] at hg
  simp (disch := first | omega | assumption | exact ⟨by first | assumption | omega, by first | assumption | omega⟩ | (simp only [List.length_cons, List.length_nil]; omega)) only [↓S0, ↓ITE_bool, S1, eq_self, if_true, if_false, true_implies, false_implies, implies_true, ↓c_slices_Grow_int_int]
  refine LOOP.rule (α := Nat) (fun i => [I (((ls.take i).flatten).length : Nat), I i]) (fun i => i ≤ ls.length) (fun i => ls.length - i) 0 rfl (by omega) (fun _ => rfl) ?_
  intro i hl
  have hi1 := concat_len ls i
  simp only [app]
  simp (disch := first | omega | assumption | exact ⟨by first | assumption | omega, by first | assumption | omega⟩ | (simp only [List.length_cons, List.length_nil]; omega)) only [↓S0, ↓ITE_bool, S1, eq_self, if_true, if_false, true_implies, false_implies, implies_true, ↓c_slices_Grow_int_int]
  refine ⟨fun h => ?_, fun h => ?_⟩
  · obtain ⟨x, hx⟩ := get_ex h
    have hft := flat_take hx
    have hi2 := concat_len ls (i + 1)
    rw [hft, List.length_append] at hi2
    simp (disch := first | omega | assumption | exact ⟨by first | assumption | omega, by first | assumption | omega⟩ | (simp only [List.length_cons, List.length_nil]; omega)) only [↓S0, ↓ITE_bool, S1, eq_self, if_true, if_false, true_implies, false_implies, implies_true, ↓c_slices_Grow_int_int, cell_L hx]
    refine ⟨fun h => by omega, fun _ => ⟨i + 1, ?_, by omega, by omega⟩⟩
    rw [hft]; simp
  · rw [List.take_of_length_le (by omega)]
    have hpre : ([] : List Int) = [] ∧ (0 : Int) ≤ (ls.flatten.length : Int) ∧ (ls.flatten.length : Int) ≤ 1000000 := ⟨rfl, by omega, by omega⟩
    simp (disch := first | omega | assumption | exact ⟨by first | assumption | omega, by first | assumption | omega⟩ | (simp only [List.length_cons, List.length_nil]; omega)) only [↓S0, ↓ITE_bool, S1, eq_self, if_true, if_false, true_implies, false_implies, implies_true, ↓c_slices_Grow_int_int]
    refine LOOP.rule (α := Nat) (fun i => [I i, L ((ls.take i).flatten)]) (fun i => i ≤ ls.length) (fun i => ls.length - i) 0 rfl (by omega) (fun _ => rfl) ?_
    intro j hj
    have hi1 := concat_len ls j
    simp only [app]
    simp (disch := first | omega | assumption | exact ⟨by first | assumption | omega, by first | assumption | omega⟩ | (simp only [List.length_cons, List.length_nil]; omega)) only [↓S0, ↓ITE_bool, S1, eq_self, if_true, if_false, true_implies, false_implies, implies_true, ↓c_slices_Grow_int_int]
    refine ⟨fun h => ?_, fun h => ?_⟩
    · obtain ⟨x, hx⟩ := get_ex h
      have hft := flat_take hx
      have hi2 := concat_len ls (j + 1)
      rw [hft, List.length_append] at hi2
      simp (disch := first | omega | assumption | exact ⟨by first | assumption | omega, by first | assumption | omega⟩ | (simp only [List.length_cons, List.length_nil]; omega)) only [↓S0, ↓ITE_bool, S1, eq_self, if_true, if_false, true_implies, false_implies, implies_true, ↓c_slices_Grow_int_int, cell_L hx]
      refine ⟨j + 1, ?_, by omega, by omega⟩
      rw [hft]; simp
    · rw [List.take_of_length_le (by omega)]
theorem w_msg_ends (m : Msg) : S_msg_ends ρ (I m.kind) (I m.frm) (I m.fromInc) (I m.to) (I m.toInc) (I m.topic) (I m.epoch) (I m.seq) (I m.last) (I m.value) (I m.node) (I m.inc) (I m.count) (I m.hops) (L m.path) (L m.todo) (· = [bb (endsOk m)]) := by
  unfold S_msg_ends endsOk
  simp (disch := first | omega | assumption | exact ⟨by first | assumption | omega, by first | assumption | omega⟩ | (simp only [List.length_cons, List.length_nil]; omega)) only [↓S0, ITE_R, ITE_eq, ite_c, ite_bb, ite_I, ite_L, ite_L0, ite_0L, ite_self, SUB_r1, SUB_r2, SUB_r3, S1, eq_self, if_true, if_false, true_implies, false_implies, implies_true, ↓c_msg_Counted, ↓c_ring_Is]
  cases isN m.frm <;> cases isN m.to <;> simp
theorem w_msg_place (m : Msg) : S_msg_place ρ (I m.kind) (I m.frm) (I m.fromInc) (I m.to) (I m.toInc) (I m.topic) (I m.epoch) (I m.seq) (I m.last) (I m.value) (I m.node) (I m.inc) (I m.count) (I m.hops) (L m.path) (L m.todo) (· = [bb (placeM m)]) := by
  unfold S_msg_place placeM
  simp (disch := first | omega | assumption | exact ⟨by first | assumption | omega, by first | assumption | omega⟩ | (simp only [List.length_cons, List.length_nil]; omega)) only [↓S0, ITE_R, ITE_eq, ite_c, ite_bb, ite_I, ite_L, ite_L0, ite_0L, ite_self, SUB_r1, SUB_r2, SUB_r3, S1, eq_self, if_true, if_false, true_implies, false_implies, implies_true, ↓c_msg_in, ↓c_msg_Counted]
  cases rng m.epoch 1 1073741824 <;> simp
theorem w_msg_whose (m : Msg) : S_msg_whose ρ (I m.kind) (I m.frm) (I m.fromInc) (I m.to) (I m.toInc) (I m.topic) (I m.epoch) (I m.seq) (I m.last) (I m.value) (I m.node) (I m.inc) (I m.count) (I m.hops) (L m.path) (L m.todo) (· = [bb (whoseM m)]) := by
  unfold S_msg_whose whoseM
  simp (disch := first | omega | assumption | exact ⟨by first | assumption | omega, by first | assumption | omega⟩ | (simp only [List.length_cons, List.length_nil]; omega)) only [↓S0, ITE_R, ITE_eq, ite_c, ite_bb, ite_I, ite_L, ite_L0, ite_0L, ite_self, SUB_r1, SUB_r2, SUB_r3, S1, eq_self, if_true, if_false, true_implies, false_implies, implies_true, ↓c_msg_Value, ↓c_msg_in, ↓c_msg_Counted, ↓c_ring_Is]
  cases isN m.node <;> cases cnt m.inc <;> cases val m.value <;> simp
theorem nodup_take {α : Type} [DecidableEq α] {l : List α} {i : Nat} {x : α} (hx : l[i]? = some x) : (l.take (i + 1)).Nodup ↔ (l.take i).Nodup ∧ x ∉ l.take i := by
  rw [List.take_add_one, hx, Option.toList_some, List.nodup_append]
  constructor
  · rintro ⟨h1, _, h3⟩
    exact ⟨h1, fun hm => h3 x hm x (by simp) rfl⟩
  · rintro ⟨h1, h2⟩
    refine ⟨h1, by simp, fun a ha b hb => ?_⟩
    rw [List.mem_singleton] at hb
    subst hb
    rintro rfl; exact h2 ha
theorem nodup_pre {α : Type} {l : List α} {i : Nat} (h : l.Nodup) : (l.take i).Nodup := List.Nodup.sublist (List.take_sublist _ _) h
theorem w_msg_Unlike (l : List Int) (hg : Goods [L l]) : S_msg_Unlike ρ (L l) (· = [bb (decide l.Nodup)]) := by
  unfold S_msg_Unlike
  simp only [Goods, good_L] at hg
  generalize hE : decide l.Nodup = q
  simp (disch := first | omega | assumption | exact ⟨by first | assumption | omega, by first | assumption | omega⟩ | (simp only [List.length_cons, List.length_nil]; omega)) only [↓S0, ↓ITE_bool, S1, eq_self, if_true, if_false, true_implies, false_implies, implies_true, ↓c_slices_Contains_int_int]
  refine LOOP.rule (α := Nat) (fun i => [I i]) (fun i => i ≤ l.length ∧ (l.take i).Nodup) (fun i => l.length - i) 0 rfl ⟨by omega, by simp⟩ (fun _ => rfl) ?_
  rintro i ⟨hl, hs⟩
  simp only [app]
  simp (disch := first | omega | assumption | exact ⟨by first | assumption | omega, by first | assumption | omega⟩ | (simp only [List.length_cons, List.length_nil]; omega)) only [↓S0, ↓ITE_bool, S1, eq_self, if_true, if_false, true_implies, false_implies, implies_true, ↓c_slices_Contains_int_int]
  refine ⟨fun h => ?_, fun h => ?_⟩
  · obtain ⟨x, hx⟩ := get_ex h
    simp (disch := first | omega | assumption | exact ⟨by first | assumption | omega, by first | assumption | omega⟩ | (simp only [List.length_cons, List.length_nil]; omega)) only [↓S0, ↓ITE_bool, S1, eq_self, if_true, if_false, true_implies, false_implies, implies_true, ↓c_slices_Contains_int_int, cell_L hx, Int.toNat_natCast]
    refine ⟨fun h3 => ?_, fun h3 => ⟨i + 1, rfl, ⟨by omega, (nodup_take hx).2 ⟨hs, fun hm => ?_⟩⟩, by omega⟩⟩
    · rw [← hE]
      have : ¬ l.Nodup := fun hn => ((nodup_take hx).1 (nodup_pre hn)).2 (by simpa using h3)
      simp [this]
    · have : (l.take i).contains x = true := by simpa using hm
      rw [h3] at this; cases this
  · rw [List.take_of_length_le (by omega)] at hs
    rw [← hE]; simp [hs]
theorem w_msg_way (l : List Int) (hg : Goods [L l]) : S_msg_way ρ (L l) (· = [bb (wayOk l)]) := by
  unfold S_msg_way wayOk
  simp (disch := first | omega | assumption | exact ⟨by first | assumption | omega, by first | assumption | omega⟩ | (simp only [List.length_cons, List.length_nil]; omega)) only [↓S0, ↓ITE_bool, S1, eq_self, if_true, if_false, true_implies, false_implies, implies_true, ↓c_ring_All, ↓c_msg_Unlike]
  refine ⟨fun h => ?_, fun h => ?_⟩
  · have e : decide (l.length ≤ 8) = true := by simp; omega
    rw [e]
    cases l.all isN <;> simp
  · have e : decide (l.length ≤ 8) = false := by simp; omega
    simp [e]
theorem w_msg_bare (m : Msg) (hg : Goods [I m.kind, I m.frm, I m.fromInc, I m.to, I m.toInc, I m.topic, I m.epoch, I m.seq, I m.last, I m.value, I m.node, I m.inc, I m.count, I m.hops, L m.path, L m.todo]) : S_msg_bare ρ (I m.kind) (I m.frm) (I m.fromInc) (I m.to) (I m.toInc) (I m.topic) (I m.epoch) (I m.seq) (I m.last) (I m.value) (I m.node) (I m.inc) (I m.count) (I m.hops) (L m.path) (L m.todo) (· = [I (bareM m).1.kind, I (bareM m).1.frm, I (bareM m).1.fromInc, I (bareM m).1.to, I (bareM m).1.toInc, I (bareM m).1.topic, I (bareM m).1.epoch, I (bareM m).1.seq, I (bareM m).1.last, I (bareM m).1.value, I (bareM m).1.node, I (bareM m).1.inc, I (bareM m).1.count, I (bareM m).1.hops, L (bareM m).1.path, L (bareM m).1.todo, bb (bareM m).2]) := by
  unfold S_msg_bare
  simp only [Goods, good_I, good_L] at hg
  generalize hE : bareM m = q
  simp (disch := first | omega | assumption | exact ⟨by first | assumption | omega, by first | assumption | omega⟩ | (simp only [List.length_cons, List.length_nil]; omega)) only [↓S0, ↓ITE_bool, S1, eq_self, if_true, if_false, true_implies, false_implies, implies_true, ↓c_msg_Value, ↓c_slices_Concat_int_int, ↓c_msg_in, ↓c_msg_Counted, ↓c_msg_way, ↓c_ring_Is, ↓c_msg_place, ↓c_msg_whose, ↓c_msg_Unlike]
  refine SUB.v1 (bb (decide (m.kind = 1) || decide (m.kind = 5) || decide (m.kind = 6))) ?_ ?_
  · repeat' (first | apply And.intro | intro _ | simp (disch := first | omega | assumption | exact ⟨by first | assumption | omega, by first | assumption | omega⟩ | (simp only [List.length_cons, List.length_nil]; omega)) only [↓S0, ↓ITE_bool, S1, eq_self, if_true, if_false, true_implies, false_implies, implies_true, ↓c_msg_Value, ↓c_slices_Concat_int_int, ↓c_msg_in, ↓c_msg_Counted, ↓c_msg_way, ↓c_ring_Is, ↓c_msg_place, ↓c_msg_whose, ↓c_msg_Unlike])
    all_goals simp_all
  unfold bareM at hE
  by_cases k1 : m.kind = 1 ∨ m.kind = 5 ∨ m.kind = 6
  · rw [if_pos k1] at hE
    have e : (decide (m.kind = 1) || decide (m.kind = 5) || decide (m.kind = 6)) = true := by simp; omega
    simp (disch := first | omega | assumption | exact ⟨by first | assumption | omega, by first | assumption | omega⟩ | (simp only [List.length_cons, List.length_nil]; omega)) only [↓S0, ↓ITE_bool, S1, eq_self, if_true, if_false, true_implies, false_implies, implies_true, ↓c_msg_Value, ↓c_slices_Concat_int_int, ↓c_msg_in, ↓c_msg_Counted, ↓c_msg_way, ↓c_ring_Is, ↓c_msg_place, ↓c_msg_whose, ↓c_msg_Unlike, e]
    rw [← hE]
  rw [if_neg k1] at hE
  have e : (decide (m.kind = 1) || decide (m.kind = 5) || decide (m.kind = 6)) = false := by simp; omega
  simp (disch := first | omega | assumption | exact ⟨by first | assumption | omega, by first | assumption | omega⟩ | (simp only [List.length_cons, List.length_nil]; omega)) only [↓S0, ↓ITE_bool, S1, eq_self, if_true, if_false, true_implies, false_implies, implies_true, ↓c_msg_Value, ↓c_slices_Concat_int_int, ↓c_msg_in, ↓c_msg_Counted, ↓c_msg_way, ↓c_ring_Is, ↓c_msg_place, ↓c_msg_whose, ↓c_msg_Unlike, e]
  refine ⟨fun k2 => ?_, fun k2 => ?_⟩
  · rw [if_pos k2] at hE
    rw [← hE]
    repeat' (first | apply And.intro | intro _ | simp (disch := first | omega | assumption | exact ⟨by first | assumption | omega, by first | assumption | omega⟩ | (simp only [List.length_cons, List.length_nil]; omega)) only [↓S0, ↓ITE_bool, S1, eq_self, if_true, if_false, true_implies, false_implies, implies_true, ↓c_msg_Value, ↓c_slices_Concat_int_int, ↓c_msg_in, ↓c_msg_Counted, ↓c_msg_way, ↓c_ring_Is, ↓c_msg_place, ↓c_msg_whose, ↓c_msg_Unlike])
    all_goals simp_all
  rw [if_neg k2] at hE
  refine ⟨fun k3 => ?_, fun k3 => ?_⟩
  · rw [if_pos k3] at hE
    rw [← hE]
    have eL : (PV.list [] : PV) = L ([] : List Int) := rfl
    cases hpa : m.path with
    | nil =>
      repeat' (first | apply And.intro | intro _ | simp (disch := first | omega | assumption | exact ⟨by first | assumption | omega, by first | assumption | omega⟩ | (simp only [List.length_cons, List.length_nil]; omega)) only [↓S0, ↓ITE_bool, S1, eq_self, if_true, if_false, true_implies, false_implies, implies_true, ↓c_msg_Value, ↓c_slices_Concat_int_int, ↓c_msg_in, ↓c_msg_Counted, ↓c_msg_way, ↓c_ring_Is, ↓c_msg_place, ↓c_msg_whose, ↓c_msg_Unlike])
      all_goals (rw [eL]; simp_all)
    | cons p r =>
      have hc0 : (L (p :: r)).cellAt (I 0) 0 = I p := cell_L (i := 0) (x := p) rfl
      repeat' (first | apply And.intro | intro _ | simp (disch := first | omega | assumption | exact ⟨by first | assumption | omega, by first | assumption | omega⟩ | (simp only [List.length_cons, List.length_nil]; omega)) only [↓S0, ↓ITE_bool, S1, eq_self, if_true, if_false, true_implies, false_implies, implies_true, ↓c_msg_Value, ↓c_slices_Concat_int_int, ↓c_msg_in, ↓c_msg_Counted, ↓c_msg_way, ↓c_ring_Is, ↓c_msg_place, ↓c_msg_whose, ↓c_msg_Unlike, hc0, eL])
      all_goals simp_all
  rw [if_neg k3] at hE
  refine ⟨fun k4 => ?_, fun k4 => ?_⟩
  · rw [if_pos k4] at hE
    rw [← hE]
    repeat' (first | apply And.intro | intro _ | simp (disch := first | omega | assumption | exact ⟨by first | assumption | omega, by first | assumption | omega⟩ | (simp only [List.length_cons, List.length_nil]; omega)) only [↓S0, ↓ITE_bool, S1, eq_self, if_true, if_false, true_implies, false_implies, implies_true, ↓c_msg_Value, ↓c_slices_Concat_int_int, ↓c_msg_in, ↓c_msg_Counted, ↓c_msg_way, ↓c_ring_Is, ↓c_msg_place, ↓c_msg_whose, ↓c_msg_Unlike])
    all_goals simp_all
  rw [if_neg k4] at hE
  refine ⟨fun k7 => ?_, fun k7 => ?_⟩
  · rw [if_pos k7] at hE
    rw [← hE]
    repeat' (first | apply And.intro | intro _ | simp (disch := first | omega | assumption | exact ⟨by first | assumption | omega, by first | assumption | omega⟩ | (simp only [List.length_cons, List.length_nil]; omega)) only [↓S0, ↓ITE_bool, S1, eq_self, if_true, if_false, true_implies, false_implies, implies_true, ↓c_msg_Value, ↓c_slices_Concat_int_int, ↓c_msg_in, ↓c_msg_Counted, ↓c_msg_way, ↓c_ring_Is, ↓c_msg_place, ↓c_msg_whose, ↓c_msg_Unlike])
    all_goals simp_all
  rw [if_neg k7] at hE
  refine ⟨fun k8 => ?_, fun k8 => ?_⟩
  · rw [if_pos k8] at hE
    rw [← hE]
    repeat' (first | apply And.intro | intro _ | simp (disch := first | omega | assumption | exact ⟨by first | assumption | omega, by first | assumption | omega⟩ | (simp only [List.length_cons, List.length_nil]; omega)) only [↓S0, ↓ITE_bool, S1, eq_self, if_true, if_false, true_implies, false_implies, implies_true, ↓c_msg_Value, ↓c_slices_Concat_int_int, ↓c_msg_in, ↓c_msg_Counted, ↓c_msg_way, ↓c_ring_Is, ↓c_msg_place, ↓c_msg_whose, ↓c_msg_Unlike])
    all_goals simp_all
  rw [if_neg k8] at hE
  refine ⟨fun k9 => ?_, fun k9 => ?_⟩
  · rw [if_pos k9] at hE
    rw [← hE]
    repeat' (first | apply And.intro | intro _ | simp (disch := first | omega | assumption | exact ⟨by first | assumption | omega, by first | assumption | omega⟩ | (simp only [List.length_cons, List.length_nil]; omega)) only [↓S0, ↓ITE_bool, S1, eq_self, if_true, if_false, true_implies, false_implies, implies_true, ↓c_msg_Value, ↓c_slices_Concat_int_int, ↓c_msg_in, ↓c_msg_Counted, ↓c_msg_way, ↓c_ring_Is, ↓c_msg_place, ↓c_msg_whose, ↓c_msg_Unlike])
    all_goals simp_all
  rw [if_neg k9] at hE
  refine ⟨fun k10 => ?_, fun k10 => ?_⟩
  · rw [if_pos k10] at hE
    rw [← hE]
    repeat' (first | apply And.intro | intro _ | simp (disch := first | omega | assumption | exact ⟨by first | assumption | omega, by first | assumption | omega⟩ | (simp only [List.length_cons, List.length_nil]; omega)) only [↓S0, ↓ITE_bool, S1, eq_self, if_true, if_false, true_implies, false_implies, implies_true, ↓c_msg_Value, ↓c_slices_Concat_int_int, ↓c_msg_in, ↓c_msg_Counted, ↓c_msg_way, ↓c_ring_Is, ↓c_msg_place, ↓c_msg_whose, ↓c_msg_Unlike])
    all_goals simp_all
  rw [if_neg k10] at hE
  refine ⟨fun k11 => ?_, fun k11 => ?_⟩
  · rw [if_pos k11] at hE
    rw [← hE]
    cases hpa : wayOk m.path with
    | false => repeat' (first | apply And.intro | intro _ | simp (disch := first | omega | assumption | exact ⟨by first | assumption | omega, by first | assumption | omega⟩ | (simp only [List.length_cons, List.length_nil]; omega)) only [↓S0, ↓ITE_bool, S1, eq_self, if_true, if_false, true_implies, false_implies, implies_true, ↓c_msg_Value, ↓c_slices_Concat_int_int, ↓c_msg_in, ↓c_msg_Counted, ↓c_msg_way, ↓c_ring_Is, ↓c_msg_place, ↓c_msg_whose, ↓c_msg_Unlike])
               all_goals simp_all [show (PV.list [] : PV) = L ([] : List Int) from rfl]
    | true =>
    cases hto : wayOk m.todo with
    | false => repeat' (first | apply And.intro | intro _ | simp (disch := first | omega | assumption | exact ⟨by first | assumption | omega, by first | assumption | omega⟩ | (simp only [List.length_cons, List.length_nil]; omega)) only [↓S0, ↓ITE_bool, S1, eq_self, if_true, if_false, true_implies, false_implies, implies_true, ↓c_msg_Value, ↓c_slices_Concat_int_int, ↓c_msg_in, ↓c_msg_Counted, ↓c_msg_way, ↓c_ring_Is, ↓c_msg_place, ↓c_msg_whose, ↓c_msg_Unlike])
               all_goals simp_all [show (PV.list [] : PV) = L ([] : List Int) from rfl]
    | true =>
      have hfl : ([m.path, m.todo].flatten).length ≤ 1000000 := by
        simp only [wayOk, Bool.and_eq_true, decide_eq_true_eq] at hpa hto
        simp; omega
      repeat' (first | apply And.intro | intro _ | simp (disch := first | omega | assumption | exact ⟨by first | assumption | omega, by first | assumption | omega⟩ | (simp only [List.length_cons, List.length_nil]; omega)) only [↓S0, ↓ITE_bool, S1, eq_self, if_true, if_false, true_implies, false_implies, implies_true, ↓c_msg_Value, ↓c_slices_Concat_int_int, ↓c_msg_in, ↓c_msg_Counted, ↓c_msg_way, ↓c_ring_Is, ↓c_msg_place, ↓c_msg_whose, ↓c_msg_Unlike])
      all_goals simp_all [show (PV.list [] : PV) = L ([] : List Int) from rfl]
  rw [if_neg k11] at hE
  refine ⟨fun k12 => ?_, fun k12 => ?_⟩
  · rw [if_pos k12] at hE
    rw [← hE]
    repeat' (first | apply And.intro | intro _ | simp (disch := first | omega | assumption | exact ⟨by first | assumption | omega, by first | assumption | omega⟩ | (simp only [List.length_cons, List.length_nil]; omega)) only [↓S0, ↓ITE_bool, S1, eq_self, if_true, if_false, true_implies, false_implies, implies_true, ↓c_msg_Value, ↓c_slices_Concat_int_int, ↓c_msg_in, ↓c_msg_Counted, ↓c_msg_way, ↓c_ring_Is, ↓c_msg_place, ↓c_msg_whose, ↓c_msg_Unlike])
    all_goals simp_all
  rw [if_neg k12] at hE
  refine ⟨fun k13 => ?_, fun k13 => ?_⟩
  · rw [if_pos k13] at hE
    rw [← hE]
    repeat' (first | apply And.intro | intro _ | simp (disch := first | omega | assumption | exact ⟨by first | assumption | omega, by first | assumption | omega⟩ | (simp only [List.length_cons, List.length_nil]; omega)) only [↓S0, ↓ITE_bool, S1, eq_self, if_true, if_false, true_implies, false_implies, implies_true, ↓c_msg_Value, ↓c_slices_Concat_int_int, ↓c_msg_in, ↓c_msg_Counted, ↓c_msg_way, ↓c_ring_Is, ↓c_msg_place, ↓c_msg_whose, ↓c_msg_Unlike])
    all_goals simp_all
  rw [if_neg k13] at hE
  rw [← hE]
theorem w_msg_Check (m : Msg) (hg : Goods [I m.kind, I m.frm, I m.fromInc, I m.to, I m.toInc, I m.topic, I m.epoch, I m.seq, I m.last, I m.value, I m.node, I m.inc, I m.count, I m.hops, L m.path, L m.todo]) : S_msg_Check ρ (I m.kind) (I m.frm) (I m.fromInc) (I m.to) (I m.toInc) (I m.topic) (I m.epoch) (I m.seq) (I m.last) (I m.value) (I m.node) (I m.inc) (I m.count) (I m.hops) (L m.path) (L m.todo) (· = [I (if msgOk m = true then 0 else 5)]) := by
  unfold S_msg_Check
  simp only [Goods, good_I, good_L] at hg
  simp (disch := first | omega | assumption | exact ⟨by first | assumption | omega, by first | assumption | omega⟩ | (simp only [List.length_cons, List.length_nil]; omega)) only [↓S0, ↓ITE_bool, S1, eq_self, if_true, if_false, true_implies, false_implies, implies_true, ↓c_msg_in, ↓c_msg_Counted, ↓c_msg_bare, ↓c_msg_ends]
  refine SUB.v1 (bb (knownM m)) ?_ ?_
  · unfold knownM
    refine ⟨fun k => ?_, fun k => ?_⟩
    · rw [if_pos k]
      repeat' (first | apply And.intro | intro _ | simp (disch := first | omega | assumption | exact ⟨by first | assumption | omega, by first | assumption | omega⟩ | (simp only [List.length_cons, List.length_nil]; omega)) only [↓S0, ↓ITE_bool, S1, eq_self, if_true, if_false, true_implies, false_implies, implies_true, ↓c_msg_in, ↓c_msg_Counted, ↓c_msg_bare, ↓c_msg_ends])
      all_goals simp_all
    · rw [if_neg k]
      repeat' (first | apply And.intro | intro _ | simp (disch := first | omega | assumption | exact ⟨by first | assumption | omega, by first | assumption | omega⟩ | (simp only [List.length_cons, List.length_nil]; omega)) only [↓S0, ↓ITE_bool, S1, eq_self, if_true, if_false, true_implies, false_implies, implies_true, ↓c_msg_in, ↓c_msg_Counted, ↓c_msg_bare, ↓c_msg_ends])
      all_goals simp_all
  refine SUB.v1 (bb (spareM (bareM m).1)) ?_ ?_
  · unfold spareM
    repeat' (first | apply And.intro | intro _ | simp (disch := first | omega | assumption | exact ⟨by first | assumption | omega, by first | assumption | omega⟩ | (simp only [List.length_cons, List.length_nil]; omega)) only [↓S0, ↓ITE_bool, S1, eq_self, if_true, if_false, true_implies, false_implies, implies_true, ↓c_msg_in, ↓c_msg_Counted, ↓c_msg_bare, ↓c_msg_ends])
    all_goals simp_all
  unfold msgOk
  cases e1 : (bareM m).2 <;> cases e2 : knownM m <;> cases e3 : spareM (bareM m).1
  all_goals simp (disch := first | omega | assumption | exact ⟨by first | assumption | omega, by first | assumption | omega⟩ | (simp only [List.length_cons, List.length_nil]; omega)) only [↓S0, ↓ITE_bool, S1, eq_self, if_true, if_false, true_implies, false_implies, implies_true, ↓c_msg_in, ↓c_msg_Counted, ↓c_msg_bare, ↓c_msg_ends, e1, e2, e3]
  all_goals simp
  refine ⟨fun h h2 => by rw [h2] at h; simp at h, fun h => ⟨fun h2 _ h3 => by rw [h3] at h2; simp at h2, fun h2 => ⟨h, h2⟩⟩⟩
end Go.Xt
end
section
set_option linter.unusedSimpArgs false
set_option linter.unusedVariables false
set_option maxRecDepth 100000
namespace Go.Xt
theorem OP_rowLLL {α : Type} [Row α] {a b d : List α} {k : PV → Prop} : OP (.rows 1) [L a, L b, L d] k = k (L [a, b, d]) := OP_of (by simp [ev, chunk, L, Row.row])
theorem w_law06_Heavy (m : Msg) : S_law06_Heavy ρ (I m.kind) (I m.frm) (I m.fromInc) (I m.to) (I m.toInc) (I m.topic) (I m.epoch) (I m.seq) (I m.last) (I m.value) (I m.node) (I m.inc) (I m.count) (I m.hops) (L m.path) (L m.todo) (· = [bb (decide (m.path.length > 30) || decide (m.todo.length > 30))]) := by
  unfold S_law06_Heavy
  simp (disch := first | omega | assumption | exact ⟨by first | assumption | omega, by first | assumption | omega⟩ | (simp only [List.length_cons, List.length_nil]; omega)) only [↓S0, ↓ITE_bool, S1, eq_self, if_true, if_false, true_implies, false_implies, implies_true]
  refine ⟨fun h => ?_, fun h => ?_⟩
  · have : decide (m.path.length > 30) = true := by simp; omega
    simp [this]
  · have : decide (m.path.length > 30) = false := by simp; omega
    rw [this, Bool.false_or]; simp; omega
theorem w_cast_whole (c : Config) (l : List Int) (hp : cfgOk c = true) (hg : Goods [I c.nodes, I c.topics, I c.kids, I c.depth, I c.keep, I c.window, I c.queue, L l]) : S_cast_whole ρ (I c.nodes) (I c.topics) (I c.kids) (I c.depth) (I c.keep) (I c.window) (I c.queue) (L l) (· = [bb (l.all fun n => rng n 0 (c.nodes - 1))]) := by
  unfold S_cast_whole
  simp only [Goods, good_I, good_L] at hg
  have hb := cfg_bd hp
  simp (disch := first | omega | assumption | exact ⟨by first | assumption | omega, by first | assumption | omega⟩ | (simp only [List.length_cons, List.length_nil]; omega)) only [↓S0, ↓ITE_bool, S1, eq_self, if_true, if_false, true_implies, false_implies, implies_true, ↓c_cast_in]
  refine LOOP.rule (α := Nat) (fun i => [I i]) (fun i => i ≤ l.length ∧ (l.drop i).all (fun n => rng n 0 (c.nodes - 1)) = l.all (fun n => rng n 0 (c.nodes - 1))) (fun i => l.length - i) 0 rfl ⟨by omega, by simp⟩ (fun _ => rfl) ?_
  rintro i ⟨hl_i, hs_i⟩
  simp only [app]
  simp (disch := first | omega | assumption | exact ⟨by first | assumption | omega, by first | assumption | omega⟩ | (simp only [List.length_cons, List.length_nil]; omega)) only [↓S0, ↓ITE_bool, S1, eq_self, if_true, if_false, true_implies, false_implies, implies_true, ↓c_cast_in]
  refine ⟨fun hc_i => ?_, fun hc_i => ?_⟩
  · obtain ⟨x, hx⟩ := get_ex hc_i
    rw [drop_eq hx, List.all_cons] at hs_i
    simp (disch := first | omega | assumption | exact ⟨by first | assumption | omega, by first | assumption | omega⟩ | (simp only [List.length_cons, List.length_nil]; omega)) only [↓S0, ↓ITE_bool, S1, eq_self, if_true, if_false, true_implies, false_implies, implies_true, ↓c_cast_in, cell_L hx]
    refine ⟨fun h3 => ?_, fun h3 => ⟨i + 1, rfl, ⟨by omega, by simpa [h3] using hs_i⟩, by omega⟩⟩
    have h9 : decide ((0 : Int) ≤ i) = true := by simp
    rw [← hs_i, h9]; simp [h3]
  · rw [drop_nil hc_i] at hs_i
    rw [← hs_i]; rfl
theorem msg_any {x : Msg} (h : msgOk x = true) (hk : x.kind = 11) : whoseM x = true ∧ rng x.count 1 40 = true ∧ wayOk x.path = true ∧ wayOk x.todo = true ∧ (x.path ++ x.todo).Nodup ∧ rng x.topic 0 3 = true := by
  simp only [msgOk, Bool.and_eq_true] at h
  obtain ⟨⟨⟨⟨k1, k2⟩, _⟩, _⟩, _⟩ := h
  simp only [knownM, Bool.and_eq_true] at k2
  have k3 := k2.2
  rw [if_neg (by omega), Bool.and_eq_true] at k3
  unfold bareM at k1
  rw [if_neg (by omega), if_neg (by omega), if_neg (by omega), if_neg (by omega), if_neg (by omega), if_neg (by omega), if_neg (by omega), if_neg (by omega), if_pos hk] at k1
  simp only [Bool.and_eq_true, decide_eq_true_eq] at k1
  obtain ⟨⟨⟨⟨a, b⟩, d⟩, e⟩, f⟩ := k1
  exact ⟨a, b, d, e, f, k3.2⟩
theorem way_len {l : List Int} (h : wayOk l = true) : l.length ≤ 8 := by
  simp only [wayOk, Bool.and_eq_true, decide_eq_true_eq] at h; exact h.1.1
structure MV (c : Config) (x : Msg) : Prop where
  ok : msgOk x = true
  k : x.kind = 11
  t : rng x.topic 0 (c.topics - 1) = true
  n : rng x.node 0 (c.nodes - 1) = true
  p : (x.path.all fun n => rng n 0 (c.nodes - 1)) = true
  d : (x.todo.all fun n => rng n 0 (c.nodes - 1)) = true
theorem may_iff {c : Config} {x : Msg} (h : mayVisit c x = true) : MV c x := by
  simp only [mayVisit, Bool.and_eq_true, decide_eq_true_eq, List.all_append, List.all_cons, List.all_nil, Bool.and_true] at h
  obtain ⟨⟨⟨a, b⟩, d⟩, ⟨e, f⟩, g⟩ := h
  have := rng_bd (msg_any a b).2.2.2.2.2
  exact ⟨a, b, by unfold rng; simp; omega, e, f, g⟩
theorem MV.v {c : Config} {x : Msg} (h : MV c x) : VOk c x := by
  obtain ⟨a, b, _⟩ := msg_any h.ok h.k
  simp only [whoseM, Bool.and_eq_true] at a
  exact ⟨h.t, h.n, a.1.1.2, b, a.1.2⟩
theorem w_cast_Visit (c : Config) (self : Int) (n : Node) (x : Msg) (hg : Goods [I c.nodes, I c.topics, I c.kids, I c.depth, I c.keep, I c.window, I c.queue, I self, bb n.up, I n.inc, L n.peers, L n.topics, L n.calls, I n.pubs, I n.asks, L n.marks, L n.taken, I x.kind, I x.frm, I x.fromInc, I x.to, I x.toInc, I x.topic, I x.epoch, I x.seq, I x.last, I x.value, I x.node, I x.inc, I x.count, I x.hops, L x.path, L x.todo]) : S_cast_Visit ρ (I c.nodes) (I c.topics) (I c.kids) (I c.depth) (I c.keep) (I c.window) (I c.queue) (I self) (bb n.up) (I n.inc) (L n.peers) (L n.topics) (L n.calls) (I n.pubs) (I n.asks) (L n.marks) (L n.taken) (I x.kind) (I x.frm) (I x.fromInc) (I x.to) (I x.toInc) (I x.topic) (I x.epoch) (I x.seq) (I x.last) (I x.value) (I x.node) (I x.inc) (I x.count) (I x.hops) (L x.path) (L x.todo) (· = [bb (visitW c self n x).1.up, I (visitW c self n x).1.inc, L (visitW c self n x).1.peers, L (visitW c self n x).1.topics, L (visitW c self n x).1.calls, I (visitW c self n x).1.pubs, I (visitW c self n x).1.asks, L (visitW c self n x).1.marks, L (visitW c self n x).1.taken, L (visitW c self n x).2.1, I (visitW c self n x).2.2]) := by
  unfold S_cast_Visit
  simp only [Goods, good_I, good_L] at hg
  generalize hE : visitW c self n x = q
  unfold visitW at hE
  simp (disch := first | omega | assumption | exact ⟨by first | assumption | omega, by first | assumption | omega⟩ | (simp only [List.length_cons, List.length_nil]; omega)) only [↓S0, ↓ITE_bool, S1, eq_self, if_true, if_false, true_implies, false_implies, implies_true, ↓c_cast_Check, ↓c_msg_Check, ↓c_cast_whole, ↓c_slices_Concat_int_int, ↓c_slices_Contains_int_int, ↓c_graft_Twin, ↓c_slices_Clone_api_Peer_api_Peer, ↓c_slices_Clone_api_Call_api_Call, ↓c_slices_Clone_api_Mark_api_Mark, ↓c_slices_Clone_api_Mark2_api_Mark2, ↓c_slices_Clone_int_int, ↓c_cast_near, ↓c_cast_Heed, ↓c_slices_Delete_api_Call_api_Call, ↓c_queue_Fit]
  refine ⟨fun hw => ?_, fun hw => ?_⟩
  · rw [if_neg hw] at hE; rw [← hE]; rfl
  rw [if_pos hw] at hE
  obtain ⟨hc, hsr, hu, H⟩ := why_zero hw
  have hb := cfg_bd hc
  have hsb := rng_bd hsr
  refine SUB.v1 (bb (!mayVisit c x)) ?_ ?_
  · unfold mayVisit
    cases hm : msgOk x
    · simp (disch := first | omega | assumption | exact ⟨by first | assumption | omega, by first | assumption | omega⟩ | (simp only [List.length_cons, List.length_nil]; omega)) only [↓S0, ↓ITE_bool, S1, eq_self, if_true, if_false, true_implies, false_implies, implies_true, ↓c_cast_Check, ↓c_msg_Check, ↓c_cast_whole, ↓c_slices_Concat_int_int, ↓c_slices_Contains_int_int, ↓c_graft_Twin, ↓c_slices_Clone_api_Peer_api_Peer, ↓c_slices_Clone_api_Call_api_Call, ↓c_slices_Clone_api_Mark_api_Mark, ↓c_slices_Clone_api_Mark2_api_Mark2, ↓c_slices_Clone_int_int, ↓c_cast_near, ↓c_cast_Heed, ↓c_slices_Delete_api_Call_api_Call, ↓c_queue_Fit, hm]
      simp
    by_cases k11 : x.kind = 11
    · obtain ⟨_, _, a3, a4, _⟩ := msg_any hm k11
      have h1 := way_len a3; have h2 := way_len a4
      have hfl : [[x.node], x.path, x.todo].flatten.length ≤ 1000000 := by simp; omega
      simp (disch := first | omega | assumption | exact ⟨by first | assumption | omega, by first | assumption | omega⟩ | (simp only [List.length_cons, List.length_nil]; omega)) only [↓S0, ↓ITE_bool, S1, eq_self, if_true, if_false, true_implies, false_implies, implies_true, ↓c_cast_Check, ↓c_msg_Check, ↓c_cast_whole, ↓c_slices_Concat_int_int, ↓c_slices_Contains_int_int, ↓c_graft_Twin, ↓c_slices_Clone_api_Peer_api_Peer, ↓c_slices_Clone_api_Call_api_Call, ↓c_slices_Clone_api_Mark_api_Mark, ↓c_slices_Clone_api_Mark2_api_Mark2, ↓c_slices_Clone_int_int, ↓c_cast_near, ↓c_cast_Heed, ↓c_slices_Delete_api_Call_api_Call, ↓c_queue_Fit, hm, k11, ↓OP_rowLLL]
      refine ⟨fun h => ?_, fun h => ?_⟩
      · have : decide (x.topic < c.topics) = false := by simp; omega
        simp [this]
      · have : decide (x.topic < c.topics) = true := by simp; omega
        simp [this]
    · simp (disch := first | omega | assumption | exact ⟨by first | assumption | omega, by first | assumption | omega⟩ | (simp only [List.length_cons, List.length_nil]; omega)) only [↓S0, ↓ITE_bool, S1, eq_self, if_true, if_false, true_implies, false_implies, implies_true, ↓c_cast_Check, ↓c_msg_Check, ↓c_cast_whole, ↓c_slices_Concat_int_int, ↓c_slices_Contains_int_int, ↓c_graft_Twin, ↓c_slices_Clone_api_Peer_api_Peer, ↓c_slices_Clone_api_Call_api_Call, ↓c_slices_Clone_api_Mark_api_Mark, ↓c_slices_Clone_api_Mark2_api_Mark2, ↓c_slices_Clone_int_int, ↓c_cast_near, ↓c_cast_Heed, ↓c_slices_Delete_api_Call_api_Call, ↓c_queue_Fit, hm, k11]
      simp [k11]
  cases hmv : mayVisit c x
  · simp (disch := first | omega | assumption | exact ⟨by first | assumption | omega, by first | assumption | omega⟩ | (simp only [List.length_cons, List.length_nil]; omega)) only [↓S0, ↓ITE_bool, S1, eq_self, if_true, if_false, true_implies, false_implies, implies_true, ↓c_cast_Check, ↓c_msg_Check, ↓c_cast_whole, ↓c_slices_Concat_int_int, ↓c_slices_Contains_int_int, ↓c_graft_Twin, ↓c_slices_Clone_api_Peer_api_Peer, ↓c_slices_Clone_api_Call_api_Call, ↓c_slices_Clone_api_Mark_api_Mark, ↓c_slices_Clone_api_Mark2_api_Mark2, ↓c_slices_Clone_int_int, ↓c_cast_near, ↓c_cast_Heed, ↓c_slices_Delete_api_Call_api_Call, ↓c_queue_Fit]
    rw [hmv, if_neg (by simp)] at hE; rw [← hE]; rfl
  rw [if_pos hmv] at hE
  have M := may_iff hmv
  have V := M.v
  have hpl := H.pl; have hml := H.ml; have hkl := H.kl; have hcl := H.cl
  have htl := H.tl
  simp (disch := first | omega | assumption | exact ⟨by first | assumption | omega, by first | assumption | omega⟩ | (simp only [List.length_cons, List.length_nil]; omega)) only [↓S0, ↓ITE_bool, S1, eq_self, if_true, if_false, true_implies, false_implies, implies_true, ↓c_cast_Check, ↓c_msg_Check, ↓c_cast_whole, ↓c_slices_Concat_int_int, ↓c_slices_Contains_int_int, ↓c_graft_Twin, ↓c_slices_Clone_api_Peer_api_Peer, ↓c_slices_Clone_api_Call_api_Call, ↓c_slices_Clone_api_Mark_api_Mark, ↓c_slices_Clone_api_Mark2_api_Mark2, ↓c_slices_Clone_int_int, ↓c_cast_near, ↓c_cast_Heed, ↓c_slices_Delete_api_Call_api_Call, ↓c_queue_Fit]
  refine SUB.val [L n.taken, L n.marks, L n.calls, L n.peers, L n.topics] rfl ?_ ?_
  · refine LOOP.rule (α := Nat) (fun i => [I i, L (n.topics.take i)]) (fun i => i ≤ n.topics.length) (fun i => n.topics.length - i) 0 rfl (by omega) (fun _ => rfl) ?_
    intro i hl
    simp only [app]
    simp (disch := first | omega | assumption | exact ⟨by first | assumption | omega, by first | assumption | omega⟩ | (simp only [List.length_cons, List.length_nil]; omega)) only [↓S0, ↓ITE_bool, S1, eq_self, if_true, if_false, true_implies, false_implies, implies_true, ↓c_cast_Check, ↓c_msg_Check, ↓c_cast_whole, ↓c_slices_Concat_int_int, ↓c_slices_Contains_int_int, ↓c_graft_Twin, ↓c_slices_Clone_api_Peer_api_Peer, ↓c_slices_Clone_api_Call_api_Call, ↓c_slices_Clone_api_Mark_api_Mark, ↓c_slices_Clone_api_Mark2_api_Mark2, ↓c_slices_Clone_int_int, ↓c_cast_near, ↓c_cast_Heed, ↓c_slices_Delete_api_Call_api_Call, ↓c_queue_Fit]
    refine ⟨fun hcc => ?_, fun hcc => ?_⟩
    · obtain ⟨y, hy⟩ := get_ex hcc
      have hx9 := node_light hc H hy
      have hlt : (n.topics.take i).length = i := by simp; omega
      simp (disch := first | omega | assumption | exact ⟨by first | assumption | omega, by first | assumption | omega⟩ | (simp only [List.length_cons, List.length_nil]; omega)) only [↓S0, ↓ITE_bool, S1, eq_self, if_true, if_false, true_implies, false_implies, implies_true, ↓c_cast_Check, ↓c_msg_Check, ↓c_cast_whole, ↓c_slices_Concat_int_int, ↓c_slices_Contains_int_int, ↓c_graft_Twin, ↓c_slices_Clone_api_Peer_api_Peer, ↓c_slices_Clone_api_Call_api_Call, ↓c_slices_Clone_api_Mark_api_Mark, ↓c_slices_Clone_api_Mark2_api_Mark2, ↓c_slices_Clone_int_int, ↓c_cast_near, ↓c_cast_Heed, ↓c_slices_Delete_api_Call_api_Call, ↓c_queue_Fit, cell_L hy]
      exact ⟨i + 1, by simp [take_one hy], by omega, by omega⟩
    rw [List.take_of_length_le (by omega)]
  simp only [app]
  have hob := rng_bd M.n
  have hcb := rng_bd V.k
  obtain ⟨s, hs0⟩ := Int.eq_ofNat_of_zero_le hob.1
  obtain ⟨mk, hmk⟩ := get_ex (xs := n.marks) (i := s) (by omega)
  have hmd : n.marks.getD s mark0 = mk := by simp [List.getD_eq_getElem?_getD, hmk]
  have hmb := mark_bd H.marks hmk
  have hml2 : meetL n.marks x.node x.inc x.count = if meets n.marks x.node x.inc x.count = true then n.marks.set s { newer mk x.inc with met := (newer mk x.inc).met + 2 ^ x.count.toNat } else n.marks := by
    unfold meetL; rw [hs0, Int.toNat_natCast, hmd]
  have hme : meets n.marks x.node x.inc x.count = (decide (mk.inc ≤ x.inc) && !metYet (newer mk x.inc) x.count) := by unfold meets; rw [hs0, Int.toNat_natCast, hmd]
  refine SUB.v2 (bb (x.path.contains self || !meets n.marks x.node x.inc x.count)) (L (if x.path.contains self = true then n.marks else meetL n.marks x.node x.inc x.count)) ?_ ?_
  · rw [hml2, hme]
    by_cases hcp0 : x.path.contains self = true
    · simp (disch := first | omega | assumption | exact ⟨by first | assumption | omega, by first | assumption | omega⟩ | (simp only [List.length_cons, List.length_nil]; omega)) only [↓S0, ↓ITE_bool, S1, eq_self, if_true, if_false, true_implies, false_implies, implies_true, ↓c_cast_Check, ↓c_msg_Check, ↓c_cast_whole, ↓c_slices_Concat_int_int, ↓c_slices_Contains_int_int, ↓c_graft_Twin, ↓c_slices_Clone_api_Peer_api_Peer, ↓c_slices_Clone_api_Call_api_Call, ↓c_slices_Clone_api_Mark_api_Mark, ↓c_slices_Clone_api_Mark2_api_Mark2, ↓c_slices_Clone_int_int, ↓c_cast_near, ↓c_cast_Heed, ↓c_slices_Delete_api_Call_api_Call, ↓c_queue_Fit, hcp0]
      simp
    have hcp : x.path.contains self = false := by simpa using hcp0
    rw [hs0]
    simp (disch := first | omega | assumption | exact ⟨by first | assumption | omega, by first | assumption | omega⟩ | (simp only [List.length_cons, List.length_nil]; omega)) only [↓S0, ↓ITE_bool, S1, eq_self, if_true, if_false, true_implies, false_implies, implies_true, ↓c_cast_Check, ↓c_msg_Check, ↓c_cast_whole, ↓c_slices_Concat_int_int, ↓c_slices_Contains_int_int, ↓c_graft_Twin, ↓c_slices_Clone_api_Peer_api_Peer, ↓c_slices_Clone_api_Call_api_Call, ↓c_slices_Clone_api_Mark_api_Mark, ↓c_slices_Clone_api_Mark2_api_Mark2, ↓c_slices_Clone_int_int, ↓c_cast_near, ↓c_cast_Heed, ↓c_slices_Delete_api_Call_api_Call, ↓c_queue_Fit, hcp, cell_L hmk]
    refine ⟨fun hgt => ?_, fun hle => ?_⟩
    · have e : decide (mk.inc ≤ x.inc) = false := by simp; omega
      simp [e]
    have hsz := (List.getElem?_eq_some_iff.1 hmk).1
    have hnk : (n.marks.set s (newer mk x.inc))[s]? = some (newer mk x.inc) := by simp [hsz]
    have hnm : 0 ≤ (newer mk x.inc).met ∧ (newer mk x.inc).met ≤ 2199023255551 := by
      unfold newer; split
      · simp
      · exact hmb
    refine SUB.v1 (L (n.marks.set s (newer mk x.inc))) ?_ ?_
    · refine ⟨fun hlt => ?_, fun hge => ?_⟩
      · have e : newer mk x.inc = ⟨x.inc, 0, 0⟩ := by unfold newer; rw [if_pos hlt]
        have h1 : (n.marks.set s ⟨x.inc, mk.pubs, mk.met⟩)[s]? = some ⟨x.inc, mk.pubs, mk.met⟩ := by simp [hsz]
        have h2 : ((n.marks.set s ⟨x.inc, mk.pubs, mk.met⟩).set s ⟨x.inc, 0, mk.met⟩)[s]? = some ⟨x.inc, 0, mk.met⟩ := by simp [hsz]
        rw [OP_set hmk (y := ⟨x.inc, mk.pubs, mk.met⟩) rfl, OP_set h1 (y := ⟨x.inc, 0, mk.met⟩) rfl, OP_set h2 (y := ⟨x.inc, 0, 0⟩) rfl, e]
        simp
      · have e : newer mk x.inc = mk := by unfold newer; rw [if_neg hge]
        rw [e, set_same hmk]
    simp (disch := first | omega | assumption | exact ⟨by first | assumption | omega, by first | assumption | omega⟩ | (simp only [List.length_cons, List.length_nil]; omega)) only [↓S0, ↓ITE_bool, S1, eq_self, if_true, if_false, true_implies, false_implies, implies_true, ↓c_cast_Check, ↓c_msg_Check, ↓c_cast_whole, ↓c_slices_Concat_int_int, ↓c_slices_Contains_int_int, ↓c_graft_Twin, ↓c_slices_Clone_api_Peer_api_Peer, ↓c_slices_Clone_api_Call_api_Call, ↓c_slices_Clone_api_Mark_api_Mark, ↓c_slices_Clone_api_Mark2_api_Mark2, ↓c_slices_Clone_int_int, ↓c_cast_near, ↓c_cast_Heed, ↓c_slices_Delete_api_Call_api_Call, ↓c_queue_Fit, cell_L hnk]
    rw [OP_shr (by omega) (by omega), OP_and1 (Int.ediv_nonneg hnm.1 (Int.le_of_lt (Int.pow_pos (by decide))))]
    simp (disch := first | omega | assumption | exact ⟨by first | assumption | omega, by first | assumption | omega⟩ | (simp only [List.length_cons, List.length_nil]; omega)) only [↓S0, ↓ITE_bool, S1, eq_self, if_true, if_false, true_implies, false_implies, implies_true, ↓c_cast_Check, ↓c_msg_Check, ↓c_cast_whole, ↓c_slices_Concat_int_int, ↓c_slices_Contains_int_int, ↓c_graft_Twin, ↓c_slices_Clone_api_Peer_api_Peer, ↓c_slices_Clone_api_Call_api_Call, ↓c_slices_Clone_api_Mark_api_Mark, ↓c_slices_Clone_api_Mark2_api_Mark2, ↓c_slices_Clone_int_int, ↓c_cast_near, ↓c_cast_Heed, ↓c_slices_Delete_api_Call_api_Call, ↓c_queue_Fit]
    have e5 : decide (mk.inc ≤ x.inc) = true := by simp; omega
    refine ⟨fun hm => ?_, fun hm => ?_⟩
    · have e : newer mk x.inc = mk := by
        unfold newer; split
        · rename_i h1
          exfalso
          rw [newer, if_pos h1] at hm
          simp at hm
        · rfl
      rw [e] at hm
      rw [e, set_same hmk]
      simp [e5, metYet, hm]
    · have h0 : (newer mk x.inc).met / 2 ^ x.count.toNat % 2 = 0 := by omega
      rw [OP_shl (by omega) (by omega), OP_or_pow hnm.1 (by omega) (by omega) (by omega) h0, OP_set hnk (y := { newer mk x.inc with met := (newer mk x.inc).met + 2 ^ x.count.toNat }) rfl, List.set_set]
      simp [e5, metYet, hm]
  cases hsk : (x.path.contains self || !meets n.marks x.node x.inc x.count)
  · rw [hsk, if_neg (by simp)] at hE
    simp only [Bool.or_eq_false_iff, Bool.not_eq_false'] at hsk
    obtain ⟨hcp, hmt⟩ := hsk
    have hds := does_of (m := { n with marks := meetL n.marks x.node x.inc x.count }) hc hsr H M.t rfl rfl (by show n.calls.length ≤ 100; omega) (by show n.taken.length ≤ 100; omega)
    rw [if_neg (by rw [hcp]; simp)]
    generalize meetL n.marks x.node x.inc x.count = marks at hE hds ⊢
    obtain ⟨h1, h2, h3, h4, h5, h6, h7, h8, h9, h10⟩ := hds
    have hs := rng_bd h4
    have htb := rng_bd M.t
    obtain ⟨k, hkk⟩ := Int.eq_ofNat_of_zero_le htb.1
    obtain ⟨y, hy⟩ := get_ex (xs := n.topics) (i := k) (by omega)
    have hgd : ∀ (a : Bool) (b : Int) (d : List Peer) (e : List Call) (f g : Int) (i : List Mark) (j : List Mark2), topAt (⟨a, b, d, n.topics, e, f, g, i, j⟩ : Node) k = y := by intros; simp [topAt, List.getD_eq_getElem?_getD, hy]
    have hbc : (n.calls.length : Int) ≤ 100 := by omega
    rw [hkk] at h1 h2 h5 h6 h7 h10
    rw [hgd] at h5 h6 h7 h10
    dsimp only at h2 h3 h4 h9
    obtain ⟨a1, _, a3, a4, _⟩ := msg_any M.ok M.k
    have hlp := way_len a3; have hlt := way_len a4
    simp only [whoseM, Bool.and_eq_true] at a1
    have hhb := rng_bd a1.2
    generalize hr : visitN c self (⟨n.up, n.inc, n.peers, n.topics, n.calls, n.pubs, n.asks, marks, n.taken⟩ : Node) x = r at hE
    have hQ : [bb r.1.up, I r.1.inc, L r.1.peers, L r.1.topics, L r.1.calls, I r.1.pubs, I r.1.asks, L r.1.marks, L r.1.taken, L r.2, I 0] = [bb q.1.up, I q.1.inc, L q.1.peers, L q.1.topics, L q.1.calls, I q.1.pubs, I q.1.asks, L q.1.marks, L q.1.taken, L q.2.1, I q.2.2] := by rw [← hE]
    clear hE
    generalize [bb q.1.up, I q.1.inc, L q.1.peers, L q.1.topics, L q.1.calls, I q.1.pubs, I q.1.asks, L q.1.marks, L q.1.taken, L q.2.1, I q.2.2] = z at hQ ⊢
    simp only [visitN, msg0, hkk, hgd] at hr
    rw [hkk]
    cases hsub : y.sub
    · simp (disch := first | omega | assumption | exact ⟨by first | assumption | omega, by first | assumption | omega⟩ | (simp only [List.length_cons, List.length_nil]; omega)) only [↓S0, ↓ITE_bool, S1, eq_self, if_true, if_false, true_implies, false_implies, implies_true, ↓c_cast_Check, ↓c_msg_Check, ↓c_cast_whole, ↓c_slices_Concat_int_int, ↓c_slices_Contains_int_int, ↓c_graft_Twin, ↓c_slices_Clone_api_Peer_api_Peer, ↓c_slices_Clone_api_Call_api_Call, ↓c_slices_Clone_api_Mark_api_Mark, ↓c_slices_Clone_api_Mark2_api_Mark2, ↓c_slices_Clone_int_int, ↓c_cast_near, ↓c_cast_Heed, ↓c_slices_Delete_api_Call_api_Call, ↓c_queue_Fit, cell_L hy, hsub]
      simp only [hsub, Bool.false_eq_true, if_false] at hr
      have hpl2 : x.path.length ≤ 1000000 := by omega
      have htl2 : x.todo.length ≤ 1000000 := by omega
      refine SUB.v3 (L x.todo) (L (x.path ++ [self])) (L [self]) ?_ ?_
      · simp (disch := first | omega | assumption | exact ⟨by first | assumption | omega, by first | assumption | omega⟩ | (simp only [List.length_cons, List.length_nil]; omega)) only [↓S0, ↓ITE_bool, S1, eq_self, if_true, if_false, true_implies, false_implies, implies_true, ↓c_cast_Check, ↓c_msg_Check, ↓c_cast_whole, ↓c_slices_Concat_int_int, ↓c_slices_Contains_int_int, ↓c_graft_Twin, ↓c_slices_Clone_api_Peer_api_Peer, ↓c_slices_Clone_api_Call_api_Call, ↓c_slices_Clone_api_Mark_api_Mark, ↓c_slices_Clone_api_Mark2_api_Mark2, ↓c_slices_Clone_int_int, ↓c_cast_near, ↓c_cast_Heed, ↓c_slices_Delete_api_Call_api_Call, ↓c_queue_Fit]
      have hcn : peersOk (⟨n.up, n.inc, n.peers, n.topics, n.calls, n.pubs, n.asks, marks, n.taken⟩ : Node).peers = true ∧ rng self 0 (n.peers.length - 1) = true ∧ isT (k : Int) = true ∧ (k : Int) < n.topics.length ∧ (topAt (⟨n.up, n.inc, n.peers, n.topics, n.calls, n.pubs, n.asks, marks, n.taken⟩ : Node) k).kids.length ≤ 8 ∧ (topAt (⟨n.up, n.inc, n.peers, n.topics, n.calls, n.pubs, n.asks, marks, n.taken⟩ : Node) k).parent ≤ 8 ∧ 0 ≤ (topAt (⟨n.up, n.inc, n.peers, n.topics, n.calls, n.pubs, n.asks, marks, n.taken⟩ : Node) k).parent :=
        ⟨h3, h4, h1, h2, by rw [hgd]; exact h5, by rw [hgd]; exact h6, by rw [hgd]; exact h7⟩
      have hnl : (nearL self (⟨n.up, n.inc, n.peers, n.topics, n.calls, n.pubs, n.asks, marks, n.taken⟩ : Node) k).length ≤ 10 := by
        simp only [nearL, hgd, List.length_append, List.length_map, List.length_singleton]
        split <;> simp <;> omega
      rw [c_cast_near hcn]
      generalize hNL : nearL self (⟨n.up, n.inc, n.peers, n.topics, n.calls, n.pubs, n.asks, marks, n.taken⟩ : Node) k = nl at hnl hr ⊢
      simp (disch := first | omega | assumption | exact ⟨by first | assumption | omega, by first | assumption | omega⟩ | (simp only [List.length_cons, List.length_nil]; omega)) only [↓S0, ↓ITE_bool, S1, eq_self, if_true, if_false, true_implies, false_implies, implies_true, ↓c_cast_Check, ↓c_msg_Check, ↓c_cast_whole, ↓c_slices_Concat_int_int, ↓c_slices_Contains_int_int, ↓c_graft_Twin, ↓c_slices_Clone_api_Peer_api_Peer, ↓c_slices_Clone_api_Call_api_Call, ↓c_slices_Clone_api_Mark_api_Mark, ↓c_slices_Clone_api_Mark2_api_Mark2, ↓c_slices_Clone_int_int, ↓c_cast_near, ↓c_cast_Heed, ↓c_slices_Delete_api_Call_api_Call, ↓c_queue_Fit]
      generalize hT : todoGo (⟨n.up, n.inc, n.peers, n.topics, n.calls, n.pubs, n.asks, marks, n.taken⟩ : Node) (x.path ++ [self]) x.todo nl = todo at hr
      refine LOOP.rule (α := Nat × List Int) (fun p => [I p.1, L p.2]) (fun p => p.1 ≤ nl.length ∧ p.2.length ≤ 8 + p.1 ∧ todoGo (⟨n.up, n.inc, n.peers, n.topics, n.calls, n.pubs, n.asks, marks, n.taken⟩ : Node) (x.path ++ [self]) p.2 (nl.drop p.1) = todo) (fun p => nl.length - p.1) (0, x.todo) rfl ⟨by simp, by simpa using hlt, by simpa using hT⟩ (fun _ => rfl) ?_
      rintro ⟨i, a⟩ ⟨hi, ha, hs2⟩
      simp only at hi ha hs2
      simp only [app]
      simp (disch := first | omega | assumption | exact ⟨by first | assumption | omega, by first | assumption | omega⟩ | (simp only [List.length_cons, List.length_nil]; omega)) only [↓S0, ↓ITE_bool, S1, eq_self, if_true, if_false, true_implies, false_implies, implies_true, ↓c_cast_Check, ↓c_msg_Check, ↓c_cast_whole, ↓c_slices_Concat_int_int, ↓c_slices_Contains_int_int, ↓c_graft_Twin, ↓c_slices_Clone_api_Peer_api_Peer, ↓c_slices_Clone_api_Call_api_Call, ↓c_slices_Clone_api_Mark_api_Mark, ↓c_slices_Clone_api_Mark2_api_Mark2, ↓c_slices_Clone_int_int, ↓c_cast_near, ↓c_cast_Heed, ↓c_slices_Delete_api_Call_api_Call, ↓c_queue_Fit]
      refine ⟨fun h => ?_, fun h => ?_⟩
      · obtain ⟨z, hz⟩ := get_ex h
        rw [drop_eq hz, todoGo] at hs2
        simp (disch := first | omega | assumption | exact ⟨by first | assumption | omega, by first | assumption | omega⟩ | (simp only [List.length_cons, List.length_nil]; omega)) only [↓S0, ↓ITE_bool, S1, eq_self, if_true, if_false, true_implies, false_implies, implies_true, ↓c_cast_Check, ↓c_msg_Check, ↓c_cast_whole, ↓c_slices_Concat_int_int, ↓c_slices_Contains_int_int, ↓c_graft_Twin, ↓c_slices_Clone_api_Peer_api_Peer, ↓c_slices_Clone_api_Call_api_Call, ↓c_slices_Clone_api_Mark_api_Mark, ↓c_slices_Clone_api_Mark2_api_Mark2, ↓c_slices_Clone_int_int, ↓c_cast_near, ↓c_cast_Heed, ↓c_slices_Delete_api_Call_api_Call, ↓c_queue_Fit, cell_L hz]
        refine ⟨fun e1 => ⟨fun e2 => ⟨fun e3 => ⟨(i + 1, a ++ [z]), rfl, ⟨by simp; omega, by simp; omega, ?_⟩, by simp; omega⟩, fun e3 => ⟨(i + 1, a), rfl, ⟨by simp; omega, by simp; omega, ?_⟩, by simp; omega⟩⟩, fun e2 => ⟨(i + 1, a), rfl, ⟨by simp; omega, by simp; omega, ?_⟩, by simp; omega⟩⟩, fun e1 => ⟨(i + 1, a), rfl, ⟨by simp; omega, by simp; omega, ?_⟩, by simp; omega⟩⟩
        · simp only [e1, e2, e3, Bool.not_false, Bool.and_self, if_true] at hs2; exact hs2
        · simp only [e1, e2, e3, Bool.not_false, Bool.not_true, Bool.and_false, Bool.false_eq_true, if_false] at hs2; exact hs2
        · simp only [e1, e2, Bool.not_false, Bool.not_true, Bool.and_false, Bool.false_and, Bool.false_eq_true, if_false] at hs2; exact hs2
        · simp only [e1, Bool.false_and, Bool.false_eq_true, if_false] at hs2; exact hs2
      rw [drop_nil h, todoGo] at hs2
      subst hs2
      unfold goN at hr
      refine SUB.v1 (bb (decide (a = []) || decide (16 ≤ x.hops))) ?_ ?_
      · simp (disch := first | omega | assumption | exact ⟨by first | assumption | omega, by first | assumption | omega⟩ | (simp only [List.length_cons, List.length_nil]; omega)) only [↓S0, ↓ITE_bool, S1, eq_self, if_true, if_false, true_implies, false_implies, implies_true, ↓c_cast_Check, ↓c_msg_Check, ↓c_cast_whole, ↓c_slices_Concat_int_int, ↓c_slices_Contains_int_int, ↓c_graft_Twin, ↓c_slices_Clone_api_Peer_api_Peer, ↓c_slices_Clone_api_Call_api_Call, ↓c_slices_Clone_api_Mark_api_Mark, ↓c_slices_Clone_api_Mark2_api_Mark2, ↓c_slices_Clone_int_int, ↓c_cast_near, ↓c_cast_Heed, ↓c_slices_Delete_api_Call_api_Call, ↓c_queue_Fit]
        refine ⟨fun h => ?_, fun h => ?_⟩
        · have : a = [] := List.eq_nil_of_length_eq_zero (by omega)
          simp [this]
        · have : a ≠ [] := by intro h'; subst h'; simp at h
          simp [this]
      by_cases ha0 : a = [] ∨ 16 ≤ x.hops
      · rw [if_pos ha0] at hr
        have hd9 : (decide (a = []) || decide (16 ≤ x.hops)) = true := by simpa using ha0
        simp (disch := first | omega | assumption | exact ⟨by first | assumption | omega, by first | assumption | omega⟩ | (simp only [List.length_cons, List.length_nil]; omega)) only [↓S0, ↓ITE_bool, S1, eq_self, if_true, if_false, true_implies, false_implies, implies_true, ↓c_cast_Check, ↓c_msg_Check, ↓c_cast_whole, ↓c_slices_Concat_int_int, ↓c_slices_Contains_int_int, ↓c_graft_Twin, ↓c_slices_Clone_api_Peer_api_Peer, ↓c_slices_Clone_api_Call_api_Call, ↓c_slices_Clone_api_Mark_api_Mark, ↓c_slices_Clone_api_Mark2_api_Mark2, ↓c_slices_Clone_int_int, ↓c_cast_near, ↓c_cast_Heed, ↓c_slices_Delete_api_Call_api_Call, ↓c_queue_Fit, hd9]
        unfold tellN at hr
        rw [hkk] at hr
        by_cases hns : x.node = self
        · rw [if_pos hns] at hr
          try rw [hns] at hr
          simp (disch := first | omega | assumption | exact ⟨by first | assumption | omega, by first | assumption | omega⟩ | (simp only [List.length_cons, List.length_nil]; omega)) only [↓S0, ↓ITE_bool, S1, eq_self, if_true, if_false, true_implies, false_implies, implies_true, ↓c_cast_Check, ↓c_msg_Check, ↓c_cast_whole, ↓c_slices_Concat_int_int, ↓c_slices_Contains_int_int, ↓c_graft_Twin, ↓c_slices_Clone_api_Peer_api_Peer, ↓c_slices_Clone_api_Call_api_Call, ↓c_slices_Clone_api_Mark_api_Mark, ↓c_slices_Clone_api_Mark2_api_Mark2, ↓c_slices_Clone_int_int, ↓c_cast_near, ↓c_cast_Heed, ↓c_slices_Delete_api_Call_api_Call, ↓c_queue_Fit, hns]
          generalize x.count = cnt at hr hcb ⊢
          refine SUB.v3 (bb (n.calls.any (isCall k cnt))) (bb (!n.calls.any (isCall k cnt))) (L (n.calls.eraseP (isCall k cnt))) ?_ ?_
          · simp (disch := first | omega | assumption | exact ⟨by first | assumption | omega, by first | assumption | omega⟩ | (simp only [List.length_cons, List.length_nil]; omega)) only [↓S0, ↓ITE_bool, S1, eq_self, if_true, if_false, true_implies, false_implies, implies_true, ↓c_cast_Check, ↓c_msg_Check, ↓c_cast_whole, ↓c_slices_Concat_int_int, ↓c_slices_Contains_int_int, ↓c_graft_Twin, ↓c_slices_Clone_api_Peer_api_Peer, ↓c_slices_Clone_api_Call_api_Call, ↓c_slices_Clone_api_Mark_api_Mark, ↓c_slices_Clone_api_Mark2_api_Mark2, ↓c_slices_Clone_int_int, ↓c_cast_near, ↓c_cast_Heed, ↓c_slices_Delete_api_Call_api_Call, ↓c_queue_Fit]
            refine LOOP.rule (α := Nat) (fun i => [I i]) (fun i => i ≤ n.calls.length ∧ (n.calls.take i).any (isCall k cnt) = false) (fun i => n.calls.length - i) 0 rfl ⟨by omega, by simp⟩ (fun _ => rfl) ?_
            rintro i ⟨hi3, hs3⟩
            simp only [app]
            simp (disch := first | omega | assumption | exact ⟨by first | assumption | omega, by first | assumption | omega⟩ | (simp only [List.length_cons, List.length_nil]; omega)) only [↓S0, ↓ITE_bool, S1, eq_self, if_true, if_false, true_implies, false_implies, implies_true, ↓c_cast_Check, ↓c_msg_Check, ↓c_cast_whole, ↓c_slices_Concat_int_int, ↓c_slices_Contains_int_int, ↓c_graft_Twin, ↓c_slices_Clone_api_Peer_api_Peer, ↓c_slices_Clone_api_Call_api_Call, ↓c_slices_Clone_api_Mark_api_Mark, ↓c_slices_Clone_api_Mark2_api_Mark2, ↓c_slices_Clone_int_int, ↓c_cast_near, ↓c_cast_Heed, ↓c_slices_Delete_api_Call_api_Call, ↓c_queue_Fit]
            refine ⟨fun h => ?_, fun h => ⟨fun _ => ?_, fun h9 => absurd (show (-1 : Int) < 0 by omega) h9⟩⟩
            · obtain ⟨u, hu1⟩ := get_ex h
              simp (disch := first | omega | assumption | exact ⟨by first | assumption | omega, by first | assumption | omega⟩ | (simp only [List.length_cons, List.length_nil]; omega)) only [↓S0, ↓ITE_bool, S1, eq_self, if_true, if_false, true_implies, false_implies, implies_true, ↓c_cast_Check, ↓c_msg_Check, ↓c_cast_whole, ↓c_slices_Concat_int_int, ↓c_slices_Contains_int_int, ↓c_graft_Twin, ↓c_slices_Clone_api_Peer_api_Peer, ↓c_slices_Clone_api_Call_api_Call, ↓c_slices_Clone_api_Mark_api_Mark, ↓c_slices_Clone_api_Mark2_api_Mark2, ↓c_slices_Clone_int_int, ↓c_cast_near, ↓c_cast_Heed, ↓c_slices_Delete_api_Call_api_Call, ↓c_queue_Fit, cell_L hu1]
              refine SUB.v1 (bb (isCall k cnt u)) ?_ ?_
              · unfold isCall; repeat' (first | apply And.intro | intro _ | simp (disch := first | omega | assumption | exact ⟨by first | assumption | omega, by first | assumption | omega⟩ | (simp only [List.length_cons, List.length_nil]; omega)) only [↓S0, ↓ITE_bool, S1, eq_self, if_true, if_false, true_implies, false_implies, implies_true, ↓c_cast_Check, ↓c_msg_Check, ↓c_cast_whole, ↓c_slices_Concat_int_int, ↓c_slices_Contains_int_int, ↓c_graft_Twin, ↓c_slices_Clone_api_Peer_api_Peer, ↓c_slices_Clone_api_Call_api_Call, ↓c_slices_Clone_api_Mark_api_Mark, ↓c_slices_Clone_api_Mark2_api_Mark2, ↓c_slices_Clone_int_int, ↓c_cast_near, ↓c_cast_Heed, ↓c_slices_Delete_api_Call_api_Call, ↓c_queue_Fit])
                all_goals simp [*]
              cases hcx : isCall k cnt u
              · simp (disch := first | omega | assumption | exact ⟨by first | assumption | omega, by first | assumption | omega⟩ | (simp only [List.length_cons, List.length_nil]; omega)) only [↓S0, ↓ITE_bool, S1, eq_self, if_true, if_false, true_implies, false_implies, implies_true, ↓c_cast_Check, ↓c_msg_Check, ↓c_cast_whole, ↓c_slices_Concat_int_int, ↓c_slices_Contains_int_int, ↓c_graft_Twin, ↓c_slices_Clone_api_Peer_api_Peer, ↓c_slices_Clone_api_Call_api_Call, ↓c_slices_Clone_api_Mark_api_Mark, ↓c_slices_Clone_api_Mark2_api_Mark2, ↓c_slices_Clone_int_int, ↓c_cast_near, ↓c_cast_Heed, ↓c_slices_Delete_api_Call_api_Call, ↓c_queue_Fit]
                exact ⟨i + 1, rfl, ⟨by omega, any_take hs3 hu1 hcx⟩, by omega⟩
              · have hpre : (0 : Int) ≤ (i : Int) ∧ (i : Int) ≤ (i : Int) + 1 ∧ (i : Int) + 1 ≤ n.calls.length ∧ n.calls.length < 4611686018427387904 := ⟨by omega, by omega, by omega, by omega⟩
                obtain ⟨e5, e6⟩ := erase_cut hs3 hu1 hcx
                simp (disch := first | omega | assumption | exact ⟨by first | assumption | omega, by first | assumption | omega⟩ | (simp only [List.length_cons, List.length_nil]; omega)) only [↓S0, ↓ITE_bool, S1, eq_self, if_true, if_false, true_implies, false_implies, implies_true, ↓c_cast_Check, ↓c_msg_Check, ↓c_cast_whole, ↓c_slices_Concat_int_int, ↓c_slices_Contains_int_int, ↓c_graft_Twin, ↓c_slices_Clone_api_Peer_api_Peer, ↓c_slices_Clone_api_Call_api_Call, ↓c_slices_Clone_api_Mark_api_Mark, ↓c_slices_Clone_api_Mark2_api_Mark2, ↓c_slices_Clone_int_int, ↓c_cast_near, ↓c_cast_Heed, ↓c_slices_Delete_api_Call_api_Call, ↓c_queue_Fit]
                refine ⟨fun h => by omega, fun _ => ?_⟩
                rw [e5, e6]; rfl
            · have hi4 : i = n.calls.length := by omega
              subst hi4
              rw [List.take_length] at hs3
              rw [hs3, erase_not hs3]; rfl
          cases hany : n.calls.any (isCall k cnt)
          · rw [endCall_miss (n := ⟨n.up, n.inc, n.peers, n.topics, n.calls, n.pubs, n.asks, marks, n.taken⟩) hany] at hr
            rw [erase_not hany]
            simp (disch := first | omega | assumption | exact ⟨by first | assumption | omega, by first | assumption | omega⟩ | (simp only [List.length_cons, List.length_nil]; omega)) only [↓S0, ↓ITE_bool, S1, eq_self, if_true, if_false, true_implies, false_implies, implies_true, ↓c_cast_Check, ↓c_msg_Check, ↓c_cast_whole, ↓c_slices_Concat_int_int, ↓c_slices_Contains_int_int, ↓c_graft_Twin, ↓c_slices_Clone_api_Peer_api_Peer, ↓c_slices_Clone_api_Call_api_Call, ↓c_slices_Clone_api_Mark_api_Mark, ↓c_slices_Clone_api_Mark2_api_Mark2, ↓c_slices_Clone_int_int, ↓c_cast_near, ↓c_cast_Heed, ↓c_slices_Delete_api_Call_api_Call, ↓c_queue_Fit]
            subst hr
            exact hQ
          · rw [endCall_true (n := ⟨n.up, n.inc, n.peers, n.topics, n.calls, n.pubs, n.asks, marks, n.taken⟩) hany rfl hy] at hr
            simp (disch := first | omega | assumption | exact ⟨by first | assumption | omega, by first | assumption | omega⟩ | (simp only [List.length_cons, List.length_nil]; omega)) only [↓S0, ↓ITE_bool, S1, eq_self, if_true, if_false, true_implies, false_implies, implies_true, ↓c_cast_Check, ↓c_msg_Check, ↓c_cast_whole, ↓c_slices_Concat_int_int, ↓c_slices_Contains_int_int, ↓c_graft_Twin, ↓c_slices_Clone_api_Peer_api_Peer, ↓c_slices_Clone_api_Call_api_Call, ↓c_slices_Clone_api_Mark_api_Mark, ↓c_slices_Clone_api_Mark2_api_Mark2, ↓c_slices_Clone_int_int, ↓c_cast_near, ↓c_cast_Heed, ↓c_slices_Delete_api_Call_api_Call, ↓c_queue_Fit, cell_L hy, ↓OP_set hy (j := 15) (v := L (fitE y.queue c.queue ⟨4, 0, 0, 0, 0, cnt⟩)) (y := { y with queue := fitE y.queue c.queue ⟨4, 0, 0, 0, 0, cnt⟩ }) rfl]
            rw [show evCall cnt (-1) = ⟨4, 0, 0, 0, 0, cnt⟩ from rfl] at hr
            subst hr
            refine ⟨fun h => by omega, fun _ => ?_⟩
            exact hQ
        · rw [if_neg hns] at hr
          rw [if_neg (by omega)] at hr
          simp (disch := first | omega | assumption | exact ⟨by first | assumption | omega, by first | assumption | omega⟩ | (simp only [List.length_cons, List.length_nil]; omega)) only [↓S0, ↓ITE_bool, S1, eq_self, if_true, if_false, true_implies, false_implies, implies_true, ↓c_cast_Check, ↓c_msg_Check, ↓c_cast_whole, ↓c_slices_Concat_int_int, ↓c_slices_Contains_int_int, ↓c_graft_Twin, ↓c_slices_Clone_api_Peer_api_Peer, ↓c_slices_Clone_api_Call_api_Call, ↓c_slices_Clone_api_Mark_api_Mark, ↓c_slices_Clone_api_Mark2_api_Mark2, ↓c_slices_Clone_int_int, ↓c_cast_near, ↓c_cast_Heed, ↓c_slices_Delete_api_Call_api_Call, ↓c_queue_Fit, hns, ↓OP_rowMsg0]
          subst hr
          refine ⟨fun h => by omega, fun _ => ?_⟩
          exact hQ
      · rw [if_neg ha0] at hr
        have hd9 : (decide (a = []) || decide (16 ≤ x.hops)) = false := by simpa using ha0
        have hane : a ≠ [] := fun h => ha0 (.inl h)
        have hpos : 0 < a.length := List.length_pos_iff.2 hane
        obtain ⟨j, hj⟩ : ∃ j, a.length = j + 1 := ⟨a.length - 1, by omega⟩
        have e1 : ((a.length : Int) - 1) = (j : Nat) := by omega
        obtain ⟨w, hw2⟩ := get_ex (xs := a) (i := j) (by omega)
        have e2 : a.take j = a.dropLast := by rw [List.dropLast_eq_take]; congr 1; omega
        have e3 : a.getLastD 0 = w := by
          rw [List.getLastD_eq_getLast?, List.getLast?_eq_getElem?, hj, Nat.add_sub_cancel, hw2]; rfl
        have e4 : (a.take j).length ≤ 1000000 := by simp; omega
        simp (disch := first | omega | assumption | exact ⟨by first | assumption | omega, by first | assumption | omega⟩ | (simp only [List.length_cons, List.length_nil]; omega)) only [↓S0, ↓ITE_bool, S1, eq_self, if_true, if_false, true_implies, false_implies, implies_true, ↓c_cast_Check, ↓c_msg_Check, ↓c_cast_whole, ↓c_slices_Concat_int_int, ↓c_slices_Contains_int_int, ↓c_graft_Twin, ↓c_slices_Clone_api_Peer_api_Peer, ↓c_slices_Clone_api_Call_api_Call, ↓c_slices_Clone_api_Mark_api_Mark, ↓c_slices_Clone_api_Mark2_api_Mark2, ↓c_slices_Clone_int_int, ↓c_cast_near, ↓c_cast_Heed, ↓c_slices_Delete_api_Call_api_Call, ↓c_queue_Fit, hd9, e1, cell_L hw2, Int.toNat_natCast, ↓OP_rowMsg]
        rw [e3, hkk] at hr
        rw [e2]
        subst hr
        exact hQ
    · simp only [hsub, if_true] at hr
      have e1 : ((n.taken ++ [(⟨x.node, x.inc, x.count, k, x.value⟩ : Mark2)]).length : Int) ≤ 101 := by simp; omega
      have e2 : (max (((n.taken ++ [(⟨x.node, x.inc, x.count, k, x.value⟩ : Mark2)]).length : Int) - 64) 0).toNat = (n.taken ++ [(⟨x.node, x.inc, x.count, k, x.value⟩ : Mark2)]).length - 64 := by omega
      have e3 : (lastN (n.taken ++ [(⟨x.node, x.inc, x.count, k, x.value⟩ : Mark2)]) 64).length ≤ 1000000 := by unfold lastN; simp; omega
      simp (disch := first | omega | assumption | exact ⟨by first | assumption | omega, by first | assumption | omega⟩ | (simp only [List.length_cons, List.length_nil]; omega)) only [↓S0, ↓ITE_bool, S1, eq_self, if_true, if_false, true_implies, false_implies, implies_true, ↓c_cast_Check, ↓c_msg_Check, ↓c_cast_whole, ↓c_slices_Concat_int_int, ↓c_slices_Contains_int_int, ↓c_graft_Twin, ↓c_slices_Clone_api_Peer_api_Peer, ↓c_slices_Clone_api_Call_api_Call, ↓c_slices_Clone_api_Mark_api_Mark, ↓c_slices_Clone_api_Mark2_api_Mark2, ↓c_slices_Clone_int_int, ↓c_cast_near, ↓c_cast_Heed, ↓c_slices_Delete_api_Call_api_Call, ↓c_queue_Fit, cell_L hy, hsub]
      rw [e2]
      show CALL _ _ [L (lastN _ 64)] _ _
      simp (disch := first | omega | assumption | exact ⟨by first | assumption | omega, by first | assumption | omega⟩ | (simp only [List.length_cons, List.length_nil]; omega)) only [↓S0, ↓ITE_bool, S1, eq_self, if_true, if_false, true_implies, false_implies, implies_true, ↓c_cast_Check, ↓c_msg_Check, ↓c_cast_whole, ↓c_slices_Concat_int_int, ↓c_slices_Contains_int_int, ↓c_graft_Twin, ↓c_slices_Clone_api_Peer_api_Peer, ↓c_slices_Clone_api_Call_api_Call, ↓c_slices_Clone_api_Mark_api_Mark, ↓c_slices_Clone_api_Mark2_api_Mark2, ↓c_slices_Clone_int_int, ↓c_cast_near, ↓c_cast_Heed, ↓c_slices_Delete_api_Call_api_Call, ↓c_queue_Fit]
      unfold tellN at hr
      rw [hkk] at hr
      by_cases hns : x.node = self
      · rw [if_pos hns] at hr
        try rw [hns] at hr
        simp (disch := first | omega | assumption | exact ⟨by first | assumption | omega, by first | assumption | omega⟩ | (simp only [List.length_cons, List.length_nil]; omega)) only [↓S0, ↓ITE_bool, S1, eq_self, if_true, if_false, true_implies, false_implies, implies_true, ↓c_cast_Check, ↓c_msg_Check, ↓c_cast_whole, ↓c_slices_Concat_int_int, ↓c_slices_Contains_int_int, ↓c_graft_Twin, ↓c_slices_Clone_api_Peer_api_Peer, ↓c_slices_Clone_api_Call_api_Call, ↓c_slices_Clone_api_Mark_api_Mark, ↓c_slices_Clone_api_Mark2_api_Mark2, ↓c_slices_Clone_int_int, ↓c_cast_near, ↓c_cast_Heed, ↓c_slices_Delete_api_Call_api_Call, ↓c_queue_Fit, hns]
        generalize x.count = cnt at hr hcb ⊢
        refine SUB.v3 (bb (n.calls.any (isCall k cnt))) (bb (!n.calls.any (isCall k cnt))) (L (n.calls.eraseP (isCall k cnt))) ?_ ?_
        · simp (disch := first | omega | assumption | exact ⟨by first | assumption | omega, by first | assumption | omega⟩ | (simp only [List.length_cons, List.length_nil]; omega)) only [↓S0, ↓ITE_bool, S1, eq_self, if_true, if_false, true_implies, false_implies, implies_true, ↓c_cast_Check, ↓c_msg_Check, ↓c_cast_whole, ↓c_slices_Concat_int_int, ↓c_slices_Contains_int_int, ↓c_graft_Twin, ↓c_slices_Clone_api_Peer_api_Peer, ↓c_slices_Clone_api_Call_api_Call, ↓c_slices_Clone_api_Mark_api_Mark, ↓c_slices_Clone_api_Mark2_api_Mark2, ↓c_slices_Clone_int_int, ↓c_cast_near, ↓c_cast_Heed, ↓c_slices_Delete_api_Call_api_Call, ↓c_queue_Fit]
          refine LOOP.rule (α := Nat) (fun i => [I i]) (fun i => i ≤ n.calls.length ∧ (n.calls.take i).any (isCall k cnt) = false) (fun i => n.calls.length - i) 0 rfl ⟨by omega, by simp⟩ (fun _ => rfl) ?_
          rintro i ⟨hi3, hs3⟩
          simp only [app]
          simp (disch := first | omega | assumption | exact ⟨by first | assumption | omega, by first | assumption | omega⟩ | (simp only [List.length_cons, List.length_nil]; omega)) only [↓S0, ↓ITE_bool, S1, eq_self, if_true, if_false, true_implies, false_implies, implies_true, ↓c_cast_Check, ↓c_msg_Check, ↓c_cast_whole, ↓c_slices_Concat_int_int, ↓c_slices_Contains_int_int, ↓c_graft_Twin, ↓c_slices_Clone_api_Peer_api_Peer, ↓c_slices_Clone_api_Call_api_Call, ↓c_slices_Clone_api_Mark_api_Mark, ↓c_slices_Clone_api_Mark2_api_Mark2, ↓c_slices_Clone_int_int, ↓c_cast_near, ↓c_cast_Heed, ↓c_slices_Delete_api_Call_api_Call, ↓c_queue_Fit]
          refine ⟨fun h => ?_, fun h => ⟨fun _ => ?_, fun h9 => absurd (show (-1 : Int) < 0 by omega) h9⟩⟩
          · obtain ⟨u, hu1⟩ := get_ex h
            simp (disch := first | omega | assumption | exact ⟨by first | assumption | omega, by first | assumption | omega⟩ | (simp only [List.length_cons, List.length_nil]; omega)) only [↓S0, ↓ITE_bool, S1, eq_self, if_true, if_false, true_implies, false_implies, implies_true, ↓c_cast_Check, ↓c_msg_Check, ↓c_cast_whole, ↓c_slices_Concat_int_int, ↓c_slices_Contains_int_int, ↓c_graft_Twin, ↓c_slices_Clone_api_Peer_api_Peer, ↓c_slices_Clone_api_Call_api_Call, ↓c_slices_Clone_api_Mark_api_Mark, ↓c_slices_Clone_api_Mark2_api_Mark2, ↓c_slices_Clone_int_int, ↓c_cast_near, ↓c_cast_Heed, ↓c_slices_Delete_api_Call_api_Call, ↓c_queue_Fit, cell_L hu1]
            refine SUB.v1 (bb (isCall k cnt u)) ?_ ?_
            · unfold isCall; repeat' (first | apply And.intro | intro _ | simp (disch := first | omega | assumption | exact ⟨by first | assumption | omega, by first | assumption | omega⟩ | (simp only [List.length_cons, List.length_nil]; omega)) only [↓S0, ↓ITE_bool, S1, eq_self, if_true, if_false, true_implies, false_implies, implies_true, ↓c_cast_Check, ↓c_msg_Check, ↓c_cast_whole, ↓c_slices_Concat_int_int, ↓c_slices_Contains_int_int, ↓c_graft_Twin, ↓c_slices_Clone_api_Peer_api_Peer, ↓c_slices_Clone_api_Call_api_Call, ↓c_slices_Clone_api_Mark_api_Mark, ↓c_slices_Clone_api_Mark2_api_Mark2, ↓c_slices_Clone_int_int, ↓c_cast_near, ↓c_cast_Heed, ↓c_slices_Delete_api_Call_api_Call, ↓c_queue_Fit])
              all_goals simp [*]
            cases hcx : isCall k cnt u
            · simp (disch := first | omega | assumption | exact ⟨by first | assumption | omega, by first | assumption | omega⟩ | (simp only [List.length_cons, List.length_nil]; omega)) only [↓S0, ↓ITE_bool, S1, eq_self, if_true, if_false, true_implies, false_implies, implies_true, ↓c_cast_Check, ↓c_msg_Check, ↓c_cast_whole, ↓c_slices_Concat_int_int, ↓c_slices_Contains_int_int, ↓c_graft_Twin, ↓c_slices_Clone_api_Peer_api_Peer, ↓c_slices_Clone_api_Call_api_Call, ↓c_slices_Clone_api_Mark_api_Mark, ↓c_slices_Clone_api_Mark2_api_Mark2, ↓c_slices_Clone_int_int, ↓c_cast_near, ↓c_cast_Heed, ↓c_slices_Delete_api_Call_api_Call, ↓c_queue_Fit]
              exact ⟨i + 1, rfl, ⟨by omega, any_take hs3 hu1 hcx⟩, by omega⟩
            · have hpre : (0 : Int) ≤ (i : Int) ∧ (i : Int) ≤ (i : Int) + 1 ∧ (i : Int) + 1 ≤ n.calls.length ∧ n.calls.length < 4611686018427387904 := ⟨by omega, by omega, by omega, by omega⟩
              obtain ⟨e5, e6⟩ := erase_cut hs3 hu1 hcx
              simp (disch := first | omega | assumption | exact ⟨by first | assumption | omega, by first | assumption | omega⟩ | (simp only [List.length_cons, List.length_nil]; omega)) only [↓S0, ↓ITE_bool, S1, eq_self, if_true, if_false, true_implies, false_implies, implies_true, ↓c_cast_Check, ↓c_msg_Check, ↓c_cast_whole, ↓c_slices_Concat_int_int, ↓c_slices_Contains_int_int, ↓c_graft_Twin, ↓c_slices_Clone_api_Peer_api_Peer, ↓c_slices_Clone_api_Call_api_Call, ↓c_slices_Clone_api_Mark_api_Mark, ↓c_slices_Clone_api_Mark2_api_Mark2, ↓c_slices_Clone_int_int, ↓c_cast_near, ↓c_cast_Heed, ↓c_slices_Delete_api_Call_api_Call, ↓c_queue_Fit]
              refine ⟨fun h => by omega, fun _ => ?_⟩
              rw [e5, e6]; rfl
          · have hi4 : i = n.calls.length := by omega
            subst hi4
            rw [List.take_length] at hs3
            rw [hs3, erase_not hs3]; rfl
        cases hany : n.calls.any (isCall k cnt)
        · rw [endCall_miss (n := ⟨n.up, n.inc, n.peers, n.topics, n.calls, n.pubs, n.asks, marks, lastN (n.taken ++ [(⟨self, x.inc, cnt, k, x.value⟩ : Mark2)]) 64⟩) hany] at hr
          rw [erase_not hany]
          simp (disch := first | omega | assumption | exact ⟨by first | assumption | omega, by first | assumption | omega⟩ | (simp only [List.length_cons, List.length_nil]; omega)) only [↓S0, ↓ITE_bool, S1, eq_self, if_true, if_false, true_implies, false_implies, implies_true, ↓c_cast_Check, ↓c_msg_Check, ↓c_cast_whole, ↓c_slices_Concat_int_int, ↓c_slices_Contains_int_int, ↓c_graft_Twin, ↓c_slices_Clone_api_Peer_api_Peer, ↓c_slices_Clone_api_Call_api_Call, ↓c_slices_Clone_api_Mark_api_Mark, ↓c_slices_Clone_api_Mark2_api_Mark2, ↓c_slices_Clone_int_int, ↓c_cast_near, ↓c_cast_Heed, ↓c_slices_Delete_api_Call_api_Call, ↓c_queue_Fit]
          subst hr
          exact hQ
        · rw [endCall_true (n := ⟨n.up, n.inc, n.peers, n.topics, n.calls, n.pubs, n.asks, marks, lastN (n.taken ++ [(⟨self, x.inc, cnt, k, x.value⟩ : Mark2)]) 64⟩) hany rfl hy] at hr
          simp (disch := first | omega | assumption | exact ⟨by first | assumption | omega, by first | assumption | omega⟩ | (simp only [List.length_cons, List.length_nil]; omega)) only [↓S0, ↓ITE_bool, S1, eq_self, if_true, if_false, true_implies, false_implies, implies_true, ↓c_cast_Check, ↓c_msg_Check, ↓c_cast_whole, ↓c_slices_Concat_int_int, ↓c_slices_Contains_int_int, ↓c_graft_Twin, ↓c_slices_Clone_api_Peer_api_Peer, ↓c_slices_Clone_api_Call_api_Call, ↓c_slices_Clone_api_Mark_api_Mark, ↓c_slices_Clone_api_Mark2_api_Mark2, ↓c_slices_Clone_int_int, ↓c_cast_near, ↓c_cast_Heed, ↓c_slices_Delete_api_Call_api_Call, ↓c_queue_Fit, cell_L hy, ↓OP_set hy (j := 15) (v := L (fitE y.queue c.queue ⟨3, 0, 0, 0, self, cnt⟩)) (y := { y with queue := fitE y.queue c.queue ⟨3, 0, 0, 0, self, cnt⟩ }) rfl]
          rw [show evCall cnt self = ⟨3, 0, 0, 0, self, cnt⟩ from if_pos hsb.1] at hr
          subst hr
          refine ⟨fun _ => ?_, fun h => by omega⟩
          exact hQ
      · rw [if_neg hns] at hr
        rw [if_pos hsb.1] at hr
        simp (disch := first | omega | assumption | exact ⟨by first | assumption | omega, by first | assumption | omega⟩ | (simp only [List.length_cons, List.length_nil]; omega)) only [↓S0, ↓ITE_bool, S1, eq_self, if_true, if_false, true_implies, false_implies, implies_true, ↓c_cast_Check, ↓c_msg_Check, ↓c_cast_whole, ↓c_slices_Concat_int_int, ↓c_slices_Contains_int_int, ↓c_graft_Twin, ↓c_slices_Clone_api_Peer_api_Peer, ↓c_slices_Clone_api_Call_api_Call, ↓c_slices_Clone_api_Mark_api_Mark, ↓c_slices_Clone_api_Mark2_api_Mark2, ↓c_slices_Clone_int_int, ↓c_cast_near, ↓c_cast_Heed, ↓c_slices_Delete_api_Call_api_Call, ↓c_queue_Fit, hns, ↓OP_rowMsg0]
        subst hr
        refine ⟨fun _ => ?_, fun h => by omega⟩
        exact hQ
  · rw [hsk, if_pos rfl] at hE
    simp (disch := first | omega | assumption | exact ⟨by first | assumption | omega, by first | assumption | omega⟩ | (simp only [List.length_cons, List.length_nil]; omega)) only [↓S0, ↓ITE_bool, S1, eq_self, if_true, if_false, true_implies, false_implies, implies_true, ↓c_cast_Check, ↓c_msg_Check, ↓c_cast_whole, ↓c_slices_Concat_int_int, ↓c_slices_Contains_int_int, ↓c_graft_Twin, ↓c_slices_Clone_api_Peer_api_Peer, ↓c_slices_Clone_api_Call_api_Call, ↓c_slices_Clone_api_Mark_api_Mark, ↓c_slices_Clone_api_Mark2_api_Mark2, ↓c_slices_Clone_int_int, ↓c_cast_near, ↓c_cast_Heed, ↓c_slices_Delete_api_Call_api_Call, ↓c_queue_Fit]
    refine LOOP.rule (α := Nat) (fun i => [I i, L (n.topics.take i)]) (fun i => i ≤ n.topics.length) (fun i => n.topics.length - i) 0 rfl (by omega) (fun _ => rfl) ?_
    intro i hl
    simp only [app]
    simp (disch := first | omega | assumption | exact ⟨by first | assumption | omega, by first | assumption | omega⟩ | (simp only [List.length_cons, List.length_nil]; omega)) only [↓S0, ↓ITE_bool, S1, eq_self, if_true, if_false, true_implies, false_implies, implies_true, ↓c_cast_Check, ↓c_msg_Check, ↓c_cast_whole, ↓c_slices_Concat_int_int, ↓c_slices_Contains_int_int, ↓c_graft_Twin, ↓c_slices_Clone_api_Peer_api_Peer, ↓c_slices_Clone_api_Call_api_Call, ↓c_slices_Clone_api_Mark_api_Mark, ↓c_slices_Clone_api_Mark2_api_Mark2, ↓c_slices_Clone_int_int, ↓c_cast_near, ↓c_cast_Heed, ↓c_slices_Delete_api_Call_api_Call, ↓c_queue_Fit]
    refine ⟨fun hcc => ?_, fun hcc => ?_⟩
    · obtain ⟨y, hy⟩ := get_ex hcc
      have hx9 := node_light hc H hy
      have hlt : (n.topics.take i).length = i := by simp; omega
      simp (disch := first | omega | assumption | exact ⟨by first | assumption | omega, by first | assumption | omega⟩ | (simp only [List.length_cons, List.length_nil]; omega)) only [↓S0, ↓ITE_bool, S1, eq_self, if_true, if_false, true_implies, false_implies, implies_true, ↓c_cast_Check, ↓c_msg_Check, ↓c_cast_whole, ↓c_slices_Concat_int_int, ↓c_slices_Contains_int_int, ↓c_graft_Twin, ↓c_slices_Clone_api_Peer_api_Peer, ↓c_slices_Clone_api_Call_api_Call, ↓c_slices_Clone_api_Mark_api_Mark, ↓c_slices_Clone_api_Mark2_api_Mark2, ↓c_slices_Clone_int_int, ↓c_cast_near, ↓c_cast_Heed, ↓c_slices_Delete_api_Call_api_Call, ↓c_queue_Fit, cell_L hy]
      exact ⟨i + 1, by simp [take_one hy], by omega, by omega⟩
    rw [List.take_of_length_le (by omega)]
    rw [← hE]; rfl
end Go.Xt
end
section
set_option linter.unusedSimpArgs false
set_option linter.unusedVariables false
set_option maxRecDepth 100000
namespace Go.Xt
theorem endCall_marks {c : Config} {n : Node} {t cn who : Int} : (endCall c n t cn who).marks = n.marks := by unfold endCall; split <;> rfl
theorem tell_marks {c : Config} {self : Int} {n : Node} {x : Msg} {who : Int} : (tellN c self n x who).1.marks = n.marks := by
  unfold tellN; split
  · exact endCall_marks
  · rfl
theorem visit_marks {c : Config} {self : Int} {n : Node} {x : Msg} : (visitN c self n x).1.marks = n.marks := by
  unfold visitN; split
  · exact tell_marks (n := { n with taken := _ })
  · unfold goN; split
    · exact tell_marks
    · rfl
theorem met_bit {m : Int} {b : Nat} (h : m / 2 ^ b % 2 = 0) : (m + 2 ^ b) / 2 ^ b % 2 = 1 := by
  have hp : (0 : Int) < 2 ^ b := Int.pow_pos (by decide)
  rw [Int.add_ediv_of_dvd_right (Int.dvd_refl _), Int.ediv_self (by omega)]
  omega
theorem newer_self {z : Mark} {inc : Int} (h : ¬ z.inc < inc) : newer z inc = z := if_neg h
theorem meet_twice {l : List Mark} {o inc cn : Int} (h0 : 0 ≤ o) (h1 : o < l.length) : meets (meetL l o inc cn) o inc cn = false := by
  unfold meetL
  split
  · rename_i h
    obtain ⟨s, rfl⟩ := Int.eq_ofNat_of_zero_le h0
    obtain ⟨mk, hmk⟩ := get_ex h1
    have hsz := (List.getElem?_eq_some_iff.1 hmk).1
    have hmd : l.getD s mark0 = mk := by simp [List.getD_eq_getElem?_getD, hmk]
    unfold meets at h ⊢
    rw [Int.toNat_natCast, hmd] at h ⊢
    have hg : (l.set s { newer mk inc with met := (newer mk inc).met + 2 ^ cn.toNat }).getD s mark0 = { newer mk inc with met := (newer mk inc).met + 2 ^ cn.toNat } := by
      simp [List.getD_eq_getElem?_getD, hsz]
    rw [hg]
    simp only [Bool.and_eq_true, decide_eq_true_eq, Bool.not_eq_true'] at h
    obtain ⟨h2, h3⟩ := h
    have hi : (newer mk inc).inc = inc := by
      unfold newer; split
      · rfl
      · omega
    have h4 : (newer mk inc).met / 2 ^ cn.toNat % 2 = 0 := by
      simp only [metYet, decide_eq_false_iff_not] at h3; omega
    have hn : newer { newer mk inc with met := (newer mk inc).met + 2 ^ cn.toNat } inc = { newer mk inc with met := (newer mk inc).met + 2 ^ cn.toNat } :=
      newer_self (by show ¬ (newer mk inc).inc < inc; omega)
    rw [hn]
    have h5 := met_bit h4
    simp [metYet, h5]
  · rename_i h; simpa using h
theorem todo_mem {n : Node} {path : List Int} {k : Int} : ∀ (l a : List Int), k ∈ todoGo n path a l → k ∈ a ∨ path.contains k = false
  | [], a, h => .inl (by simpa [todoGo] using h)
  | z :: r, a, h => by
    rw [todoGo] at h
    rcases todo_mem r _ h with h | h
    · split at h
      · rename_i hc
        rcases List.mem_append.1 h with h | h
        · exact .inl h
        · rw [List.mem_singleton] at h
          subst h
          simp only [Bool.and_eq_true, Bool.not_eq_true'] at hc
          exact .inr hc.1.2
      · exact .inl h
    · exact .inr h
theorem last_cell {α : Type} {l : List α} {z : α} : (lastN (l ++ [z]) 64)[(lastN (l ++ [z]) 64).length - 1]? = some z ∧ 0 < (lastN (l ++ [z]) 64).length := by
  have h : 0 < (lastN (l ++ [z]) 64).length := by unfold lastN; simp; omega
  refine ⟨?_, h⟩
  have h2 : (lastN (l ++ [z]) 64).getLast? = some z := by
    unfold lastN
    rw [List.getLast?_drop, if_neg (by simp; omega)]
    simp
  rw [← h2, List.getLast?_eq_getElem?]
inductive OutOk (c : Config) (self : Int) (sub : Bool) (taken : List Mark2) (x y : Msg) : Prop where
  | found (h1 : y.kind = 12) (h2 : sub = true) (h3 : y.to = x.node) (h4 : y.value = self) (h5 : y.count = x.count) (h6 : ∃ l : List Mark2, taken = lastN (l ++ [⟨x.node, x.inc, x.count, x.topic, x.value⟩]) 64)
  | nobody (h1 : y.kind = 13) (h2 : sub = false) (h3 : y.to = x.node) (h5 : y.count = x.count)
  | any (h1 : y.kind = 11) (h2 : sub = false) (h3 : y.hops = x.hops + 1) (h4 : y.node = x.node) (h5 : y.inc = x.inc) (h6 : y.count = x.count) (h7 : y.value = x.value) (h8 : y.path = x.path ++ [self]) (h9 : y.to ∈ x.todo ∨ (x.path ++ [self]).contains y.to = false)
theorem visit_out {c : Config} {self : Int} {n : Node} {x : Msg} (h0 : 0 ≤ self) : (visitN c self n x).2 = [] ∨ ∃ y, (visitN c self n x).2 = [y] ∧ OutOk c self (topAt n x.topic).sub (visitN c self n x).1.taken x y := by
  unfold visitN
  cases hs : (topAt n x.topic).sub
  · rw [if_neg (by simp)]
    unfold goN
    split
    · unfold tellN
      split
      · exact .inl rfl
      · exact .inr ⟨_, rfl, .nobody (by rw [if_neg (by omega)]) rfl (by rw [if_neg (by omega)]) (by rw [if_neg (by omega)])⟩
    · rename_i hne
      refine .inr ⟨_, rfl, .any rfl rfl rfl rfl rfl rfl rfl rfl ?_⟩
      have hne2 : todoGo n (x.path ++ [self]) x.todo (nearL self n x.topic) ≠ [] := fun h => hne (.inl h)
      refine todo_mem (n := n) (nearL self n x.topic) x.todo ?_
      show List.getLastD _ 0 ∈ _
      rw [List.getLastD_eq_getLast?, List.getLast?_eq_some_getLast hne2]
      exact List.getLast_mem hne2
  · rw [if_pos rfl]
    unfold tellN
    split
    · exact .inl rfl
    · exact .inr ⟨_, rfl, .found rfl rfl rfl rfl rfl ⟨n.taken, rfl⟩⟩
theorem visit_again {c : Config} {self : Int} {m : Node} {x : Msg} (hw : nodeWhy c self m = 0) (hv : mayVisit c x = true) (h : (x.path.contains self || !meets m.marks x.node x.inc x.count) = true) : visitW c self m x = (m, [], 0) := by
  unfold visitW; rw [if_pos hw, if_pos hv, if_pos h]
/-- what a visit comes to, and a second one -/
theorem visit_law {c : Config} {self : Int} {n : Node} {x : Msg} {q : Node × List Msg × Int} (hE : visitW c self n x = q) :
    (q.2.2 ≠ 0 ∧ q.2.1 = []) ∨
    (q.2.2 = 0 ∧ nodeWhy c self n = 0 ∧ nodeWhy c self q.1 = 0 ∧ MV c x ∧ visitW c self q.1 x = (q.1, [], 0) ∧ q.1.topics.length = n.topics.length ∧
      (q.2.1 = [] ∨ ∃ y, q.2.1 = [y] ∧ OutOk c self (topAt n x.topic).sub q.1.taken x y)) := by
  unfold visitW at hE
  split at hE
  · rename_i hw
    obtain ⟨hc, hs, hu, H⟩ := why_zero hw
    split at hE
    · rename_i hv
      have M := may_iff hv
      have V := M.v
      split at hE
      · rename_i hk
        subst hE
        exact .inr ⟨rfl, hw, hw, M, visit_again hw hv hk, rfl, .inl rfl⟩
      · rename_i hk
        subst hE
        have hcb := rng_bd V.k
        have hob := rng_bd M.n
        have hml := H.ml
        have hmk := meet_ok (o := x.node) (inc := x.inc) (count := x.count) H.marks V.i (by omega) (by omega)
        have H1 : NOk c self { n with marks := meetL n.marks x.node x.inc x.count } :=
          ⟨H.inc, H.pubs, H.asks, H.calls, H.cl, H.pl, H.tl, by rw [← H.ml]; exact congrArg _ hmk.2, H.kl, H.tops, H.peers, hmk.1, H.taken⟩
        obtain ⟨v1, v2, v3, v4⟩ := visit_ok H1 V
        have hw2 : nodeWhy c self (visitN c self { n with marks := meetL n.marks x.node x.inc x.count } x).1 = 0 := why_of hc hs (by rw [v4]; exact hu) v1
        refine .inr ⟨rfl, hw, hw2, M, visit_again hw2 hv ?_, ?_, ?_⟩
        · dsimp only
          rw [visit_marks]
          dsimp only
          rw [meet_twice hob.1 (by omega)]; simp
        · have h1 := v1.tl; have h2 := H.tl
          dsimp only; omega
        · exact visit_out (n := { n with marks := meetL n.marks x.node x.inc x.count }) (rng_bd hs).1
    · subst hE; exact .inl ⟨by decide, rfl⟩
  · rename_i hw
    subst hE; exact .inl ⟨hw, rfl⟩
theorem w_law21_CastOnce (c : Config) (self : Int) (n : Node) (x : Msg) (hg : Goods [I c.nodes, I c.topics, I c.kids, I c.depth, I c.keep, I c.window, I c.queue, I self, bb n.up, I n.inc, L n.peers, L n.topics, L n.calls, I n.pubs, I n.asks, L n.marks, L n.taken, I x.kind, I x.frm, I x.fromInc, I x.to, I x.toInc, I x.topic, I x.epoch, I x.seq, I x.last, I x.value, I x.node, I x.inc, I x.count, I x.hops, L x.path, L x.todo]) : S_law21_CastOnce ρ (I c.nodes) (I c.topics) (I c.kids) (I c.depth) (I c.keep) (I c.window) (I c.queue) (I self) (bb n.up) (I n.inc) (L n.peers) (L n.topics) (L n.calls) (I n.pubs) (I n.asks) (L n.marks) (L n.taken) (I x.kind) (I x.frm) (I x.fromInc) (I x.to) (I x.toInc) (I x.topic) (I x.epoch) (I x.seq) (I x.last) (I x.value) (I x.node) (I x.inc) (I x.count) (I x.hops) (L x.path) (L x.todo) (· = [bb true]) := by
  unfold S_law21_CastOnce
  simp only [Goods, good_I, good_L] at hg
  refine SUB.v1 (bb (heavy21 n || (decide (x.path.length > 30) || decide (x.todo.length > 30)))) ?_ ?_
  · repeat' (first | apply And.intro | intro _ | simp (disch := first | omega | assumption | exact ⟨by first | assumption | omega, by first | assumption | omega⟩ | (simp only [List.length_cons, List.length_nil]; omega)) only [↓S0, ↓ITE_bool, S1, eq_self, if_true, if_false, true_implies, false_implies, implies_true, ↓c_law21_Heavy, ↓c_law21_wakes, ↓c_law06_Heavy, ↓c_cast_Visit, ↓c_bkeep_Node, ↓c_bkeep_Ints, ↓c_bkeep_TwinInts])
    all_goals simp_all
  by_cases hh0 : (heavy21 n || (decide (x.path.length > 30) || decide (x.todo.length > 30))) = true
  · simp (disch := first | omega | assumption | exact ⟨by first | assumption | omega, by first | assumption | omega⟩ | (simp only [List.length_cons, List.length_nil]; omega)) only [↓S0, ↓ITE_bool, S1, eq_self, if_true, if_false, true_implies, false_implies, implies_true, ↓c_law21_Heavy, ↓c_law21_wakes, ↓c_law06_Heavy, ↓c_cast_Visit, ↓c_bkeep_Node, ↓c_bkeep_Ints, ↓c_bkeep_TwinInts, hh0]
  simp (disch := first | omega | assumption | exact ⟨by first | assumption | omega, by first | assumption | omega⟩ | (simp only [List.length_cons, List.length_nil]; omega)) only [↓S0, ↓ITE_bool, S1, eq_self, if_true, if_false, true_implies, false_implies, implies_true, ↓c_law21_Heavy, ↓c_law21_wakes, ↓c_law06_Heavy, ↓c_cast_Visit, ↓c_bkeep_Node, ↓c_bkeep_Ints, ↓c_bkeep_TwinInts, hh0]
  generalize hE : visitW c self n x = q
  rcases visit_law hE with ⟨hq1, hq2⟩ | ⟨hq, hw, hw2, M, hag, htl, hout⟩
  · rw [hq2]
    exact ⟨fun _ h => absurd (by simp) h, fun h => absurd h hq1⟩
  rw [hag]
  refine ⟨fun h => absurd hq h, fun _ => ?_⟩
  obtain ⟨hc, hs, hu, H⟩ := why_zero hw
  have hb := cfg_bd hc
  have hsb := rng_bd hs
  have htb := rng_bd M.t
  have hntl := H.tl
  have hol : q.2.1.length ≤ 1 := by
    rcases hout with h | ⟨y, h, _⟩ <;> rw [h] <;> simp
  refine SUB.v1 (bb false) ?_ ?_
  · refine ⟨fun h => absurd (by rw [htl]) h, fun _ => ⟨fun h => by omega, fun _ => ⟨fun h => by omega, fun _ => ?_⟩⟩⟩
    have : decide ((1 : Int) < q.2.1.length) = false := by simp; omega
    rw [this]
  simp (disch := first | omega | assumption | exact ⟨by first | assumption | omega, by first | assumption | omega⟩ | (simp only [List.length_cons, List.length_nil]; omega)) only [↓S0, ↓ITE_bool, S1, eq_self, if_true, if_false, true_implies, false_implies, implies_true, ↓c_law21_Heavy, ↓c_law21_wakes, ↓c_law06_Heavy, ↓c_cast_Visit, ↓c_bkeep_Node, ↓c_bkeep_Ints, ↓c_bkeep_TwinInts]
  refine SUB.v1 (bb false) ?_ ?_
  · simp
  simp (disch := first | omega | assumption | exact ⟨by first | assumption | omega, by first | assumption | omega⟩ | (simp only [List.length_cons, List.length_nil]; omega)) only [↓S0, ↓ITE_bool, S1, eq_self, if_true, if_false, true_implies, false_implies, implies_true, ↓c_law21_Heavy, ↓c_law21_wakes, ↓c_law06_Heavy, ↓c_cast_Visit, ↓c_bkeep_Node, ↓c_bkeep_Ints, ↓c_bkeep_TwinInts]
  rcases hout with h | ⟨y, h, ho⟩
  · rw [h]
    exact fun h => absurd (by simp) h
  intro _
  rw [h]
  obtain ⟨k, hk⟩ := Int.eq_ofNat_of_zero_le htb.1
  obtain ⟨z, hz⟩ := get_ex (xs := n.topics) (i := k) (by omega)
  have hgd : topAt n x.topic = z := by rw [hk]; simp [topAt, List.getD_eq_getElem?_getD, hz]
  rw [hgd] at ho
  rw [hk]
  have hly : (([y] : List Msg).length : Int) = 1 := rfl
  obtain ⟨a1, _, a3, a4, a5, _⟩ := msg_any M.ok M.k
  have hlp := way_len a3; have hlt := way_len a4
  simp only [whoseM, Bool.and_eq_true] at a1
  have hhb := rng_bd a1.2
  cases ho with
  | found h1 h2 h3 h4 h5 h6 =>
    obtain ⟨l, hl⟩ := h6
    obtain ⟨g1, g2⟩ := last_cell (l := l) (z := (⟨x.node, x.inc, x.count, x.topic, x.value⟩ : Mark2))
    rw [← hl] at g1 g2
    have e1 : ((q.1.taken.length : Int) - 1) = ((q.1.taken.length - 1 : Nat) : Int) := by omega
    have e2 : q.1.taken.length ≤ 64 := (why_zero hw2).2.2.2.kl
    simp (disch := first | omega | assumption | exact ⟨by first | assumption | omega, by first | assumption | omega⟩ | (simp only [List.length_cons, List.length_nil]; omega)) only [↓S0, ↓ITE_bool, S1, eq_self, if_true, if_false, true_implies, false_implies, implies_true, ↓c_law21_Heavy, ↓c_law21_wakes, ↓c_law06_Heavy, ↓c_cast_Visit, ↓c_bkeep_Node, ↓c_bkeep_Ints, ↓c_bkeep_TwinInts, cellm, h1, cell_L hz, h2, h3, h4, h5]
    refine ⟨fun _ => ?_, fun h => by omega⟩
    rw [e1]
    simp (disch := first | omega | assumption | exact ⟨by first | assumption | omega, by first | assumption | omega⟩ | (simp only [List.length_cons, List.length_nil]; omega)) only [↓S0, ↓ITE_bool, S1, eq_self, if_true, if_false, true_implies, false_implies, implies_true, ↓c_law21_Heavy, ↓c_law21_wakes, ↓c_law06_Heavy, ↓c_cast_Visit, ↓c_bkeep_Node, ↓c_bkeep_Ints, ↓c_bkeep_TwinInts, cell_L g1, hk]
    simp
  | nobody h1 h2 h3 h5 =>
    simp (disch := first | omega | assumption | exact ⟨by first | assumption | omega, by first | assumption | omega⟩ | (simp only [List.length_cons, List.length_nil]; omega)) only [↓S0, ↓ITE_bool, S1, eq_self, if_true, if_false, true_implies, false_implies, implies_true, ↓c_law21_Heavy, ↓c_law21_wakes, ↓c_law06_Heavy, ↓c_cast_Visit, ↓c_bkeep_Node, ↓c_bkeep_Ints, ↓c_bkeep_TwinInts, cellm, h1, cell_L hz, h2, h3, h5]
    exact fun h => absurd h (by decide)
  | any h1 h2 h3 h4 h5 h6 h7 h8 h9 =>
    simp (disch := first | omega | assumption | exact ⟨by first | assumption | omega, by first | assumption | omega⟩ | (simp only [List.length_cons, List.length_nil]; omega)) only [↓S0, ↓ITE_bool, S1, eq_self, if_true, if_false, true_implies, false_implies, implies_true, ↓c_law21_Heavy, ↓c_law21_wakes, ↓c_law06_Heavy, ↓c_cast_Visit, ↓c_bkeep_Node, ↓c_bkeep_Ints, ↓c_bkeep_TwinInts, cellm, h1, cell_L hz, h2, h3, h4, h5, h6, h7, h8]
    refine ⟨fun h => absurd h (by decide), fun _ => ⟨fun h => absurd h (by decide), fun _ => ?_⟩⟩
    refine SUB.v1 (bb false) ⟨rfl, rfl⟩ ?_
    simp (disch := first | omega | assumption | exact ⟨by first | assumption | omega, by first | assumption | omega⟩ | (simp only [List.length_cons, List.length_nil]; omega)) only [↓S0, ↓ITE_bool, S1, eq_self, if_true, if_false, true_implies, false_implies, implies_true, ↓c_law21_Heavy, ↓c_law21_wakes, ↓c_law06_Heavy, ↓c_cast_Visit, ↓c_bkeep_Node, ↓c_bkeep_Ints, ↓c_bkeep_TwinInts]
    have hno : ¬ (y.to ∈ x.path ++ [self]) ∨ self ∈ x.todo := by
      rcases h9 with h9 | h9
      · by_cases hst : self ∈ x.todo
        · exact .inr hst
        · left
          intro hm
          rcases List.mem_append.1 hm with hm | hm
          · exact (List.nodup_append.1 a5).2.2 _ hm _ h9 rfl
          · rw [List.mem_singleton] at hm
            rw [hm] at h9; exact hst h9
      · left
        intro hm
        rw [List.contains_iff_mem.2 hm] at h9; cases h9
    refine LOOP.rule (α := Nat) (fun i => [I i]) (fun i => i ≤ x.todo.length ∧ ¬ self ∈ x.todo.take i) (fun i => x.todo.length - i) 0 rfl ⟨by omega, by simp⟩ (fun _ => rfl) ?_
    rintro i ⟨hi, hs3⟩
    simp only [app]
    simp (disch := first | omega | assumption | exact ⟨by first | assumption | omega, by first | assumption | omega⟩ | (simp only [List.length_cons, List.length_nil]; omega)) only [↓S0, ↓ITE_bool, S1, eq_self, if_true, if_false, true_implies, false_implies, implies_true, ↓c_law21_Heavy, ↓c_law21_wakes, ↓c_law06_Heavy, ↓c_cast_Visit, ↓c_bkeep_Node, ↓c_bkeep_Ints, ↓c_bkeep_TwinInts]
    refine ⟨fun h => ?_, fun h => ?_⟩
    · obtain ⟨u, hu1⟩ := get_ex h
      simp (disch := first | omega | assumption | exact ⟨by first | assumption | omega, by first | assumption | omega⟩ | (simp only [List.length_cons, List.length_nil]; omega)) only [↓S0, ↓ITE_bool, S1, eq_self, if_true, if_false, true_implies, false_implies, implies_true, ↓c_law21_Heavy, ↓c_law21_wakes, ↓c_law06_Heavy, ↓c_cast_Visit, ↓c_bkeep_Node, ↓c_bkeep_Ints, ↓c_bkeep_TwinInts, cell_L hu1]
      refine fun h3 => ⟨i + 1, rfl, ⟨by omega, ?_⟩, by omega⟩
      rw [List.take_add_one, hu1]
      intro hm
      rcases List.mem_append.1 hm with hm | hm
      · exact hs3 hm
      · simp at hm; exact h3 hm.symm
    rw [List.take_of_length_le (by omega)] at hs3
    have hno2 : ¬ (y.to ∈ x.path ++ [self]) := hno.resolve_right hs3
    refine LOOP.rule (α := Nat) (fun i => [I i]) (fun i => i ≤ (x.path ++ [self]).length) (fun i => (x.path ++ [self]).length - i) 0 rfl (by omega) (fun _ => rfl) ?_
    intro j hj
    have hjl : (x.path ++ [self]).length ≤ 100 := by simp; omega
    simp only [app]
    simp (disch := first | omega | assumption | exact ⟨by first | assumption | omega, by first | assumption | omega⟩ | (simp only [List.length_cons, List.length_nil]; omega)) only [↓S0, ↓ITE_bool, S1, eq_self, if_true, if_false, true_implies, false_implies, implies_true, ↓c_law21_Heavy, ↓c_law21_wakes, ↓c_law06_Heavy, ↓c_cast_Visit, ↓c_bkeep_Node, ↓c_bkeep_Ints, ↓c_bkeep_TwinInts]
    refine fun h => ?_
    obtain ⟨u, hu1⟩ := get_ex h
    simp (disch := first | omega | assumption | exact ⟨by first | assumption | omega, by first | assumption | omega⟩ | (simp only [List.length_cons, List.length_nil]; omega)) only [↓S0, ↓ITE_bool, S1, eq_self, if_true, if_false, true_implies, false_implies, implies_true, ↓c_law21_Heavy, ↓c_law21_wakes, ↓c_law06_Heavy, ↓c_cast_Visit, ↓c_bkeep_Node, ↓c_bkeep_Ints, ↓c_bkeep_TwinInts, cell_L hu1]
    refine ⟨fun h3 => ?_, fun h3 => ⟨j + 1, rfl, by omega, by omega⟩⟩
    exact absurd (by rw [← h3]; exact List.mem_of_getElem? hu1) hno2
end Go.Xt
end
