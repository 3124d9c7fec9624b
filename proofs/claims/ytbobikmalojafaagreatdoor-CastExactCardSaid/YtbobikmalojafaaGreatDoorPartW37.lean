/- Steps towards the statements of this seat; the conditions stand in each theorem. -/
import Derived.Test.YtbobikmalojafaaGreatDoorPartW1
section
set_option linter.unusedSimpArgs false
set_option linter.unusedVariables false
set_option maxRecDepth 100000
namespace Go.Xt
set_option linter.defProp false
theorem msg_heard {x : Msg} {c : Config} (h : (msgOk x && (decide (x.kind = 12) || decide (x.kind = 13)) && decide (x.topic < c.topics)) = true) : rng x.topic 0 (c.topics - 1) = true ∧ rng x.count 1 40 = true ∧ (x.kind = 12 → isN x.value = true) ∧ (x.kind = 12 ∨ x.kind = 13) := by
  simp only [Bool.and_eq_true,Bool.or_eq_true,decide_eq_true_eq] at h
  obtain ⟨⟨h1,h2⟩,h3⟩ := h
  simp only [msgOk,Bool.and_eq_true] at h1
  obtain ⟨⟨⟨⟨k1,k2⟩,_⟩,_⟩,_⟩ := h1
  simp only [knownM,Bool.and_eq_true] at k2
  have k3 := k2.2
  rw [if_neg (by omega),Bool.and_eq_true] at k3
  have k4 := rng_bd k3.2
  refine ⟨by unfold rng;simp;omega,?_,fun h12 => ?_,h2⟩
  · unfold bareM at k1
    rcases h2 with h2 | h2
    · rw [if_neg (by omega),if_neg (by omega),if_neg (by omega),if_neg (by omega),if_neg (by omega),if_neg (by omega),if_neg (by omega),if_neg (by omega),if_neg (by omega),if_pos h2,Bool.and_eq_true] at k1
      exact k1.1
    · rw [if_neg (by omega),if_neg (by omega),if_neg (by omega),if_neg (by omega),if_neg (by omega),if_neg (by omega),if_neg (by omega),if_neg (by omega),if_neg (by omega),if_neg (by omega),if_pos h2] at k1
      exact k1
  · unfold bareM at k1
    rw [if_neg (by omega),if_neg (by omega),if_neg (by omega),if_neg (by omega),if_neg (by omega),if_neg (by omega),if_neg (by omega),if_neg (by omega),if_neg (by omega),if_pos h12,Bool.and_eq_true] at k1
    exact k1.2
def K_cast_Heard := And.intro @c_cast_Check (And.intro @c_msg_Check (And.intro @c_slices_Clone_api_Peer_api_Peer (And.intro @c_graft_Twin (And.intro @c_slices_Clone_api_Call_api_Call (And.intro @c_slices_Clone_api_Mark_api_Mark (And.intro @c_slices_Clone_api_Mark2_api_Mark2 (And.intro @c_slices_Delete_api_Call_api_Call (@c_queue_Fit))))))))
theorem w_cast_Heard (c : Config) (self : Int) (n : Node) (x : Msg) (hg : Goods [I c.nodes,I c.topics,I c.kids,I c.depth,I c.keep,I c.window,I c.queue,I self,bb n.up,I n.inc,L n.peers,L n.topics,L n.calls,I n.pubs,I n.asks,L n.marks,L n.taken,I x.kind,I x.frm,I x.fromInc,I x.to,I x.toInc,I x.topic,I x.epoch,I x.seq,I x.last,I x.value,I x.node,I x.inc,I x.count,I x.hops,L x.path,L x.todo]) : S_cast_Heard ρ (I c.nodes) (I c.topics) (I c.kids) (I c.depth) (I c.keep) (I c.window) (I c.queue) (I self) (bb n.up) (I n.inc) (L n.peers) (L n.topics) (L n.calls) (I n.pubs) (I n.asks) (L n.marks) (L n.taken) (I x.kind) (I x.frm) (I x.fromInc) (I x.to) (I x.toInc) (I x.topic) (I x.epoch) (I x.seq) (I x.last) (I x.value) (I x.node) (I x.inc) (I x.count) (I x.hops) (L x.path) (L x.todo) (· = [bb (heardN c self n x).1.up,I (heardN c self n x).1.inc,L (heardN c self n x).1.peers,L (heardN c self n x).1.topics,L (heardN c self n x).1.calls,I (heardN c self n x).1.pubs,I (heardN c self n x).1.asks,L (heardN c self n x).1.marks,L (heardN c self n x).1.taken,I (heardN c self n x).2]) := by
  unfold S_cast_Heard
  simp only [Goods,good_I,good_L] at hg
  generalize hE : heardN c self n x = q
  unfold heardN at hE
  simp (disch:=first|omega|assumption|(constructor<;>first|assumption|omega)|simp only[LN];omega) only [↓SB,S1,↓K_cast_Heard]
  refine ⟨fun hw => ?_,fun hw => ?_⟩
  · rw [if_neg hw] at hE;rw [← hE];rfl
  rw [if_pos hw] at hE
  obtain ⟨hc,hsr,hu,H⟩ := why_zero hw
  have hb := cfg_bd hc
  have hsb := rng_bd hsr
  refine SUB.v1 (bb (!(msgOk x && (decide (x.kind = 12) || decide (x.kind = 13)) && decide (x.topic < c.topics)))) ?_ ?_
  · cases hm : msgOk x
    · simp (disch:=first|omega|assumption|(constructor<;>first|assumption|omega)|simp only[LN];omega) only [↓SB,S1,↓K_cast_Heard,hm]
      simp
    · simp (disch:=first|omega|assumption|(constructor<;>first|assumption|omega)|simp only[LN];omega) only [↓SB,S1,↓K_cast_Heard,hm]
      simp
      refine ⟨fun k12 => ⟨fun k13 => ?_,fun k13 => ?_⟩,fun k12 => ?_⟩
      · simp [k12,k13]
      · simp [k13];rw [← decide_not];simp
      · simp [k12];rw [← decide_not];simp
  cases hok : (msgOk x && (decide (x.kind = 12) || decide (x.kind = 13)) && decide (x.topic < c.topics))
  · simp (disch:=first|omega|assumption|(constructor<;>first|assumption|omega)|simp only[LN];omega) only [↓SB,S1,↓K_cast_Heard]
    rw [hok,if_neg (by simp)] at hE;rw [← hE];rfl
  rw [if_pos hok] at hE
  obtain ⟨ht,hcnt,hv,hk⟩ := msg_heard hok
  simp (disch:=first|omega|assumption|(constructor<;>first|assumption|omega)|simp only[LN];omega) only [↓SB,S1,↓K_cast_Heard]
  have hpl := H.pl;have hml := H.ml;have hkl := H.kl;have hcl := H.cl
  have htl := H.tl
  refine SUB.val [L n.taken,L n.marks,L n.calls,L n.peers,L n.topics] rfl ?_ ?_
  · refine LOOP.rule (α := Nat) (fun i => [I i,L (n.topics.take i)]) (fun i => i ≤ n.topics.length) (fun i => n.topics.length - i) 0 rfl (by omega) (fun _ => rfl) ?_
    intro i hl
    simp only [app]
    simp (disch:=first|omega|assumption|(constructor<;>first|assumption|omega)|simp only[LN];omega) only [↓SB,S1,↓K_cast_Heard]
    refine ⟨fun hcc => ?_,fun hcc => ?_⟩
    · obtain ⟨x,hx⟩ := get_ex hcc
      have hx9 := node_light hc H hx
      have hlt : (n.topics.take i).length = i := by simp;omega
      simp (disch:=first|omega|assumption|(constructor<;>first|assumption|omega)|simp only[LN];omega) only [↓SB,S1,↓K_cast_Heard,cell_L hx]
      exact ⟨i + 1,by simp [take_one hx],by omega,by omega⟩
    rw [List.take_of_length_le (by omega)]
  simp only [app]
  have htb := rng_bd ht
  obtain ⟨k,hk2⟩ := Int.eq_ofNat_of_zero_le htb.1
  rw [hk2] at ht htb hE
  obtain ⟨y,hy⟩ := get_ex (xs := n.topics) (i := k) (by omega)
  obtain ⟨⟨_,_,_,_,hyq⟩,_⟩ := topic_sz hc (tops_get H.tops hy)
  generalize hr : endCall c n k x.count (if x.kind = 12 then x.value else -1) = r at hE
  have hQ : [bb r.up,I r.inc,L r.peers,L r.topics,L r.calls,I r.pubs,I r.asks,L r.marks,L r.taken,I 0] = [bb q.1.up,I q.1.inc,L q.1.peers,L q.1.topics,L q.1.calls,I q.1.pubs,I q.1.asks,L q.1.marks,L q.1.taken,I q.2] := by rw [← hE]
  clear hE
  generalize [bb q.1.up,I q.1.inc,L q.1.peers,L q.1.topics,L q.1.calls,I q.1.pubs,I q.1.asks,L q.1.marks,L q.1.taken,I q.2] = z at hQ ⊢
  generalize hcnt2 : x.count = cnt at hr hcnt ⊢
  rw [hk2]
  refine SUB.v3 (bb (n.calls.any (isCall k cnt))) (bb (!n.calls.any (isCall k cnt))) (L (n.calls.eraseP (isCall k cnt))) ?_ ?_
  · simp (disch:=first|omega|assumption|(constructor<;>first|assumption|omega)|simp only[LN];omega) only [↓SB,S1,↓K_cast_Heard]
    refine LOOP.rule (α := Nat) (fun i => [I i]) (fun i => i ≤ n.calls.length ∧ (n.calls.take i).any (isCall k cnt) = false) (fun i => n.calls.length - i) 0 rfl ⟨by omega,by simp⟩ (fun _ => rfl) ?_
    rintro i ⟨hi3,hs3⟩
    simp only [app]
    simp (disch:=first|omega|assumption|(constructor<;>first|assumption|omega)|simp only[LN];omega) only [↓SB,S1,↓K_cast_Heard]
    refine ⟨fun h => ?_,fun h => ⟨fun _ => ?_,fun h9 => absurd (show (-1 : Int) < 0 by omega) h9⟩⟩
    · obtain ⟨x,hx⟩ := get_ex h
      simp (disch:=first|omega|assumption|(constructor<;>first|assumption|omega)|simp only[LN];omega) only [↓SB,S1,↓K_cast_Heard,cell_L hx]
      refine SUB.v1 (bb (isCall k cnt x)) ?_ ?_
      · unfold isCall;repeat' (first | apply And.intro | intro _ | simp (disch:=first|omega|assumption|(constructor<;>first|assumption|omega)|simp only[LN];omega) only [↓SB,S1,↓K_cast_Heard])
        all_goals simp [*]
      cases hcx : isCall k cnt x
      · simp (disch:=first|omega|assumption|(constructor<;>first|assumption|omega)|simp only[LN];omega) only [↓SB,S1,↓K_cast_Heard]
        exact ⟨i + 1,rfl,⟨by omega,any_take hs3 hx hcx⟩,by omega⟩
      · have hpre : (0 : Int) ≤ (i : Int) ∧ (i : Int) ≤ (i : Int) + 1 ∧ (i : Int) + 1 ≤ n.calls.length ∧ n.calls.length < 4611686018427387904 := ⟨by omega,by omega,by omega,by omega⟩
        obtain ⟨e5,e6⟩ := erase_cut hs3 hx hcx
        simp (disch:=first|omega|assumption|(constructor<;>first|assumption|omega)|simp only[LN];omega) only [↓SB,S1,↓K_cast_Heard]
        refine ⟨fun h => by omega,fun _ => ?_⟩
        rw [e5,e6];rfl
    · have hi4 : i = n.calls.length := by omega
      subst hi4
      rw [List.take_length] at hs3
      rw [hs3,erase_not hs3];rfl
  cases hany : n.calls.any (isCall k cnt)
  · rw [endCall_miss hany] at hr
    rw [erase_not hany]
    simp (disch:=first|omega|assumption|(constructor<;>first|assumption|omega)|simp only[LN];omega) only [↓SB,S1,↓K_cast_Heard]
    subst hr
    exact hQ
  · rw [endCall_true hany rfl hy] at hr
    by_cases k12 : x.kind = 12
    · rw [if_pos k12,show evCall cnt x.value = ⟨3,0,0,0,x.value,cnt⟩ from if_pos (isN_iff.1 (hv k12)).1] at hr
      simp (disch:=first|omega|assumption|(constructor<;>first|assumption|omega)|simp only[LN];omega) only [↓SB,S1,↓K_cast_Heard,k12,cell_L hy,↓OP_set hy (j := 15) (v := L (fitE y.queue c.queue ⟨3,0,0,0,x.value,cnt⟩)) (y := { y with queue := fitE y.queue c.queue ⟨3,0,0,0,x.value,cnt⟩ }) rfl]
      subst hr
      exact hQ
    · rw [if_neg k12,show evCall cnt (-1) = ⟨4,0,0,0,0,cnt⟩ from rfl] at hr
      simp (disch:=first|omega|assumption|(constructor<;>first|assumption|omega)|simp only[LN];omega) only [↓SB,S1,↓K_cast_Heard,k12,cell_L hy,↓OP_set hy (j := 15) (v := L (fitE y.queue c.queue ⟨4,0,0,0,0,cnt⟩)) (y := { y with queue := fitE y.queue c.queue ⟨4,0,0,0,0,cnt⟩ }) rfl]
      subst hr
      exact hQ
end Go.Xt
end
section
set_option linter.unusedSimpArgs false
set_option linter.unusedVariables false
set_option maxRecDepth 100000
namespace Go.Xt
set_option linter.defProp false
theorem OP_rowLLL {α : Type} [Row α] {a b d : List α} {k : PV → Prop} : OP (.rows 1) [L a,L b,L d] k = k (L [a,b,d]) := OP_of (by simp [ev,chunk,L,Row.row])
theorem w_law06_Heavy (m : Msg) : S_law06_Heavy ρ (I m.kind) (I m.frm) (I m.fromInc) (I m.to) (I m.toInc) (I m.topic) (I m.epoch) (I m.seq) (I m.last) (I m.value) (I m.node) (I m.inc) (I m.count) (I m.hops) (L m.path) (L m.todo) (· = [bb (decide (m.path.length > 30) || decide (m.todo.length > 30))]) := by
  unfold S_law06_Heavy
  simp (disch:=first|omega|assumption|(constructor<;>first|assumption|omega)|simp only[LN];omega) only [↓SB,S1]
  refine ⟨fun h => ?_,fun h => ?_⟩
  · have : decide (m.path.length > 30) = true := by simp;omega
    simp [this]
  · have : decide (m.path.length > 30) = false := by simp;omega
    rw [this,Bool.false_or];simp;omega
theorem w_cast_whole (c : Config) (l : List Int) (hp : cfgOk c = true) (hg : Goods [I c.nodes,I c.topics,I c.kids,I c.depth,I c.keep,I c.window,I c.queue,L l]) : S_cast_whole ρ (I c.nodes) (I c.topics) (I c.kids) (I c.depth) (I c.keep) (I c.window) (I c.queue) (L l) (· = [bb (l.all fun n => rng n 0 (c.nodes - 1))]) := by
  unfold S_cast_whole
  simp only [Goods,good_I,good_L] at hg
  have hb := cfg_bd hp
  simp (disch:=first|omega|assumption|(constructor<;>first|assumption|omega)|simp only[LN];omega) only [↓SB,S1,↓c_cast_in]
  refine LOOP.rule (α := Nat) (fun i => [I i]) (fun i => i ≤ l.length ∧ (l.drop i).all (fun n => rng n 0 (c.nodes - 1)) = l.all (fun n => rng n 0 (c.nodes - 1))) (fun i => l.length - i) 0 rfl ⟨by omega,by simp⟩ (fun _ => rfl) ?_
  rintro i ⟨hl_i,hs_i⟩
  simp only [app]
  simp (disch:=first|omega|assumption|(constructor<;>first|assumption|omega)|simp only[LN];omega) only [↓SB,S1,↓c_cast_in]
  refine ⟨fun hc_i => ?_,fun hc_i => ?_⟩
  · obtain ⟨x,hx⟩ := get_ex hc_i
    rw [drop_eq hx,List.all_cons] at hs_i
    simp (disch:=first|omega|assumption|(constructor<;>first|assumption|omega)|simp only[LN];omega) only [↓SB,S1,↓c_cast_in,cell_L hx]
    refine ⟨fun h3 => ?_,fun h3 => ⟨i + 1,rfl,⟨by omega,by simpa [h3] using hs_i⟩,by omega⟩⟩
    have h9 : decide ((0 : Int) ≤ i) = true := by simp
    rw [← hs_i,h9];simp [h3]
  · rw [drop_nil hc_i] at hs_i
    rw [← hs_i];rfl
theorem msg_any {x : Msg} (h : msgOk x = true) (hk : x.kind = 11) : whoseM x = true ∧ rng x.count 1 40 = true ∧ wayOk x.path = true ∧ wayOk x.todo = true ∧ (x.path ++ x.todo).Nodup ∧ rng x.topic 0 3 = true := by
  simp only [msgOk,Bool.and_eq_true] at h
  obtain ⟨⟨⟨⟨k1,k2⟩,_⟩,_⟩,_⟩ := h
  simp only [knownM,Bool.and_eq_true] at k2
  have k3 := k2.2
  rw [if_neg (by omega),Bool.and_eq_true] at k3
  unfold bareM at k1
  rw [if_neg (by omega),if_neg (by omega),if_neg (by omega),if_neg (by omega),if_neg (by omega),if_neg (by omega),if_neg (by omega),if_neg (by omega),if_pos hk] at k1
  simp only [Bool.and_eq_true,decide_eq_true_eq] at k1
  obtain ⟨⟨⟨⟨a,b⟩,d⟩,e⟩,f⟩ := k1
  exact ⟨a,b,d,e,f,k3.2⟩
theorem way_len {l : List Int} (h : wayOk l = true) : l.length ≤ 8 := by
  simp only [wayOk,Bool.and_eq_true,decide_eq_true_eq] at h;exact h.1.1
structure MV (c : Config) (x : Msg) : Prop where
  ok : msgOk x = true
  k : x.kind = 11
  t : rng x.topic 0 (c.topics - 1) = true
  n : rng x.node 0 (c.nodes - 1) = true
  p : (x.path.all fun n => rng n 0 (c.nodes - 1)) = true
  d : (x.todo.all fun n => rng n 0 (c.nodes - 1)) = true
theorem may_iff {c : Config} {x : Msg} (h : mayVisit c x = true) : MV c x := by
  simp only [mayVisit,Bool.and_eq_true,decide_eq_true_eq,List.all_append,List.all_cons,List.all_nil,Bool.and_true] at h
  obtain ⟨⟨⟨a,b⟩,d⟩,⟨e,f⟩,g⟩ := h
  have := rng_bd (msg_any a b).2.2.2.2.2
  exact ⟨a,b,by unfold rng;simp;omega,e,f,g⟩
theorem MV.v {c : Config} {x : Msg} (h : MV c x) : VOk c x := by
  obtain ⟨a,b,_⟩ := msg_any h.ok h.k
  simp only [whoseM,Bool.and_eq_true] at a
  exact ⟨h.t,h.n,a.1.1.2,b,a.1.2⟩
def K_cast_Visit := And.intro @c_cast_Check (And.intro @c_msg_Check (And.intro @c_cast_whole (And.intro @c_slices_Concat_int_int (And.intro @c_slices_Contains_int_int (And.intro @c_slices_Clone_api_Peer_api_Peer (And.intro @c_graft_Twin (And.intro @c_slices_Clone_api_Call_api_Call (And.intro @c_slices_Clone_api_Mark_api_Mark (And.intro @c_slices_Clone_api_Mark2_api_Mark2 (And.intro @c_slices_Clone_int_int (And.intro @c_cast_near (And.intro @c_cast_Heed (And.intro @c_slices_Delete_api_Call_api_Call (@c_queue_Fit))))))))))))))
theorem w_cast_Visit (c : Config) (self : Int) (n : Node) (x : Msg) (hg : Goods [I c.nodes,I c.topics,I c.kids,I c.depth,I c.keep,I c.window,I c.queue,I self,bb n.up,I n.inc,L n.peers,L n.topics,L n.calls,I n.pubs,I n.asks,L n.marks,L n.taken,I x.kind,I x.frm,I x.fromInc,I x.to,I x.toInc,I x.topic,I x.epoch,I x.seq,I x.last,I x.value,I x.node,I x.inc,I x.count,I x.hops,L x.path,L x.todo]) : S_cast_Visit ρ (I c.nodes) (I c.topics) (I c.kids) (I c.depth) (I c.keep) (I c.window) (I c.queue) (I self) (bb n.up) (I n.inc) (L n.peers) (L n.topics) (L n.calls) (I n.pubs) (I n.asks) (L n.marks) (L n.taken) (I x.kind) (I x.frm) (I x.fromInc) (I x.to) (I x.toInc) (I x.topic) (I x.epoch) (I x.seq) (I x.last) (I x.value) (I x.node) (I x.inc) (I x.count) (I x.hops) (L x.path) (L x.todo) (· = [bb (visitW c self n x).1.up,I (visitW c self n x).1.inc,L (visitW c self n x).1.peers,L (visitW c self n x).1.topics,L (visitW c self n x).1.calls,I (visitW c self n x).1.pubs,I (visitW c self n x).1.asks,L (visitW c self n x).1.marks,L (visitW c self n x).1.taken,L (visitW c self n x).2.1,I (visitW c self n x).2.2]) := by
  unfold S_cast_Visit
  simp only [Goods,good_I,good_L] at hg
  generalize hE : visitW c self n x = q
  unfold visitW at hE
  simp (disch:=first|omega|assumption|(constructor<;>first|assumption|omega)|simp only[LN];omega) only [↓SB,S1,↓K_cast_Visit]
  refine ⟨fun hw => ?_,fun hw => ?_⟩
  · rw [if_neg hw] at hE;rw [← hE];rfl
  rw [if_pos hw] at hE
  obtain ⟨hc,hsr,hu,H⟩ := why_zero hw
  have hb := cfg_bd hc
  have hsb := rng_bd hsr
  refine SUB.v1 (bb (!mayVisit c x)) ?_ ?_
  · unfold mayVisit
    cases hm : msgOk x
    · simp (disch:=first|omega|assumption|(constructor<;>first|assumption|omega)|simp only[LN];omega) only [↓SB,S1,↓K_cast_Visit,hm]
      simp
    by_cases k11 : x.kind = 11
    · obtain ⟨_,_,a3,a4,_⟩ := msg_any hm k11
      have h1 := way_len a3;have h2 := way_len a4
      have hfl : [[x.node],x.path,x.todo].flatten.length ≤ 1000000 := by simp;omega
      simp (disch:=first|omega|assumption|(constructor<;>first|assumption|omega)|simp only[LN];omega) only [↓SB,S1,↓K_cast_Visit,hm,k11,↓OP_rowLLL]
      refine ⟨fun h => ?_,fun h => ?_⟩
      · have : decide (x.topic < c.topics) = false := by simp;omega
        simp [this]
      · have : decide (x.topic < c.topics) = true := by simp;omega
        simp [this]
    · simp (disch:=first|omega|assumption|(constructor<;>first|assumption|omega)|simp only[LN];omega) only [↓SB,S1,↓K_cast_Visit,hm,k11]
      simp [k11]
  cases hmv : mayVisit c x
  · simp (disch:=first|omega|assumption|(constructor<;>first|assumption|omega)|simp only[LN];omega) only [↓SB,S1,↓K_cast_Visit]
    rw [hmv,if_neg (by simp)] at hE;rw [← hE];rfl
  rw [if_pos hmv] at hE
  have M := may_iff hmv
  have V := M.v
  have hpl := H.pl;have hml := H.ml;have hkl := H.kl;have hcl := H.cl
  have htl := H.tl
  simp (disch:=first|omega|assumption|(constructor<;>first|assumption|omega)|simp only[LN];omega) only [↓SB,S1,↓K_cast_Visit]
  refine SUB.val [L n.taken,L n.marks,L n.calls,L n.peers,L n.topics] rfl ?_ ?_
  · refine LOOP.rule (α := Nat) (fun i => [I i,L (n.topics.take i)]) (fun i => i ≤ n.topics.length) (fun i => n.topics.length - i) 0 rfl (by omega) (fun _ => rfl) ?_
    intro i hl
    simp only [app]
    simp (disch:=first|omega|assumption|(constructor<;>first|assumption|omega)|simp only[LN];omega) only [↓SB,S1,↓K_cast_Visit]
    refine ⟨fun hcc => ?_,fun hcc => ?_⟩
    · obtain ⟨y,hy⟩ := get_ex hcc
      have hx9 := node_light hc H hy
      have hlt : (n.topics.take i).length = i := by simp;omega
      simp (disch:=first|omega|assumption|(constructor<;>first|assumption|omega)|simp only[LN];omega) only [↓SB,S1,↓K_cast_Visit,cell_L hy]
      exact ⟨i + 1,by simp [take_one hy],by omega,by omega⟩
    rw [List.take_of_length_le (by omega)]
  simp only [app]
  have hob := rng_bd M.n
  have hcb := rng_bd V.k
  obtain ⟨s,hs0⟩ := Int.eq_ofNat_of_zero_le hob.1
  obtain ⟨mk,hmk⟩ := get_ex (xs := n.marks) (i := s) (by omega)
  have hmd : n.marks.getD s mark0 = mk := by simp [List.getD_eq_getElem?_getD,hmk]
  have hmb := mark_bd H.marks hmk
  have hml2 : meetL n.marks x.node x.inc x.count = if meets n.marks x.node x.inc x.count = true then n.marks.set s { newer mk x.inc with met := (newer mk x.inc).met + 2 ^ x.count.toNat } else n.marks := by
    unfold meetL;rw [hs0,Int.toNat_natCast,hmd]
  have hme : meets n.marks x.node x.inc x.count = (decide (mk.inc ≤ x.inc) && !metYet (newer mk x.inc) x.count) := by unfold meets;rw [hs0,Int.toNat_natCast,hmd]
  refine SUB.v2 (bb (x.path.contains self || !meets n.marks x.node x.inc x.count)) (L (if x.path.contains self = true then n.marks else meetL n.marks x.node x.inc x.count)) ?_ ?_
  · rw [hml2,hme]
    by_cases hcp0 : x.path.contains self = true
    · simp (disch:=first|omega|assumption|(constructor<;>first|assumption|omega)|simp only[LN];omega) only [↓SB,S1,↓K_cast_Visit,hcp0]
      simp
    have hcp : x.path.contains self = false := by simpa using hcp0
    rw [hs0]
    simp (disch:=first|omega|assumption|(constructor<;>first|assumption|omega)|simp only[LN];omega) only [↓SB,S1,↓K_cast_Visit,hcp,cell_L hmk]
    refine ⟨fun hgt => ?_,fun hle => ?_⟩
    · have e : decide (mk.inc ≤ x.inc) = false := by simp;omega
      simp [e]
    have hsz := (List.getElem?_eq_some_iff.1 hmk).1
    have hnk : (n.marks.set s (newer mk x.inc))[s]? = some (newer mk x.inc) := by simp [hsz]
    have hnm : 0 ≤ (newer mk x.inc).met ∧ (newer mk x.inc).met ≤ 2199023255551 := by
      unfold newer;split
      · simp
      · exact hmb
    refine SUB.v1 (L (n.marks.set s (newer mk x.inc))) ?_ ?_
    · refine ⟨fun hlt => ?_,fun hge => ?_⟩
      · have e : newer mk x.inc = ⟨x.inc,0,0⟩ := by unfold newer;rw [if_pos hlt]
        have h1 : (n.marks.set s ⟨x.inc,mk.pubs,mk.met⟩)[s]? = some ⟨x.inc,mk.pubs,mk.met⟩ := by simp [hsz]
        have h2 : ((n.marks.set s ⟨x.inc,mk.pubs,mk.met⟩).set s ⟨x.inc,0,mk.met⟩)[s]? = some ⟨x.inc,0,mk.met⟩ := by simp [hsz]
        rw [OP_set hmk (y := ⟨x.inc,mk.pubs,mk.met⟩) rfl,OP_set h1 (y := ⟨x.inc,0,mk.met⟩) rfl,OP_set h2 (y := ⟨x.inc,0,0⟩) rfl,e]
        simp
      · have e : newer mk x.inc = mk := by unfold newer;rw [if_neg hge]
        rw [e,set_same hmk]
    simp (disch:=first|omega|assumption|(constructor<;>first|assumption|omega)|simp only[LN];omega) only [↓SB,S1,↓K_cast_Visit,cell_L hnk]
    rw [OP_shr (by omega) (by omega),OP_and1 (Int.ediv_nonneg hnm.1 (Int.le_of_lt (Int.pow_pos (by decide))))]
    simp (disch:=first|omega|assumption|(constructor<;>first|assumption|omega)|simp only[LN];omega) only [↓SB,S1,↓K_cast_Visit]
    have e5 : decide (mk.inc ≤ x.inc) = true := by simp;omega
    refine ⟨fun hm => ?_,fun hm => ?_⟩
    · have e : newer mk x.inc = mk := by
        unfold newer;split
        · rename_i h1
          exfalso
          rw [newer,if_pos h1] at hm
          simp at hm
        · rfl
      rw [e] at hm
      rw [e,set_same hmk]
      simp [e5,metYet,hm]
    · have h0 : (newer mk x.inc).met / 2 ^ x.count.toNat % 2 = 0 := by omega
      rw [OP_shl (by omega) (by omega),OP_or_pow hnm.1 (by omega) (by omega) (by omega) h0,OP_set hnk (y := { newer mk x.inc with met := (newer mk x.inc).met + 2 ^ x.count.toNat }) rfl,List.set_set]
      simp [e5,metYet,hm]
  cases hsk : (x.path.contains self || !meets n.marks x.node x.inc x.count)
  · rw [hsk,if_neg (by simp)] at hE
    simp only [Bool.or_eq_false_iff,Bool.not_eq_false'] at hsk
    obtain ⟨hcp,hmt⟩ := hsk
    have hds := does_of (m := { n with marks := meetL n.marks x.node x.inc x.count }) hc hsr H M.t rfl rfl (by show n.calls.length ≤ 100;omega) (by show n.taken.length ≤ 100;omega)
    rw [if_neg (by rw [hcp];simp)]
    generalize meetL n.marks x.node x.inc x.count = marks at hE hds ⊢
    obtain ⟨h1,h2,h3,h4,h5,h6,h7,h8,h9,h10⟩ := hds
    have hs := rng_bd h4
    have htb := rng_bd M.t
    obtain ⟨k,hkk⟩ := Int.eq_ofNat_of_zero_le htb.1
    obtain ⟨y,hy⟩ := get_ex (xs := n.topics) (i := k) (by omega)
    have hgd : ∀ (a : Bool) (b : Int) (d : List Peer) (e : List Call) (f g : Int) (i : List Mark) (j : List Mark2),topAt (⟨a,b,d,n.topics,e,f,g,i,j⟩ : Node) k = y := by intros;simp [topAt,List.getD_eq_getElem?_getD,hy]
    have hbc : (n.calls.length : Int) ≤ 100 := by omega
    rw [hkk] at h1 h2 h5 h6 h7 h10
    rw [hgd] at h5 h6 h7 h10
    dsimp only at h2 h3 h4 h9
    obtain ⟨a1,_,a3,a4,_⟩ := msg_any M.ok M.k
    have hlp := way_len a3;have hlt := way_len a4
    simp only [whoseM,Bool.and_eq_true] at a1
    have hhb := rng_bd a1.2
    generalize hr : visitN c self (⟨n.up,n.inc,n.peers,n.topics,n.calls,n.pubs,n.asks,marks,n.taken⟩ : Node) x = r at hE
    have hQ : [bb r.1.up,I r.1.inc,L r.1.peers,L r.1.topics,L r.1.calls,I r.1.pubs,I r.1.asks,L r.1.marks,L r.1.taken,L r.2,I 0] = [bb q.1.up,I q.1.inc,L q.1.peers,L q.1.topics,L q.1.calls,I q.1.pubs,I q.1.asks,L q.1.marks,L q.1.taken,L q.2.1,I q.2.2] := by rw [← hE]
    clear hE
    generalize [bb q.1.up,I q.1.inc,L q.1.peers,L q.1.topics,L q.1.calls,I q.1.pubs,I q.1.asks,L q.1.marks,L q.1.taken,L q.2.1,I q.2.2] = z at hQ ⊢
    simp only [visitN,msg0,hkk,hgd] at hr
    rw [hkk]
    cases hsub : y.sub
    · simp (disch:=first|omega|assumption|(constructor<;>first|assumption|omega)|simp only[LN];omega) only [↓SB,S1,↓K_cast_Visit,cell_L hy,hsub]
      simp only [hsub,Bool.false_eq_true,if_false] at hr
      have hpl2 : x.path.length ≤ 1000000 := by omega
      have htl2 : x.todo.length ≤ 1000000 := by omega
      refine SUB.v3 (L x.todo) (L (x.path ++ [self])) (L [self]) ?_ ?_
      · simp (disch:=first|omega|assumption|(constructor<;>first|assumption|omega)|simp only[LN];omega) only [↓SB,S1,↓K_cast_Visit]
      have hcn : peersOk (⟨n.up,n.inc,n.peers,n.topics,n.calls,n.pubs,n.asks,marks,n.taken⟩ : Node).peers = true ∧ rng self 0 (n.peers.length - 1) = true ∧ isT (k : Int) = true ∧ (k : Int) < n.topics.length ∧ (topAt (⟨n.up,n.inc,n.peers,n.topics,n.calls,n.pubs,n.asks,marks,n.taken⟩ : Node) k).kids.length ≤ 8 ∧ (topAt (⟨n.up,n.inc,n.peers,n.topics,n.calls,n.pubs,n.asks,marks,n.taken⟩ : Node) k).parent ≤ 8 ∧ 0 ≤ (topAt (⟨n.up,n.inc,n.peers,n.topics,n.calls,n.pubs,n.asks,marks,n.taken⟩ : Node) k).parent :=
        ⟨h3,h4,h1,h2,by rw [hgd];exact h5,by rw [hgd];exact h6,by rw [hgd];exact h7⟩
      have hnl : (nearL self (⟨n.up,n.inc,n.peers,n.topics,n.calls,n.pubs,n.asks,marks,n.taken⟩ : Node) k).length ≤ 10 := by
        simp only [nearL,hgd,List.length_append,List.length_map,List.length_singleton]
        split <;> simp <;> omega
      rw [c_cast_near hcn];dsimp only
      generalize hNL : nearL self (⟨n.up,n.inc,n.peers,n.topics,n.calls,n.pubs,n.asks,marks,n.taken⟩ : Node) k = nl at hnl hr ⊢
      simp (disch:=first|omega|assumption|(constructor<;>first|assumption|omega)|simp only[LN];omega) only [↓SB,S1,↓K_cast_Visit]
      generalize hT : todoGo (⟨n.up,n.inc,n.peers,n.topics,n.calls,n.pubs,n.asks,marks,n.taken⟩ : Node) (x.path ++ [self]) x.todo nl = todo at hr
      refine LOOP.rule (α := Nat × List Int) (fun p => [I p.1,L p.2]) (fun p => p.1 ≤ nl.length ∧ p.2.length ≤ 8 + p.1 ∧ todoGo (⟨n.up,n.inc,n.peers,n.topics,n.calls,n.pubs,n.asks,marks,n.taken⟩ : Node) (x.path ++ [self]) p.2 (nl.drop p.1) = todo) (fun p => nl.length - p.1) (0,x.todo) rfl ⟨by simp,by simpa using hlt,by simpa using hT⟩ (fun _ => rfl) ?_
      rintro ⟨i,a⟩ ⟨hi,ha,hs2⟩
      simp only at hi ha hs2
      simp only [app]
      simp (disch:=first|omega|assumption|(constructor<;>first|assumption|omega)|simp only[LN];omega) only [↓SB,S1,↓K_cast_Visit]
      refine ⟨fun h => ?_,fun h => ?_⟩
      · obtain ⟨z,hz⟩ := get_ex h
        rw [drop_eq hz,todoGo] at hs2
        simp (disch:=first|omega|assumption|(constructor<;>first|assumption|omega)|simp only[LN];omega) only [↓SB,S1,↓K_cast_Visit,cell_L hz]
        refine ⟨fun e1 => ⟨fun e2 => ⟨fun e3 => ⟨(i + 1,a ++ [z]),rfl,⟨by simp;omega,by simp;omega,?_⟩,by simp;omega⟩,fun e3 => ⟨(i + 1,a),rfl,⟨by simp;omega,by simp;omega,?_⟩,by simp;omega⟩⟩,fun e2 => ⟨(i + 1,a),rfl,⟨by simp;omega,by simp;omega,?_⟩,by simp;omega⟩⟩,fun e1 => ⟨(i + 1,a),rfl,⟨by simp;omega,by simp;omega,?_⟩,by simp;omega⟩⟩
        · simp only [e1,e2,e3,Bool.not_false,Bool.and_self,if_true] at hs2;exact hs2
        · simp only [e1,e2,e3,Bool.not_false,Bool.not_true,Bool.and_false,Bool.false_eq_true,if_false] at hs2;exact hs2
        · simp only [e1,e2,Bool.not_false,Bool.not_true,Bool.and_false,Bool.false_and,Bool.false_eq_true,if_false] at hs2;exact hs2
        · simp only [e1,Bool.false_and,Bool.false_eq_true,if_false] at hs2;exact hs2
      rw [drop_nil h,todoGo] at hs2
      subst hs2
      unfold goN at hr
      refine SUB.v1 (bb (decide (a = []) || decide (16 ≤ x.hops))) ?_ ?_
      · simp (disch:=first|omega|assumption|(constructor<;>first|assumption|omega)|simp only[LN];omega) only [↓SB,S1,↓K_cast_Visit]
        refine ⟨fun h => ?_,fun h => ?_⟩
        · have : a = [] := List.eq_nil_of_length_eq_zero (by omega)
          simp [this]
        · have : a ≠ [] := by intro h';subst h';simp at h
          simp [this]
      by_cases ha0 : a = [] ∨ 16 ≤ x.hops
      · rw [if_pos ha0] at hr
        have hd9 : (decide (a = []) || decide (16 ≤ x.hops)) = true := by simpa using ha0
        simp (disch:=first|omega|assumption|(constructor<;>first|assumption|omega)|simp only[LN];omega) only [↓SB,S1,↓K_cast_Visit,hd9]
        unfold tellN at hr
        rw [hkk] at hr
        by_cases hns : x.node = self
        · rw [if_pos hns] at hr
          try rw [hns] at hr
          simp (disch:=first|omega|assumption|(constructor<;>first|assumption|omega)|simp only[LN];omega) only [↓SB,S1,↓K_cast_Visit,hns]
          generalize x.count = cnt at hr hcb ⊢
          refine SUB.v3 (bb (n.calls.any (isCall k cnt))) (bb (!n.calls.any (isCall k cnt))) (L (n.calls.eraseP (isCall k cnt))) ?_ ?_
          · simp (disch:=first|omega|assumption|(constructor<;>first|assumption|omega)|simp only[LN];omega) only [↓SB,S1,↓K_cast_Visit]
            refine LOOP.rule (α := Nat) (fun i => [I i]) (fun i => i ≤ n.calls.length ∧ (n.calls.take i).any (isCall k cnt) = false) (fun i => n.calls.length - i) 0 rfl ⟨by omega,by simp⟩ (fun _ => rfl) ?_
            rintro i ⟨hi3,hs3⟩
            simp only [app]
            simp (disch:=first|omega|assumption|(constructor<;>first|assumption|omega)|simp only[LN];omega) only [↓SB,S1,↓K_cast_Visit]
            refine ⟨fun h => ?_,fun h => ⟨fun _ => ?_,fun h9 => absurd (show (-1 : Int) < 0 by omega) h9⟩⟩
            · obtain ⟨u,hu1⟩ := get_ex h
              simp (disch:=first|omega|assumption|(constructor<;>first|assumption|omega)|simp only[LN];omega) only [↓SB,S1,↓K_cast_Visit,cell_L hu1]
              refine SUB.v1 (bb (isCall k cnt u)) ?_ ?_
              · unfold isCall;repeat' (first | apply And.intro | intro _ | simp (disch:=first|omega|assumption|(constructor<;>first|assumption|omega)|simp only[LN];omega) only [↓SB,S1,↓K_cast_Visit])
                all_goals simp [*]
              cases hcx : isCall k cnt u
              · simp (disch:=first|omega|assumption|(constructor<;>first|assumption|omega)|simp only[LN];omega) only [↓SB,S1,↓K_cast_Visit]
                exact ⟨i + 1,rfl,⟨by omega,any_take hs3 hu1 hcx⟩,by omega⟩
              · have hpre : (0 : Int) ≤ (i : Int) ∧ (i : Int) ≤ (i : Int) + 1 ∧ (i : Int) + 1 ≤ n.calls.length ∧ n.calls.length < 4611686018427387904 := ⟨by omega,by omega,by omega,by omega⟩
                obtain ⟨e5,e6⟩ := erase_cut hs3 hu1 hcx
                simp (disch:=first|omega|assumption|(constructor<;>first|assumption|omega)|simp only[LN];omega) only [↓SB,S1,↓K_cast_Visit]
                refine ⟨fun h => by omega,fun _ => ?_⟩
                rw [e5,e6];rfl
            · have hi4 : i = n.calls.length := by omega
              subst hi4
              rw [List.take_length] at hs3
              rw [hs3,erase_not hs3];rfl
          cases hany : n.calls.any (isCall k cnt)
          · rw [endCall_miss (n := ⟨n.up,n.inc,n.peers,n.topics,n.calls,n.pubs,n.asks,marks,n.taken⟩) hany] at hr
            rw [erase_not hany]
            simp (disch:=first|omega|assumption|(constructor<;>first|assumption|omega)|simp only[LN];omega) only [↓SB,S1,↓K_cast_Visit]
            subst hr
            exact hQ
          · rw [endCall_true (n := ⟨n.up,n.inc,n.peers,n.topics,n.calls,n.pubs,n.asks,marks,n.taken⟩) hany rfl hy] at hr
            simp (disch:=first|omega|assumption|(constructor<;>first|assumption|omega)|simp only[LN];omega) only [↓SB,S1,↓K_cast_Visit,cell_L hy,↓OP_set hy (j := 15) (v := L (fitE y.queue c.queue ⟨4,0,0,0,0,cnt⟩)) (y := { y with queue := fitE y.queue c.queue ⟨4,0,0,0,0,cnt⟩ }) rfl]
            rw [show evCall cnt (-1) = ⟨4,0,0,0,0,cnt⟩ from rfl] at hr
            subst hr
            refine ⟨fun h => by omega,fun _ => ?_⟩
            exact hQ
        · rw [if_neg hns] at hr
          rw [if_neg (by omega)] at hr
          simp (disch:=first|omega|assumption|(constructor<;>first|assumption|omega)|simp only[LN];omega) only [↓SB,S1,↓K_cast_Visit,hns,↓OP_rowMsg0]
          subst hr
          refine ⟨fun h => by omega,fun _ => ?_⟩
          exact hQ
      · rw [if_neg ha0] at hr
        have hd9 : (decide (a = []) || decide (16 ≤ x.hops)) = false := by simpa using ha0
        have hane : a ≠ [] := fun h => ha0 (.inl h)
        have hpos : 0 < a.length := List.length_pos_iff.2 hane
        obtain ⟨j,hj⟩ : ∃ j,a.length = j + 1 := ⟨a.length - 1,by omega⟩
        have e1 : ((a.length : Int) - 1) = (j : Nat) := by omega
        obtain ⟨w,hw2⟩ := get_ex (xs := a) (i := j) (by omega)
        have e2 : a.take j = a.dropLast := by rw [List.dropLast_eq_take];congr 1;omega
        have e3 : a.getLastD 0 = w := by
          rw [List.getLastD_eq_getLast?,List.getLast?_eq_getElem?,hj,Nat.add_sub_cancel,hw2];rfl
        have e4 : (a.take j).length ≤ 1000000 := by simp;omega
        simp (disch:=first|omega|assumption|(constructor<;>first|assumption|omega)|simp only[LN];omega) only [↓SB,S1,↓K_cast_Visit,hd9,e1,cell_L hw2,Int.toNat_natCast,↓OP_rowMsg]
        rw [e3,hkk] at hr
        rw [e2]
        subst hr
        exact hQ
    · simp only [hsub,if_true] at hr
      have e1 : ((n.taken ++ [(⟨x.node,x.inc,x.count,k,x.value⟩ : Mark2)]).length : Int) ≤ 101 := by simp;omega
      have e2 : (max (((n.taken ++ [(⟨x.node,x.inc,x.count,k,x.value⟩ : Mark2)]).length : Int) - 64) 0).toNat = (n.taken ++ [(⟨x.node,x.inc,x.count,k,x.value⟩ : Mark2)]).length - 64 := by omega
      have e3 : (lastN (n.taken ++ [(⟨x.node,x.inc,x.count,k,x.value⟩ : Mark2)]) 64).length ≤ 1000000 := by unfold lastN;simp;omega
      simp (disch:=first|omega|assumption|(constructor<;>first|assumption|omega)|simp only[LN];omega) only [↓SB,S1,↓K_cast_Visit,cell_L hy,hsub]
      rw [e2]
      show CALL _ _ [L (lastN _ 64)] _ _
      simp (disch:=first|omega|assumption|(constructor<;>first|assumption|omega)|simp only[LN];omega) only [↓SB,S1,↓K_cast_Visit]
      unfold tellN at hr
      rw [hkk] at hr
      by_cases hns : x.node = self
      · rw [if_pos hns] at hr
        try rw [hns] at hr
        simp (disch:=first|omega|assumption|(constructor<;>first|assumption|omega)|simp only[LN];omega) only [↓SB,S1,↓K_cast_Visit,hns]
        generalize x.count = cnt at hr hcb ⊢
        refine SUB.v3 (bb (n.calls.any (isCall k cnt))) (bb (!n.calls.any (isCall k cnt))) (L (n.calls.eraseP (isCall k cnt))) ?_ ?_
        · simp (disch:=first|omega|assumption|(constructor<;>first|assumption|omega)|simp only[LN];omega) only [↓SB,S1,↓K_cast_Visit]
          refine LOOP.rule (α := Nat) (fun i => [I i]) (fun i => i ≤ n.calls.length ∧ (n.calls.take i).any (isCall k cnt) = false) (fun i => n.calls.length - i) 0 rfl ⟨by omega,by simp⟩ (fun _ => rfl) ?_
          rintro i ⟨hi3,hs3⟩
          simp only [app]
          simp (disch:=first|omega|assumption|(constructor<;>first|assumption|omega)|simp only[LN];omega) only [↓SB,S1,↓K_cast_Visit]
          refine ⟨fun h => ?_,fun h => ⟨fun _ => ?_,fun h9 => absurd (show (-1 : Int) < 0 by omega) h9⟩⟩
          · obtain ⟨u,hu1⟩ := get_ex h
            simp (disch:=first|omega|assumption|(constructor<;>first|assumption|omega)|simp only[LN];omega) only [↓SB,S1,↓K_cast_Visit,cell_L hu1]
            refine SUB.v1 (bb (isCall k cnt u)) ?_ ?_
            · unfold isCall;repeat' (first | apply And.intro | intro _ | simp (disch:=first|omega|assumption|(constructor<;>first|assumption|omega)|simp only[LN];omega) only [↓SB,S1,↓K_cast_Visit])
              all_goals simp [*]
            cases hcx : isCall k cnt u
            · simp (disch:=first|omega|assumption|(constructor<;>first|assumption|omega)|simp only[LN];omega) only [↓SB,S1,↓K_cast_Visit]
              exact ⟨i + 1,rfl,⟨by omega,any_take hs3 hu1 hcx⟩,by omega⟩
            · have hpre : (0 : Int) ≤ (i : Int) ∧ (i : Int) ≤ (i : Int) + 1 ∧ (i : Int) + 1 ≤ n.calls.length ∧ n.calls.length < 4611686018427387904 := ⟨by omega,by omega,by omega,by omega⟩
              obtain ⟨e5,e6⟩ := erase_cut hs3 hu1 hcx
              simp (disch:=first|omega|assumption|(constructor<;>first|assumption|omega)|simp only[LN];omega) only [↓SB,S1,↓K_cast_Visit]
              refine ⟨fun h => by omega,fun _ => ?_⟩
              rw [e5,e6];rfl
          · have hi4 : i = n.calls.length := by omega
            subst hi4
            rw [List.take_length] at hs3
            rw [hs3,erase_not hs3];rfl
        cases hany : n.calls.any (isCall k cnt)
        · rw [endCall_miss (n := ⟨n.up,n.inc,n.peers,n.topics,n.calls,n.pubs,n.asks,marks,lastN (n.taken ++ [(⟨self,x.inc,cnt,k,x.value⟩ : Mark2)]) 64⟩) hany] at hr
          rw [erase_not hany]
          simp (disch:=first|omega|assumption|(constructor<;>first|assumption|omega)|simp only[LN];omega) only [↓SB,S1,↓K_cast_Visit]
          subst hr
          exact hQ
        · rw [endCall_true (n := ⟨n.up,n.inc,n.peers,n.topics,n.calls,n.pubs,n.asks,marks,lastN (n.taken ++ [(⟨self,x.inc,cnt,k,x.value⟩ : Mark2)]) 64⟩) hany rfl hy] at hr
          simp (disch:=first|omega|assumption|(constructor<;>first|assumption|omega)|simp only[LN];omega) only [↓SB,S1,↓K_cast_Visit,cell_L hy,↓OP_set hy (j := 15) (v := L (fitE y.queue c.queue ⟨3,0,0,0,self,cnt⟩)) (y := { y with queue := fitE y.queue c.queue ⟨3,0,0,0,self,cnt⟩ }) rfl]
          rw [show evCall cnt self = ⟨3,0,0,0,self,cnt⟩ from if_pos hsb.1] at hr
          subst hr
          refine ⟨fun _ => ?_,fun h => by omega⟩
          exact hQ
      · rw [if_neg hns] at hr
        rw [if_pos hsb.1] at hr
        simp (disch:=first|omega|assumption|(constructor<;>first|assumption|omega)|simp only[LN];omega) only [↓SB,S1,↓K_cast_Visit,hns,↓OP_rowMsg0]
        subst hr
        refine ⟨fun _ => ?_,fun h => by omega⟩
        exact hQ
  · rw [hsk,if_pos rfl] at hE
    simp (disch:=first|omega|assumption|(constructor<;>first|assumption|omega)|simp only[LN];omega) only [↓SB,S1,↓K_cast_Visit]
    refine LOOP.rule (α := Nat) (fun i => [I i,L (n.topics.take i)]) (fun i => i ≤ n.topics.length) (fun i => n.topics.length - i) 0 rfl (by omega) (fun _ => rfl) ?_
    intro i hl
    simp only [app]
    simp (disch:=first|omega|assumption|(constructor<;>first|assumption|omega)|simp only[LN];omega) only [↓SB,S1,↓K_cast_Visit]
    refine ⟨fun hcc => ?_,fun hcc => ?_⟩
    · obtain ⟨y,hy⟩ := get_ex hcc
      have hx9 := node_light hc H hy
      have hlt : (n.topics.take i).length = i := by simp;omega
      simp (disch:=first|omega|assumption|(constructor<;>first|assumption|omega)|simp only[LN];omega) only [↓SB,S1,↓K_cast_Visit,cell_L hy]
      exact ⟨i + 1,by simp [take_one hy],by omega,by omega⟩
    rw [List.take_of_length_le (by omega)]
    rw [← hE];rfl
end Go.Xt
end
section
set_option linter.unusedSimpArgs false
set_option linter.unusedVariables false
set_option maxRecDepth 100000
namespace Go.Xt
theorem w_ref19_has (l : List Int) (n : Int) (hg : Goods [L l,I n]) : S_ref19_has ρ (L l) (I n) (· = [bb (l.contains n)]) := by
  unfold S_ref19_has
  simp only [Goods,good_L] at hg
  refine LOOP.rule (α := Nat) (fun i => [I i]) (fun i => i ≤ l.length ∧ (l.drop i).contains n = l.contains n) (fun i => l.length - i) 0 rfl ⟨by omega,by simp⟩ (fun _ => rfl) ?_
  rintro i ⟨h1,h2⟩
  simp only [app]
  simp (disch:=first|omega|assumption|(constructor<;>first|assumption|omega)|simp only[LN];omega) only [↓SB,S1]
  refine ⟨fun h => ?_,fun h => ?_⟩
  · obtain ⟨x,hx⟩ := get_ex h
    rw [drop_eq hx,List.contains_cons] at h2
    simp (disch:=first|omega|assumption|(constructor<;>first|assumption|omega)|simp only[LN];omega) only [↓SB,S1,cell_L hx]
    refine ⟨fun h3 => ?_,fun h3 => ⟨i + 1,rfl,⟨by omega,?_⟩,by omega⟩⟩
    · rw [← h2];simp [h3]
    · rw [← h2];simp
      intro h4;exact absurd h4.symm h3
  · rw [drop_nil h] at h2
    rw [← h2];simp
theorem w_ref19_nodes (c : Config) (l : List Int) (hp : cfgOk c = true) (hg : Goods [I c.nodes,I c.topics,I c.kids,I c.depth,I c.keep,I c.window,I c.queue,L l]) : S_ref19_nodes ρ (I c.nodes) (I c.topics) (I c.kids) (I c.depth) (I c.keep) (I c.window) (I c.queue) (L l) (· = [bb (l.all fun n => rng n 0 (c.nodes - 1))]) := by
  unfold S_ref19_nodes
  simp only [Goods,good_I,good_L] at hg
  have hb := cfg_bd hp
  refine LOOP.rule (α := Nat) (fun i => [I i]) (fun i => i ≤ l.length ∧ (l.drop i).all (fun n => rng n 0 (c.nodes - 1)) = l.all (fun n => rng n 0 (c.nodes - 1))) (fun i => l.length - i) 0 rfl ⟨by omega,by simp⟩ (fun _ => rfl) ?_
  rintro i ⟨hl_i,hs_i⟩
  simp only [app]
  simp (disch:=first|omega|assumption|(constructor<;>first|assumption|omega)|simp only[LN];omega) only [↓SB,S1,↓c_ref19_in]
  refine ⟨fun hc_i => ?_,fun hc_i => ?_⟩
  · obtain ⟨x,hx⟩ := get_ex hc_i
    rw [drop_eq hx,List.all_cons] at hs_i
    simp (disch:=first|omega|assumption|(constructor<;>first|assumption|omega)|simp only[LN];omega) only [↓SB,S1,↓c_ref19_in,cell_L hx]
    refine ⟨fun h3 => ?_,fun h3 => ⟨i + 1,rfl,⟨by omega,by simpa [h3] using hs_i⟩,by omega⟩⟩
    rw [← hs_i];simp [h3]
  · rw [drop_nil hc_i] at hs_i
    rw [← hs_i];rfl
theorem w_ref01_count (n : Int) : S_ref01_count ρ (I n) (· = [bb (cnt n)]) := by
  unfold S_ref01_count
  simp (disch:=first|omega|assumption|(constructor<;>first|assumption|omega)|simp only[LN];omega) only [↓SB,S1,↓c_ref01_In]
  rfl
theorem w_ref10_HasWay (x : Topic) : S_ref10_HasWay ρ (bb x.made) (bb x.sub) (I x.top) (I x.root) (I x.parent) (I x.asked) (I x.other) (I x.age) (L x.path) (L x.kids) (I x.stream.epoch) (I x.stream.want) (I x.stream.known) (L x.stream.kept) (L x.stream.ahead) (L x.queue) (· = [bb (hasWay x)]) := by
  unfold S_ref10_HasWay hasWay
  simp (disch:=first|omega|assumption|(constructor<;>first|assumption|omega)|simp only[LN];omega) only [↓SB,S1]
  refine ⟨fun h => ?_,fun h => ?_⟩ <;> simp [h]
theorem w_ref01_nodes (l : List Int) (hg : Goods [L l]) : S_ref01_nodes ρ (L l) (· = [bb (l.all isN && decide (l.length ≤ 8))]) := by
  unfold S_ref01_nodes
  simp only [Goods,good_I,good_L] at hg
  refine LOOP.rule (α := Nat) (fun i => [I i]) (fun i => i ≤ l.length ∧ (l.drop i).all (isN) = l.all (isN)) (fun i => l.length - i) 0 rfl ⟨by omega,by simp⟩ (fun _ => rfl) ?_
  rintro i ⟨hl_i,hs_i⟩
  simp only [app]
  simp (disch:=first|omega|assumption|(constructor<;>first|assumption|omega)|simp only[LN];omega) only [↓SB,S1,↓c_ref01_IsNode]
  refine ⟨fun hc_i => ?_,fun hc_i => ?_⟩
  · obtain ⟨x,hx⟩ := get_ex hc_i
    rw [drop_eq hx,List.all_cons] at hs_i
    simp (disch:=first|omega|assumption|(constructor<;>first|assumption|omega)|simp only[LN];omega) only [↓SB,S1,↓c_ref01_IsNode,cell_L hx]
    refine ⟨fun h3 => ?_,fun h3 => ⟨i + 1,rfl,⟨by omega,by simpa [h3] using hs_i⟩,by omega⟩⟩
    rw [← hs_i];simp [h3]
  · rw [drop_nil hc_i] at hs_i
    rw [← hs_i]
    simp;omega
theorem w_ref01_Unlike (l : List Int) (hg : Goods [L l]) : S_ref01_Unlike ρ (L l) (· = [bb (decide l.Nodup)]) := by
  unfold S_ref01_Unlike
  simp only [Goods,good_L] at hg
  generalize hE : decide l.Nodup = q
  refine LOOP.rule (α := Nat) (fun i => [I i]) (fun i => i ≤ l.length ∧ (l.take i).Nodup) (fun i => l.length - i) 0 rfl ⟨by omega,by simp⟩ (fun _ => rfl) ?_
  rintro i ⟨hl,hs⟩
  simp only [app]
  simp (disch:=first|omega|assumption|(constructor<;>first|assumption|omega)|simp only[LN];omega) only [↓SB,S1]
  refine ⟨fun h => ?_,fun h => ?_⟩
  · obtain ⟨x,hx⟩ := get_ex h
    refine LOOP.rule (α := Nat) (fun j => [I j]) (fun j => j ≤ i ∧ ¬ x ∈ l.take j) (fun j => i - j) 0 rfl ⟨by omega,by simp⟩ (fun _ => rfl) ?_
    rintro j ⟨hj,hs2⟩
    simp only [app]
    simp (disch:=first|omega|assumption|(constructor<;>first|assumption|omega)|simp only[LN];omega) only [↓SB,S1]
    refine ⟨fun h4 => ?_,fun h4 => ?_⟩
    · obtain ⟨y,hy⟩ := get_ex (xs := l) (i := j) (by omega)
      simp (disch:=first|omega|assumption|(constructor<;>first|assumption|omega)|simp only[LN];omega) only [↓SB,S1,cell_L hx,cell_L hy]
      refine ⟨fun h3 => ?_,fun h3 => ⟨j + 1,rfl,⟨by omega,?_⟩,by omega⟩⟩
      · rw [← hE]
        have : ¬ l.Nodup := fun hn => by
          have h5 := ((nodup_take hx).1 (nodup_pre hn)).2
          refine h5 (List.mem_of_getElem? (i := j) ?_)
          rw [List.getElem?_take_of_lt (by omega),hy,h3]
        simp [this]
      · rw [List.take_add_one,hy]
        intro hm
        rcases List.mem_append.1 hm with hm | hm
        · exact hs2 hm
        · simp at hm;exact h3 hm.symm
    · have : j = i := by omega
      subst this
      exact ⟨j + 1,rfl,⟨by omega,(nodup_take hx).2 ⟨hs,hs2⟩⟩,by omega⟩
  · rw [List.take_of_length_le (by omega)] at hs
    rw [← hE];simp [hs]
theorem w_ref10_Live (l : List Peer) (self : Int) (hp : l.length ≤ 1000) (hg : Goods [L l,I self]) : S_ref10_Live ρ (L l) (I self) (· = [L (liveP l self)]) := by
  unfold S_ref10_Live
  generalize hE : liveP l self = q
  refine LOOP.rule (α := Nat × List Int) (fun p => [I p.1,L p.2]) (fun p => p.1 ≤ l.length ∧ p.2.length ≤ p.1 ∧ p.2 ++ liveGo self p.1 (l.drop p.1) = q) (fun p => l.length - p.1) (0,[]) rfl ⟨by simp,by simp,by simpa [liveP] using hE⟩ (fun _ => rfl) ?_
  rintro ⟨i,a⟩ ⟨hi,ha,hs⟩
  simp only at hi ha hs
  simp only [app]
  simp (disch:=first|omega|assumption|(constructor<;>first|assumption|omega)|simp only[LN];omega) only [↓SB,S1]
  refine ⟨fun h4 => ?_,fun h4 => ?_⟩
  · obtain ⟨x,hx⟩ := get_ex h4
    rw [drop_eq hx,liveGo] at hs
    simp (disch:=first|omega|assumption|(constructor<;>first|assumption|omega)|simp only[LN];omega) only [↓SB,S1,cell_L hx]
    refine ⟨fun h5 => ⟨(i + 1,a ++ [(i : Int)]),rfl,⟨by simp;omega,by simp;omega,?_⟩,by simp;omega⟩,fun h5 => ⟨fun h6 => ⟨fun h7 => ⟨(i + 1,a ++ [(i : Int)]),rfl,⟨by simp;omega,by simp;omega,?_⟩,by simp;omega⟩,fun h7 => ⟨(i + 1,a),rfl,⟨by simp;omega,by simp;omega,?_⟩,by simp;omega⟩⟩,fun h6 => ⟨(i + 1,a),rfl,⟨by simp;omega,by simp;omega,?_⟩,by simp;omega⟩⟩⟩
    · rw [if_pos (.inl h5)] at hs;simpa using hs
    · rw [if_pos (.inr ⟨h6,h7⟩)] at hs;simpa using hs
    · rw [if_neg (show ¬ ((i : Int) = self ∨ (0 < x.inc ∧ x.age < 4)) by omega)] at hs;simpa using hs
    · rw [if_neg (show ¬ ((i : Int) = self ∨ (0 < x.inc ∧ x.age < 4)) by omega)] at hs;simpa using hs
  · rw [drop_nil h4] at hs
    simp [liveGo] at hs;simp [hs]
theorem w_ref10_Put (l : List Event) (limit : Int) (x : Event) (hp : l.length ≤ 1000 ∧ 2 ≤ limit ∧ limit ≤ 32 ∧ (x.kind = 3 ∨ x.kind = 4)) (hg : Goods [L l,I limit,I x.kind,I x.epoch,I x.seq,I x.last,I x.value,I x.count]) : S_ref10_Put ρ (L l) (I limit) (I x.kind) (I x.epoch) (I x.seq) (I x.last) (I x.value) (I x.count) (· = [L (if (l.length : Int) < limit - 1 then l ++ [x] else l),bb (decide ((l.length : Int) < limit - 1))]) := by
  unfold S_ref10_Put
  obtain ⟨h1,h2,h3,h4⟩ := hp
  simp (disch:=first|omega|assumption|(constructor<;>first|assumption|omega)|simp only[LN];omega) only [↓SB,S1,↓c_bkeep_TwinEvents]
  refine ⟨fun h => ?_,fun h => ?_⟩
  · rw [if_pos h];simp [h]
  · rw [if_neg h]
    refine SUB.v1 (bb true) ?_ ?_
    · repeat' (first | apply And.intro | intro _ | simp (disch:=first|omega|assumption|(constructor<;>first|assumption|omega)|simp only[LN];omega) only [↓SB,S1,↓c_bkeep_TwinEvents])
      all_goals simp_all
      all_goals omega
    simp (disch:=first|omega|assumption|(constructor<;>first|assumption|omega)|simp only[LN];omega) only [↓SB,S1,↓c_bkeep_TwinEvents]
    simp [h]
theorem w_bkeep_Msg (a : Msg) (b : Msg) (hg : Goods [I a.kind,I a.frm,I a.fromInc,I a.to,I a.toInc,I a.topic,I a.epoch,I a.seq,I a.last,I a.value,I a.node,I a.inc,I a.count,I a.hops,L a.path,L a.todo,I b.kind,I b.frm,I b.fromInc,I b.to,I b.toInc,I b.topic,I b.epoch,I b.seq,I b.last,I b.value,I b.node,I b.inc,I b.count,I b.hops,L b.path,L b.todo]) : S_bkeep_Msg ρ (I a.kind) (I a.frm) (I a.fromInc) (I a.to) (I a.toInc) (I a.topic) (I a.epoch) (I a.seq) (I a.last) (I a.value) (I a.node) (I a.inc) (I a.count) (I a.hops) (L a.path) (L a.todo) (I b.kind) (I b.frm) (I b.fromInc) (I b.to) (I b.toInc) (I b.topic) (I b.epoch) (I b.seq) (I b.last) (I b.value) (I b.node) (I b.inc) (I b.count) (I b.hops) (L b.path) (L b.todo) (· = [bb (decide (a = b))]) := by
  unfold S_bkeep_Msg
  repeat' (first | apply And.intro | intro _ | simp (disch:=first|omega|assumption|(constructor<;>first|assumption|omega)|simp only[LN];omega) only [↓SB,S1,↓c_bkeep_Ints])
  all_goals simp_all [Msg.eq_iff]
end Go.Xt
end
section
set_option linter.unusedSimpArgs false
set_option linter.unusedVariables false
set_option maxRecDepth 100000
namespace Go.Xt
set_option linter.defProp false
theorem w_bkeep_Msgs (a : List Msg) (b : List Msg) (hg : Goods [L a,L b]) : S_bkeep_Msgs ρ (L a) (L b) (· = [bb (decide (a = b))]) := by
  unfold S_bkeep_Msgs
  simp only [Goods,good_L] at hg
  simp (disch:=first|omega|assumption|(constructor<;>first|assumption|omega)|simp only[LN];omega) only [↓SB,S1,↓c_bkeep_Msg]
  refine ⟨fun h => by simp [len_ne h],fun h => ?_⟩
  have hl : a.length = b.length := by omega
  refine LOOP.rule (α := Nat) (fun i => [I i]) (fun i => i ≤ a.length ∧ ((a = b) = (a.drop i = b.drop i))) (fun i => a.length - i) 0 rfl ⟨by omega,by simp⟩ (fun _ => rfl) ?_
  rintro i ⟨hl_i,hs_i⟩
  simp only [app]
  simp (disch:=first|omega|assumption|(constructor<;>first|assumption|omega)|simp only[LN];omega) only [↓SB,S1,↓c_bkeep_Msg]
  refine ⟨fun hc_i => ?_,fun hc_i => ?_⟩
  · obtain ⟨x,hx⟩ := get_ex hc_i
    obtain ⟨y,hy⟩ := get_ex (xs := b) (i := i) (by omega)
    rw [drop_eq hx,drop_eq hy,List.cons.injEq] at hs_i
    simp (disch:=first|omega|assumption|(constructor<;>first|assumption|omega)|simp only[LN];omega) only [↓SB,S1,↓c_bkeep_Msg,cell_L hx,cell_L hy,Msg.eta]
    refine ⟨fun h3 => ?_,fun h3 => ⟨i + 1,rfl,⟨by omega,by simpa [h3] using hs_i⟩,by omega⟩⟩
    have hn : ¬ a = b := fun e => h3 (hs_i.mp e).1
    simp [hn]
  · rw [drop_nil hc_i,drop_nil (by omega)] at hs_i
    simp [hs_i]
theorem ends_eq (m : Msg) : (isN m.frm && isN m.to && !decide (m.frm = m.to) && cnt m.fromInc) = endsOk m := by
  unfold endsOk;simp
theorem way_eq (l : List Int) : wayOk l = ((l.all isN && decide (l.length ≤ 8)) && decide l.Nodup) := by
  unfold wayOk;rw [Bool.and_comm (decide _) (l.all isN)]
theorem nodup_app (a b : List Int) : (decide a.Nodup && decide b.Nodup && decide (a ++ b).Nodup) = decide (a ++ b).Nodup := by
  rw [Bool.eq_iff_iff]
  simp only [Bool.and_eq_true,decide_eq_true_eq,List.nodup_append]
  constructor
  · rintro ⟨_,h⟩;exact h
  · intro h;exact ⟨⟨h.1,h.2.1⟩,h⟩
theorem any_eq {m : Msg} (k : m.kind = 11) (he : endsOk m = true) (h1 : cnt m.toInc = true) (h2 : 0 ≤ m.topic ∧ m.topic ≤ 3) :
    msgOk m = (whoseM m && rng m.count 1 40 && (m.path.all isN && decide (m.path.length ≤ 8)) && (m.todo.all isN && decide (m.todo.length ≤ 8)) && decide (m.path ++ m.todo).Nodup && decide (m.epoch = 0) && decide (m.seq = 0) && decide (m.last = 0)) := by
  have h3 : rng m.topic 0 3 = true := by unfold rng;simp;omega
  have hb : bareM m = ({ m with node := 0,inc := 0,count := 0,value := 0,hops := 0,path := [],todo := [] },whoseM m && rng m.count 1 40 && wayOk m.path && wayOk m.todo && decide (m.path ++ m.todo).Nodup) := by
    unfold bareM
    rw [if_neg (by omega),if_neg (by omega),if_neg (by omega),if_neg (by omega),if_neg (by omega),if_neg (by omega),if_neg (by omega),if_neg (by omega),if_pos k]
  simp only [msgOk,hb,knownM,he,h1,h3,k,spareM,way_eq]
  rw [← nodup_app m.path m.todo]
  generalize (m.path.all isN && decide (m.path.length ≤ 8)) = A
  generalize (m.todo.all isN && decide (m.todo.length ≤ 8)) = B
  generalize (whoseM m && rng m.count 1 40) = C
  generalize decide (m.path ++ m.todo).Nodup = D
  generalize decide m.path.Nodup = E
  generalize decide m.todo.Nodup = F
  cases A <;> cases B <;> cases C <;> cases D <;> cases E <;> cases F <;> simp
theorem deq0 (n : Int) : decide (0 = n) = decide (n = 0) := decide_eq_decide.2 eq_comm
theorem rng_isT (n : Int) : rng n 0 3 = isT n := by unfold rng isT;congr 1;exact decide_eq_decide.2 (by omega)
def K_ref01_Msg := And.intro @c_ref01_Value (And.intro @c_ref01_In (And.intro @c_bkeep_Msg (And.intro @c_ref01_IsNode (And.intro @c_ref01_count (And.intro @c_ref01_IsTopic (And.intro @c_ref01_nodes (And.intro @c_ref01_Unlike (@c_bkeep_TwinInts))))))))
theorem w_ref01_Msg (m : Msg) (hp : m.path.length ≤ 30 ∧ m.todo.length ≤ 30) (hg : Goods [I m.kind,I m.frm,I m.fromInc,I m.to,I m.toInc,I m.topic,I m.epoch,I m.seq,I m.last,I m.value,I m.node,I m.inc,I m.count,I m.hops,L m.path,L m.todo]) : S_ref01_Msg ρ (I m.kind) (I m.frm) (I m.fromInc) (I m.to) (I m.toInc) (I m.topic) (I m.epoch) (I m.seq) (I m.last) (I m.value) (I m.node) (I m.inc) (I m.count) (I m.hops) (L m.path) (L m.todo) (· = [bb (msgOk m)]) := by
  unfold S_ref01_Msg
  simp only [Goods,good_I,good_L] at hg
  generalize hE : msgOk m = q
  refine SUB.v1 (bb (!(rng m.kind 1 13 && endsOk m))) ?_ ?_
  · rw [← ends_eq]
    repeat' (first | apply And.intro | intro _ | simp (disch:=first|omega|assumption|(constructor<;>first|assumption|omega)|simp only[LN];omega) only [↓SB,S1,↓K_ref01_Msg])
    all_goals simp_all [rng]
    all_goals first | omega | skip
  cases hr : rng m.kind 1 13 && endsOk m
  · simp (disch:=first|omega|assumption|(constructor<;>first|assumption|omega)|simp only[LN];omega) only [↓SB,S1,↓K_ref01_Msg]
    rw [← hE]
    have : msgOk m = false := by
      rw [Bool.and_eq_false_iff] at hr
      rcases hr with hr | hr
      · have h0 : ¬ (1 ≤ m.kind ∧ m.kind ≤ 13) := by simpa [rng] using hr
        have hb : bareM m = (m,false) := by
          unfold bareM
          rw [if_neg (by omega),if_neg (by omega),if_neg (by omega),if_neg (by omega),if_neg (by omega),if_neg (by omega),if_neg (by omega),if_neg (by omega),if_neg (by omega),if_neg (by omega),if_neg (by omega)]
        simp [msgOk,hb]
      · simp [msgOk,knownM,hr]
    rw [this]
  rw [Bool.and_eq_true] at hr
  obtain ⟨hk,he⟩ := hr
  have hkb := rng_bd hk
  obtain ⟨hp1,hp2⟩ := hp
  have kk : m.kind = 1 ∨ m.kind = 2 ∨ m.kind = 3 ∨ m.kind = 4 ∨ m.kind = 5 ∨ m.kind = 6 ∨ m.kind = 7 ∨ m.kind = 8 ∨ m.kind = 9 ∨ m.kind = 10 ∨ m.kind = 11 ∨ m.kind = 12 ∨ m.kind = 13 := by omega
  rcases kk with k | k | k | k | k | k | k | k | k | k | k | k | k
  · simp (disch:=first|omega|assumption|(constructor<;>first|assumption|omega)|simp only[LN];omega) only [↓SB,S1,↓K_ref01_Msg,k,show decide ((1 : Int) = 2) = false from rfl,show decide ((1 : Int) = 3) = false from rfl,show decide ((1 : Int) = 4) = false from rfl,show decide ((1 : Int) = 5) = false from rfl,show decide ((1 : Int) = 6) = false from rfl,show decide ((1 : Int) = 7) = false from rfl,show decide ((1 : Int) = 8) = false from rfl,show decide ((1 : Int) = 9) = false from rfl,show decide ((1 : Int) = 10) = false from rfl,show decide ((1 : Int) = 11) = false from rfl,show decide ((1 : Int) = 12) = false from rfl,show decide ((1 : Int) = 13) = false from rfl,show decide ((1 : Int) = 1) = true from rfl]
    repeat' (first | apply And.intro | intro _ | simp (disch:=first|omega|assumption|(constructor<;>first|assumption|omega)|simp only[LN];omega) only [↓SB,S1,↓K_ref01_Msg])
    all_goals (rw [← hE];clear hE)
    all_goals simp_all [msgOk,bareM,knownM,spareM,whoseM,placeM,wayOk,Msg.eq_iff,Bool.and_assoc,deq0,rng]
    all_goals first | (intros;omega) | skip
  · simp (disch:=first|omega|assumption|(constructor<;>first|assumption|omega)|simp only[LN];omega) only [↓SB,S1,↓K_ref01_Msg,k,show decide ((2 : Int) = 1) = false from rfl,show decide ((2 : Int) = 3) = false from rfl,show decide ((2 : Int) = 4) = false from rfl,show decide ((2 : Int) = 5) = false from rfl,show decide ((2 : Int) = 6) = false from rfl,show decide ((2 : Int) = 7) = false from rfl,show decide ((2 : Int) = 8) = false from rfl,show decide ((2 : Int) = 9) = false from rfl,show decide ((2 : Int) = 10) = false from rfl,show decide ((2 : Int) = 11) = false from rfl,show decide ((2 : Int) = 12) = false from rfl,show decide ((2 : Int) = 13) = false from rfl,show decide ((2 : Int) = 2) = true from rfl]
    refine SUB.v1 (bb (!(cnt m.toInc && isT m.topic))) ?_ ?_
    · cases cnt m.toInc <;> simp
    cases hct : (cnt m.toInc && isT m.topic)
    · simp (disch:=first|omega|assumption|(constructor<;>first|assumption|omega)|simp only[LN];omega) only [↓SB,S1,↓K_ref01_Msg]
      rw [← hE]
      simp only [Bool.and_eq_false_iff] at hct
      rcases hct with h | h <;> simp [msgOk,knownM,k,h,rng_isT]
    · rw [Bool.and_eq_true] at hct
      have ht3 : 0 ≤ m.topic ∧ m.topic ≤ 3 := by have := isT_iff.1 hct.2;omega
      simp (disch:=first|omega|assumption|(constructor<;>first|assumption|omega)|simp only[LN];omega) only [↓SB,S1,↓K_ref01_Msg]
      repeat' (first | apply And.intro | intro _ | simp (disch:=first|omega|assumption|(constructor<;>first|assumption|omega)|simp only[LN];omega) only [↓SB,S1,↓K_ref01_Msg])
      all_goals (rw [← hE];clear hE)
      all_goals simp_all [msgOk,bareM,knownM,spareM,whoseM,placeM,wayOk,Msg.eq_iff,Bool.and_assoc,deq0,rng]
      all_goals first | (intros;omega) | skip
  · simp (disch:=first|omega|assumption|(constructor<;>first|assumption|omega)|simp only[LN];omega) only [↓SB,S1,↓K_ref01_Msg,k,show decide ((3 : Int) = 1) = false from rfl,show decide ((3 : Int) = 2) = false from rfl,show decide ((3 : Int) = 4) = false from rfl,show decide ((3 : Int) = 5) = false from rfl,show decide ((3 : Int) = 6) = false from rfl,show decide ((3 : Int) = 7) = false from rfl,show decide ((3 : Int) = 8) = false from rfl,show decide ((3 : Int) = 9) = false from rfl,show decide ((3 : Int) = 10) = false from rfl,show decide ((3 : Int) = 11) = false from rfl,show decide ((3 : Int) = 12) = false from rfl,show decide ((3 : Int) = 13) = false from rfl,show decide ((3 : Int) = 3) = true from rfl]
    refine SUB.v1 (bb (!(cnt m.toInc && isT m.topic))) ?_ ?_
    · cases cnt m.toInc <;> simp
    cases hct : (cnt m.toInc && isT m.topic)
    · simp (disch:=first|omega|assumption|(constructor<;>first|assumption|omega)|simp only[LN];omega) only [↓SB,S1,↓K_ref01_Msg]
      rw [← hE]
      simp only [Bool.and_eq_false_iff] at hct
      rcases hct with h | h <;> simp [msgOk,knownM,k,h,rng_isT]
    · rw [Bool.and_eq_true] at hct
      have ht3 : 0 ≤ m.topic ∧ m.topic ≤ 3 := by have := isT_iff.1 hct.2;omega
      simp (disch:=first|omega|assumption|(constructor<;>first|assumption|omega)|simp only[LN];omega) only [↓SB,S1,↓K_ref01_Msg]
      cases hpa : m.path with
      | nil =>
        repeat' (first | apply And.intro | intro _ | simp (disch:=first|omega|assumption|(constructor<;>first|assumption|omega)|simp only[LN];omega) only [↓SB,S1,↓K_ref01_Msg])
        all_goals (rw [← hE];clear hE)
        all_goals simp_all [msgOk,bareM,knownM,spareM,whoseM,placeM,wayOk,Msg.eq_iff,Bool.and_assoc,deq0,rng]
        all_goals first | (intros;omega) | skip
      | cons p r =>
        have hc0 : (L (p :: r)).cellAt (I 0) 0 = I p := cell_L (i := 0) (x := p) rfl
        rw [hpa] at hp1
        have hw3 := way_eq (p :: r)
        generalize hA : ((p :: r).all isN && decide ((p :: r).length ≤ 8)) = A at hw3
        generalize hB : decide (p :: r).Nodup = D at hw3
        have hm3 : msgOk m = (rng m.epoch 0 1073741824 && cnt m.seq && rng m.last 0 1073741824 && (A && D) && decide (p = m.frm) && decide (m.value = 0) && decide (m.node = 0) && decide (m.inc = 0) && decide (m.count = 0) && decide (m.hops = 0) && decide (m.todo = [])) := by
          rw [← hw3]
          simp [msgOk,bareM,knownM,spareM,k,he,hct.1,show rng m.topic 0 3 = true by unfold rng;simp;omega,hpa,Bool.and_assoc]
        rw [hm3] at hE
        repeat' (first | apply And.intro | intro _ | simp (disch:=first|omega|assumption|(constructor<;>first|assumption|omega)|simp only[LN];omega) only [↓SB,S1,↓K_ref01_Msg,hc0,hA,hB])
        all_goals (rw [← hE];clear hE)
        all_goals simp_all [Msg.eq_iff,Bool.and_assoc,deq0,rng]
        all_goals first | (intros;omega) | skip
  · simp (disch:=first|omega|assumption|(constructor<;>first|assumption|omega)|simp only[LN];omega) only [↓SB,S1,↓K_ref01_Msg,k,show decide ((4 : Int) = 1) = false from rfl,show decide ((4 : Int) = 2) = false from rfl,show decide ((4 : Int) = 3) = false from rfl,show decide ((4 : Int) = 5) = false from rfl,show decide ((4 : Int) = 6) = false from rfl,show decide ((4 : Int) = 7) = false from rfl,show decide ((4 : Int) = 8) = false from rfl,show decide ((4 : Int) = 9) = false from rfl,show decide ((4 : Int) = 10) = false from rfl,show decide ((4 : Int) = 11) = false from rfl,show decide ((4 : Int) = 12) = false from rfl,show decide ((4 : Int) = 13) = false from rfl,show decide ((4 : Int) = 4) = true from rfl]
    refine SUB.v1 (bb (!(cnt m.toInc && isT m.topic))) ?_ ?_
    · cases cnt m.toInc <;> simp
    cases hct : (cnt m.toInc && isT m.topic)
    · simp (disch:=first|omega|assumption|(constructor<;>first|assumption|omega)|simp only[LN];omega) only [↓SB,S1,↓K_ref01_Msg]
      rw [← hE]
      simp only [Bool.and_eq_false_iff] at hct
      rcases hct with h | h <;> simp [msgOk,knownM,k,h,rng_isT]
    · rw [Bool.and_eq_true] at hct
      have ht3 : 0 ≤ m.topic ∧ m.topic ≤ 3 := by have := isT_iff.1 hct.2;omega
      simp (disch:=first|omega|assumption|(constructor<;>first|assumption|omega)|simp only[LN];omega) only [↓SB,S1,↓K_ref01_Msg]
      repeat' (first | apply And.intro | intro _ | simp (disch:=first|omega|assumption|(constructor<;>first|assumption|omega)|simp only[LN];omega) only [↓SB,S1,↓K_ref01_Msg])
      all_goals (rw [← hE];clear hE)
      all_goals simp_all [msgOk,bareM,knownM,spareM,whoseM,placeM,wayOk,Msg.eq_iff,Bool.and_assoc,deq0,rng]
      all_goals first | (intros;omega) | skip
  · simp (disch:=first|omega|assumption|(constructor<;>first|assumption|omega)|simp only[LN];omega) only [↓SB,S1,↓K_ref01_Msg,k,show decide ((5 : Int) = 1) = false from rfl,show decide ((5 : Int) = 2) = false from rfl,show decide ((5 : Int) = 3) = false from rfl,show decide ((5 : Int) = 4) = false from rfl,show decide ((5 : Int) = 6) = false from rfl,show decide ((5 : Int) = 7) = false from rfl,show decide ((5 : Int) = 8) = false from rfl,show decide ((5 : Int) = 9) = false from rfl,show decide ((5 : Int) = 10) = false from rfl,show decide ((5 : Int) = 11) = false from rfl,show decide ((5 : Int) = 12) = false from rfl,show decide ((5 : Int) = 13) = false from rfl,show decide ((5 : Int) = 5) = true from rfl]
    refine SUB.v1 (bb (!(cnt m.toInc && isT m.topic))) ?_ ?_
    · cases cnt m.toInc <;> simp
    cases hct : (cnt m.toInc && isT m.topic)
    · simp (disch:=first|omega|assumption|(constructor<;>first|assumption|omega)|simp only[LN];omega) only [↓SB,S1,↓K_ref01_Msg]
      rw [← hE]
      simp only [Bool.and_eq_false_iff] at hct
      rcases hct with h | h <;> simp [msgOk,knownM,k,h,rng_isT]
    · rw [Bool.and_eq_true] at hct
      have ht3 : 0 ≤ m.topic ∧ m.topic ≤ 3 := by have := isT_iff.1 hct.2;omega
      simp (disch:=first|omega|assumption|(constructor<;>first|assumption|omega)|simp only[LN];omega) only [↓SB,S1,↓K_ref01_Msg]
      repeat' (first | apply And.intro | intro _ | simp (disch:=first|omega|assumption|(constructor<;>first|assumption|omega)|simp only[LN];omega) only [↓SB,S1,↓K_ref01_Msg])
      all_goals (rw [← hE];clear hE)
      all_goals simp_all [msgOk,bareM,knownM,spareM,whoseM,placeM,wayOk,Msg.eq_iff,Bool.and_assoc,deq0,rng]
      all_goals first | (intros;omega) | skip
  · simp (disch:=first|omega|assumption|(constructor<;>first|assumption|omega)|simp only[LN];omega) only [↓SB,S1,↓K_ref01_Msg,k,show decide ((6 : Int) = 1) = false from rfl,show decide ((6 : Int) = 2) = false from rfl,show decide ((6 : Int) = 3) = false from rfl,show decide ((6 : Int) = 4) = false from rfl,show decide ((6 : Int) = 5) = false from rfl,show decide ((6 : Int) = 7) = false from rfl,show decide ((6 : Int) = 8) = false from rfl,show decide ((6 : Int) = 9) = false from rfl,show decide ((6 : Int) = 10) = false from rfl,show decide ((6 : Int) = 11) = false from rfl,show decide ((6 : Int) = 12) = false from rfl,show decide ((6 : Int) = 13) = false from rfl,show decide ((6 : Int) = 6) = true from rfl]
    refine SUB.v1 (bb (!(cnt m.toInc && isT m.topic))) ?_ ?_
    · cases cnt m.toInc <;> simp
    cases hct : (cnt m.toInc && isT m.topic)
    · simp (disch:=first|omega|assumption|(constructor<;>first|assumption|omega)|simp only[LN];omega) only [↓SB,S1,↓K_ref01_Msg]
      rw [← hE]
      simp only [Bool.and_eq_false_iff] at hct
      rcases hct with h | h <;> simp [msgOk,knownM,k,h,rng_isT]
    · rw [Bool.and_eq_true] at hct
      have ht3 : 0 ≤ m.topic ∧ m.topic ≤ 3 := by have := isT_iff.1 hct.2;omega
      simp (disch:=first|omega|assumption|(constructor<;>first|assumption|omega)|simp only[LN];omega) only [↓SB,S1,↓K_ref01_Msg]
      repeat' (first | apply And.intro | intro _ | simp (disch:=first|omega|assumption|(constructor<;>first|assumption|omega)|simp only[LN];omega) only [↓SB,S1,↓K_ref01_Msg])
      all_goals (rw [← hE];clear hE)
      all_goals simp_all [msgOk,bareM,knownM,spareM,whoseM,placeM,wayOk,Msg.eq_iff,Bool.and_assoc,deq0,rng]
      all_goals first | (intros;omega) | skip
  · simp (disch:=first|omega|assumption|(constructor<;>first|assumption|omega)|simp only[LN];omega) only [↓SB,S1,↓K_ref01_Msg,k,show decide ((7 : Int) = 1) = false from rfl,show decide ((7 : Int) = 2) = false from rfl,show decide ((7 : Int) = 3) = false from rfl,show decide ((7 : Int) = 4) = false from rfl,show decide ((7 : Int) = 5) = false from rfl,show decide ((7 : Int) = 6) = false from rfl,show decide ((7 : Int) = 8) = false from rfl,show decide ((7 : Int) = 9) = false from rfl,show decide ((7 : Int) = 10) = false from rfl,show decide ((7 : Int) = 11) = false from rfl,show decide ((7 : Int) = 12) = false from rfl,show decide ((7 : Int) = 13) = false from rfl,show decide ((7 : Int) = 7) = true from rfl]
    refine SUB.v1 (bb (!(cnt m.toInc && isT m.topic))) ?_ ?_
    · cases cnt m.toInc <;> simp
    cases hct : (cnt m.toInc && isT m.topic)
    · simp (disch:=first|omega|assumption|(constructor<;>first|assumption|omega)|simp only[LN];omega) only [↓SB,S1,↓K_ref01_Msg]
      rw [← hE]
      simp only [Bool.and_eq_false_iff] at hct
      rcases hct with h | h <;> simp [msgOk,knownM,k,h,rng_isT]
    · rw [Bool.and_eq_true] at hct
      have ht3 : 0 ≤ m.topic ∧ m.topic ≤ 3 := by have := isT_iff.1 hct.2;omega
      simp (disch:=first|omega|assumption|(constructor<;>first|assumption|omega)|simp only[LN];omega) only [↓SB,S1,↓K_ref01_Msg]
      repeat' (first | apply And.intro | intro _ | simp (disch:=first|omega|assumption|(constructor<;>first|assumption|omega)|simp only[LN];omega) only [↓SB,S1,↓K_ref01_Msg])
      all_goals (rw [← hE];clear hE)
      all_goals simp_all [msgOk,bareM,knownM,spareM,whoseM,placeM,wayOk,Msg.eq_iff,Bool.and_assoc,deq0,rng]
      all_goals first | (intros;omega) | skip
  · simp (disch:=first|omega|assumption|(constructor<;>first|assumption|omega)|simp only[LN];omega) only [↓SB,S1,↓K_ref01_Msg,k,show decide ((8 : Int) = 1) = false from rfl,show decide ((8 : Int) = 2) = false from rfl,show decide ((8 : Int) = 3) = false from rfl,show decide ((8 : Int) = 4) = false from rfl,show decide ((8 : Int) = 5) = false from rfl,show decide ((8 : Int) = 6) = false from rfl,show decide ((8 : Int) = 7) = false from rfl,show decide ((8 : Int) = 9) = false from rfl,show decide ((8 : Int) = 10) = false from rfl,show decide ((8 : Int) = 11) = false from rfl,show decide ((8 : Int) = 12) = false from rfl,show decide ((8 : Int) = 13) = false from rfl,show decide ((8 : Int) = 8) = true from rfl]
    refine SUB.v1 (bb (!(cnt m.toInc && isT m.topic))) ?_ ?_
    · cases cnt m.toInc <;> simp
    cases hct : (cnt m.toInc && isT m.topic)
    · simp (disch:=first|omega|assumption|(constructor<;>first|assumption|omega)|simp only[LN];omega) only [↓SB,S1,↓K_ref01_Msg]
      rw [← hE]
      simp only [Bool.and_eq_false_iff] at hct
      rcases hct with h | h <;> simp [msgOk,knownM,k,h,rng_isT]
    · rw [Bool.and_eq_true] at hct
      have ht3 : 0 ≤ m.topic ∧ m.topic ≤ 3 := by have := isT_iff.1 hct.2;omega
      simp (disch:=first|omega|assumption|(constructor<;>first|assumption|omega)|simp only[LN];omega) only [↓SB,S1,↓K_ref01_Msg]
      repeat' (first | apply And.intro | intro _ | simp (disch:=first|omega|assumption|(constructor<;>first|assumption|omega)|simp only[LN];omega) only [↓SB,S1,↓K_ref01_Msg])
      all_goals (rw [← hE];clear hE)
      all_goals simp_all [msgOk,bareM,knownM,spareM,whoseM,placeM,wayOk,Msg.eq_iff,Bool.and_assoc,deq0,rng]
      all_goals first | (intros;omega) | skip
  · simp (disch:=first|omega|assumption|(constructor<;>first|assumption|omega)|simp only[LN];omega) only [↓SB,S1,↓K_ref01_Msg,k,show decide ((9 : Int) = 1) = false from rfl,show decide ((9 : Int) = 2) = false from rfl,show decide ((9 : Int) = 3) = false from rfl,show decide ((9 : Int) = 4) = false from rfl,show decide ((9 : Int) = 5) = false from rfl,show decide ((9 : Int) = 6) = false from rfl,show decide ((9 : Int) = 7) = false from rfl,show decide ((9 : Int) = 8) = false from rfl,show decide ((9 : Int) = 10) = false from rfl,show decide ((9 : Int) = 11) = false from rfl,show decide ((9 : Int) = 12) = false from rfl,show decide ((9 : Int) = 13) = false from rfl,show decide ((9 : Int) = 9) = true from rfl]
    refine SUB.v1 (bb (!(cnt m.toInc && isT m.topic))) ?_ ?_
    · cases cnt m.toInc <;> simp
    cases hct : (cnt m.toInc && isT m.topic)
    · simp (disch:=first|omega|assumption|(constructor<;>first|assumption|omega)|simp only[LN];omega) only [↓SB,S1,↓K_ref01_Msg]
      rw [← hE]
      simp only [Bool.and_eq_false_iff] at hct
      rcases hct with h | h <;> simp [msgOk,knownM,k,h,rng_isT]
    · rw [Bool.and_eq_true] at hct
      have ht3 : 0 ≤ m.topic ∧ m.topic ≤ 3 := by have := isT_iff.1 hct.2;omega
      simp (disch:=first|omega|assumption|(constructor<;>first|assumption|omega)|simp only[LN];omega) only [↓SB,S1,↓K_ref01_Msg]
      repeat' (first | apply And.intro | intro _ | simp (disch:=first|omega|assumption|(constructor<;>first|assumption|omega)|simp only[LN];omega) only [↓SB,S1,↓K_ref01_Msg])
      all_goals (rw [← hE];clear hE)
      all_goals simp_all [msgOk,bareM,knownM,spareM,whoseM,placeM,wayOk,Msg.eq_iff,Bool.and_assoc,deq0,rng]
      all_goals first | (intros;omega) | skip
  · simp (disch:=first|omega|assumption|(constructor<;>first|assumption|omega)|simp only[LN];omega) only [↓SB,S1,↓K_ref01_Msg,k,show decide ((10 : Int) = 1) = false from rfl,show decide ((10 : Int) = 2) = false from rfl,show decide ((10 : Int) = 3) = false from rfl,show decide ((10 : Int) = 4) = false from rfl,show decide ((10 : Int) = 5) = false from rfl,show decide ((10 : Int) = 6) = false from rfl,show decide ((10 : Int) = 7) = false from rfl,show decide ((10 : Int) = 8) = false from rfl,show decide ((10 : Int) = 9) = false from rfl,show decide ((10 : Int) = 11) = false from rfl,show decide ((10 : Int) = 12) = false from rfl,show decide ((10 : Int) = 13) = false from rfl,show decide ((10 : Int) = 10) = true from rfl]
    refine SUB.v1 (bb (!(cnt m.toInc && isT m.topic))) ?_ ?_
    · cases cnt m.toInc <;> simp
    cases hct : (cnt m.toInc && isT m.topic)
    · simp (disch:=first|omega|assumption|(constructor<;>first|assumption|omega)|simp only[LN];omega) only [↓SB,S1,↓K_ref01_Msg]
      rw [← hE]
      simp only [Bool.and_eq_false_iff] at hct
      rcases hct with h | h <;> simp [msgOk,knownM,k,h,rng_isT]
    · rw [Bool.and_eq_true] at hct
      have ht3 : 0 ≤ m.topic ∧ m.topic ≤ 3 := by have := isT_iff.1 hct.2;omega
      simp (disch:=first|omega|assumption|(constructor<;>first|assumption|omega)|simp only[LN];omega) only [↓SB,S1,↓K_ref01_Msg]
      repeat' (first | apply And.intro | intro _ | simp (disch:=first|omega|assumption|(constructor<;>first|assumption|omega)|simp only[LN];omega) only [↓SB,S1,↓K_ref01_Msg])
      all_goals (rw [← hE];clear hE)
      all_goals simp_all [msgOk,bareM,knownM,spareM,whoseM,placeM,wayOk,Msg.eq_iff,Bool.and_assoc,deq0,rng]
      all_goals first | (intros;omega) | skip
  · simp (disch:=first|omega|assumption|(constructor<;>first|assumption|omega)|simp only[LN];omega) only [↓SB,S1,↓K_ref01_Msg,k,show decide ((11 : Int) = 1) = false from rfl,show decide ((11 : Int) = 2) = false from rfl,show decide ((11 : Int) = 3) = false from rfl,show decide ((11 : Int) = 4) = false from rfl,show decide ((11 : Int) = 5) = false from rfl,show decide ((11 : Int) = 6) = false from rfl,show decide ((11 : Int) = 7) = false from rfl,show decide ((11 : Int) = 8) = false from rfl,show decide ((11 : Int) = 9) = false from rfl,show decide ((11 : Int) = 10) = false from rfl,show decide ((11 : Int) = 12) = false from rfl,show decide ((11 : Int) = 13) = false from rfl,show decide ((11 : Int) = 11) = true from rfl]
    refine SUB.v1 (bb (!(cnt m.toInc && isT m.topic))) ?_ ?_
    · cases cnt m.toInc <;> simp
    cases hct : (cnt m.toInc && isT m.topic)
    · simp (disch:=first|omega|assumption|(constructor<;>first|assumption|omega)|simp only[LN];omega) only [↓SB,S1,↓K_ref01_Msg]
      rw [← hE]
      simp only [Bool.and_eq_false_iff] at hct
      rcases hct with h | h <;> simp [msgOk,knownM,k,h,rng_isT]
    · rw [Bool.and_eq_true] at hct
      have ht3 : 0 ≤ m.topic ∧ m.topic ≤ 3 := by have := isT_iff.1 hct.2;omega
      simp (disch:=first|omega|assumption|(constructor<;>first|assumption|omega)|simp only[LN];omega) only [↓SB,S1,↓K_ref01_Msg]
      rw [any_eq k he hct.1 ht3] at hE
      have hpq : (m.path ++ m.todo).length ≤ 60 := by simp;omega
      have hpz : m.path.length ≤ 1000000 := by omega
      generalize hA : (m.path.all isN && decide (m.path.length ≤ 8)) = A at hE
      generalize hB : (m.todo.all isN && decide (m.todo.length ≤ 8)) = B at hE
      generalize hD : decide (m.path ++ m.todo).Nodup = D at hE
      repeat' (first | apply And.intro | intro _ | simp (disch:=first|omega|assumption|(constructor<;>first|assumption|omega)|simp only[LN];omega) only [↓SB,S1,↓K_ref01_Msg,hA,hB,hD])
      all_goals (rw [← hE];clear hE)
      all_goals simp_all [whoseM,Msg.eq_iff,Bool.and_assoc,deq0,rng]
      all_goals first | (intros;omega) | skip
  · simp (disch:=first|omega|assumption|(constructor<;>first|assumption|omega)|simp only[LN];omega) only [↓SB,S1,↓K_ref01_Msg,k,show decide ((12 : Int) = 1) = false from rfl,show decide ((12 : Int) = 2) = false from rfl,show decide ((12 : Int) = 3) = false from rfl,show decide ((12 : Int) = 4) = false from rfl,show decide ((12 : Int) = 5) = false from rfl,show decide ((12 : Int) = 6) = false from rfl,show decide ((12 : Int) = 7) = false from rfl,show decide ((12 : Int) = 8) = false from rfl,show decide ((12 : Int) = 9) = false from rfl,show decide ((12 : Int) = 10) = false from rfl,show decide ((12 : Int) = 11) = false from rfl,show decide ((12 : Int) = 13) = false from rfl,show decide ((12 : Int) = 12) = true from rfl]
    refine SUB.v1 (bb (!(cnt m.toInc && isT m.topic))) ?_ ?_
    · cases cnt m.toInc <;> simp
    cases hct : (cnt m.toInc && isT m.topic)
    · simp (disch:=first|omega|assumption|(constructor<;>first|assumption|omega)|simp only[LN];omega) only [↓SB,S1,↓K_ref01_Msg]
      rw [← hE]
      simp only [Bool.and_eq_false_iff] at hct
      rcases hct with h | h <;> simp [msgOk,knownM,k,h,rng_isT]
    · rw [Bool.and_eq_true] at hct
      have ht3 : 0 ≤ m.topic ∧ m.topic ≤ 3 := by have := isT_iff.1 hct.2;omega
      simp (disch:=first|omega|assumption|(constructor<;>first|assumption|omega)|simp only[LN];omega) only [↓SB,S1,↓K_ref01_Msg]
      repeat' (first | apply And.intro | intro _ | simp (disch:=first|omega|assumption|(constructor<;>first|assumption|omega)|simp only[LN];omega) only [↓SB,S1,↓K_ref01_Msg])
      all_goals (rw [← hE];clear hE)
      all_goals simp_all [msgOk,bareM,knownM,spareM,whoseM,placeM,wayOk,Msg.eq_iff,Bool.and_assoc,deq0,rng]
      all_goals first | (intros;omega) | skip
  · simp (disch:=first|omega|assumption|(constructor<;>first|assumption|omega)|simp only[LN];omega) only [↓SB,S1,↓K_ref01_Msg,k,show decide ((13 : Int) = 1) = false from rfl,show decide ((13 : Int) = 2) = false from rfl,show decide ((13 : Int) = 3) = false from rfl,show decide ((13 : Int) = 4) = false from rfl,show decide ((13 : Int) = 5) = false from rfl,show decide ((13 : Int) = 6) = false from rfl,show decide ((13 : Int) = 7) = false from rfl,show decide ((13 : Int) = 8) = false from rfl,show decide ((13 : Int) = 9) = false from rfl,show decide ((13 : Int) = 10) = false from rfl,show decide ((13 : Int) = 11) = false from rfl,show decide ((13 : Int) = 12) = false from rfl,show decide ((13 : Int) = 13) = true from rfl]
    refine SUB.v1 (bb (!(cnt m.toInc && isT m.topic))) ?_ ?_
    · cases cnt m.toInc <;> simp
    cases hct : (cnt m.toInc && isT m.topic)
    · simp (disch:=first|omega|assumption|(constructor<;>first|assumption|omega)|simp only[LN];omega) only [↓SB,S1,↓K_ref01_Msg]
      rw [← hE]
      simp only [Bool.and_eq_false_iff] at hct
      rcases hct with h | h <;> simp [msgOk,knownM,k,h,rng_isT]
    · rw [Bool.and_eq_true] at hct
      have ht3 : 0 ≤ m.topic ∧ m.topic ≤ 3 := by have := isT_iff.1 hct.2;omega
      simp (disch:=first|omega|assumption|(constructor<;>first|assumption|omega)|simp only[LN];omega) only [↓SB,S1,↓K_ref01_Msg]
      repeat' (first | apply And.intro | intro _ | simp (disch:=first|omega|assumption|(constructor<;>first|assumption|omega)|simp only[LN];omega) only [↓SB,S1,↓K_ref01_Msg])
      all_goals (rw [← hE];clear hE)
      all_goals simp_all [msgOk,bareM,knownM,spareM,whoseM,placeM,wayOk,Msg.eq_iff,Bool.and_assoc,deq0,rng]
      all_goals first | (intros;omega) | skip
end Go.Xt
end
section
set_option linter.unusedSimpArgs false
set_option linter.unusedVariables false
set_option maxRecDepth 100000
namespace Go.Xt
set_option linter.defProp false
theorem fit_call {l : List Event} {limit : Int} {x : Event} (h : queueOk l limit = true) (hx : evOk x = true) (hs : ofStream x = false) : fitE l limit x = if (l.length : Int) < limit - 1 then l ++ [x] else l := by
  have hp : putE l limit x = if (l.length : Int) < limit - 1 then (l ++ [x],0) else ([],6) := by
    unfold putE
    rw [if_pos (by rw [h,hx];rfl),hs]
    rfl
  unfold fitE
  rw [hp]
  by_cases h3 : (l.length : Int) < limit - 1
  · simp [h3]
  · simp [h3]
def K_ref19_MayVisit := And.intro @c_ref01_Msg (And.intro @c_ref19_in (@c_ref19_nodes))
theorem w_ref19_MayVisit (c : Config) (x : Msg) (hp : cfgOk c = true ∧ x.path.length ≤ 30 ∧ x.todo.length ≤ 30) (hg : Goods [I c.nodes,I c.topics,I c.kids,I c.depth,I c.keep,I c.window,I c.queue,I x.kind,I x.frm,I x.fromInc,I x.to,I x.toInc,I x.topic,I x.epoch,I x.seq,I x.last,I x.value,I x.node,I x.inc,I x.count,I x.hops,L x.path,L x.todo]) : S_ref19_MayVisit ρ (I c.nodes) (I c.topics) (I c.kids) (I c.depth) (I c.keep) (I c.window) (I c.queue) (I x.kind) (I x.frm) (I x.fromInc) (I x.to) (I x.toInc) (I x.topic) (I x.epoch) (I x.seq) (I x.last) (I x.value) (I x.node) (I x.inc) (I x.count) (I x.hops) (L x.path) (L x.todo) (· = [bb (mayVisit c x)]) := by
  unfold S_ref19_MayVisit mayVisit
  simp only [Goods,good_I,good_L] at hg
  obtain ⟨hc,h1,h2⟩ := hp
  have hb := cfg_bd hc
  have hpm := And.intro h1 h2
  cases hm : msgOk x
  · simp (disch:=first|omega|assumption|(constructor<;>first|assumption|omega)|simp only[LN];omega) only [↓SB,S1,↓K_ref19_MayVisit,hm]
    simp
  by_cases k11 : x.kind = 11
  · obtain ⟨_,_,_,_,_,a6⟩ := msg_any hm k11
    have ht := rng_bd a6
    have e : decide (x.topic < c.topics) = rng x.topic 0 (c.topics - 1) := by
      unfold rng;rw [Bool.eq_iff_iff];simp;omega
    rw [e]
    simp (disch:=first|omega|assumption|(constructor<;>first|assumption|omega)|simp only[LN];omega) only [↓SB,S1,↓K_ref19_MayVisit,hm]
    refine ⟨fun _ => ?_,fun h => absurd k11 h⟩
    simp only [List.all_append,List.all_cons,List.all_nil,Bool.and_true,k11,decide_true,Bool.true_and]
    cases rng x.topic 0 (c.topics - 1) <;> cases rng x.node 0 (c.nodes - 1) <;> cases (x.path.all fun n => rng n 0 (c.nodes - 1)) <;> simp
  · simp (disch:=first|omega|assumption|(constructor<;>first|assumption|omega)|simp only[LN];omega) only [↓SB,S1,↓K_ref19_MayVisit,hm]
    refine ⟨fun h => absurd h k11,fun _ => ?_⟩
    simp [k11]
def K_ref19_Heard := And.intro @c_bkeep_TwinPeers (And.intro @c_bkeep_TwinTopic (@c_ref10_Put))
theorem w_ref19_Heard (c : Config) (n : Node) (x : Msg) (hp : (∃ self : Int,nodeWhy c self n = 0) ∧ (msgOk x && (decide (x.kind = 12) || decide (x.kind = 13)) && decide (x.topic < c.topics)) = true) (hg : Goods [I c.nodes,I c.topics,I c.kids,I c.depth,I c.keep,I c.window,I c.queue,bb n.up,I n.inc,L n.peers,L n.topics,L n.calls,I n.pubs,I n.asks,L n.marks,L n.taken,I x.kind,I x.frm,I x.fromInc,I x.to,I x.toInc,I x.topic,I x.epoch,I x.seq,I x.last,I x.value,I x.node,I x.inc,I x.count,I x.hops,L x.path,L x.todo]) : S_ref19_Heard ρ (I c.nodes) (I c.topics) (I c.kids) (I c.depth) (I c.keep) (I c.window) (I c.queue) (bb n.up) (I n.inc) (L n.peers) (L n.topics) (L n.calls) (I n.pubs) (I n.asks) (L n.marks) (L n.taken) (I x.kind) (I x.frm) (I x.fromInc) (I x.to) (I x.toInc) (I x.topic) (I x.epoch) (I x.seq) (I x.last) (I x.value) (I x.node) (I x.inc) (I x.count) (I x.hops) (L x.path) (L x.todo) (· = [bb (endCall c n x.topic x.count (if x.kind = 12 then x.value else -1)).up,I (endCall c n x.topic x.count (if x.kind = 12 then x.value else -1)).inc,L (endCall c n x.topic x.count (if x.kind = 12 then x.value else -1)).peers,L (endCall c n x.topic x.count (if x.kind = 12 then x.value else -1)).topics,L (endCall c n x.topic x.count (if x.kind = 12 then x.value else -1)).calls,I (endCall c n x.topic x.count (if x.kind = 12 then x.value else -1)).pubs,I (endCall c n x.topic x.count (if x.kind = 12 then x.value else -1)).asks,L (endCall c n x.topic x.count (if x.kind = 12 then x.value else -1)).marks,L (endCall c n x.topic x.count (if x.kind = 12 then x.value else -1)).taken]) := by
  unfold S_ref19_Heard
  simp only [Goods,good_I,good_L] at hg
  obtain ⟨⟨self,hw⟩,hok⟩ := hp
  obtain ⟨hc,hsr,hu,H⟩ := why_zero hw
  have hb := cfg_bd hc
  obtain ⟨ht,hcnt,hv,hk⟩ := msg_heard hok
  have hpl := H.pl;have hml := H.ml;have hkl := H.kl;have hcl := H.cl
  have htl := H.tl
  refine SUB.val [L n.taken,L n.marks,L n.calls,L n.topics,L n.peers] rfl ?_ ?_
  · simp (disch:=first|omega|assumption|(constructor<;>first|assumption|omega)|simp only[LN];omega) only [↓SB,S1,↓K_ref19_Heard]
    refine LOOP.rule (α := Nat) (fun i => [I i,L (n.topics.take i)]) (fun i => i ≤ n.topics.length) (fun i => n.topics.length - i) 0 rfl (by omega) (fun _ => rfl) ?_
    intro i hl
    simp only [app]
    simp (disch:=first|omega|assumption|(constructor<;>first|assumption|omega)|simp only[LN];omega) only [↓SB,S1,↓K_ref19_Heard]
    refine ⟨fun hcc => ?_,fun hcc => ?_⟩
    · obtain ⟨y,hy⟩ := get_ex hcc
      have hx9 := node_light hc H hy
      have hlt : (n.topics.take i).length = i := by simp;omega
      simp (disch:=first|omega|assumption|(constructor<;>first|assumption|omega)|simp only[LN];omega) only [↓SB,S1,↓K_ref19_Heard,cell_L hy]
      exact ⟨i + 1,by simp [take_one hy],by omega,by omega⟩
    rw [List.take_of_length_le (by omega)]
  simp only [app]
  have htb := rng_bd ht
  obtain ⟨k,hk2⟩ := Int.eq_ofNat_of_zero_le htb.1
  rw [hk2] at ht htb
  obtain ⟨y,hy⟩ := get_ex (xs := n.topics) (i := k) (by omega)
  have hty := tops_get H.tops hy
  obtain ⟨⟨_,_,_,_,hyq⟩,_⟩ := topic_sz hc hty
  have hqok := topic_q hty
  have hcb := rng_bd hcnt
  generalize hQ0 : [bb (endCall c n x.topic x.count (if x.kind = 12 then x.value else -1)).up,I (endCall c n x.topic x.count (if x.kind = 12 then x.value else -1)).inc,L (endCall c n x.topic x.count (if x.kind = 12 then x.value else -1)).peers,L (endCall c n x.topic x.count (if x.kind = 12 then x.value else -1)).topics,L (endCall c n x.topic x.count (if x.kind = 12 then x.value else -1)).calls,I (endCall c n x.topic x.count (if x.kind = 12 then x.value else -1)).pubs,I (endCall c n x.topic x.count (if x.kind = 12 then x.value else -1)).asks,L (endCall c n x.topic x.count (if x.kind = 12 then x.value else -1)).marks,L (endCall c n x.topic x.count (if x.kind = 12 then x.value else -1)).taken] = z
  rw [hk2] at hQ0 ⊢
  generalize hr : endCall c n k x.count (if x.kind = 12 then x.value else -1) = r at hQ0
  have hQ := hQ0
  clear hQ0
  generalize hcn : x.count = cn at hr hcb hcnt ⊢
  simp (disch:=first|omega|assumption|(constructor<;>first|assumption|omega)|simp only[LN];omega) only [↓SB,S1,↓K_ref19_Heard]
  refine SUB.v2 (I (if x.kind = 12 then 3 else 4)) (I (if x.kind = 12 then x.value else 0)) ?_ ?_
  · refine ⟨fun h => ?_,fun h => ?_⟩ <;> simp [h]
  have hEv : evCall cn (if x.kind = 12 then x.value else -1) = ⟨if x.kind = 12 then 3 else 4,0,0,0,if x.kind = 12 then x.value else 0,cn⟩ := by
    by_cases h12 : x.kind = 12
    · rw [if_pos h12,if_pos h12,if_pos h12];exact if_pos (isN_iff.1 (hv h12)).1
    · rw [if_neg h12,if_neg h12,if_neg h12];rfl
  have hkd : (if x.kind = 12 then (3 : Int) else 4) = 3 ∨ (if x.kind = 12 then (3 : Int) else 4) = 4 := by split <;> simp
  have hvE : evOk ⟨if x.kind = 12 then 3 else 4,0,0,0,if x.kind = 12 then x.value else 0,cn⟩ = true := by
    by_cases h12 : x.kind = 12
    · rw [if_pos h12,if_pos h12];simp [evOk,hcnt,hv h12]
    · rw [if_neg h12,if_neg h12];simp [evOk,hcnt]
  have hofs : ofStream ⟨if x.kind = 12 then 3 else 4,0,0,0,if x.kind = 12 then x.value else 0,cn⟩ = false := by
    unfold ofStream;rcases hkd with h | h <;> simp [h]
  generalize (if x.kind = 12 then (3 : Int) else 4) = kd at hEv hkd hvE hofs ⊢
  generalize (if x.kind = 12 then x.value else 0) = vl at hEv hvE hofs ⊢
  generalize (if x.kind = 12 then x.value else -1 : Int) = wh at hr hEv
  refine LOOP.rule (α := Nat) (fun i => [I i]) (fun i => i ≤ n.calls.length ∧ (n.calls.take i).any (isCall k cn) = false) (fun i => n.calls.length - i) 0 rfl ⟨by omega,by simp⟩ (fun _ => rfl) ?_
  rintro i ⟨hi3,hs3⟩
  simp only [app]
  simp (disch:=first|omega|assumption|(constructor<;>first|assumption|omega)|simp only[LN];omega) only [↓SB,S1,↓K_ref19_Heard]
  refine ⟨fun h => ?_,fun h => ?_⟩
  · obtain ⟨u,hu1⟩ := get_ex h
    simp (disch:=first|omega|assumption|(constructor<;>first|assumption|omega)|simp only[LN];omega) only [↓SB,S1,↓K_ref19_Heard,cell_L hu1]
    refine SUB.v1 (bb (isCall k cn u)) ?_ ?_
    · unfold isCall;repeat' (first | apply And.intro | intro _ | simp (disch:=first|omega|assumption|(constructor<;>first|assumption|omega)|simp only[LN];omega) only [↓SB,S1,↓K_ref19_Heard])
      all_goals simp [*]
    cases hcx : isCall k cn u
    · simp (disch:=first|omega|assumption|(constructor<;>first|assumption|omega)|simp only[LN];omega) only [↓SB,S1,↓K_ref19_Heard]
      exact ⟨i + 1,rfl,⟨by omega,any_take hs3 hu1 hcx⟩,by omega⟩
    · obtain ⟨e5,e6⟩ := erase_cut hs3 hu1 hcx
      have hl1 : (n.calls.take i).length ≤ 100 := by simp;omega
      have hl2 : (n.calls.drop (i + 1)).length ≤ 100 := by simp;omega
      have ei : ((i : Int) + 1).toNat = i + 1 := by omega
      rw [endCall_true (n := n) e6 rfl hy,e5] at hr
      have hpp : y.queue.length ≤ 1000 ∧ 2 ≤ c.queue ∧ c.queue ≤ 32 ∧ _ := ⟨by omega,by omega,by omega,hkd⟩
      simp (disch:=first|omega|assumption|(constructor<;>first|assumption|omega)|simp only[LN];omega) only [↓SB,S1,↓K_ref19_Heard,Int.toNat_natCast,ei,cell_L hy]
      rw [show cutL n.calls i (i + 1) = n.calls.take i ++ n.calls.drop (i + 1) from rfl] at hr
      rw [show evCall cn wh = (⟨kd,0,0,0,vl,cn⟩ : Event) from hEv,fit_call hqok hvE hofs] at hr
      refine ⟨fun hroom => ?_,fun hroom => ?_⟩
      · rw [if_pos hroom] at hr ⊢
        rw [OP_set hy (j := 15) (v := L (y.queue ++ [(⟨kd,0,0,0,vl,cn⟩ : Event)])) (y := { y with queue := y.queue ++ [(⟨kd,0,0,0,vl,cn⟩ : Event)] }) rfl]
        subst hr
        exact hQ
      · rw [if_neg hroom,show ({ y with queue := y.queue } : Topic) = y from rfl,set_same hy] at hr
        subst hr
        exact hQ
  · have hi4 : i = n.calls.length := by omega
    subst hi4
    rw [List.take_length] at hs3
    rw [endCall_miss (n := n) hs3] at hr
    subst hr
    exact hQ
end Go.Xt
end
section
set_option linter.unusedSimpArgs false
set_option linter.unusedVariables false
set_option maxRecDepth 100000
namespace Go.Xt
set_option linter.defProp false
def moreL (self : Int) (y : Topic) (peers : List Peer) (t : Int) : List Int :=
  y.kids.map Kid.node ++ (if 0 < y.parent then [y.parent - 1] else []) ++ (if y.kids = [] ∧ hasWay y = false ∧ 0 ≤ nextN t (liveP peers self) self then [nextN t (liveP peers self) self] else [])
theorem todo_app (n : Node) (pt : List Int) : ∀ (a b td : List Int),todoGo n pt td (a ++ b) = todoGo n pt (todoGo n pt td a) b
  | [],_,_ => rfl
  | x :: a,b,td => by rw [List.cons_append,todoGo,todoGo,todo_app n pt a b]
theorem heed_neg {n : Node} {x : Int} (h : x < 0) : heed n x = false := by
  unfold heed
  have : rng x 0 (n.peers.length - 1) = false := by unfold rng;simp;omega
  rw [this];rfl
theorem todo_neg {n : Node} {pt td : List Int} {x : Int} (h : x < 0) : todoGo n pt td [x] = td := by
  rw [todoGo,heed_neg h];rfl
theorem todo_more {n : Node} {self t : Int} {pt td : List Int} {y : Topic} (hy : topAt n t = y) (h0 : 0 ≤ y.parent) : todoGo n pt td (nearL self n t) = todoGo n pt td (moreL self y n.peers t) := by
  unfold nearL moreL
  rw [hy,todo_app,todo_app,todo_app,todo_app]
  have e1 : ∀ td,todoGo n pt td [y.parent - 1] = todoGo n pt td (if 0 < y.parent then [y.parent - 1] else []) := by
    intro td
    split
    · rfl
    · rw [todo_neg (by omega)];rfl
  rw [e1]
  generalize todoGo n pt (todoGo n pt td (y.kids.map Kid.node)) (if 0 < y.parent then [y.parent - 1] else []) = td2
  by_cases h : y.kids = [] ∧ hasWay y = false
  · rw [if_pos h]
    by_cases h2 : 0 ≤ nextN t (liveP n.peers self) self
    · rw [if_pos ⟨h.1,h.2,h2⟩]
    · rw [if_neg (by rintro ⟨_,_,h3⟩;exact h2 h3),todo_neg (by omega)];rfl
  · rw [if_neg h,if_neg (by rintro ⟨h1,h2,_⟩;exact h ⟨h1,h2⟩)]
theorem more_nn {self t : Int} {y : Topic} {peers : List Peer} (hk : ∀ u ∈ y.kids,0 ≤ u.node) (h0 : 0 ≤ y.parent) : ∀ z ∈ moreL self y peers t,0 ≤ z := by
  intro z hz
  unfold moreL at hz
  rcases List.mem_append.1 hz with hz | hz
  · rcases List.mem_append.1 hz with hz | hz
    · obtain ⟨u,hu,rfl⟩ := List.mem_map.1 hz;exact hk u hu
    · split at hz
      · rw [List.mem_singleton] at hz;omega
      · simp at hz
  · split at hz
    · rename_i h;rw [List.mem_singleton] at hz;rw [hz];exact h.2.2
    · simp at hz
theorem more_len {self t : Int} {y : Topic} {peers : List Peer} (h : y.kids.length ≤ 8) : (moreL self y peers t).length ≤ 10 := by
  unfold moreL
  rw [List.length_append,List.length_append,List.length_map]
  split <;> split <;> simp <;> omega
theorem kids_nn {c : Config} {t self : Int} {y : Topic} (h : topicOk c t self y = true) : ∀ u ∈ y.kids,0 ≤ u.node := by
  have hg : ∀ (l : List Kid) (a : Int),kidsGo t a l = true → ∀ u ∈ l,0 ≤ u.node := by
    intro l
    induction l with
    | nil => intro a _ u hu;simp at hu
    | cons k r ih =>
      intro a h u hu
      simp only [kidsGo,near,Bool.and_eq_true] at h
      rcases List.mem_cons.1 hu with rfl | hu
      · exact (isN_iff.1 h.1.1.1.1.2).1
      · exact ih _ h.2 u hu
  simp only [topicOk,kidsOk,Bool.and_eq_true] at h
  exact hg _ _ h.1.2.2
theorem peer_inc {l : List Peer} {k : Nat} {p : Peer} (h : peersOk l = true) (hp : l[k]? = some p) : 0 ≤ p.inc := by
  simp only [peersOk,Bool.and_eq_true,List.all_eq_true] at h
  have := h.2 p (List.mem_of_getElem? hp)
  simp only [peerOk,Bool.and_eq_true] at this
  exact (rng_bd this.1).1
theorem heed_in {n : Node} {m : Nat} {p : Peer} (h : n.peers[m]? = some p) (h0 : 0 ≤ p.inc) : heed n m = decide (0 < p.inc) := by
  have hl := (List.getElem?_eq_some_iff.1 h).1
  unfold heed
  have e1 : rng m 0 (n.peers.length - 1) = true := by unfold rng;simp;omega
  rw [e1,Int.toNat_natCast,List.getD_eq_getElem?_getD,h,Bool.true_and,Bool.eq_iff_iff]
  simp;omega
theorem heed_out {n : Node} {m : Nat} (h : ¬ (m : Int) < n.peers.length) : heed n m = false := by
  unfold heed
  have e1 : rng m 0 (n.peers.length - 1) = false := by unfold rng;simp;omega
  rw [e1];rfl
theorem pow2_bd (b : Int) (h0 : 0 ≤ b) (h1 : b ≤ 41) : 0 < (2 : Int) ^ b.toNat ∧ (2 : Int) ^ b.toNat ≤ 2199023255552 := by
  have hb : b.toNat ≤ 41 := by omega
  refine ⟨Int.pow_pos (by decide),?_⟩
  have := Nat.pow_le_pow_right (n := 2) (by decide) hb
  have h2 : ((2 ^ b.toNat : Nat) : Int) ≤ ((2 ^ 41 : Nat) : Int) := by exact_mod_cast this
  simpa using h2
def K_ref19_Begin := And.intro @c_bkeep_TwinPeers (And.intro @c_bkeep_TwinTopic (And.intro @c_ref19_has (And.intro @c_bkeep_TwinInts (And.intro @c_ref10_Next (And.intro @c_ref10_HasWay (And.intro @c_ref10_Put (@c_ref10_Live)))))))
theorem w_ref19_Begin (c : Config) (self : Int) (n : Node) (t : Int) (value : Int) (hp : nodeWhy c self n = 0 ∧ rng t 0 (c.topics - 1) = true ∧ val value = true) (hg : Goods [I c.nodes,I c.topics,I c.kids,I c.depth,I c.keep,I c.window,I c.queue,I self,bb n.up,I n.inc,L n.peers,L n.topics,L n.calls,I n.pubs,I n.asks,L n.marks,L n.taken,I t,I value]) : S_ref19_Begin ρ (I c.nodes) (I c.topics) (I c.kids) (I c.depth) (I c.keep) (I c.window) (I c.queue) (I self) (bb n.up) (I n.inc) (L n.peers) (L n.topics) (L n.calls) (I n.pubs) (I n.asks) (L n.marks) (L n.taken) (I t) (I value) (· = [bb (beginN c self n t value).1.up,I (beginN c self n t value).1.inc,L (beginN c self n t value).1.peers,L (beginN c self n t value).1.topics,L (beginN c self n t value).1.calls,I (beginN c self n t value).1.pubs,I (beginN c self n t value).1.asks,L (beginN c self n t value).1.marks,L (beginN c self n t value).1.taken,L (beginN c self n t value).2.1,I (beginN c self n t value).2.2.1,I (beginN c self n t value).2.2.2]) := by
  unfold S_ref19_Begin
  simp only [Goods,good_I,good_L] at hg
  obtain ⟨hw,ht0,hvv⟩ := hp
  generalize hE : beginN c self n t value = q
  unfold beginN at hE
  rw [if_pos hw,if_pos (by rw [ht0,hvv];rfl)] at hE
  obtain ⟨hc,hsr,hu,H⟩ := why_zero hw
  have hb := cfg_bd hc
  have hsb := rng_bd hsr
  simp (disch:=first|omega|assumption|(constructor<;>first|assumption|omega)|simp only[LN];omega) only [↓SB,S1,↓K_ref19_Begin]
  refine ⟨fun ha => ?_,fun ha => ?_⟩
  · rw [if_neg (by omega)] at hE;rw [← hE];rfl
  rw [if_pos (by omega)] at hE
  have hab := rng_bd H.asks
  have hpl := H.pl;have hml := H.ml;have hkl := H.kl;have hcl := H.cl
  have htl := H.tl
  refine SUB.val [L n.taken,L n.marks,L n.calls,L n.topics,L n.peers] rfl ?_ ?_
  · simp (disch:=first|omega|assumption|(constructor<;>first|assumption|omega)|simp only[LN];omega) only [↓SB,S1,↓K_ref19_Begin]
    refine LOOP.rule (α := Nat) (fun i => [I i,L (n.topics.take i)]) (fun i => i ≤ n.topics.length) (fun i => n.topics.length - i) 0 rfl (by omega) (fun _ => rfl) ?_
    intro i hl
    simp only [app]
    simp (disch:=first|omega|assumption|(constructor<;>first|assumption|omega)|simp only[LN];omega) only [↓SB,S1,↓K_ref19_Begin]
    refine ⟨fun hcc => ?_,fun hcc => ?_⟩
    · obtain ⟨y,hy⟩ := get_ex hcc
      have hx9 := node_light hc H hy
      have hlt : (n.topics.take i).length = i := by simp;omega
      simp (disch:=first|omega|assumption|(constructor<;>first|assumption|omega)|simp only[LN];omega) only [↓SB,S1,↓K_ref19_Begin,cell_L hy]
      exact ⟨i + 1,by simp [take_one hy],by omega,by omega⟩
    rw [List.take_of_length_le (by omega)]
  simp only [app]
  simp (disch:=first|omega|assumption|(constructor<;>first|assumption|omega)|simp only[LN];omega) only [↓SB,S1,↓K_ref19_Begin]
  rw [show L [(⟨n.asks + 1,t,0⟩ : Kid)] = L [(⟨n.asks + 1,t,0⟩ : Call)] from rfl]
  simp (disch:=first|omega|assumption|(constructor<;>first|assumption|omega)|simp only[LN];omega) only [↓SB,S1,↓K_ref19_Begin]
  obtain ⟨s,hk⟩ := Int.eq_ofNat_of_zero_le hsb.1
  subst hk
  obtain ⟨mk,hmk⟩ := get_ex (xs := n.marks) (i := s) (by omega)
  have hmd : n.marks.getD s mark0 = mk := by simp [List.getD_eq_getElem?_getD,hmk]
  have hmb := mark_bd H.marks hmk
  have hml2 : meetL n.marks s n.inc (n.asks + 1) = if meets n.marks s n.inc (n.asks + 1) = true then n.marks.set s { newer mk n.inc with met := (newer mk n.inc).met + 2 ^ (n.asks + 1).toNat } else n.marks := by
    unfold meetL;rw [Int.toNat_natCast,hmd]
  have hme : meets n.marks s n.inc (n.asks + 1) = (decide (mk.inc ≤ n.inc) && !metYet (newer mk n.inc) (n.asks + 1)) := by unfold meets;rw [Int.toNat_natCast,hmd]
  refine SUB.v2 (bb (meets n.marks s n.inc (n.asks + 1))) (L (meetL n.marks s n.inc (n.asks + 1))) ?_ ?_
  · rw [hml2,hme]
    simp (disch:=first|omega|assumption|(constructor<;>first|assumption|omega)|simp only[LN];omega) only [↓SB,S1,↓K_ref19_Begin,cell_L hmk]
    refine ⟨fun hgt => ?_,fun hle => ⟨fun hlt => ?_,fun hge => ?_⟩⟩
    · have e : decide (mk.inc ≤ n.inc) = false := by simp;omega
      simp [e]
    · have e : newer mk n.inc = ⟨n.inc,0,0⟩ := by unfold newer;rw [if_pos hlt]
      have hsz := (List.getElem?_eq_some_iff.1 hmk).1
      have h1 : (n.marks.set s ⟨n.inc,mk.pubs,mk.met⟩)[s]? = some ⟨n.inc,mk.pubs,mk.met⟩ := by simp [hsz]
      have h2 : ((n.marks.set s ⟨n.inc,mk.pubs,mk.met⟩).set s ⟨n.inc,0,mk.met⟩)[s]? = some ⟨n.inc,0,mk.met⟩ := by simp [hsz]
      have h3 : (n.marks.set s ⟨n.inc,0,0⟩)[s]? = some ⟨n.inc,0,0⟩ := by simp [hsz]
      rw [OP_set hmk (y := ⟨n.inc,mk.pubs,mk.met⟩) rfl,OP_set h1 (y := ⟨n.inc,0,mk.met⟩) rfl,OP_set h2 (y := ⟨n.inc,0,0⟩) rfl,List.set_set,List.set_set,e]
      simp (disch:=first|omega|assumption|(constructor<;>first|assumption|omega)|simp only[LN];omega) only [↓SB,S1,↓K_ref19_Begin,cell_L h3]
      have hz : (0 : Int) / 2 ^ (n.asks + 1).toNat % 2 = 0 := by simp
      rw [OP_shr (by omega) (by omega)]
      rw [OP_remI (by simp) (by omega),hz]
      simp (disch:=first|omega|assumption|(constructor<;>first|assumption|omega)|simp only[LN];omega) only [↓SB,S1,↓K_ref19_Begin]
      rw [OP_shl (by omega) (by omega)]
      have hpw := pow2_bd (n.asks + 1) (by omega) (by omega)
      simp (disch:=first|omega|assumption|(constructor<;>first|assumption|omega)|simp only[LN];omega) only [↓SB,S1,↓K_ref19_Begin]
      rw [OP_set h3 (y := ⟨n.inc,0,0 + 2 ^ (n.asks + 1).toNat⟩) rfl,List.set_set]
      have e5 : decide (mk.inc ≤ n.inc) = true := by simp;omega
      simp [e5,metYet]
    · have e : newer mk n.inc = mk := by unfold newer;rw [if_neg hge]
      rw [OP_shr (by omega) (by omega),OP_remI (Int.ediv_nonneg hmb.1 (Int.le_of_lt (Int.pow_pos (by decide)))) (by omega),e]
      simp (disch:=first|omega|assumption|(constructor<;>first|assumption|omega)|simp only[LN];omega) only [↓SB,S1,↓K_ref19_Begin]
      have e5 : decide (mk.inc ≤ n.inc) = true := by simp;omega
      refine ⟨fun hm => by simp [e5,metYet,hm],fun hm => ?_⟩
      rw [OP_shl (by omega) (by omega)]
      have hpw := pow2_bd (n.asks + 1) (by omega) (by omega)
      simp (disch:=first|omega|assumption|(constructor<;>first|assumption|omega)|simp only[LN];omega) only [↓SB,S1,↓K_ref19_Begin]
      rw [OP_set hmk (y := { mk with met := mk.met + 2 ^ (n.asks + 1).toNat }) rfl]
      simp [e5,metYet,hm]
  have hcl2 : (n.calls ++ [(⟨n.asks + 1,t,0⟩ : Call)]).length ≤ 100 := by simp;omega
  have HD : DoesOk (s : Int) (⟨n.up,n.inc,n.peers,n.topics,n.calls ++ [⟨n.asks + 1,t,0⟩],n.pubs,n.asks + 1,meetL n.marks s n.inc (n.asks + 1),n.taken⟩ : Node) t := does_of hc hsr H ht0 rfl rfl hcl2 (by show n.taken.length ≤ 100;omega)
  dsimp only at hE
  have hcb : 1 ≤ n.asks + 1 ∧ n.asks + 1 ≤ 40 := by omega
  generalize n.calls ++ [(⟨n.asks + 1,t,0⟩ : Call)] = calls at hE HD hcl2 ⊢
  generalize hcnt : n.asks + 1 = cnt at hE HD hcb ⊢
  generalize meetL n.marks s n.inc cnt = marks at hE HD ⊢
  obtain ⟨h1,h2,h3,h4,h5,h6,h7,h8,h9,h10⟩ := HD
  have hbt := isT_iff.1 h1
  have hs := rng_bd h4
  obtain ⟨k,rfl⟩ := Int.eq_ofNat_of_zero_le hbt.1
  obtain ⟨y,hy⟩ := get_ex (xs := n.topics) (i := k) (by omega)
  have hgd : ∀ (a : Bool) (b : Int) (d : List Peer) (e : List Call) (f g : Int) (i : List Mark) (j : List Mark2),topAt (⟨a,b,d,n.topics,e,f,g,i,j⟩ : Node) k = y := by intros;simp [topAt,List.getD_eq_getElem?_getD,hy]
  have hbc : (calls.length : Int) ≤ 100 := by have := h8;dsimp only at this;omega
  rw [hgd] at h5 h6 h7 h10
  dsimp only at h2 h3 h4 h9
  have hty := tops_get H.tops hy
  have hqok := topic_q hty
  have hkn := kids_nn hty
  generalize hr : visitN c s (⟨n.up,n.inc,n.peers,n.topics,calls,n.pubs,cnt,marks,n.taken⟩ : Node) { msg0 with topic := (k : Int),node := (s : Int),inc := n.inc,count := cnt,value := value } = r at hE
  have hQ : [bb r.1.up,I r.1.inc,L r.1.peers,L r.1.topics,L r.1.calls,I r.1.pubs,I r.1.asks,L r.1.marks,L r.1.taken,L r.2,I cnt,I 0] = [bb q.fst.up,I q.fst.inc,L q.fst.peers,L q.fst.topics,L q.fst.calls,I q.fst.pubs,I q.fst.asks,L q.fst.marks,L q.fst.taken,L q.snd.fst,I q.snd.snd.fst,I q.snd.snd.snd] := by rw [← hE]
  clear hE
  generalize [bb q.fst.up,I q.fst.inc,L q.fst.peers,L q.fst.topics,L q.fst.calls,I q.fst.pubs,I q.fst.asks,L q.fst.marks,L q.fst.taken,L q.snd.fst,I q.snd.snd.fst,I q.snd.snd.snd] = z at hQ ⊢
  simp only [visitN,msg0,hgd,List.nil_append] at hr
  have hcn : rng cnt 1 40 = true := by unfold rng;simp;omega
  cases hsub : y.sub
  · simp (disch:=first|omega|assumption|(constructor<;>first|assumption|omega)|simp only[LN];omega) only [↓SB,S1,↓K_ref19_Begin,cell_L hy,hsub,List.nil_append]
    simp only [hsub,Bool.false_eq_true,if_false] at hr
    rw [todo_more (hgd ..) h7] at hr
    refine LOOP.rule (α := Nat) (fun i => [I i,L ((y.kids.take i).map Kid.node)]) (fun i => i ≤ y.kids.length) (fun i => y.kids.length - i) 0 rfl (by omega) (fun _ => rfl) ?_
    intro i hl9
    simp only [app]
    have hlt9 : ((y.kids.take i).map Kid.node).length ≤ 8 := by simp;omega
    simp (disch:=first|omega|assumption|(constructor<;>first|assumption|omega)|simp only[LN];omega) only [↓SB,S1,↓K_ref19_Begin]
    refine ⟨fun h => ?_,fun h => ?_⟩
    · obtain ⟨u,hu1⟩ := get_ex h
      simp (disch:=first|omega|assumption|(constructor<;>first|assumption|omega)|simp only[LN];omega) only [↓SB,S1,↓K_ref19_Begin,cell_L hu1]
      refine ⟨i + 1,?_,by omega,by omega⟩
      show [PV.int .i64 _,_] = _
      rw [List.take_add_one,hu1];simp
    have hi9 : i = y.kids.length := by omega
    subst hi9
    rw [List.take_length] at hlt9 ⊢
    clear hlt9
    have hkm : (y.kids.map Kid.node).length ≤ 8 := by simp;omega
    refine SUB.v1 (L (y.kids.map Kid.node ++ (if 0 < y.parent then [y.parent - 1] else []))) ?_ ?_
    · simp (disch:=first|omega|assumption|(constructor<;>first|assumption|omega)|simp only[LN];omega) only [↓SB,S1,↓K_ref19_Begin]
      refine ⟨fun h => ?_,fun h => ?_⟩
      · rw [if_pos h]
      · rw [if_neg h,List.append_nil]
    refine SUB.v1 (bb (decide (y.kids = []) && !hasWay y)) ?_ ?_
    · simp (disch:=first|omega|assumption|(constructor<;>first|assumption|omega)|simp only[LN];omega) only [↓SB,S1,↓K_ref19_Begin]
      refine ⟨fun h => ?_,fun h => ?_⟩
      · have : y.kids = [] := List.eq_nil_of_length_eq_zero (by omega)
        simp [this];rfl
      · have : y.kids ≠ [] := by intro h';apply h;rw [h'];rfl
        simp [this]
    have hml9 : (y.kids.map Kid.node ++ (if 0 < y.parent then [y.parent - 1] else [])).length ≤ 9 := by
      rw [List.length_append];split <;> simp <;> omega
    refine SUB.v1 (L (moreL s y n.peers k)) ?_ ?_
    · unfold moreL
      have hpn : n.peers.length ≤ 1000 := by omega
      have hnx := And.intro h1 (live_chk h3 hs.1 (by omega))
      generalize (y.kids.map Kid.node ++ (if 0 < y.parent then [y.parent - 1] else [])) = pre at hml9 ⊢
      cases hka : (decide (y.kids = []) && !hasWay y)
      · rw [if_neg (by rintro ⟨a1,a2,_⟩;rw [a1,a2] at hka;simp at hka),List.append_nil]
        simp (disch:=first|omega|assumption|(constructor<;>first|assumption|omega)|simp only[LN];omega) only [↓SB,S1,↓K_ref19_Begin]
      · simp only [Bool.and_eq_true,decide_eq_true_eq,Bool.not_eq_true'] at hka
        simp (disch:=first|omega|assumption|(constructor<;>first|assumption|omega)|simp only[LN];omega) only [↓SB,S1,↓K_ref19_Begin]
        refine ⟨fun h => ?_,fun h => ?_⟩
        · rw [if_pos (⟨hka.1,hka.2,h⟩ : y.kids = [] ∧ hasWay y = false ∧ _)]
        · rw [if_neg (by rintro ⟨_,_,h'⟩;exact h h'),List.append_nil]
    have hnn := more_nn (self := s) (peers := n.peers) (t := k) hkn h7
    have hnl := more_len (self := s) (peers := n.peers) (t := k) h5
    generalize moreL s y n.peers k = nl at hnl hnn hr ⊢
    generalize hT : todoGo (⟨n.up,n.inc,n.peers,n.topics,calls,n.pubs,cnt,marks,n.taken⟩ : Node) ([(s : Int)]) [] nl = todo at hr
    refine LOOP.rule (α := Nat × List Int) (fun p => [I p.1,L p.2]) (fun p => p.1 ≤ nl.length ∧ p.2.length ≤ 0 + p.1 ∧ todoGo (⟨n.up,n.inc,n.peers,n.topics,calls,n.pubs,cnt,marks,n.taken⟩ : Node) ([(s : Int)]) p.2 (nl.drop p.1) = todo) (fun p => nl.length - p.1) (0,[]) rfl ⟨by simp,by simp <;> omega,by simpa using hT⟩ (fun _ => rfl) ?_
    rintro ⟨i,a⟩ ⟨hi,ha,hs2⟩
    simp only at hi ha hs2
    simp only [app]
    simp (disch:=first|omega|assumption|(constructor<;>first|assumption|omega)|simp only[LN];omega) only [↓SB,S1,↓K_ref19_Begin]
    refine ⟨fun h => ?_,fun h => ?_⟩
    · obtain ⟨w,hw⟩ := get_ex h
      obtain ⟨m,rfl⟩ := Int.eq_ofNat_of_zero_le (hnn w (List.mem_of_getElem? hw))
      rw [drop_eq hw,todoGo] at hs2
      simp (disch:=first|omega|assumption|(constructor<;>first|assumption|omega)|simp only[LN];omega) only [↓SB,S1,↓K_ref19_Begin,cell_L hw]
      refine ⟨fun e0 => ?_,fun e0 => ?_⟩
      · obtain ⟨p,hp9⟩ := get_ex (xs := n.peers) (i := m) (by omega)
        rw [heed_in (n := ⟨n.up,n.inc,n.peers,n.topics,calls,n.pubs,cnt,marks,n.taken⟩) hp9 (peer_inc h3 hp9)] at hs2
        simp (disch:=first|omega|assumption|(constructor<;>first|assumption|omega)|simp only[LN];omega) only [↓SB,S1,↓K_ref19_Begin,cell_L hp9]
        refine ⟨fun e1 => ⟨fun e2 => ⟨fun e3 => ⟨(i + 1,a ++ [(m : Int)]),rfl,⟨by simp;omega,by simp;omega,?_⟩,by simp;omega⟩,fun e3 => ⟨(i + 1,a),rfl,⟨by simp;omega,by simp;omega,?_⟩,by simp;omega⟩⟩,fun e2 => ⟨(i + 1,a),rfl,⟨by simp;omega,by simp;omega,?_⟩,by simp;omega⟩⟩,fun e1 => ⟨(i + 1,a),rfl,⟨by simp;omega,by simp;omega,?_⟩,by simp;omega⟩⟩
        · simp only [e1,e2,e3,decide_true,Bool.not_false,Bool.and_self,if_true] at hs2;exact hs2
        · simp only [e1,e2,e3,decide_true,Bool.not_false,Bool.not_true,Bool.and_false,Bool.false_eq_true,if_false] at hs2;exact hs2
        · simp only [e1,e2,decide_true,Bool.not_false,Bool.not_true,Bool.and_false,Bool.false_and,Bool.false_eq_true,if_false] at hs2;exact hs2
        · rw [decide_eq_false e1] at hs2;simp only [Bool.false_and,Bool.false_eq_true,if_false] at hs2;exact hs2
      · rw [heed_out (n := ⟨n.up,n.inc,n.peers,n.topics,calls,n.pubs,cnt,marks,n.taken⟩) e0] at hs2
        exact ⟨(i + 1,a),rfl,⟨by simp;omega,by simp;omega,by simpa using hs2⟩,by simp;omega⟩
    rw [drop_nil h,todoGo] at hs2
    subst hs2
    unfold goN at hr
    refine SUB.v1 (bb (decide (a = []) || decide (16 ≤ (0 : Int)))) ?_ ?_
    · simp (disch:=first|omega|assumption|(constructor<;>first|assumption|omega)|simp only[LN];omega) only [↓SB,S1,↓K_ref19_Begin]
      refine ⟨fun h => ?_,fun h => ?_⟩
      · have : a = [] := List.eq_nil_of_length_eq_zero (by omega)
        simp [this]
      · have : a ≠ [] := by intro h';apply h;rw [h'];rfl
        simp [this]
    by_cases ha0 : a = []
    · rw [if_pos (.inl ha0)] at hr
      unfold tellN at hr
      rw [if_pos rfl] at hr
      dsimp only at hr
      have hd9 : (decide (a = []) || decide ((16 : Int) ≤ 0)) = true := by rw [ha0];rfl
      simp (disch:=first|omega|assumption|(constructor<;>first|assumption|omega)|simp only[LN];omega) only [↓SB,S1,↓K_ref19_Begin,hd9]
      have hkd : (4 : Int) = 3 ∨ (4 : Int) = 4 := by omega
      have hvE : evOk (⟨4,0,0,0,0,cnt⟩ : Event) = true := by simp [evOk,hcn]
      have hofs : ofStream (⟨4,0,0,0,0,cnt⟩ : Event) = false := rfl
      refine LOOP.rule (α := Nat) (fun i => [I i]) (fun i => i ≤ calls.length ∧ (calls.take i).any (isCall k cnt) = false) (fun i => calls.length - i) 0 rfl ⟨by omega,by simp⟩ (fun _ => rfl) ?_
      rintro i ⟨hi3,hs3⟩
      simp only [app]
      simp (disch:=first|omega|assumption|(constructor<;>first|assumption|omega)|simp only[LN];omega) only [↓SB,S1,↓K_ref19_Begin]
      refine ⟨fun h => ?_,fun h => ?_⟩
      · obtain ⟨u,hu1⟩ := get_ex h
        simp (disch:=first|omega|assumption|(constructor<;>first|assumption|omega)|simp only[LN];omega) only [↓SB,S1,↓K_ref19_Begin,cell_L hu1]
        refine SUB.v1 (bb (isCall k cnt u)) ?_ ?_
        · unfold isCall;repeat' (first | apply And.intro | intro _ | simp (disch:=first|omega|assumption|(constructor<;>first|assumption|omega)|simp only[LN];omega) only [↓SB,S1,↓K_ref19_Begin])
          all_goals simp [*]
        cases hcx : isCall k cnt u
        · simp (disch:=first|omega|assumption|(constructor<;>first|assumption|omega)|simp only[LN];omega) only [↓SB,S1,↓K_ref19_Begin]
          exact ⟨i + 1,rfl,⟨by omega,any_take hs3 hu1 hcx⟩,by omega⟩
        · obtain ⟨e5,e6⟩ := erase_cut hs3 hu1 hcx
          have hl1 : (calls.take i).length ≤ 100 := by simp;omega
          have hl2 : (calls.drop (i + 1)).length ≤ 100 := by simp;omega
          have ei : ((i : Int) + 1).toNat = i + 1 := by omega
          rw [endCall_true (n := ⟨n.up,n.inc,n.peers,n.topics,calls,n.pubs,cnt,marks,n.taken⟩) e6 rfl hy,e5] at hr
          have hpp : y.queue.length ≤ 1000 ∧ 2 ≤ c.queue ∧ c.queue ≤ 32 ∧ _ := ⟨by omega,by omega,by omega,hkd⟩
          simp (disch:=first|omega|assumption|(constructor<;>first|assumption|omega)|simp only[LN];omega) only [↓SB,S1,↓K_ref19_Begin,Int.toNat_natCast,ei,cell_L hy]
          rw [show cutL calls i (i + 1) = calls.take i ++ calls.drop (i + 1) from rfl] at hr
          rw [show evCall cnt (-1) = (⟨4,0,0,0,0,cnt⟩ : Event) from rfl,fit_call hqok hvE hofs] at hr
          refine ⟨fun hroom => ?_,fun hroom => ?_⟩
          · rw [if_pos hroom] at hr ⊢
            rw [OP_set hy (j := 15) (v := L (y.queue ++ [(⟨4,0,0,0,0,cnt⟩ : Event)])) (y := { y with queue := y.queue ++ [(⟨4,0,0,0,0,cnt⟩ : Event)] }) rfl]
            subst hr
            exact hQ
          · rw [if_neg hroom,show ({ y with queue := y.queue } : Topic) = y from rfl,set_same hy] at hr
            subst hr
            exact hQ
      · have hi4 : i = calls.length := by omega
        subst hi4
        rw [List.take_length] at hs3
        rw [endCall_miss (n := ⟨n.up,n.inc,n.peers,n.topics,calls,n.pubs,cnt,marks,n.taken⟩) hs3] at hr
        subst hr
        exact hQ
    · rw [if_neg (by rintro (h | h);exact ha0 h;simp at h)] at hr
      have hane := ha0
      have hd9 : (decide (a = []) || decide ((16 : Int) ≤ 0)) = false := by simp [ha0]
      have hpos : 0 < a.length := List.length_pos_iff.2 hane
      obtain ⟨j,hj⟩ : ∃ j,a.length = j + 1 := ⟨a.length - 1,by omega⟩
      have e1 : ((a.length : Int) - 1) = (j : Nat) := by omega
      obtain ⟨w,hw2⟩ := get_ex (xs := a) (i := j) (by omega)
      have e2 : a.take j = a.dropLast := by rw [List.dropLast_eq_take];congr 1;omega
      have e3 : a.getLastD 0 = w := by
        rw [List.getLastD_eq_getLast?,List.getLast?_eq_getElem?,hj,Nat.add_sub_cancel,hw2];rfl
      have e4 : (a.take j).length ≤ 1000000 := by simp;omega
      simp (disch:=first|omega|assumption|(constructor<;>first|assumption|omega)|simp only[LN];omega) only [↓SB,S1,↓K_ref19_Begin,hd9,e1,cell_L hw2,Int.toNat_natCast,↓OP_rowMsg]
      rw [e3] at hr
      rw [e2]
      subst hr
      exact hQ
  · simp only [hsub,if_true] at hr
    unfold tellN at hr
    rw [if_pos rfl] at hr
    dsimp only at hr
    have e1 : ((n.taken ++ [(⟨s,n.inc,cnt,k,value⟩ : Mark2)]).length : Int) ≤ 101 := by simp;omega
    have e2 : (max (((n.taken ++ [(⟨s,n.inc,cnt,k,value⟩ : Mark2)]).length : Int) - 64) 0).toNat = (n.taken ++ [(⟨s,n.inc,cnt,k,value⟩ : Mark2)]).length - 64 := by omega
    have e3 : (lastN (n.taken ++ [(⟨s,n.inc,cnt,k,value⟩ : Mark2)]) 64).length ≤ 1000000 := by unfold lastN;simp;omega
    simp (disch:=first|omega|assumption|(constructor<;>first|assumption|omega)|simp only[LN];omega) only [↓SB,S1,↓K_ref19_Begin,cell_L hy,hsub]
    rw [e2]
    have hkd : (3 : Int) = 3 ∨ (3 : Int) = 4 := by omega
    have hvE : evOk (⟨3,0,0,0,s,cnt⟩ : Event) = true := by simp [evOk,hcn,isN];omega
    have hofs : ofStream (⟨3,0,0,0,s,cnt⟩ : Event) = false := rfl
    refine LOOP.rule (α := Nat) (fun i => [I i]) (fun i => i ≤ calls.length ∧ (calls.take i).any (isCall k cnt) = false) (fun i => calls.length - i) 0 rfl ⟨by omega,by simp⟩ (fun _ => rfl) ?_
    rintro i ⟨hi3,hs3⟩
    simp only [app]
    simp (disch:=first|omega|assumption|(constructor<;>first|assumption|omega)|simp only[LN];omega) only [↓SB,S1,↓K_ref19_Begin]
    refine ⟨fun h => ?_,fun h => ?_⟩
    · obtain ⟨u,hu1⟩ := get_ex h
      simp (disch:=first|omega|assumption|(constructor<;>first|assumption|omega)|simp only[LN];omega) only [↓SB,S1,↓K_ref19_Begin,cell_L hu1]
      refine SUB.v1 (bb (isCall k cnt u)) ?_ ?_
      · unfold isCall;repeat' (first | apply And.intro | intro _ | simp (disch:=first|omega|assumption|(constructor<;>first|assumption|omega)|simp only[LN];omega) only [↓SB,S1,↓K_ref19_Begin])
        all_goals simp [*]
      cases hcx : isCall k cnt u
      · simp (disch:=first|omega|assumption|(constructor<;>first|assumption|omega)|simp only[LN];omega) only [↓SB,S1,↓K_ref19_Begin]
        exact ⟨i + 1,rfl,⟨by omega,any_take hs3 hu1 hcx⟩,by omega⟩
      · obtain ⟨e5,e6⟩ := erase_cut hs3 hu1 hcx
        have hl1 : (calls.take i).length ≤ 100 := by simp;omega
        have hl2 : (calls.drop (i + 1)).length ≤ 100 := by simp;omega
        have ei : ((i : Int) + 1).toNat = i + 1 := by omega
        rw [endCall_true (n := ⟨n.up,n.inc,n.peers,n.topics,calls,n.pubs,cnt,marks,lastN (n.taken ++ [(⟨s,n.inc,cnt,k,value⟩ : Mark2)]) 64⟩) e6 rfl hy,e5] at hr
        have hpp : y.queue.length ≤ 1000 ∧ 2 ≤ c.queue ∧ c.queue ≤ 32 ∧ _ := ⟨by omega,by omega,by omega,hkd⟩
        simp (disch:=first|omega|assumption|(constructor<;>first|assumption|omega)|simp only[LN];omega) only [↓SB,S1,↓K_ref19_Begin,Int.toNat_natCast,ei,cell_L hy]
        rw [show cutL calls i (i + 1) = calls.take i ++ calls.drop (i + 1) from rfl] at hr
        rw [show evCall cnt s = (⟨3,0,0,0,s,cnt⟩ : Event) from if_pos hs.1,fit_call hqok hvE hofs] at hr
        refine ⟨fun hroom => ?_,fun hroom => ?_⟩
        · rw [if_pos hroom] at hr ⊢
          rw [OP_set hy (j := 15) (v := L (y.queue ++ [(⟨3,0,0,0,s,cnt⟩ : Event)])) (y := { y with queue := y.queue ++ [(⟨3,0,0,0,s,cnt⟩ : Event)] }) rfl]
          subst hr
          exact hQ
        · rw [if_neg hroom,show ({ y with queue := y.queue } : Topic) = y from rfl,set_same hy] at hr
          subst hr
          exact hQ
    · have hi4 : i = calls.length := by omega
      subst hi4
      rw [List.take_length] at hs3
      rw [endCall_miss (n := ⟨n.up,n.inc,n.peers,n.topics,calls,n.pubs,cnt,marks,lastN (n.taken ++ [(⟨s,n.inc,cnt,k,value⟩ : Mark2)]) 64⟩) hs3] at hr
      subst hr
      exact hQ
end Go.Xt
end
section
set_option linter.unusedSimpArgs false
set_option linter.unusedVariables false
set_option maxRecDepth 100000
namespace Go.Xt
set_option linter.defProp false
set_option maxHeartbeats 2000000
def K_ref19_Visit := And.intro @c_bkeep_TwinPeers (And.intro @c_bkeep_TwinTopic (And.intro @c_ref19_has (And.intro @c_bkeep_TwinInts (And.intro @c_ref10_Next (And.intro @c_ref10_HasWay (And.intro @c_ref10_Put (@c_ref10_Live)))))))
theorem w_ref19_Visit (c : Config) (self : Int) (n : Node) (x : Msg) (hp : nodeWhy c self n = 0 ∧ mayVisit c x = true) (hg : Goods [I c.nodes,I c.topics,I c.kids,I c.depth,I c.keep,I c.window,I c.queue,I self,bb n.up,I n.inc,L n.peers,L n.topics,L n.calls,I n.pubs,I n.asks,L n.marks,L n.taken,I x.kind,I x.frm,I x.fromInc,I x.to,I x.toInc,I x.topic,I x.epoch,I x.seq,I x.last,I x.value,I x.node,I x.inc,I x.count,I x.hops,L x.path,L x.todo]) : S_ref19_Visit ρ (I c.nodes) (I c.topics) (I c.kids) (I c.depth) (I c.keep) (I c.window) (I c.queue) (I self) (bb n.up) (I n.inc) (L n.peers) (L n.topics) (L n.calls) (I n.pubs) (I n.asks) (L n.marks) (L n.taken) (I x.kind) (I x.frm) (I x.fromInc) (I x.to) (I x.toInc) (I x.topic) (I x.epoch) (I x.seq) (I x.last) (I x.value) (I x.node) (I x.inc) (I x.count) (I x.hops) (L x.path) (L x.todo) (· = [bb (visitW c self n x).1.up,I (visitW c self n x).1.inc,L (visitW c self n x).1.peers,L (visitW c self n x).1.topics,L (visitW c self n x).1.calls,I (visitW c self n x).1.pubs,I (visitW c self n x).1.asks,L (visitW c self n x).1.marks,L (visitW c self n x).1.taken,L (visitW c self n x).2.1]) := by
  unfold S_ref19_Visit
  simp only [Goods,good_I,good_L] at hg
  obtain ⟨hw,hmv⟩ := hp
  generalize hE : visitW c self n x = q
  unfold visitW at hE
  rw [if_pos hw,if_pos hmv] at hE
  obtain ⟨hc,hsr,hu,H⟩ := why_zero hw
  have hb := cfg_bd hc
  have hsb := rng_bd hsr
  have M := may_iff hmv
  have V := M.v
  have hpl := H.pl;have hml := H.ml;have hkl := H.kl;have hcl := H.cl
  have htl := H.tl
  refine SUB.val [L n.taken,L n.marks,L n.calls,L n.topics,L n.peers] rfl ?_ ?_
  · simp (disch:=first|omega|assumption|(constructor<;>first|assumption|omega)|simp only[LN];omega) only [↓SB,S1,↓K_ref19_Visit]
    refine LOOP.rule (α := Nat) (fun i => [I i,L (n.topics.take i)]) (fun i => i ≤ n.topics.length) (fun i => n.topics.length - i) 0 rfl (by omega) (fun _ => rfl) ?_
    intro i hl
    simp only [app]
    simp (disch:=first|omega|assumption|(constructor<;>first|assumption|omega)|simp only[LN];omega) only [↓SB,S1,↓K_ref19_Visit]
    refine ⟨fun hcc => ?_,fun hcc => ?_⟩
    · obtain ⟨y,hy⟩ := get_ex hcc
      have hx9 := node_light hc H hy
      have hlt : (n.topics.take i).length = i := by simp;omega
      simp (disch:=first|omega|assumption|(constructor<;>first|assumption|omega)|simp only[LN];omega) only [↓SB,S1,↓K_ref19_Visit,cell_L hy]
      exact ⟨i + 1,by simp [take_one hy],by omega,by omega⟩
    rw [List.take_of_length_le (by omega)]
  simp only [app]
  obtain ⟨a1,hck,a3,a4,_⟩ := msg_any M.ok M.k
  have hlp := way_len a3;have hlt := way_len a4
  simp only [whoseM,Bool.and_eq_true] at a1
  have hhb := rng_bd a1.2
  by_cases hcp0 : x.path.contains self = true
  · rw [if_pos (by rw [hcp0];rfl)] at hE
    simp (disch:=first|omega|assumption|(constructor<;>first|assumption|omega)|simp only[LN];omega) only [↓SB,S1,↓K_ref19_Visit,hcp0]
    rw [← hE];rfl
  have hcp : x.path.contains self = false := by simpa using hcp0
  rw [hcp,Bool.false_or] at hE
  simp (disch:=first|omega|assumption|(constructor<;>first|assumption|omega)|simp only[LN];omega) only [↓SB,S1,↓K_ref19_Visit,hcp]
  have hob := rng_bd M.n
  have hcb := rng_bd V.k
  obtain ⟨s,hs0⟩ := Int.eq_ofNat_of_zero_le hob.1
  obtain ⟨mk,hmk⟩ := get_ex (xs := n.marks) (i := s) (by omega)
  have hmd : n.marks.getD s mark0 = mk := by simp [List.getD_eq_getElem?_getD,hmk]
  have hmb := mark_bd H.marks hmk
  have hml2 : meetL n.marks x.node x.inc x.count = if meets n.marks x.node x.inc x.count = true then n.marks.set s { newer mk x.inc with met := (newer mk x.inc).met + 2 ^ x.count.toNat } else n.marks := by
    unfold meetL;rw [hs0,Int.toNat_natCast,hmd]
  have hme : meets n.marks x.node x.inc x.count = (decide (mk.inc ≤ x.inc) && !metYet (newer mk x.inc) x.count) := by unfold meets;rw [hs0,Int.toNat_natCast,hmd]
  have hsz := (List.getElem?_eq_some_iff.1 hmk).1
  have hnk : (n.marks.set s (newer mk x.inc))[s]? = some (newer mk x.inc) := by simp [hsz]
  have hnm : 0 ≤ (newer mk x.inc).met ∧ (newer mk x.inc).met ≤ 2199023255551 := by
    unfold newer;split
    · simp
    · exact hmb
  refine SUB.v3 (bb (meets n.marks x.node x.inc x.count)) (bb (!meets n.marks x.node x.inc x.count)) (L (if mk.inc ≤ x.inc then (if meets n.marks x.node x.inc x.count = true then meetL n.marks x.node x.inc x.count else n.marks.set s (newer mk x.inc)) else n.marks)) ?_ ?_
  · rw [hml2,hme,hs0]
    simp (disch:=first|omega|assumption|(constructor<;>first|assumption|omega)|simp only[LN];omega) only [↓SB,S1,↓K_ref19_Visit,cell_L hmk]
    refine ⟨fun hgt => ?_,fun hle => ?_⟩
    · have e : decide (mk.inc ≤ x.inc) = false := by simp;omega
      rw [if_neg (by omega)]
      simp [e]
    rw [if_pos (show mk.inc ≤ x.inc by omega)]
    refine SUB.v1 (L (n.marks.set s (newer mk x.inc))) ?_ ?_
    · refine ⟨fun hlt => ?_,fun hge => ?_⟩
      · have e : newer mk x.inc = ⟨x.inc,0,0⟩ := by unfold newer;rw [if_pos hlt]
        have h1 : (n.marks.set s ⟨x.inc,mk.pubs,mk.met⟩)[s]? = some ⟨x.inc,mk.pubs,mk.met⟩ := by simp [hsz]
        have h2 : ((n.marks.set s ⟨x.inc,mk.pubs,mk.met⟩).set s ⟨x.inc,0,mk.met⟩)[s]? = some ⟨x.inc,0,mk.met⟩ := by simp [hsz]
        rw [OP_set hmk (y := ⟨x.inc,mk.pubs,mk.met⟩) rfl,OP_set h1 (y := ⟨x.inc,0,mk.met⟩) rfl,OP_set h2 (y := ⟨x.inc,0,0⟩) rfl,e]
        simp
      · have e : newer mk x.inc = mk := by unfold newer;rw [if_neg hge]
        rw [e,set_same hmk]
    simp (disch:=first|omega|assumption|(constructor<;>first|assumption|omega)|simp only[LN];omega) only [↓SB,S1,↓K_ref19_Visit,cell_L hnk]
    rw [OP_shr (by omega) (by omega),OP_remI (Int.ediv_nonneg hnm.1 (Int.le_of_lt (Int.pow_pos (by decide)))) (by omega)]
    simp (disch:=first|omega|assumption|(constructor<;>first|assumption|omega)|simp only[LN];omega) only [↓SB,S1,↓K_ref19_Visit]
    have e5 : decide (mk.inc ≤ x.inc) = true := by simp;omega
    refine ⟨fun hm => ?_,fun hm => ?_⟩
    · simp [e5,metYet,hm]
    · rw [OP_shl (by omega) (by omega)]
      have hpw := pow2_bd x.count (by omega) (by omega)
      simp (disch:=first|omega|assumption|(constructor<;>first|assumption|omega)|simp only[LN];omega) only [↓SB,S1,↓K_ref19_Visit]
      rw [OP_set hnk (y := { newer mk x.inc with met := (newer mk x.inc).met + 2 ^ x.count.toNat }) rfl,List.set_set]
      simp [e5,metYet,hm]
  cases hmt : meets n.marks x.node x.inc x.count
  · rw [hmt,if_pos (by simp)] at hE
    simp (disch:=first|omega|assumption|(constructor<;>first|assumption|omega)|simp only[LN];omega) only [↓SB,S1,↓K_ref19_Visit]
    refine LOOP.rule (α := Nat) (fun i => [I i,L (n.topics.take i)]) (fun i => i ≤ n.topics.length) (fun i => n.topics.length - i) 0 rfl (by omega) (fun _ => rfl) ?_
    intro i hl
    simp only [app]
    simp (disch:=first|omega|assumption|(constructor<;>first|assumption|omega)|simp only[LN];omega) only [↓SB,S1,↓K_ref19_Visit]
    refine ⟨fun hcc => ?_,fun hcc => ?_⟩
    · obtain ⟨y,hy⟩ := get_ex hcc
      have hx9 := node_light hc H hy
      have hlt : (n.topics.take i).length = i := by simp;omega
      simp (disch:=first|omega|assumption|(constructor<;>first|assumption|omega)|simp only[LN];omega) only [↓SB,S1,↓K_ref19_Visit,cell_L hy]
      exact ⟨i + 1,by simp [take_one hy],by omega,by omega⟩
    rw [List.take_of_length_le (by omega)]
    rw [← hE];rfl
  rw [hmt,if_neg (by simp)] at hE
  have hds := does_of (m := { n with marks := meetL n.marks x.node x.inc x.count }) hc hsr H M.t rfl rfl (by show n.calls.length ≤ 100;omega) (by show n.taken.length ≤ 100;omega)
  have hle : mk.inc ≤ x.inc := by rw [hmt] at hme;refine Decidable.byContradiction fun h => ?_;rw [decide_eq_false h] at hme;simp at hme
  rw [if_pos hle,if_pos rfl]
  generalize meetL n.marks x.node x.inc x.count = marks at hE hds ⊢
  obtain ⟨h1,h2,h3,h4,h5,h6,h7,h8,h9,h10⟩ := hds
  have hs := rng_bd h4
  have htb := rng_bd M.t
  obtain ⟨k,hkk⟩ := Int.eq_ofNat_of_zero_le htb.1
  obtain ⟨y,hy⟩ := get_ex (xs := n.topics) (i := k) (by omega)
  have hgd : ∀ (a : Bool) (b : Int) (d : List Peer) (e : List Call) (f g : Int) (i : List Mark) (j : List Mark2),topAt (⟨a,b,d,n.topics,e,f,g,i,j⟩ : Node) k = y := by intros;simp [topAt,List.getD_eq_getElem?_getD,hy]
  have hbc : (n.calls.length : Int) ≤ 100 := by omega
  rw [hkk] at h1 h2 h5 h6 h7 h10
  rw [hgd] at h5 h6 h7 h10
  dsimp only at h2 h3 h4 h9
  have hty := tops_get H.tops hy
  have hqok := topic_q hty
  have hkn := kids_nn hty
  generalize hr : visitN c self (⟨n.up,n.inc,n.peers,n.topics,n.calls,n.pubs,n.asks,marks,n.taken⟩ : Node) x = r at hE
  have hQ : [bb r.1.up,I r.1.inc,L r.1.peers,L r.1.topics,L r.1.calls,I r.1.pubs,I r.1.asks,L r.1.marks,L r.1.taken,L r.2] = [bb q.1.up,I q.1.inc,L q.1.peers,L q.1.topics,L q.1.calls,I q.1.pubs,I q.1.asks,L q.1.marks,L q.1.taken,L q.2.1] := by rw [← hE]
  clear hE
  generalize [bb q.1.up,I q.1.inc,L q.1.peers,L q.1.topics,L q.1.calls,I q.1.pubs,I q.1.asks,L q.1.marks,L q.1.taken,L q.2.1] = z at hQ ⊢
  simp only [visitN,msg0,hkk,hgd] at hr
  rw [hkk]
  cases hsub : y.sub
  · have hpl2 : x.path.length ≤ 1000000 := by omega
    have htl2 : x.todo.length ≤ 1000000 := by omega
    simp (disch:=first|omega|assumption|(constructor<;>first|assumption|omega)|simp only[LN];omega) only [↓SB,S1,↓K_ref19_Visit,cell_L hy,hsub]
    simp only [hsub,Bool.false_eq_true,if_false] at hr
    rw [todo_more (hgd ..) h7] at hr
    refine LOOP.rule (α := Nat) (fun i => [I i,L ((y.kids.take i).map Kid.node)]) (fun i => i ≤ y.kids.length) (fun i => y.kids.length - i) 0 rfl (by omega) (fun _ => rfl) ?_
    intro i hl9
    simp only [app]
    have hlt9 : ((y.kids.take i).map Kid.node).length ≤ 8 := by simp;omega
    simp (disch:=first|omega|assumption|(constructor<;>first|assumption|omega)|simp only[LN];omega) only [↓SB,S1,↓K_ref19_Visit]
    refine ⟨fun h => ?_,fun h => ?_⟩
    · obtain ⟨u,hu1⟩ := get_ex h
      simp (disch:=first|omega|assumption|(constructor<;>first|assumption|omega)|simp only[LN];omega) only [↓SB,S1,↓K_ref19_Visit,cell_L hu1]
      refine ⟨i + 1,?_,by omega,by omega⟩
      show [PV.int .i64 _,_] = _
      rw [List.take_add_one,hu1];simp
    have hi9 : i = y.kids.length := by omega
    subst hi9
    rw [List.take_length] at hlt9 ⊢
    clear hlt9
    have hkm : (y.kids.map Kid.node).length ≤ 8 := by simp;omega
    refine SUB.v1 (L (y.kids.map Kid.node ++ (if 0 < y.parent then [y.parent - 1] else []))) ?_ ?_
    · simp (disch:=first|omega|assumption|(constructor<;>first|assumption|omega)|simp only[LN];omega) only [↓SB,S1,↓K_ref19_Visit]
      refine ⟨fun h => ?_,fun h => ?_⟩
      · rw [if_pos h]
      · rw [if_neg h,List.append_nil]
    refine SUB.v1 (bb (decide (y.kids = []) && !hasWay y)) ?_ ?_
    · simp (disch:=first|omega|assumption|(constructor<;>first|assumption|omega)|simp only[LN];omega) only [↓SB,S1,↓K_ref19_Visit]
      refine ⟨fun h => ?_,fun h => ?_⟩
      · have : y.kids = [] := List.eq_nil_of_length_eq_zero (by omega)
        simp [this];rfl
      · have : y.kids ≠ [] := by intro h';apply h;rw [h'];rfl
        simp [this]
    have hml9 : (y.kids.map Kid.node ++ (if 0 < y.parent then [y.parent - 1] else [])).length ≤ 9 := by
      rw [List.length_append];split <;> simp <;> omega
    refine SUB.v1 (L (moreL self y n.peers k)) ?_ ?_
    · unfold moreL
      have hpn : n.peers.length ≤ 1000 := by omega
      have hnx := And.intro h1 (live_chk h3 hs.1 (by omega))
      generalize (y.kids.map Kid.node ++ (if 0 < y.parent then [y.parent - 1] else [])) = pre at hml9 ⊢
      cases hka : (decide (y.kids = []) && !hasWay y)
      · rw [if_neg (by rintro ⟨a1,a2,_⟩;rw [a1,a2] at hka;simp at hka),List.append_nil]
        simp (disch:=first|omega|assumption|(constructor<;>first|assumption|omega)|simp only[LN];omega) only [↓SB,S1,↓K_ref19_Visit]
      · simp only [Bool.and_eq_true,decide_eq_true_eq,Bool.not_eq_true'] at hka
        simp (disch:=first|omega|assumption|(constructor<;>first|assumption|omega)|simp only[LN];omega) only [↓SB,S1,↓K_ref19_Visit]
        refine ⟨fun h => ?_,fun h => ?_⟩
        · rw [if_pos (⟨hka.1,hka.2,h⟩ : y.kids = [] ∧ hasWay y = false ∧ _)]
        · rw [if_neg (by rintro ⟨_,_,h'⟩;exact h h'),List.append_nil]
    have hnn := more_nn (self := self) (peers := n.peers) (t := k) hkn h7
    have hnl := more_len (self := self) (peers := n.peers) (t := k) h5
    generalize moreL self y n.peers k = nl at hnl hnn hr ⊢
    generalize hT : todoGo (⟨n.up,n.inc,n.peers,n.topics,n.calls,n.pubs,n.asks,marks,n.taken⟩ : Node) (x.path ++ [self]) x.todo nl = todo at hr
    refine LOOP.rule (α := Nat × List Int) (fun p => [I p.1,L p.2]) (fun p => p.1 ≤ nl.length ∧ p.2.length ≤ 8 + p.1 ∧ todoGo (⟨n.up,n.inc,n.peers,n.topics,n.calls,n.pubs,n.asks,marks,n.taken⟩ : Node) (x.path ++ [self]) p.2 (nl.drop p.1) = todo) (fun p => nl.length - p.1) (0,x.todo) rfl ⟨by simp,by simp <;> omega,by simpa using hT⟩ (fun _ => rfl) ?_
    rintro ⟨i,a⟩ ⟨hi,ha,hs2⟩
    simp only at hi ha hs2
    simp only [app]
    simp (disch:=first|omega|assumption|(constructor<;>first|assumption|omega)|simp only[LN];omega) only [↓SB,S1,↓K_ref19_Visit]
    refine ⟨fun h => ?_,fun h => ?_⟩
    · obtain ⟨w,hw⟩ := get_ex h
      obtain ⟨m,rfl⟩ := Int.eq_ofNat_of_zero_le (hnn w (List.mem_of_getElem? hw))
      rw [drop_eq hw,todoGo] at hs2
      simp (disch:=first|omega|assumption|(constructor<;>first|assumption|omega)|simp only[LN];omega) only [↓SB,S1,↓K_ref19_Visit,cell_L hw]
      refine ⟨fun e0 => ?_,fun e0 => ?_⟩
      · obtain ⟨p,hp9⟩ := get_ex (xs := n.peers) (i := m) (by omega)
        rw [heed_in (n := ⟨n.up,n.inc,n.peers,n.topics,n.calls,n.pubs,n.asks,marks,n.taken⟩) hp9 (peer_inc h3 hp9)] at hs2
        simp (disch:=first|omega|assumption|(constructor<;>first|assumption|omega)|simp only[LN];omega) only [↓SB,S1,↓K_ref19_Visit,cell_L hp9]
        refine ⟨fun e1 => ⟨fun e2 => ⟨fun e3 => ⟨(i + 1,a ++ [(m : Int)]),rfl,⟨by simp;omega,by simp;omega,?_⟩,by simp;omega⟩,fun e3 => ⟨(i + 1,a),rfl,⟨by simp;omega,by simp;omega,?_⟩,by simp;omega⟩⟩,fun e2 => ⟨(i + 1,a),rfl,⟨by simp;omega,by simp;omega,?_⟩,by simp;omega⟩⟩,fun e1 => ⟨(i + 1,a),rfl,⟨by simp;omega,by simp;omega,?_⟩,by simp;omega⟩⟩
        · simp only [e1,e2,e3,decide_true,Bool.not_false,Bool.and_self,if_true] at hs2;exact hs2
        · simp only [e1,e2,e3,decide_true,Bool.not_false,Bool.not_true,Bool.and_false,Bool.false_eq_true,if_false] at hs2;exact hs2
        · simp only [e1,e2,decide_true,Bool.not_false,Bool.not_true,Bool.and_false,Bool.false_and,Bool.false_eq_true,if_false] at hs2;exact hs2
        · rw [decide_eq_false e1] at hs2;simp only [Bool.false_and,Bool.false_eq_true,if_false] at hs2;exact hs2
      · rw [heed_out (n := ⟨n.up,n.inc,n.peers,n.topics,n.calls,n.pubs,n.asks,marks,n.taken⟩) e0] at hs2
        exact ⟨(i + 1,a),rfl,⟨by simp;omega,by simp;omega,by simpa using hs2⟩,by simp;omega⟩
    rw [drop_nil h,todoGo] at hs2
    subst hs2
    unfold goN at hr
    refine SUB.v1 (bb (decide (a = []) || decide (16 ≤ x.hops))) ?_ ?_
    · simp (disch:=first|omega|assumption|(constructor<;>first|assumption|omega)|simp only[LN];omega) only [↓SB,S1,↓K_ref19_Visit]
      refine ⟨fun h => ?_,fun h => ?_⟩
      · have : a = [] := List.eq_nil_of_length_eq_zero (by omega)
        simp [this]
      · have : a ≠ [] := by intro h';apply h;rw [h'];rfl
        simp [this]
    by_cases ha0 : a = [] ∨ 16 ≤ x.hops
    · rw [if_pos ha0] at hr
      have hd9 : (decide (a = []) || decide (16 ≤ x.hops)) = true := by simpa using ha0
      simp (disch:=first|omega|assumption|(constructor<;>first|assumption|omega)|simp only[LN];omega) only [↓SB,S1,↓K_ref19_Visit,hd9]
      unfold tellN at hr
      rw [hkk] at hr
      by_cases hns : x.node = self
      · rw [if_pos hns] at hr
        try rw [hns] at hr
        simp (disch:=first|omega|assumption|(constructor<;>first|assumption|omega)|simp only[LN];omega) only [↓SB,S1,↓K_ref19_Visit,hns]
        generalize x.count = cnt at hr hcb hck ⊢
        have hkd : (4 : Int) = 3 ∨ (4 : Int) = 4 := by omega
        have hvE : evOk (⟨4,0,0,0,0,cnt⟩ : Event) = true := by simp [evOk,hck,isN] <;> omega
        have hofs : ofStream (⟨4,0,0,0,0,cnt⟩ : Event) = false := rfl
        refine LOOP.rule (α := Nat) (fun i => [I i]) (fun i => i ≤ n.calls.length ∧ (n.calls.take i).any (isCall k cnt) = false) (fun i => n.calls.length - i) 0 rfl ⟨by omega,by simp⟩ (fun _ => rfl) ?_
        rintro i ⟨hi3,hs3⟩
        simp only [app]
        simp (disch:=first|omega|assumption|(constructor<;>first|assumption|omega)|simp only[LN];omega) only [↓SB,S1,↓K_ref19_Visit]
        refine ⟨fun h => ?_,fun h => ?_⟩
        · obtain ⟨u,hu1⟩ := get_ex h
          simp (disch:=first|omega|assumption|(constructor<;>first|assumption|omega)|simp only[LN];omega) only [↓SB,S1,↓K_ref19_Visit,cell_L hu1]
          refine SUB.v1 (bb (isCall k cnt u)) ?_ ?_
          · unfold isCall;repeat' (first | apply And.intro | intro _ | simp (disch:=first|omega|assumption|(constructor<;>first|assumption|omega)|simp only[LN];omega) only [↓SB,S1,↓K_ref19_Visit])
            all_goals simp [*]
          cases hcx : isCall k cnt u
          · simp (disch:=first|omega|assumption|(constructor<;>first|assumption|omega)|simp only[LN];omega) only [↓SB,S1,↓K_ref19_Visit]
            exact ⟨i + 1,rfl,⟨by omega,any_take hs3 hu1 hcx⟩,by omega⟩
          · obtain ⟨e5,e6⟩ := erase_cut hs3 hu1 hcx
            have hl1 : (n.calls.take i).length ≤ 100 := by simp;omega
            have hl2 : (n.calls.drop (i + 1)).length ≤ 100 := by simp;omega
            have ei : ((i : Int) + 1).toNat = i + 1 := by omega
            rw [endCall_true (n := ⟨n.up,n.inc,n.peers,n.topics,n.calls,n.pubs,n.asks,marks,n.taken⟩) e6 rfl hy,e5] at hr
            have hpp : y.queue.length ≤ 1000 ∧ 2 ≤ c.queue ∧ c.queue ≤ 32 ∧ _ := ⟨by omega,by omega,by omega,hkd⟩
            simp (disch:=first|omega|assumption|(constructor<;>first|assumption|omega)|simp only[LN];omega) only [↓SB,S1,↓K_ref19_Visit,Int.toNat_natCast,ei,cell_L hy]
            rw [show cutL n.calls i (i + 1) = n.calls.take i ++ n.calls.drop (i + 1) from rfl] at hr
            rw [show evCall cnt (-1) = (⟨4,0,0,0,0,cnt⟩ : Event) from rfl,fit_call hqok hvE hofs] at hr
            refine ⟨fun hroom => ?_,fun hroom => ?_⟩
            · rw [if_pos hroom] at hr ⊢
              rw [OP_set hy (j := 15) (v := L (y.queue ++ [(⟨4,0,0,0,0,cnt⟩ : Event)])) (y := { y with queue := y.queue ++ [(⟨4,0,0,0,0,cnt⟩ : Event)] }) rfl]
              subst hr
              exact hQ
            · rw [if_neg hroom,show ({ y with queue := y.queue } : Topic) = y from rfl,set_same hy] at hr
              subst hr
              exact hQ
        · have hi4 : i = n.calls.length := by omega
          subst hi4
          rw [List.take_length] at hs3
          rw [endCall_miss (n := ⟨n.up,n.inc,n.peers,n.topics,n.calls,n.pubs,n.asks,marks,n.taken⟩) hs3] at hr
          subst hr
          exact hQ
      · rw [if_neg hns] at hr
        rw [if_neg (by omega)] at hr
        simp (disch:=first|omega|assumption|(constructor<;>first|assumption|omega)|simp only[LN];omega) only [↓SB,S1,↓K_ref19_Visit,hns,↓OP_rowMsg0]
        subst hr
        exact hQ
    · rw [if_neg ha0] at hr
      have hd9 : (decide (a = []) || decide (16 ≤ x.hops)) = false := by simpa using ha0
      have hane : a ≠ [] := fun h => ha0 (.inl h)
      have hpos : 0 < a.length := List.length_pos_iff.2 hane
      obtain ⟨j,hj⟩ : ∃ j,a.length = j + 1 := ⟨a.length - 1,by omega⟩
      have e1 : ((a.length : Int) - 1) = (j : Nat) := by omega
      obtain ⟨w,hw2⟩ := get_ex (xs := a) (i := j) (by omega)
      have e2 : a.take j = a.dropLast := by rw [List.dropLast_eq_take];congr 1;omega
      have e3 : a.getLastD 0 = w := by
        rw [List.getLastD_eq_getLast?,List.getLast?_eq_getElem?,hj,Nat.add_sub_cancel,hw2];rfl
      have e4 : (a.take j).length ≤ 1000000 := by simp;omega
      simp (disch:=first|omega|assumption|(constructor<;>first|assumption|omega)|simp only[LN];omega) only [↓SB,S1,↓K_ref19_Visit,hd9,e1,cell_L hw2,Int.toNat_natCast,↓OP_rowMsg]
      rw [e3,hkk] at hr
      rw [e2]
      subst hr
      exact hQ
  · simp only [hsub,if_true] at hr
    have e1 : ((n.taken ++ [(⟨x.node,x.inc,x.count,k,x.value⟩ : Mark2)]).length : Int) ≤ 101 := by simp;omega
    have e2 : (max (((n.taken ++ [(⟨x.node,x.inc,x.count,k,x.value⟩ : Mark2)]).length : Int) - 64) 0).toNat = (n.taken ++ [(⟨x.node,x.inc,x.count,k,x.value⟩ : Mark2)]).length - 64 := by omega
    simp (disch:=first|omega|assumption|(constructor<;>first|assumption|omega)|simp only[LN];omega) only [↓SB,S1,↓K_ref19_Visit,cell_L hy,hsub]
    rw [e2]
    unfold tellN at hr
    rw [hkk] at hr
    by_cases hns : x.node = self
    · rw [if_pos hns] at hr
      try rw [hns] at hr
      simp (disch:=first|omega|assumption|(constructor<;>first|assumption|omega)|simp only[LN];omega) only [↓SB,S1,↓K_ref19_Visit,hns]
      generalize x.count = cnt at hr hcb hck ⊢
      have hkd : (3 : Int) = 3 ∨ (3 : Int) = 4 := by omega
      have hvE : evOk (⟨3,0,0,0,self,cnt⟩ : Event) = true := by simp [evOk,hck,isN] <;> omega
      have hofs : ofStream (⟨3,0,0,0,self,cnt⟩ : Event) = false := rfl
      refine LOOP.rule (α := Nat) (fun i => [I i]) (fun i => i ≤ n.calls.length ∧ (n.calls.take i).any (isCall k cnt) = false) (fun i => n.calls.length - i) 0 rfl ⟨by omega,by simp⟩ (fun _ => rfl) ?_
      rintro i ⟨hi3,hs3⟩
      simp only [app]
      simp (disch:=first|omega|assumption|(constructor<;>first|assumption|omega)|simp only[LN];omega) only [↓SB,S1,↓K_ref19_Visit]
      refine ⟨fun h => ?_,fun h => ?_⟩
      · obtain ⟨u,hu1⟩ := get_ex h
        simp (disch:=first|omega|assumption|(constructor<;>first|assumption|omega)|simp only[LN];omega) only [↓SB,S1,↓K_ref19_Visit,cell_L hu1]
        refine SUB.v1 (bb (isCall k cnt u)) ?_ ?_
        · unfold isCall;repeat' (first | apply And.intro | intro _ | simp (disch:=first|omega|assumption|(constructor<;>first|assumption|omega)|simp only[LN];omega) only [↓SB,S1,↓K_ref19_Visit])
          all_goals simp [*]
        cases hcx : isCall k cnt u
        · simp (disch:=first|omega|assumption|(constructor<;>first|assumption|omega)|simp only[LN];omega) only [↓SB,S1,↓K_ref19_Visit]
          exact ⟨i + 1,rfl,⟨by omega,any_take hs3 hu1 hcx⟩,by omega⟩
        · obtain ⟨e5,e6⟩ := erase_cut hs3 hu1 hcx
          have hl1 : (n.calls.take i).length ≤ 100 := by simp;omega
          have hl2 : (n.calls.drop (i + 1)).length ≤ 100 := by simp;omega
          have ei : ((i : Int) + 1).toNat = i + 1 := by omega
          rw [endCall_true (n := ⟨n.up,n.inc,n.peers,n.topics,n.calls,n.pubs,n.asks,marks,lastN (n.taken ++ [(⟨self,x.inc,cnt,k,x.value⟩ : Mark2)]) 64⟩) e6 rfl hy,e5] at hr
          have hpp : y.queue.length ≤ 1000 ∧ 2 ≤ c.queue ∧ c.queue ≤ 32 ∧ _ := ⟨by omega,by omega,by omega,hkd⟩
          simp (disch:=first|omega|assumption|(constructor<;>first|assumption|omega)|simp only[LN];omega) only [↓SB,S1,↓K_ref19_Visit,Int.toNat_natCast,ei,cell_L hy]
          rw [show cutL n.calls i (i + 1) = n.calls.take i ++ n.calls.drop (i + 1) from rfl] at hr
          rw [show evCall cnt self = (⟨3,0,0,0,self,cnt⟩ : Event) from if_pos hsb.1,fit_call hqok hvE hofs] at hr
          refine ⟨fun hroom => ?_,fun hroom => ?_⟩
          · rw [if_pos hroom] at hr ⊢
            rw [OP_set hy (j := 15) (v := L (y.queue ++ [(⟨3,0,0,0,self,cnt⟩ : Event)])) (y := { y with queue := y.queue ++ [(⟨3,0,0,0,self,cnt⟩ : Event)] }) rfl]
            subst hr
            exact hQ
          · rw [if_neg hroom,show ({ y with queue := y.queue } : Topic) = y from rfl,set_same hy] at hr
            subst hr
            exact hQ
      · have hi4 : i = n.calls.length := by omega
        subst hi4
        rw [List.take_length] at hs3
        rw [endCall_miss (n := ⟨n.up,n.inc,n.peers,n.topics,n.calls,n.pubs,n.asks,marks,lastN (n.taken ++ [(⟨self,x.inc,cnt,k,x.value⟩ : Mark2)]) 64⟩) hs3] at hr
        subst hr
        exact hQ
    · rw [if_neg hns] at hr
      rw [if_pos hsb.1] at hr
      simp (disch:=first|omega|assumption|(constructor<;>first|assumption|omega)|simp only[LN];omega) only [↓SB,S1,↓K_ref19_Visit,hns,↓OP_rowMsg0]
      subst hr
      exact hQ
end Go.Xt
end
section
set_option linter.unusedSimpArgs false
set_option linter.unusedVariables false
set_option maxRecDepth 100000
namespace Go.Xt
set_option linter.defProp false
set_option maxHeartbeats 4000000
def K_law21_CastExact := And.intro @c_law21_Heavy (And.intro @c_law06_Heavy (And.intro @c_cast_Begin (And.intro @c_cast_Visit (And.intro @c_cast_Heard (And.intro @c_ref19_Check (And.intro @c_cast_Check (And.intro @c_bkeep_Node (And.intro @c_law21_wakes (And.intro @c_ref01_Value (And.intro @c_ref19_Begin (And.intro @c_bkeep_Msgs (And.intro @c_ref19_MayVisit (And.intro @c_ref19_Visit (And.intro @c_ref01_Msg (And.intro @c_ref19_Heard (And.intro @c_bkeep_TwinPeers (@c_bkeep_TwinTopic)))))))))))))))))
theorem w_law21_CastExact (c : Config) (self : Int) (n : Node) (t : Int) (value : Int) (x : Msg) (hg : Goods [I c.nodes,I c.topics,I c.kids,I c.depth,I c.keep,I c.window,I c.queue,I self,bb n.up,I n.inc,L n.peers,L n.topics,L n.calls,I n.pubs,I n.asks,L n.marks,L n.taken,I t,I value,I x.kind,I x.frm,I x.fromInc,I x.to,I x.toInc,I x.topic,I x.epoch,I x.seq,I x.last,I x.value,I x.node,I x.inc,I x.count,I x.hops,L x.path,L x.todo]) : S_law21_CastExact ρ (I c.nodes) (I c.topics) (I c.kids) (I c.depth) (I c.keep) (I c.window) (I c.queue) (I self) (bb n.up) (I n.inc) (L n.peers) (L n.topics) (L n.calls) (I n.pubs) (I n.asks) (L n.marks) (L n.taken) (I t) (I value) (I x.kind) (I x.frm) (I x.fromInc) (I x.to) (I x.toInc) (I x.topic) (I x.epoch) (I x.seq) (I x.last) (I x.value) (I x.node) (I x.inc) (I x.count) (I x.hops) (L x.path) (L x.todo) (· = [bb true]) := by
  unfold S_law21_CastExact
  simp only [Goods,good_I,good_L] at hg
  refine SUB.v1 (bb (heavy21 n || (decide (x.path.length > 30) || decide (x.todo.length > 30)))) ?_ ?_
  · repeat' (first | apply And.intro | intro _ | simp (disch:=first|omega|assumption|(constructor<;>first|assumption|omega)|simp only[LN];omega) only [↓SB,S1,↓K_law21_CastExact])
    all_goals simp_all
  by_cases hh0 : (heavy21 n || (decide (x.path.length > 30) || decide (x.todo.length > 30))) = true
  · simp (disch:=first|omega|assumption|(constructor<;>first|assumption|omega)|simp only[LN];omega) only [↓SB,S1,↓K_law21_CastExact,hh0]
  have hh : (heavy21 n || (decide (x.path.length > 30) || decide (x.todo.length > 30))) = false := by simpa using hh0
  simp only [Bool.or_eq_false_iff,decide_eq_false_iff_not] at hh
  obtain ⟨hh1,hh2,hh3⟩ := hh
  have hhb := heavy21_bd hh1
  simp (disch:=first|omega|assumption|(constructor<;>first|assumption|omega)|simp only[LN];omega) only [↓SB,S1,↓K_law21_CastExact,hh0]
  refine LOOP.rule (α := Nat) (fun i => [I i,L (n.topics.take i)]) (fun i => i ≤ n.topics.length) (fun i => n.topics.length - i) 0 rfl (by omega) (fun _ => rfl) ?_
  intro i hl
  simp only [app]
  simp (disch:=first|omega|assumption|(constructor<;>first|assumption|omega)|simp only[LN];omega) only [↓SB,S1,↓K_law21_CastExact]
  refine ⟨fun hcc => ?_,fun hcc => ?_⟩
  · obtain ⟨y,hy⟩ := get_ex hcc
    have hx9 : heavy19 y = false := by simpa using List.any_eq_false.1 hhb.2.2.2.2.2 y (List.mem_of_getElem? hy)
    have hlt : (n.topics.take i).length = i := by simp;omega
    simp (disch:=first|omega|assumption|(constructor<;>first|assumption|omega)|simp only[LN];omega) only [↓SB,S1,↓K_law21_CastExact,cell_L hy]
    exact ⟨i + 1,by simp [take_one hy],by omega,by omega⟩
  rw [List.take_of_length_le (by omega)]
  simp (disch:=first|omega|assumption|(constructor<;>first|assumption|omega)|simp only[LN];omega) only [↓SB,S1,↓K_law21_CastExact,Node.eta]
  have hB1 : nodeWhy c self n = 0 → (rng t 0 (c.topics - 1) && val value) = false → beginN c self n t value = (node0,[],0,1) := by
    intro h1 h2;unfold beginN;rw [if_pos h1,h2,if_neg (by simp)]
  have hB2 : nodeWhy c self n ≠ 0 → beginN c self n t value = (node0,[],0,nodeWhy c self n) := by
    intro h1;unfold beginN;rw [if_neg h1]
  have hV0 : nodeWhy c self n ≠ 0 → visitW c self n x = (node0,[],nodeWhy c self n) := by
    intro h1;unfold visitW;rw [if_neg h1]
  have hV2 : nodeWhy c self n = 0 → mayVisit c x = false → visitW c self n x = (node0,[],1) := by
    intro h1 h2;unfold visitW;rw [if_pos h1,h2,if_neg (by simp)]
  have hV1 : nodeWhy c self n = 0 → mayVisit c x = true → (visitW c self n x).2.2 = 0 := by
    intro h1 h2;unfold visitW;rw [if_pos h1,if_pos h2];split <;> rfl
  have hD0 : nodeWhy c self n ≠ 0 → heardN c self n x = (node0,nodeWhy c self n) := by
    intro h1;unfold heardN;rw [if_neg h1]
  have hD2 : nodeWhy c self n = 0 → (msgOk x && (decide (x.kind = 12) || decide (x.kind = 13)) && decide (x.topic < c.topics)) = false → heardN c self n x = (node0,1) := by
    intro h1 h2;unfold heardN;rw [if_pos h1,h2,if_neg (by simp)]
  have hD1 : nodeWhy c self n = 0 → (msgOk x && (decide (x.kind = 12) || decide (x.kind = 13)) && decide (x.topic < c.topics)) = true → heardN c self n x = (endCall c n x.topic x.count (if x.kind = 12 then x.value else -1),0) := by
    intro h1 h2;unfold heardN;rw [if_pos h1,if_pos h2]
  refine SUB.v1 (bb false) ?_ ?_
  · simp (disch:=first|omega|assumption|(constructor<;>first|assumption|omega)|simp only[LN];omega) only [↓SB,S1,↓K_law21_CastExact]
  simp (disch:=first|omega|assumption|(constructor<;>first|assumption|omega)|simp only[LN];omega) only [↓SB,S1,↓K_law21_CastExact]
  have hpm : cfgOk c = true → cfgOk c = true ∧ x.path.length ≤ 30 ∧ x.todo.length ≤ 30 := fun h => ⟨h,by omega,by omega⟩
  have hpx : x.path.length ≤ 30 ∧ x.todo.length ≤ 30 := ⟨by omega,by omega⟩
  refine ⟨fun hw => ?_,fun hw => ?_⟩
  · rw [hB2 hw,hV0 hw,hD0 hw]
    simp (disch:=first|omega|assumption|(constructor<;>first|assumption|omega)|simp only[LN];omega) only [↓SB,S1,↓K_law21_CastExact,node0]
    simp
  have e9 : decide (x.topic < c.topics) = !decide (c.topics ≤ x.topic) := by by_cases h : c.topics ≤ x.topic <;> simp [h] <;> omega
  have hcm := hpm (why_zero hw).1
  refine SUB.v1 (bb (!(rng t 0 (c.topics - 1) && val value))) ?_ ?_
  · refine ⟨fun h => ?_,fun h => ⟨fun h2 => ?_,fun h2 => ?_⟩⟩
    · have : rng t 0 (c.topics - 1) = false := by unfold rng;simp;omega
      simp [this]
    · have : rng t 0 (c.topics - 1) = false := by unfold rng;simp;omega
      simp [this]
    · have : rng t 0 (c.topics - 1) = true := by unfold rng;simp;omega
      simp [this]
  cases htv : (rng t 0 (c.topics - 1) && val value)
  · rw [hB1 hw htv]
    simp (disch:=first|omega|assumption|(constructor<;>first|assumption|omega)|simp only[LN];omega) only [↓SB,S1,↓K_law21_CastExact]
    refine SUB.v1 (bb false) ?_ ?_
    · simp (disch:=first|omega|assumption|(constructor<;>first|assumption|omega)|simp only[LN];omega) only [↓SB,S1,↓K_law21_CastExact,node0]
      simp
    simp (disch:=first|omega|assumption|(constructor<;>first|assumption|omega)|simp only[LN];omega) only [↓SB,S1,↓K_law21_CastExact]
    cases hmv : mayVisit c x
    · simp (disch:=first|omega|assumption|(constructor<;>first|assumption|omega)|simp only[LN];omega) only [↓SB,S1,↓K_law21_CastExact]
      rw [hV2 hw hmv]
      refine SUB.v1 (bb false) ?_ ?_
      · simp (disch:=first|omega|assumption|(constructor<;>first|assumption|omega)|simp only[LN];omega) only [↓SB,S1,↓K_law21_CastExact,node0]
        simp
      simp (disch:=first|omega|assumption|(constructor<;>first|assumption|omega)|simp only[LN];omega) only [↓SB,S1,↓K_law21_CastExact]
      refine SUB.v1 (bb (!(msgOk x && (decide (x.kind = 12) || decide (x.kind = 13)) && decide (x.topic < c.topics)))) ?_ ?_
      · rw [e9]
        simp (disch:=first|omega|assumption|(constructor<;>first|assumption|omega)|simp only[LN];omega) only [↓SB,S1,↓K_law21_CastExact]
        cases msgOk x <;> by_cases k12 : x.kind = 12 <;> by_cases k13 : x.kind = 13 <;> simp [k12,k13]
      cases hm3 : (msgOk x && (decide (x.kind = 12) || decide (x.kind = 13)) && decide (x.topic < c.topics))
      · rw [hD2 hw hm3]
        simp (disch:=first|omega|assumption|(constructor<;>first|assumption|omega)|simp only[LN];omega) only [↓SB,S1,↓K_law21_CastExact,node0]
      · have hpre := And.intro (⟨self,hw⟩ : ∃ self : Int,nodeWhy c self n = 0) hm3
        rw [hD1 hw hm3]
        simp (disch:=first|omega|assumption|(constructor<;>first|assumption|omega)|simp only[LN];omega) only [↓SB,S1,↓K_law21_CastExact,Node.eta]
    · have e1 := hV1 hw hmv
      have hpv := And.intro hw hmv
      simp (disch:=first|omega|assumption|(constructor<;>first|assumption|omega)|simp only[LN];omega) only [↓SB,S1,↓K_law21_CastExact,e1]
      refine SUB.v1 (bb false) ?_ ?_
      · simp (disch:=first|omega|assumption|(constructor<;>first|assumption|omega)|simp only[LN];omega) only [↓SB,S1,↓K_law21_CastExact,e1,Node.eta]
      simp (disch:=first|omega|assumption|(constructor<;>first|assumption|omega)|simp only[LN];omega) only [↓SB,S1,↓K_law21_CastExact]
      refine SUB.v1 (bb (!(msgOk x && (decide (x.kind = 12) || decide (x.kind = 13)) && decide (x.topic < c.topics)))) ?_ ?_
      · rw [e9]
        simp (disch:=first|omega|assumption|(constructor<;>first|assumption|omega)|simp only[LN];omega) only [↓SB,S1,↓K_law21_CastExact]
        cases msgOk x <;> by_cases k12 : x.kind = 12 <;> by_cases k13 : x.kind = 13 <;> simp [k12,k13]
      cases hm3 : (msgOk x && (decide (x.kind = 12) || decide (x.kind = 13)) && decide (x.topic < c.topics))
      · rw [hD2 hw hm3]
        simp (disch:=first|omega|assumption|(constructor<;>first|assumption|omega)|simp only[LN];omega) only [↓SB,S1,↓K_law21_CastExact,node0]
      · have hpre := And.intro (⟨self,hw⟩ : ∃ self : Int,nodeWhy c self n = 0) hm3
        rw [hD1 hw hm3]
        simp (disch:=first|omega|assumption|(constructor<;>first|assumption|omega)|simp only[LN];omega) only [↓SB,S1,↓K_law21_CastExact,Node.eta]
  · rw [Bool.and_eq_true] at htv
    have hpb : nodeWhy c self n = 0 ∧ rng t 0 (c.topics - 1) = true ∧ val value = true := ⟨hw,htv.1,htv.2⟩
    simp (disch:=first|omega|assumption|(constructor<;>first|assumption|omega)|simp only[LN];omega) only [↓SB,S1,↓K_law21_CastExact]
    refine SUB.v1 (bb false) ?_ ?_
    · simp (disch:=first|omega|assumption|(constructor<;>first|assumption|omega)|simp only[LN];omega) only [↓SB,S1,↓K_law21_CastExact,Node.eta]
    simp (disch:=first|omega|assumption|(constructor<;>first|assumption|omega)|simp only[LN];omega) only [↓SB,S1,↓K_law21_CastExact]
    cases hmv : mayVisit c x
    · simp (disch:=first|omega|assumption|(constructor<;>first|assumption|omega)|simp only[LN];omega) only [↓SB,S1,↓K_law21_CastExact]
      rw [hV2 hw hmv]
      refine SUB.v1 (bb false) ?_ ?_
      · simp (disch:=first|omega|assumption|(constructor<;>first|assumption|omega)|simp only[LN];omega) only [↓SB,S1,↓K_law21_CastExact,node0]
        simp
      simp (disch:=first|omega|assumption|(constructor<;>first|assumption|omega)|simp only[LN];omega) only [↓SB,S1,↓K_law21_CastExact]
      refine SUB.v1 (bb (!(msgOk x && (decide (x.kind = 12) || decide (x.kind = 13)) && decide (x.topic < c.topics)))) ?_ ?_
      · rw [e9]
        simp (disch:=first|omega|assumption|(constructor<;>first|assumption|omega)|simp only[LN];omega) only [↓SB,S1,↓K_law21_CastExact]
        cases msgOk x <;> by_cases k12 : x.kind = 12 <;> by_cases k13 : x.kind = 13 <;> simp [k12,k13]
      cases hm3 : (msgOk x && (decide (x.kind = 12) || decide (x.kind = 13)) && decide (x.topic < c.topics))
      · rw [hD2 hw hm3]
        simp (disch:=first|omega|assumption|(constructor<;>first|assumption|omega)|simp only[LN];omega) only [↓SB,S1,↓K_law21_CastExact,node0]
      · have hpre := And.intro (⟨self,hw⟩ : ∃ self : Int,nodeWhy c self n = 0) hm3
        rw [hD1 hw hm3]
        simp (disch:=first|omega|assumption|(constructor<;>first|assumption|omega)|simp only[LN];omega) only [↓SB,S1,↓K_law21_CastExact,Node.eta]
    · have e1 := hV1 hw hmv
      have hpv := And.intro hw hmv
      simp (disch:=first|omega|assumption|(constructor<;>first|assumption|omega)|simp only[LN];omega) only [↓SB,S1,↓K_law21_CastExact,e1]
      refine SUB.v1 (bb false) ?_ ?_
      · simp (disch:=first|omega|assumption|(constructor<;>first|assumption|omega)|simp only[LN];omega) only [↓SB,S1,↓K_law21_CastExact,e1,Node.eta]
      simp (disch:=first|omega|assumption|(constructor<;>first|assumption|omega)|simp only[LN];omega) only [↓SB,S1,↓K_law21_CastExact]
      refine SUB.v1 (bb (!(msgOk x && (decide (x.kind = 12) || decide (x.kind = 13)) && decide (x.topic < c.topics)))) ?_ ?_
      · rw [e9]
        simp (disch:=first|omega|assumption|(constructor<;>first|assumption|omega)|simp only[LN];omega) only [↓SB,S1,↓K_law21_CastExact]
        cases msgOk x <;> by_cases k12 : x.kind = 12 <;> by_cases k13 : x.kind = 13 <;> simp [k12,k13]
      cases hm3 : (msgOk x && (decide (x.kind = 12) || decide (x.kind = 13)) && decide (x.topic < c.topics))
      · rw [hD2 hw hm3]
        simp (disch:=first|omega|assumption|(constructor<;>first|assumption|omega)|simp only[LN];omega) only [↓SB,S1,↓K_law21_CastExact,node0]
      · have hpre := And.intro (⟨self,hw⟩ : ∃ self : Int,nodeWhy c self n = 0) hm3
        rw [hD1 hw hm3]
        simp (disch:=first|omega|assumption|(constructor<;>first|assumption|omega)|simp only[LN];omega) only [↓SB,S1,↓K_law21_CastExact,Node.eta]
end Go.Xt
end
