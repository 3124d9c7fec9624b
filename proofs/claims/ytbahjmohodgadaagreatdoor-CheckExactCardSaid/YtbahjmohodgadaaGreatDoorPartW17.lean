/- Steps towards the statements of this seat; the conditions stand in each theorem. -/
import Derived.Test.YtbahjmohodgadaaGreatDoorPartW1
section
set_option linter.unusedSimpArgs false
set_option linter.unusedVariables false
set_option maxRecDepth 100000
namespace Go.Xt
theorem blank_topic {c : Config} {t self v : Int} (hc : cfgOk c = true) (hp : place c t self = true) (hv : rng v 0 1073741824 = true) : topicOk c t self { topic0 with top := v } = true := by
  obtain ⟨h1, h2, h3, h4⟩ := place_bd hc hp
  have hb := cfg_bd hc
  have hk : chk t self [] c.depth = 0 := by
    have : c.depth ≤ 8 := by omega
    have : 1 ≤ c.depth := by omega
    have hd : ¬ (([] : List Int).length : Int) > c.depth := by simp; omega
    unfold chk
    rw [if_neg hd]
    simp [h1, h2, *, rises]
  have hq : rng c.queue 2 32 = true := by unfold rng; simp; omega
  have hkk : rng c.kids 1 4 = true := by unfold rng; simp; omega
  have hki : kidsOk t self c.kids [] = true := by
    have : (0 : Int) ≤ c.kids := by omega
    simp [kidsOk, h1, h2, hkk, kidsGo, this]
  have hfl : flowOk c ⟨0, 0, 0, [], []⟩ [] = true := by
    have e1 : (0 : Int) ≤ c.queue := by omega
    have e2 : (0 : Int) < c.queue := by omega
    simp [flowOk, streamOk, streamZ, queueOk, hq, e1, e2]
  simp only [rng, Bool.and_eq_true, decide_eq_true_eq] at hv
  simp [topicOk, topic0, hv, hk, hki, hfl, link, rootOk, placedOk, rng]
theorem blank_topics {c : Config} {self : Int} (hc : cfgOk c = true) (hs : rng self 0 (c.nodes - 1) = true) : ∀ (l : List Topic) (t : Int), 0 ≤ t → t + l.length ≤ c.topics → l.all topZ = true → topicsGo c self t l = true
  | [], _, _, _, _ => rfl
  | x :: r, t, h0, h1, h2 => by
    rw [List.all_cons, Bool.and_eq_true] at h2
    simp only [List.length_cons] at h1
    rw [topicsGo, blank_topics hc hs r (t + 1) (by omega) (by omega) h2.2, Bool.and_true]
    obtain ⟨hx, _⟩ := h2
    simp only [topZ, Bool.and_eq_true, decide_eq_true_eq] at hx
    rw [hx.1]
    exact blank_topic hc (by simp only [place, Bool.and_eq_true]; exact ⟨by unfold rng; simp; omega, hs⟩) hx.2
theorem repl_of_all {α : Type} [DecidableEq α] {z : α} {l : List α} {n : Int} (h : (l.length : Int) = n) (ha : l.all (fun p => decide (p = z)) = true) : l = List.replicate n.toNat z := by
  rw [List.eq_replicate_iff]
  refine ⟨by omega, fun b hb => ?_⟩
  rw [List.all_eq_true] at ha
  simpa using ha b hb
theorem blank_tops {c : Config} {l : List Topic} (h : (l.length : Int) = c.topics) (ha : l.all topZ = true) : l = (List.range c.topics.toNat).map (fun i => { topic0 with top := (l.getD i topic0).top }) := by
  have hk : c.topics.toNat = l.length := by omega
  rw [hk]
  refine List.ext_getElem (by simp) fun i h1 h2 => ?_
  simp only [List.getElem_map, List.getElem_range]
  have h3 : l.getD i topic0 = l[i] := by simp [h1]
  rw [h3]
  rw [List.all_eq_true] at ha
  have := ha l[i] (List.getElem_mem _)
  simp only [topZ, Bool.and_eq_true, decide_eq_true_eq] at this
  exact this.1
theorem topics_top {c : Config} {self : Int} : ∀ (l : List Topic) (t : Int), topicsGo c self t l = true → l.all (fun x => rng x.top 0 1073741824) = true
  | [], _, _ => rfl
  | x :: r, t, h => by
    rw [topicsGo, Bool.and_eq_true] at h
    rw [List.all_cons, topics_top r _ h.2, Bool.and_true]
    have := h.1
    simp only [topicOk, Bool.and_eq_true] at this
    simp_all
theorem down_node {c : Config} {i : Int} {n : Node} (hc : cfgOk c = true) (hs : rng i 0 (c.nodes - 1) = true) (hu : n.up = false) : (nodeOk c i n && decide (n = blankN c n.inc n.topics)) = downOk c n := by
  have hb := cfg_bd hc
  rw [Bool.eq_iff_iff]
  constructor
  · intro h
    simp only [Bool.and_eq_true, decide_eq_true_eq] at h
    obtain ⟨h1, h2⟩ := h
    simp only [nodeOk, Bool.and_eq_true, decide_eq_true_eq] at h1
    obtain ⟨⟨⟨⟨⟨⟨⟨⟨⟨⟨⟨⟨a1, a2⟩, a3⟩, a4⟩, a5⟩, a6⟩, a7⟩, a8⟩, a9⟩, a10⟩, a11⟩, a12⟩, a13⟩ := h1
    rw [Node.eq_iff] at h2
    obtain ⟨b1, b2, b3, b4, b5, b6, b7, b8, b9⟩ := h2
    simp only [blankN] at b3 b4 b5 b6 b7 b8 b9
    have htop : n.topics.all topZ = true := by
      have ht := topics_top _ _ a10
      rw [List.all_eq_true] at ht ⊢
      intro x hx
      simp only [topZ, Bool.and_eq_true, decide_eq_true_eq]
      refine ⟨?_, ht x hx⟩
      rw [b4, List.mem_map] at hx
      obtain ⟨j, _, rfl⟩ := hx
      rfl
    simp only [downOk, Bool.and_eq_true, decide_eq_true_eq]
    refine ⟨⟨⟨⟨⟨⟨⟨⟨⟨⟨a6, a7⟩, a8⟩, b5⟩, b9⟩, b6⟩, b7⟩, ?_⟩, ?_⟩, htop⟩, a1⟩
    · rw [b3]; simp
    · rw [b8]; simp
  · intro h
    simp only [downOk, Bool.and_eq_true, decide_eq_true_eq] at h
    obtain ⟨⟨⟨⟨⟨⟨⟨⟨⟨⟨a6, a7⟩, a8⟩, b5⟩, b9⟩, b6⟩, b7⟩, c1⟩, c2⟩, htop⟩, a1⟩ := h
    simp only [Bool.and_eq_true, decide_eq_true_eq]
    constructor
    · simp only [nodeOk, Bool.and_eq_true, decide_eq_true_eq]
      have hr := rng_bd hs
      refine ⟨⟨⟨⟨⟨⟨⟨⟨⟨⟨⟨⟨a1, by rw [b6]; rfl⟩, by rw [b7]; rfl⟩, by rw [b5]; rfl⟩, by rw [b5]; simp⟩, a6⟩, a7⟩, a8⟩, by rw [b9]; simp⟩, blank_topics hc hs _ _ (by omega) (by omega) htop⟩, ?_⟩, ?_⟩, by rw [b9]; rfl⟩
      · simp only [peersOk, Bool.and_eq_true, decide_eq_true_eq]
        refine ⟨⟨by omega, by omega⟩, ?_⟩
        rw [repl_of_all a6 c1]
        simp [peerOk, rng]
      · rw [repl_of_all a8 c2]
        simp [markOk, rng]
    · rw [Node.eq_iff]
      exact ⟨hu, rfl, repl_of_all a6 c1, blank_tops a7 htop, b5, b6, b7, repl_of_all a8 c2, b9⟩
theorem w_world_Check (c : Config) (w : World) (hg : Goods [I c.nodes, I c.topics, I c.kids, I c.depth, I c.keep, I c.window, I c.queue, L w.nodes, L w.bag]) : S_world_Check ρ (I c.nodes) (I c.topics) (I c.kids) (I c.depth) (I c.keep) (I c.window) (I c.queue) (L w.nodes) (L w.bag) (· = [I (worldWhy c w)]) := by
  unfold S_world_Check
  simp only [Goods, good_L, good_I] at hg
  cases hc : cfgOk c
  · simp (disch := first | omega | assumption | exact ⟨by first | assumption | omega, by first | assumption | omega⟩ | (simp only [List.length_cons, List.length_nil]; omega)) only [↓S0, ↓ITE_bool, S1, eq_self, if_true, if_false, true_implies, false_implies, implies_true, ↓c_script_Config, ↓c_bag_Check, ↓c_cast_Check, ↓c_world_down, hc]
    exact ⟨fun _ => by simp [worldWhy, hc], fun h => absurd h (by decide)⟩
  have hb := cfg_bd hc
  simp (disch := first | omega | assumption | exact ⟨by first | assumption | omega, by first | assumption | omega⟩ | (simp only [List.length_cons, List.length_nil]; omega)) only [↓S0, ↓ITE_bool, S1, eq_self, if_true, if_false, true_implies, false_implies, implies_true, ↓c_script_Config, ↓c_bag_Check, ↓c_cast_Check, ↓c_world_down, hc]
  refine SUB.v1 (bb (!(decide (w.nodes.length = c.nodes) && decide (bagWhy w.bag = 0)))) ?_ ?_
  · repeat' (first | apply And.intro | intro _ | simp (disch := first | omega | assumption | exact ⟨by first | assumption | omega, by first | assumption | omega⟩ | (simp only [List.length_cons, List.length_nil]; omega)) only [↓S0, ↓ITE_bool, S1, eq_self, if_true, if_false, true_implies, false_implies, implies_true, ↓c_script_Config, ↓c_bag_Check, ↓c_cast_Check, ↓c_world_down])
    all_goals simp_all
  have hW : worldWhy c w = if worldOk c w = true then 0 else 1 := by rw [worldWhy, if_pos hc]
  cases hq : (decide ((w.nodes.length : Int) = c.nodes) && decide (bagWhy w.bag = 0))
  · simp (disch := first | omega | assumption | exact ⟨by first | assumption | omega, by first | assumption | omega⟩ | (simp only [List.length_cons, List.length_nil]; omega)) only [↓S0, ↓ITE_bool, S1, eq_self, if_true, if_false, true_implies, false_implies, implies_true, ↓c_script_Config, ↓c_bag_Check, ↓c_cast_Check, ↓c_world_down, hq]
    rw [hW, worldOk, hq]; rfl
  have hO : worldOk c w = nodesGo c 0 w.nodes := by rw [worldOk, hq, Bool.true_and]
  simp (disch := first | omega | assumption | exact ⟨by first | assumption | omega, by first | assumption | omega⟩ | (simp only [List.length_cons, List.length_nil]; omega)) only [↓S0, ↓ITE_bool, S1, eq_self, if_true, if_false, true_implies, false_implies, implies_true, ↓c_script_Config, ↓c_bag_Check, ↓c_cast_Check, ↓c_world_down, hq]
  rw [Bool.and_eq_true, decide_eq_true_eq] at hq
  refine LOOP.rule (α := Nat) (fun i => [I i]) (fun i => i ≤ w.nodes.length ∧ nodesGo c i (w.nodes.drop i) = nodesGo c 0 w.nodes) (fun i => w.nodes.length - i) 0 rfl ⟨by omega, by simp⟩ (fun _ => rfl) ?_
  rintro i ⟨hl, hs⟩
  simp only [app]
  simp (disch := first | omega | assumption | exact ⟨by first | assumption | omega, by first | assumption | omega⟩ | (simp only [List.length_cons, List.length_nil]; omega)) only [↓S0, ↓ITE_bool, S1, eq_self, if_true, if_false, true_implies, false_implies, implies_true, ↓c_script_Config, ↓c_bag_Check, ↓c_cast_Check, ↓c_world_down]
  refine ⟨fun h => ?_, fun h => ?_⟩
  · obtain ⟨n, hn⟩ := get_ex h
    rw [drop_eq hn, nodesGo] at hs
    have hr : rng i 0 (c.nodes - 1) = true := by unfold rng; simp; omega
    cases hu : n.up
    · have e : ({ n with up := false } : Node) = n := by rw [← hu]
      simp (disch := first | omega | assumption | exact ⟨by first | assumption | omega, by first | assumption | omega⟩ | (simp only [List.length_cons, List.length_nil]; omega)) only [↓S0, ↓ITE_bool, S1, eq_self, if_true, if_false, true_implies, false_implies, implies_true, ↓c_script_Config, ↓c_bag_Check, ↓c_cast_Check, ↓c_world_down, cell_L hn, hu, hc]
      rw [e]
      rw [hu, if_neg (by simp)] at hs
      refine ⟨fun h => ?_, fun h => ⟨i + 1, rfl, ⟨by omega, by rw [← hs, h]; simp⟩, by omega⟩⟩
      rw [hW, hO, ← hs, h]; rfl
    · have e : ({ n with up := true } : Node) = n := by rw [← hu]
      simp (disch := first | omega | assumption | exact ⟨by first | assumption | omega, by first | assumption | omega⟩ | (simp only [List.length_cons, List.length_nil]; omega)) only [↓S0, ↓ITE_bool, S1, eq_self, if_true, if_false, true_implies, false_implies, implies_true, ↓c_script_Config, ↓c_bag_Check, ↓c_cast_Check, ↓c_world_down, cell_L hn, hu, hc, nodeWhy, hr]
      rw [e]
      rw [hu, if_pos rfl] at hs
      cases hN : nodeOk c i n
      · rw [hN, Bool.false_and] at hs
        simp
        rw [hW, hO, ← hs]; rfl
      · rw [hN, Bool.true_and] at hs
        simp
        exact ⟨i + 1, by simp, ⟨by omega, by rw [← hs]; simp⟩, by omega⟩
  · rw [drop_nil h] at hs
    rw [hW, hO, ← hs]; rfl
theorem w_ref19_World (c : Config) (w : World) (hp : cfgOk c = true) (hg : Goods [I c.nodes, I c.topics, I c.kids, I c.depth, I c.keep, I c.window, I c.queue, L w.nodes, L w.bag]) : S_ref19_World ρ (I c.nodes) (I c.topics) (I c.kids) (I c.depth) (I c.keep) (I c.window) (I c.queue) (L w.nodes) (L w.bag) (· = [bb (worldOk c w)]) := by
  unfold S_ref19_World
  simp only [Goods, good_L, good_I] at hg
  have hb := cfg_bd hp
  refine SUB.v1 (bb (!(decide (w.nodes.length = c.nodes) && decide (bagWhy w.bag = 0)))) ?_ ?_
  · repeat' (first | apply And.intro | intro _ | simp (disch := first | omega | assumption | exact ⟨by first | assumption | omega, by first | assumption | omega⟩ | (simp only [List.length_cons, List.length_nil]; omega)) only [↓S0, ↓ITE_bool, S1, eq_self, if_true, if_false, true_implies, false_implies, implies_true, ↓c_bkeep_Node, ↓c_ref01_Bag, ↓c_ref19_Node, ↓c_ref19_down])
    all_goals simp_all
  cases hq : (decide ((w.nodes.length : Int) = c.nodes) && decide (bagWhy w.bag = 0))
  · simp (disch := first | omega | assumption | exact ⟨by first | assumption | omega, by first | assumption | omega⟩ | (simp only [List.length_cons, List.length_nil]; omega)) only [↓S0, ↓ITE_bool, S1, eq_self, if_true, if_false, true_implies, false_implies, implies_true, ↓c_bkeep_Node, ↓c_ref01_Bag, ↓c_ref19_Node, ↓c_ref19_down, hq]
    rw [worldOk, hq]; rfl
  have hO : worldOk c w = nodesGo c 0 w.nodes := by rw [worldOk, hq, Bool.true_and]
  simp (disch := first | omega | assumption | exact ⟨by first | assumption | omega, by first | assumption | omega⟩ | (simp only [List.length_cons, List.length_nil]; omega)) only [↓S0, ↓ITE_bool, S1, eq_self, if_true, if_false, true_implies, false_implies, implies_true, ↓c_bkeep_Node, ↓c_ref01_Bag, ↓c_ref19_Node, ↓c_ref19_down, hq]
  rw [Bool.and_eq_true, decide_eq_true_eq] at hq
  refine LOOP.rule (α := Nat) (fun i => [I i]) (fun i => i ≤ w.nodes.length ∧ nodesGo c i (w.nodes.drop i) = nodesGo c 0 w.nodes) (fun i => w.nodes.length - i) 0 rfl ⟨by omega, by simp⟩ (fun _ => rfl) ?_
  rintro i ⟨hl, hs⟩
  simp only [app]
  simp (disch := first | omega | assumption | exact ⟨by first | assumption | omega, by first | assumption | omega⟩ | (simp only [List.length_cons, List.length_nil]; omega)) only [↓S0, ↓ITE_bool, S1, eq_self, if_true, if_false, true_implies, false_implies, implies_true, ↓c_bkeep_Node, ↓c_ref01_Bag, ↓c_ref19_Node, ↓c_ref19_down]
  refine ⟨fun h => ?_, fun h => ?_⟩
  · obtain ⟨n, hn⟩ := get_ex (xs := w.nodes) (i := i) (by omega)
    rw [drop_eq hn, nodesGo] at hs
    have hr : rng i 0 (c.nodes - 1) = true := by unfold rng; simp; omega
    cases hu : n.up
    · have e : ({ n with up := false } : Node) = n := by rw [← hu]
      simp (disch := first | omega | assumption | exact ⟨by first | assumption | omega, by first | assumption | omega⟩ | (simp only [List.length_cons, List.length_nil]; omega)) only [↓S0, ↓ITE_bool, S1, eq_self, if_true, if_false, true_implies, false_implies, implies_true, ↓c_bkeep_Node, ↓c_ref01_Bag, ↓c_ref19_Node, ↓c_ref19_down, cell_L hn, hu]
      rw [e]
      rw [hu, if_neg (by simp), ← down_node hp hr hu] at hs
      refine ⟨fun h => ?_, fun h => ?_⟩
      · rw [hO, ← hs, h]; rfl
      have ht : (n.topics.length : Int) = c.topics := by
        have h' := h
        simp only [nodeOk, Bool.and_eq_true, decide_eq_true_eq] at h'
        simp_all
      have ht' : cfgOk c = true ∧ c.topics ≤ n.topics.length := ⟨hp, by omega⟩
      simp (disch := first | omega | assumption | exact ⟨by first | assumption | omega, by first | assumption | omega⟩ | (simp only [List.length_cons, List.length_nil]; omega)) only [↓S0, ↓ITE_bool, S1, eq_self, if_true, if_false, true_implies, false_implies, implies_true, ↓c_bkeep_Node, ↓c_ref01_Bag, ↓c_ref19_Node, ↓c_ref19_down]
      rw [e, show ({ up := false, inc := n.inc, peers := (blankN c n.inc n.topics).peers, topics := (blankN c n.inc n.topics).topics, calls := (blankN c n.inc n.topics).calls, pubs := 0, asks := 0, marks := (blankN c n.inc n.topics).marks, taken := (blankN c n.inc n.topics).taken } : Node) = blankN c n.inc n.topics from rfl]
      rw [h, Bool.true_and] at hs
      refine ⟨fun h => ?_, fun h => ⟨i + 1, rfl, ⟨by omega, by rw [← hs, decide_eq_true h]; simp⟩, by omega⟩⟩
      rw [hO, ← hs, decide_eq_false h]; rfl
    · have e : ({ n with up := true } : Node) = n := by rw [← hu]
      simp (disch := first | omega | assumption | exact ⟨by first | assumption | omega, by first | assumption | omega⟩ | (simp only [List.length_cons, List.length_nil]; omega)) only [↓S0, ↓ITE_bool, S1, eq_self, if_true, if_false, true_implies, false_implies, implies_true, ↓c_bkeep_Node, ↓c_ref01_Bag, ↓c_ref19_Node, ↓c_ref19_down, cell_L hn, hu]
      rw [e]
      rw [hu, if_pos rfl] at hs
      refine ⟨fun h => ?_, fun h => ⟨i + 1, rfl, ⟨by omega, by rw [← hs, h]; simp⟩, by omega⟩⟩
      rw [hO, ← hs, h]; rfl
  · rw [drop_nil (by omega)] at hs
    rw [hO, ← hs]; rfl
end Go.Xt
end
section
set_option linter.unusedSimpArgs false
set_option linter.unusedVariables false
set_option maxRecDepth 100000
namespace Go.Xt
theorem w_check_last (x : Event) : S_check_last ρ (I x.kind) (I x.epoch) (I x.seq) (I x.last) (I x.value) (I x.count) (· = [I (endOf x), bb (ofStream x)]) := by
  unfold S_check_last
  repeat' (first | apply And.intro | intro _ | simp (disch := first | omega | assumption | exact ⟨by first | assumption | omega, by first | assumption | omega⟩ | (simp only [List.length_cons, List.length_nil]; omega)) only [↓S0, ↓ITE_bool, S1, eq_self, if_true, if_false, true_implies, false_implies, implies_true])
  all_goals simp_all [endOf, ofStream]
theorem w_check_asked (c : Config) (w : World) (t : Int) (hg : Goods [I c.nodes, I c.topics, I c.kids, I c.depth, I c.keep, I c.window, I c.queue, L w.nodes, L w.bag, I t]) : S_check_asked ρ (I c.nodes) (I c.topics) (I c.kids) (I c.depth) (I c.keep) (I c.window) (I c.queue) (L w.nodes) (L w.bag) (I t) (· = [I (askedW c w t)]) := by
  unfold S_check_asked
  generalize hE : askedW c w t = q
  repeat' (first | apply And.intro | intro _ | simp (disch := first | omega | assumption | exact ⟨by first | assumption | omega, by first | assumption | omega⟩ | (simp only [List.length_cons, List.length_nil]; omega)) only [↓S0, ↓ITE_bool, S1, eq_self, if_true, if_false, true_implies, false_implies, implies_true, ↓c_world_Check])
  all_goals (rw [← hE]; clear hE)
  all_goals simp_all [askedW, rng]
  all_goals (intros; omega)
theorem worldWhy_0 {c : Config} {w : World} (h : worldWhy c w = 0) : cfgOk c = true ∧ worldOk c w = true := by
  unfold worldWhy at h
  cases hc : cfgOk c <;> cases hw : worldOk c w <;> simp_all
theorem askedW_0 {c : Config} {w : World} {t : Int} (h : askedW c w t = 0) : cfgOk c = true ∧ worldOk c w = true ∧ rng t 0 (c.topics - 1) = true := by
  unfold askedW at h
  cases hr : rng t 0 (c.topics - 1)
  · by_cases h0 : worldWhy c w = 0 <;> simp_all
  · by_cases h0 : worldWhy c w = 0
    · exact ⟨(worldWhy_0 h0).1, (worldWhy_0 h0).2, rfl⟩
    · simp_all
theorem node_tops {c : Config} : ∀ {l : List Node} {i : Int}, nodesGo c i l = true → ∀ n ∈ l, (n.topics.length : Int) = c.topics
  | [], _, _, n, hn => by cases hn
  | x :: r, i, h, n, hn => by
    rw [nodesGo, Bool.and_eq_true] at h
    rcases List.mem_cons.1 hn with rfl | hn
    · have h1 := h.1
      cases hu : n.up
      · rw [hu, if_neg (by simp)] at h1
        simp only [downOk, Bool.and_eq_true, decide_eq_true_eq] at h1
        simp_all
      · rw [hu, if_pos rfl] at h1
        simp only [nodeOk, Bool.and_eq_true, decide_eq_true_eq] at h1
        simp_all
    · exact node_tops h.2 n hn
theorem world_tops {c : Config} {w : World} (h : worldOk c w = true) : (w.nodes.length : Int) = c.nodes ∧ ∀ n ∈ w.nodes, (n.topics.length : Int) = c.topics := by
  simp only [worldOk, Bool.and_eq_true, decide_eq_true_eq] at h
  exact ⟨h.1.1, node_tops h.2⟩
theorem getI {α : Type} {l : List α} {i : Nat} {x : α} (h : l[i]? = some x) : x ∈ l := List.mem_of_getElem? h
theorem topAt_eq {n : Node} {t : Int} {x : Topic} (h : n.topics[t.toNat]? = some x) : topAt n t = x := by
  unfold topAt
  simp [h]
theorem take_s {α : Type} {xs : List α} {i : Nat} {x : α} (h : xs[i]? = some x) : xs.take (i + 1) = xs.take i ++ [x] := by rw [List.take_add_one, h]; rfl
theorem w_check_Parents (c : Config) (w : World) (t : Int) (hg : Goods [I c.nodes, I c.topics, I c.kids, I c.depth, I c.keep, I c.window, I c.queue, L w.nodes, L w.bag, I t]) : S_check_Parents ρ (I c.nodes) (I c.topics) (I c.kids) (I c.depth) (I c.keep) (I c.window) (I c.queue) (L w.nodes) (L w.bag) (I t) (· = [L (if askedW c w t = 0 then parentsW w t else []), I (askedW c w t)]) := by
  unfold S_check_Parents
  simp (disch := first | omega | assumption | exact ⟨by first | assumption | omega, by first | assumption | omega⟩ | (simp only [List.length_cons, List.length_nil]; omega)) only [↓S0, ↓ITE_bool, S1, eq_self, if_true, if_false, true_implies, false_implies, implies_true, ↓c_check_asked]
  refine ⟨fun h => ?_, fun h => ?_⟩
  · rw [if_neg h]; rfl
  rw [if_pos h]
  obtain ⟨hc, hw, hr⟩ := askedW_0 h
  obtain ⟨w1, w2⟩ := world_tops hw
  have hb := cfg_bd hc
  have hr' := rng_bd hr
  obtain ⟨u, rfl⟩ := Int.eq_ofNat_of_zero_le hr'.1
  refine LOOP.rule (α := Nat) (fun i => [I i, L ((w.nodes.take i).map fun n => (topAt n u).parent)]) (fun i => i ≤ w.nodes.length) (fun i => w.nodes.length - i) 0 rfl (by omega) (fun _ => rfl) ?_
  intro i hl
  simp only [app]
  simp (disch := first | omega | assumption | exact ⟨by first | assumption | omega, by first | assumption | omega⟩ | (simp only [List.length_cons, List.length_nil]; omega)) only [↓S0, ↓ITE_bool, S1, eq_self, if_true, if_false, true_implies, false_implies, implies_true, ↓c_check_asked]
  refine ⟨fun h => ?_, fun h => ?_⟩
  · obtain ⟨n, hn⟩ := get_ex h
    have ht := w2 n (getI hn)
    obtain ⟨x, hx⟩ := get_ex (xs := n.topics) (i := u) (by omega)
    simp (disch := first | omega | assumption | exact ⟨by first | assumption | omega, by first | assumption | omega⟩ | (simp only [List.length_cons, List.length_nil]; omega)) only [↓S0, ↓ITE_bool, S1, eq_self, if_true, if_false, true_implies, false_implies, implies_true, ↓c_check_asked, cell_L hn, cell_L hx]
    rw [OP_app (by simp; omega)]
    refine ⟨i + 1, ?_, by omega, by omega⟩
    rw [take_s hn, List.map_append, List.map_singleton, topAt_eq (t := u) (by simpa using hx)]; rfl
  · have e : i = w.nodes.length := by omega
    rw [e, List.take_length, ‹askedW c w _ = 0›]; rfl
theorem rootsGo_app {t : Int} : ∀ (l : List Node) (i : Int) (n : Node), rootsGo t i (l ++ [n]) = rootsGo t i l ++ (if n.up = true ∧ (topAt n t).root ≠ 0 then [i + l.length] else [])
  | [], i, n => by simp [rootsGo]
  | x :: r, i, n => by
    rw [List.cons_append, rootsGo, rootsGo_app r, rootsGo, List.append_assoc, List.length_cons]
    have : i + 1 + (r.length : Int) = i + ((r.length + 1 : Nat) : Int) := by omega
    rw [this]
theorem rootsGo_len {t : Int} : ∀ (l : List Node) (i : Int), (rootsGo t i l).length ≤ l.length
  | [], i => by simp [rootsGo]
  | x :: r, i => by
    have := rootsGo_len (t := t) r (i + 1)
    rw [rootsGo, List.length_append, List.length_cons]
    split <;> simp <;> omega
theorem w_check_Roots (c : Config) (w : World) (t : Int) (hg : Goods [I c.nodes, I c.topics, I c.kids, I c.depth, I c.keep, I c.window, I c.queue, L w.nodes, L w.bag, I t]) : S_check_Roots ρ (I c.nodes) (I c.topics) (I c.kids) (I c.depth) (I c.keep) (I c.window) (I c.queue) (L w.nodes) (L w.bag) (I t) (· = [L (if askedW c w t = 0 then rootsW w t else []), I (askedW c w t)]) := by
  unfold S_check_Roots
  simp (disch := first | omega | assumption | exact ⟨by first | assumption | omega, by first | assumption | omega⟩ | (simp only [List.length_cons, List.length_nil]; omega)) only [↓S0, ↓ITE_bool, S1, eq_self, if_true, if_false, true_implies, false_implies, implies_true, ↓c_check_asked]
  refine ⟨fun h => ?_, fun h0 => ?_⟩
  · rw [if_neg h]; rfl
  rw [if_pos h0]
  obtain ⟨hc, hw, hr⟩ := askedW_0 h0
  obtain ⟨w1, w2⟩ := world_tops hw
  have hb := cfg_bd hc
  have hr' := rng_bd hr
  obtain ⟨u, rfl⟩ := Int.eq_ofNat_of_zero_le hr'.1
  refine LOOP.rule (α := Nat) (fun i => [I i, L (rootsGo u 0 (w.nodes.take i))]) (fun i => i ≤ w.nodes.length) (fun i => w.nodes.length - i) 0 rfl (by omega) (fun _ => rfl) ?_
  intro i hl
  simp only [app]
  simp (disch := first | omega | assumption | exact ⟨by first | assumption | omega, by first | assumption | omega⟩ | (simp only [List.length_cons, List.length_nil]; omega)) only [↓S0, ↓ITE_bool, S1, eq_self, if_true, if_false, true_implies, false_implies, implies_true, ↓c_check_asked]
  refine ⟨fun h => ?_, fun h => ?_⟩
  · obtain ⟨n, hn⟩ := get_ex h
    have ht := w2 n (getI hn)
    obtain ⟨x, hx⟩ := get_ex (xs := n.topics) (i := u) (by omega)
    have htx := topAt_eq (n := n) (t := u) (by simpa using hx)
    have hll := rootsGo_len (t := u) (w.nodes.take i) 0
    rw [List.length_take] at hll
    have hT : rootsGo u 0 (w.nodes.take (i + 1)) = rootsGo u 0 (w.nodes.take i) ++ (if n.up = true ∧ x.root ≠ 0 then [(i : Int)] else []) := by
      rw [take_s hn, rootsGo_app, htx, List.length_take]
      have : (0 : Int) + ((min i w.nodes.length : Nat) : Int) = i := by omega
      rw [this]
    simp (disch := first | omega | assumption | exact ⟨by first | assumption | omega, by first | assumption | omega⟩ | (simp only [List.length_cons, List.length_nil]; omega)) only [↓S0, ↓ITE_bool, S1, eq_self, if_true, if_false, true_implies, false_implies, implies_true, ↓c_check_asked, cell_L hn]
    cases hu : n.up
    · rw [hu, if_neg (by simp), List.append_nil] at hT
      simp (disch := first | omega | assumption | exact ⟨by first | assumption | omega, by first | assumption | omega⟩ | (simp only [List.length_cons, List.length_nil]; omega)) only [↓S0, ↓ITE_bool, S1, eq_self, if_true, if_false, true_implies, false_implies, implies_true, ↓c_check_asked]
      exact ⟨i + 1, by rw [hT]; rfl, by omega, by omega⟩
    simp (disch := first | omega | assumption | exact ⟨by first | assumption | omega, by first | assumption | omega⟩ | (simp only [List.length_cons, List.length_nil]; omega)) only [↓S0, ↓ITE_bool, S1, eq_self, if_true, if_false, true_implies, false_implies, implies_true, ↓c_check_asked, cell_L hx]
    refine ⟨fun h3 => ?_, fun h3 => ?_⟩
    · rw [hu, if_pos ⟨rfl, h3⟩] at hT
      exact ⟨i + 1, by rw [hT]; rfl, by omega, by omega⟩
    · rw [hu, if_neg (by simp [h3]), List.append_nil] at hT
      exact ⟨i + 1, by rw [hT]; rfl, by omega, by omega⟩
  · have e : i = w.nodes.length := by omega
    rw [e, List.take_length, h0]; rfl
theorem w_check_whole (w : World) (t : Int) (hp : 0 ≤ t ∧ w.nodes.length ≤ 8 ∧ ∀ n ∈ w.nodes, t < n.topics.length) (hg : Goods [L w.nodes, L w.bag, I t]) : S_check_whole ρ (L w.nodes) (L w.bag) (I t) (· = [bb (whole (pathsW w t))]) := by
  unfold S_check_whole
  obtain ⟨h0, h1, h2⟩ := hp
  obtain ⟨u, rfl⟩ := Int.eq_ofNat_of_zero_le h0
  simp (disch := first | omega | assumption | exact ⟨by first | assumption | omega, by first | assumption | omega⟩ | (simp only [List.length_cons, List.length_nil]; omega)) only [↓S0, ↓ITE_bool, S1, eq_self, if_true, if_false, true_implies, false_implies, implies_true, ↓c_path_Whole]
  refine LOOP.rule (α := Nat) (fun i => [I i, L ((w.nodes.take i).map fun n => (topAt n u).path)]) (fun i => i ≤ w.nodes.length) (fun i => w.nodes.length - i) 0 rfl (by omega) (fun _ => rfl) ?_
  intro i hl
  simp only [app]
  simp (disch := first | omega | assumption | exact ⟨by first | assumption | omega, by first | assumption | omega⟩ | (simp only [List.length_cons, List.length_nil]; omega)) only [↓S0, ↓ITE_bool, S1, eq_self, if_true, if_false, true_implies, false_implies, implies_true, ↓c_path_Whole]
  refine ⟨fun h => ?_, fun h => ?_⟩
  · obtain ⟨n, hn⟩ := get_ex h
    have ht := h2 n (getI hn)
    obtain ⟨x, hx⟩ := get_ex (xs := n.topics) (i := u) (by omega)
    simp (disch := first | omega | assumption | exact ⟨by first | assumption | omega, by first | assumption | omega⟩ | (simp only [List.length_cons, List.length_nil]; omega)) only [↓S0, ↓ITE_bool, S1, eq_self, if_true, if_false, true_implies, false_implies, implies_true, ↓c_path_Whole, cell_L hn, cell_L hx]
    rw [OP_app (by simp; omega)]
    refine ⟨i + 1, ?_, by omega, by omega⟩
    rw [take_s hn, List.map_append, List.map_singleton, topAt_eq (t := u) (by simpa using hx)]; rfl
  · have e : i = w.nodes.length := by omega
    rw [e, List.take_length]; rfl
theorem w_check_Whole (c : Config) (w : World) (t : Int) (hg : Goods [I c.nodes, I c.topics, I c.kids, I c.depth, I c.keep, I c.window, I c.queue, L w.nodes, L w.bag, I t]) : S_check_Whole ρ (I c.nodes) (I c.topics) (I c.kids) (I c.depth) (I c.keep) (I c.window) (I c.queue) (L w.nodes) (L w.bag) (I t) (· = [bb (decide (askedW c w t = 0) && whole (pathsW w t)), I (askedW c w t)]) := by
  unfold S_check_Whole
  simp (disch := first | omega | assumption | exact ⟨by first | assumption | omega, by first | assumption | omega⟩ | (simp only [List.length_cons, List.length_nil]; omega)) only [↓S0, ↓ITE_bool, S1, eq_self, if_true, if_false, true_implies, false_implies, implies_true, ↓c_check_asked, ↓c_check_whole]
  refine ⟨fun h => ?_, fun h0 => ?_⟩
  · rw [decide_eq_false h]; rfl
  obtain ⟨hc, hw, hr⟩ := askedW_0 h0
  obtain ⟨w1, w2⟩ := world_tops hw
  have hb := cfg_bd hc
  have hr' := rng_bd hr
  have hpre : 0 ≤ t ∧ w.nodes.length ≤ 8 ∧ ∀ n ∈ w.nodes, t < n.topics.length := ⟨by omega, by omega, fun n hn => by have := w2 n hn; omega⟩
  simp (disch := first | omega | assumption | exact ⟨by first | assumption | omega, by first | assumption | omega⟩ | (simp only [List.length_cons, List.length_nil]; omega)) only [↓S0, ↓ITE_bool, S1, eq_self, if_true, if_false, true_implies, false_implies, implies_true, ↓c_check_asked, ↓c_check_whole]
  rw [decide_eq_true h0, h0]; rfl
end Go.Xt
end
section
set_option linter.unusedSimpArgs false
set_option linter.unusedVariables false
set_option maxRecDepth 100000
namespace Go.Xt
theorem w_check_deep (c : Config) (n : Node) (hg : Goods [I c.nodes, I c.topics, I c.kids, I c.depth, I c.keep, I c.window, I c.queue, bb n.up, I n.inc, L n.peers, L n.topics, L n.calls, I n.pubs, I n.asks, L n.marks, L n.taken]) : S_check_deep ρ (I c.nodes) (I c.topics) (I c.kids) (I c.depth) (I c.keep) (I c.window) (I c.queue) (bb n.up) (I n.inc) (L n.peers) (L n.topics) (L n.calls) (I n.pubs) (I n.asks) (L n.marks) (L n.taken) (· = [bb (deepN c n)]) := by
  unfold S_check_deep
  simp only [Goods, good_L, good_I] at hg
  generalize hE : deepN c n = q
  unfold deepN at hE
  simp (disch := first | omega | assumption | exact ⟨by first | assumption | omega, by first | assumption | omega⟩ | (simp only [List.length_cons, List.length_nil]; omega)) only [↓S0, ↓ITE_bool, S1, eq_self, if_true, if_false, true_implies, false_implies, implies_true]
  refine LOOP.rule (α := Nat) (fun i => [I i]) (fun i => i ≤ n.topics.length ∧ (n.topics.drop i).any ((fun x : Topic => decide ((x.path.length : Int) > c.depth))) = n.topics.any ((fun x : Topic => decide ((x.path.length : Int) > c.depth)))) (fun i => n.topics.length - i) 0 rfl ⟨by omega, by simp⟩ (fun _ => rfl) ?_
  rintro i ⟨hl_i, hs_i⟩
  simp only [app]
  simp (disch := first | omega | assumption | exact ⟨by first | assumption | omega, by first | assumption | omega⟩ | (simp only [List.length_cons, List.length_nil]; omega)) only [↓S0, ↓ITE_bool, S1, eq_self, if_true, if_false, true_implies, false_implies, implies_true]
  refine ⟨fun hc_i => ?_, fun hc_i => ?_⟩
  · obtain ⟨x, hx⟩ := get_ex hc_i
    rw [drop_eq hx, List.any_cons] at hs_i
    simp (disch := first | omega | assumption | exact ⟨by first | assumption | omega, by first | assumption | omega⟩ | (simp only [List.length_cons, List.length_nil]; omega)) only [↓S0, ↓ITE_bool, S1, eq_self, if_true, if_false, true_implies, false_implies, implies_true, cell_L hx]
    refine ⟨fun h3 => ?_, fun h3 => ⟨i + 1, rfl, ⟨by omega, ?_⟩, by omega⟩⟩
    · rw [← hE, ← hs_i]; simp [show (x.path.length : Int) > c.depth by omega]
    · rw [← hs_i]; simp [show ¬ (x.path.length : Int) > c.depth by omega]
  · rw [drop_nil hc_i] at hs_i
    rw [← hE, ← hs_i]; simp
theorem w_check_full (c : Config) (x : Topic) (hg : Goods [I c.nodes, I c.topics, I c.kids, I c.depth, I c.keep, I c.window, I c.queue, bb x.made, bb x.sub, I x.top, I x.root, I x.parent, I x.asked, I x.other, I x.age, L x.path, L x.kids, I x.stream.epoch, I x.stream.want, I x.stream.known, L x.stream.kept, L x.stream.ahead, L x.queue]) : S_check_full ρ (I c.nodes) (I c.topics) (I c.kids) (I c.depth) (I c.keep) (I c.window) (I c.queue) (bb x.made) (bb x.sub) (I x.top) (I x.root) (I x.parent) (I x.asked) (I x.other) (I x.age) (L x.path) (L x.kids) (I x.stream.epoch) (I x.stream.want) (I x.stream.known) (L x.stream.kept) (L x.stream.ahead) (L x.queue) (· = [bb (fullT c x)]) := by
  unfold S_check_full
  simp only [Goods, good_L, good_I] at hg
  generalize hE : fullT c x = q
  unfold fullT at hE
  repeat' (first | apply And.intro | intro _ | simp (disch := first | omega | assumption | exact ⟨by first | assumption | omega, by first | assumption | omega⟩ | (simp only [List.length_cons, List.length_nil]; omega)) only [↓S0, ↓ITE_bool, S1, eq_self, if_true, if_false, true_implies, false_implies, implies_true])
  all_goals (rw [← hE]; clear hE; simp_all)
  all_goals (intros; omega)
theorem w_slices_Contains_int_int (l : List Int) (n : Int) (hg : Goods [L l, I n]) : S_slices_Contains_int_int ρ (L l) (I n) (· = [bb (l.contains n)]) := by
  unfold S_slices_Contains_int_int
  simp only [Goods, good_L, good_I] at hg
  simp (disch := first | omega | assumption | exact ⟨by first | assumption | omega, by first | assumption | omega⟩ | (simp only [List.length_cons, List.length_nil]; omega)) only [↓S0, ↓ITE_bool, S1, eq_self, if_true, if_false, true_implies, false_implies, implies_true]
  refine LOOP.rule (α := Nat) (fun i => [I i]) (fun i => i ≤ l.length ∧ (l.drop i).contains n = l.contains n) (fun i => l.length - i) 0 rfl ⟨by omega, by simp⟩ (fun _ => rfl) ?_
  rintro i ⟨hl, hs⟩
  simp only [app]
  simp (disch := first | omega | assumption | exact ⟨by first | assumption | omega, by first | assumption | omega⟩ | (simp only [List.length_cons, List.length_nil]; omega)) only [↓S0, ↓ITE_bool, S1, eq_self, if_true, if_false, true_implies, false_implies, implies_true]
  refine ⟨fun hc => ?_, fun hc => ?_⟩
  · obtain ⟨x, hx⟩ := get_ex hc
    rw [drop_eq hx, List.contains_cons] at hs
    simp (disch := first | omega | assumption | exact ⟨by first | assumption | omega, by first | assumption | omega⟩ | (simp only [List.length_cons, List.length_nil]; omega)) only [↓S0, ↓ITE_bool, S1, eq_self, if_true, if_false, true_implies, false_implies, implies_true, cell_L hx]
    refine ⟨fun h3 => ?_, fun h3 => ⟨i + 1, rfl, ⟨by omega, ?_⟩, by omega⟩⟩
    · rw [← hs]; simp [h3]
    · rw [← hs]; simp [h3]
  · rw [drop_nil hc] at hs
    rw [← hs]; simp
theorem ahd_len {m : Int} : ∀ (l : List Item) (p : Int), ahdGo m p l = true → (l.length : Int) ≤ max 0 (m - 1 - p)
  | [], p, _ => by simp; omega
  | x :: r, p, h => by
    simp only [ahdGo, Bool.and_eq_true, decide_eq_true_eq] at h
    have := ahd_len r x.seq h.2
    simp only [List.length_cons]
    omega
theorem topic_full {c : Config} {t self : Int} {x : Topic} (hc : cfgOk c = true) (h : topicOk c t self x = true) : fullT c x = false := by
  have hb := cfg_bd hc
  simp only [topicOk, Bool.and_eq_true, flowOk, kidsOk, queueOk, streamOk, Bool.or_eq_true, streamZ, keptOk, aheadOk, decide_eq_true_eq] at h
  obtain ⟨⟨_, hk⟩, hs, hq⟩ := h
  have h1 : ¬ (x.kids.length : Int) > c.kids := by have := hk.1.2; omega
  have h2 : ¬ (x.queue.length : Int) > c.queue := by have := hq.1.1.2; omega
  have h3 : ¬ (x.stream.kept.length : Int) > c.keep := by
    rcases hs with hs | hs
    · rw [hs.1.2]; simp; omega
    · have := hs.1.2.1.1.2; omega
  have h4 : ¬ (x.stream.ahead.length : Int) > c.window := by
    rcases hs with hs | hs
    · rw [hs.2]; simp; omega
    · have := ahd_len _ _ hs.2.2; omega
  simp [fullT, h1, h2, h3, h4]
theorem topics_full {c : Config} {self : Int} (hc : cfgOk c = true) : ∀ (l : List Topic) (t : Int), topicsGo c self t l = true → l.any (fullT c) = false
  | [], _, _ => rfl
  | x :: r, t, h => by
    rw [topicsGo, Bool.and_eq_true] at h
    rw [List.any_cons, topic_full hc h.1, topics_full hc r _ h.2]; rfl
theorem node_full {c : Config} {i : Int} {n : Node} (hc : cfgOk c = true) (h : (if n.up = true then nodeOk c i n else downOk c n) = true) : n.topics.any (fullT c) = false := by
  have hb := cfg_bd hc
  cases hu : n.up
  · rw [hu, if_neg (by simp)] at h
    simp only [downOk, Bool.and_eq_true, decide_eq_true_eq] at h
    have ht := h.1.2
    rw [List.all_eq_true] at ht
    rw [Bool.eq_false_iff]
    intro ha
    rw [List.any_eq_true] at ha
    obtain ⟨x, hx, hf⟩ := ha
    have := ht x hx
    simp only [topZ, Bool.and_eq_true, decide_eq_true_eq] at this
    rw [this.1] at hf
    have e1 : ¬ (0 : Int) > c.kids := by omega
    have e2 : ¬ (0 : Int) > c.keep := by omega
    have e3 : ¬ (0 : Int) > c.window := by omega
    have e4 : ¬ (0 : Int) > c.queue := by omega
    simp [fullT, topic0] at hf
    omega
  · rw [hu, if_pos rfl] at h
    simp only [nodeOk, Bool.and_eq_true, decide_eq_true_eq] at h
    exact topics_full hc _ _ h.1.1.1.2
theorem nodes_full {c : Config} (hc : cfgOk c = true) : ∀ (l : List Node) (i : Int), nodesGo c i l = true → ∀ n ∈ l, n.topics.any (fullT c) = false
  | [], _, _, n, hn => by cases hn
  | x :: r, i, h, n, hn => by
    rw [nodesGo, Bool.and_eq_true] at h
    rcases List.mem_cons.1 hn with rfl | hn
    · exact node_full hc h.1
    · exact nodes_full hc r _ h.2 n hn
theorem topics_root {c : Config} {self : Int} : ∀ (l : List Topic) (t : Int), topicsGo c self t l = true → ∀ x ∈ l, rootOk self x = true
  | [], _, _, n, hn => by cases hn
  | x :: r, t, h, n, hn => by
    rw [topicsGo, Bool.and_eq_true] at h
    rcases List.mem_cons.1 hn with rfl | hn
    · have := h.1
      simp only [topicOk, Bool.and_eq_true] at this
      simp_all
    · exact topics_root r _ h.2 n hn
theorem nodes_root {c : Config} : ∀ (l : List Node) (i : Int), nodesGo c i l = true → ∀ (j : Nat) n, l[j]? = some n → n.up = true → ∀ x ∈ n.topics, rootOk (i + j) x = true
  | [], _, _, j, n, hn, _ => by simp at hn
  | y :: r, i, h, j, n, hn, hu => by
    rw [nodesGo, Bool.and_eq_true] at h
    cases j with
    | zero =>
      simp at hn; subst hn
      have h1 := h.1
      rw [hu, if_pos rfl] at h1
      simp only [nodeOk, Bool.and_eq_true, decide_eq_true_eq] at h1
      have := topics_root _ _ h1.1.1.1.2
      simpa using this
    | succ j =>
      have := nodes_root r _ h.2 j n (by simpa using hn) hu
      have e : i + 1 + (j : Int) = i + ((j + 1 : Nat) : Int) := by omega
      rw [e] at this
      exact this
theorem w_check_rooted (w : World) (t : Int) (hp : ∃ c : Config, cfgOk c = true ∧ worldOk c w = true ∧ rng t 0 (c.topics - 1) = true) (hg : Goods [L w.nodes, L w.bag, I t]) : S_check_rooted ρ (L w.nodes) (L w.bag) (I t) (· = [bb true]) := by
  unfold S_check_rooted
  simp only [Goods, good_L, good_I] at hg
  obtain ⟨c, hc, hw, hr⟩ := hp
  obtain ⟨w1, w2⟩ := world_tops hw
  have hb := cfg_bd hc
  have hr' := rng_bd hr
  have hN : nodesGo c 0 w.nodes = true := by
    simp only [worldOk, Bool.and_eq_true] at hw; exact hw.2
  obtain ⟨u, rfl⟩ := Int.eq_ofNat_of_zero_le hr'.1
  simp (disch := first | omega | assumption | exact ⟨by first | assumption | omega, by first | assumption | omega⟩ | (simp only [List.length_cons, List.length_nil]; omega)) only [↓S0, ↓ITE_bool, S1, eq_self, if_true, if_false, true_implies, false_implies, implies_true, ↓c_epoch_Who, ↓c_slices_Contains_int_int]
  refine LOOP.rule (α := Nat × List Int) (fun p => [I p.1, L p.2]) (fun p => p.1 ≤ w.nodes.length ∧ p.2.length ≤ p.1 ∧ ∀ e ∈ p.2, e % 16 < p.1) (fun p => w.nodes.length - p.1) (0, []) rfl ⟨by simp, by simp, by simp⟩ (fun _ => rfl) ?_
  rintro ⟨i, vs⟩ ⟨hl, hv, hm⟩
  simp only [app]
  simp only at hl hv hm
  simp (disch := first | omega | assumption | exact ⟨by first | assumption | omega, by first | assumption | omega⟩ | (simp only [List.length_cons, List.length_nil]; omega)) only [↓S0, ↓ITE_bool, S1, eq_self, if_true, if_false, true_implies, false_implies, implies_true, ↓c_epoch_Who, ↓c_slices_Contains_int_int]
  intro h
  obtain ⟨n, hn⟩ := get_ex (xs := w.nodes) (i := i) (by omega)
  have ht := w2 n (getI hn)
  obtain ⟨x, hx⟩ := get_ex (xs := n.topics) (i := u) (by omega)
  have hroot := fun hu => nodes_root _ _ hN i n hn hu x (getI hx)
  simp (disch := first | omega | assumption | exact ⟨by first | assumption | omega, by first | assumption | omega⟩ | (simp only [List.length_cons, List.length_nil]; omega)) only [↓S0, ↓ITE_bool, S1, eq_self, if_true, if_false, true_implies, false_implies, implies_true, ↓c_epoch_Who, ↓c_slices_Contains_int_int, cell_L hn, cell_L hx]
  cases hu : n.up
  · refine SUB.v1 (bb true) (by simp (disch := first | omega | assumption | exact ⟨by first | assumption | omega, by first | assumption | omega⟩ | (simp only [List.length_cons, List.length_nil]; omega)) only [↓S0, ↓ITE_bool, S1, eq_self, if_true, if_false, true_implies, false_implies, implies_true, ↓c_epoch_Who, ↓c_slices_Contains_int_int]) ?_
    rw [ITE_true]
    exact ⟨(i + 1, vs), rfl, ⟨by simp only; omega, by simp only; omega, fun e he => by have := hm e he; simp only; omega⟩, by simp only; omega⟩
  · refine SUB.v1 (bb (decide (x.root = 0))) (by simp (disch := first | omega | assumption | exact ⟨by first | assumption | omega, by first | assumption | omega⟩ | (simp only [List.length_cons, List.length_nil]; omega)) only [↓S0, ↓ITE_bool, S1, eq_self, if_true, if_false, true_implies, false_implies, implies_true, ↓c_epoch_Who, ↓c_slices_Contains_int_int]) ?_
    by_cases h0 : x.root = 0
    · rw [decide_eq_true h0, ITE_true]
      exact ⟨(i + 1, vs), rfl, ⟨by simp only; omega, by simp only; omega, fun e he => by have := hm e he; simp only; omega⟩, by simp only; omega⟩
    · rw [decide_eq_false h0, ITE_false]
      have hro := hroot hu
      simp only [rootOk, h0, decide_false, Bool.false_or, Bool.and_eq_true, decide_eq_true_eq] at hro
      have he := hro.1.1.1.1
      have h16 := hro.1.1.1.2
      rw [if_pos he, if_pos he]
      refine ⟨fun h => absurd rfl h, fun _ => ⟨fun h => absurd (by omega) h, fun _ => ⟨fun hcn => ?_, fun _ => ?_⟩⟩⟩
      · rw [List.contains_iff_mem] at hcn
        have := hm _ hcn
        omega
      · refine ⟨(i + 1, vs ++ [x.root]), rfl, ⟨by simp only; omega, by simp; omega, fun e he => ?_⟩, by simp only; omega⟩
        rw [List.mem_append, List.mem_singleton] at he
        rcases he with he | rfl
        · have := hm e he; simp only; omega
        · simp only; omega
end Go.Xt
end
section
set_option linter.unusedSimpArgs false
set_option linter.unusedVariables false
set_option maxRecDepth 100000
namespace Go.Xt
theorem w_check_Rises (l : List Event) (hg : Goods [L l]) : S_check_Rises ρ (L l) (· = [bb (risesE none l)]) := by
  unfold S_check_Rises
  simp only [Goods, good_L, good_I] at hg
  generalize hE : risesE none l = q
  simp (disch := first | omega | assumption | exact ⟨by first | assumption | omega, by first | assumption | omega⟩ | (simp only [List.length_cons, List.length_nil]; omega)) only [↓S0, ↓ITE_bool, S1, eq_self, if_true, if_false, true_implies, false_implies, implies_true, ↓c_check_last]
  refine LOOP.rule (α := Nat) (fun i => [I i]) (fun i => i ≤ l.length ∧ risesE (if i = 0 then none else l[i - 1]?) (l.drop i) = q) (fun i => l.length - i) 0 rfl ⟨by omega, by simpa using hE⟩ (fun _ => rfl) ?_
  rintro i ⟨hl, hs⟩
  simp only [app]
  simp (disch := first | omega | assumption | exact ⟨by first | assumption | omega, by first | assumption | omega⟩ | (simp only [List.length_cons, List.length_nil]; omega)) only [↓S0, ↓ITE_bool, S1, eq_self, if_true, if_false, true_implies, false_implies, implies_true, ↓c_check_last]
  refine ⟨fun h => ?_, fun h => ?_⟩
  · obtain ⟨x, hx⟩ := get_ex h
    have hn : (if i + 1 = 0 then none else l[i + 1 - 1]?) = some x := by rw [if_neg (by omega)]; simpa using hx
    rw [drop_eq hx] at hs
    simp (disch := first | omega | assumption | exact ⟨by first | assumption | omega, by first | assumption | omega⟩ | (simp only [List.length_cons, List.length_nil]; omega)) only [↓S0, ↓ITE_bool, S1, eq_self, if_true, if_false, true_implies, false_implies, implies_true, ↓c_check_last, cell_L hx]
    by_cases hi : i = 0
    · subst hi
      rw [if_pos rfl, risesE] at hs
      refine ⟨fun h1 => ?_, fun h1 => ⟨fun _ => ⟨0 + 1, rfl, ⟨by omega, by rw [hn, ← hs, h1, Bool.true_and]⟩, by omega⟩, fun h => absurd rfl h⟩⟩
      rw [← hs, h1, Bool.false_and]
    · obtain ⟨p, hp⟩ := get_ex (xs := l) (i := i - 1) (by omega)
      rw [if_neg hi, hp, risesE] at hs
      have e1 : (i : Int) - 1 = ((i - 1 : Nat) : Int) := by omega
      simp (disch := first | omega | assumption | exact ⟨by first | assumption | omega, by first | assumption | omega⟩ | (simp only [List.length_cons, List.length_nil]; omega)) only [↓S0, ↓ITE_bool, S1, eq_self, if_true, if_false, true_implies, false_implies, implies_true, ↓c_check_last, cell_L hp, e1]
      refine ⟨fun h1 => ?_, fun h1 => ⟨fun h => absurd h (by omega), fun _ => ?_⟩⟩
      · rw [← hs, h1, Bool.false_and, Bool.false_and]
      rw [h1, Bool.true_and] at hs
      refine SUB.v1 (bb (decide (IntKind.i64.wrap (x.seq - 1) = endOf p) && decide (endOf p < x.seq))) ?_ ?_
      · rw [OP_subW]
        repeat' (first | apply And.intro | intro _ | simp (disch := first | omega | assumption | exact ⟨by first | assumption | omega, by first | assumption | omega⟩ | (simp only [List.length_cons, List.length_nil]; omega)) only [↓S0, ↓ITE_bool, S1, eq_self, if_true, if_false, true_implies, false_implies, implies_true, ↓c_check_last])
        all_goals simp_all
      by_cases h2 : x.epoch < p.epoch
      · refine ⟨fun _ => ?_, fun h => absurd h2 h⟩
        rw [← hs, nextTo, decide_eq_true h2]; rfl
      refine ⟨fun h => absurd h h2, fun _ => ⟨fun h3 => ?_, fun h3 => ?_⟩⟩
      · cases h4 : (decide (IntKind.i64.wrap (x.seq - 1) = endOf p) && decide (endOf p < x.seq))
        · simp (disch := first | omega | assumption | exact ⟨by first | assumption | omega, by first | assumption | omega⟩ | (simp only [List.length_cons, List.length_nil]; omega)) only [↓S0, ↓ITE_bool, S1, eq_self, if_true, if_false, true_implies, false_implies, implies_true, ↓c_check_last]
          rw [← hs, nextTo, decide_eq_false h2, decide_eq_true h3, h4]; rfl
        · simp (disch := first | omega | assumption | exact ⟨by first | assumption | omega, by first | assumption | omega⟩ | (simp only [List.length_cons, List.length_nil]; omega)) only [↓S0, ↓ITE_bool, S1, eq_self, if_true, if_false, true_implies, false_implies, implies_true, ↓c_check_last]
          exact ⟨i + 1, rfl, ⟨by omega, by rw [hn, ← hs, nextTo, decide_eq_false h2, decide_eq_true h3, h4]; rfl⟩, by omega⟩
      · exact ⟨i + 1, rfl, ⟨by omega, by rw [hn, ← hs, nextTo, decide_eq_false h2, decide_eq_false h3]; rfl⟩, by omega⟩
  · rw [drop_nil h] at hs
    rw [← hs]
    cases (if i = 0 then none else l[i - 1]?) <;> rfl
end Go.Xt
end
section
set_option linter.unusedSimpArgs false
set_option linter.unusedVariables false
set_option maxRecDepth 100000
namespace Go.Xt
theorem topic_deep {c : Config} {t self : Int} {x : Topic} (h : topicOk c t self x = true) : ¬ (x.path.length : Int) > c.depth := by
  simp only [topicOk, Bool.and_eq_true, decide_eq_true_eq] at h
  have hk := h.1.1.2
  unfold chk at hk
  intro hd
  (repeat' split at hk) <;> first | omega | contradiction
theorem topics_deep {c : Config} {self : Int} : ∀ (l : List Topic) (t : Int), topicsGo c self t l = true → l.any (fun x => decide ((x.path.length : Int) > c.depth)) = false
  | [], _, _ => rfl
  | x :: r, t, h => by
    rw [topicsGo, Bool.and_eq_true] at h
    rw [List.any_cons, topics_deep r _ h.2, decide_eq_false (topic_deep h.1)]; rfl
theorem node_deep {c : Config} {i : Int} {n : Node} (hc : cfgOk c = true) (h : (if n.up = true then nodeOk c i n else downOk c n) = true) : deepN c n = false := by
  have hb := cfg_bd hc
  cases hu : n.up
  · rw [hu, if_neg (by simp)] at h
    simp only [downOk, Bool.and_eq_true, decide_eq_true_eq] at h
    have ht := h.1.2
    rw [List.all_eq_true] at ht
    rw [Bool.eq_false_iff]
    intro ha
    rw [deepN, List.any_eq_true] at ha
    obtain ⟨x, hx, hf⟩ := ha
    have := ht x hx
    simp only [topZ, Bool.and_eq_true, decide_eq_true_eq] at this
    rw [this.1] at hf
    simp [topic0] at hf
    omega
  · rw [hu, if_pos rfl] at h
    simp only [nodeOk, Bool.and_eq_true, decide_eq_true_eq] at h
    exact topics_deep _ _ h.1.1.1.2
theorem nodes_deep {c : Config} (hc : cfgOk c = true) : ∀ (l : List Node) (i : Int), nodesGo c i l = true → ∀ n ∈ l, deepN c n = false
  | [], _, _, n, hn => by cases hn
  | x :: r, i, h, n, hn => by
    rw [nodesGo, Bool.and_eq_true] at h
    rcases List.mem_cons.1 hn with rfl | hn
    · exact node_deep hc h.1
    · exact nodes_deep hc r _ h.2 n hn
theorem any_false {α : Type} {p : α → Bool} {l : List α} (h : ∀ n ∈ l, p n = false) : l.any p = false := by
  rw [Bool.eq_false_iff]
  intro ha
  rw [List.any_eq_true] at ha
  obtain ⟨x, hx, hf⟩ := ha
  rw [h x hx] at hf; cases hf
theorem any_succ {p : Nat → Bool} {i : Nat} : (List.range (i + 1)).any p = ((List.range i).any p || p i) := by
  rw [List.range_succ, List.any_append]; simp
theorem w_check_Holds (c : Config) (w : World) (hg : Goods [I c.nodes, I c.topics, I c.kids, I c.depth, I c.keep, I c.window, I c.queue, L w.nodes, L w.bag]) : S_check_Holds ρ (I c.nodes) (I c.topics) (I c.kids) (I c.depth) (I c.keep) (I c.window) (I c.queue) (L w.nodes) (L w.bag) (· = [I (holdsW c w)]) := by
  unfold S_check_Holds
  simp only [Goods, good_L, good_I] at hg
  by_cases h0 : ¬ (worldWhy c w = 0)
  · have hq : holdsW c w = worldWhy c w := by rw [holdsW, if_neg h0]
    simp (disch := first | omega | assumption | exact ⟨by first | assumption | omega, by first | assumption | omega⟩ | (simp only [List.length_cons, List.length_nil]; omega)) only [↓S0, ↓ITE_bool, S1, eq_self, if_true, if_false, true_implies, false_implies, implies_true, ↓c_check_whole, ↓c_world_Check, ↓c_check_deep, ↓c_check_rooted, ↓c_check_full]
    exact ⟨fun _ => by rw [hq], fun h => absurd h h0⟩
  rw [Decidable.not_not] at h0
  obtain ⟨hc, hw⟩ := worldWhy_0 h0
  obtain ⟨w1, w2⟩ := world_tops hw
  have hb := cfg_bd hc
  have hN : nodesGo c 0 w.nodes = true := by
    simp only [worldOk, Bool.and_eq_true] at hw; exact hw.2
  have hB : w.bag.length ≤ 300 := by
    simp only [worldOk, Bool.and_eq_true, decide_eq_true_eq] at hw
    have := hw.1.2
    unfold bagWhy at this
    split at this
    · cases this
    · omega
  have hD := any_false (nodes_deep hc _ _ hN)
  have hF := nodes_full hc _ _ hN
  generalize hE : holdsW c w = q
  rw [holdsW, if_pos h0, cycleW, hD, Bool.false_or] at hE
  simp (disch := first | omega | assumption | exact ⟨by first | assumption | omega, by first | assumption | omega⟩ | (simp only [List.length_cons, List.length_nil]; omega)) only [↓S0, ↓ITE_bool, S1, eq_self, if_true, if_false, true_implies, false_implies, implies_true, ↓c_check_whole, ↓c_world_Check, ↓c_check_deep, ↓c_check_rooted, ↓c_check_full, h0]
  refine .inl ⟨[bb false, I w.bag.length, bb false, bb false, bb false], rfl, ?_, ?_⟩
  · show _ ∧ _
    have hb300 : decide ((300 : Int) < w.bag.length) = false := decide_eq_false (by omega)
    rw [hb300]
    refine ⟨?_, ?_⟩
    all_goals
      refine LOOP.rule (α := Nat) (fun i => [I i]) (fun i => i ≤ w.nodes.length) (fun i => w.nodes.length - i) 0 rfl (by omega) (fun _ => rfl) ?_
      intro i hl
      simp only [app]
      simp (disch := first | omega | assumption | exact ⟨by first | assumption | omega, by first | assumption | omega⟩ | (simp only [List.length_cons, List.length_nil]; omega)) only [↓S0, ↓ITE_bool, S1, eq_self, if_true, if_false, true_implies, false_implies, implies_true, ↓c_check_whole, ↓c_world_Check, ↓c_check_deep, ↓c_check_rooted, ↓c_check_full]
      refine ⟨fun h => ?_, fun h => rfl⟩
      obtain ⟨n, hn⟩ := get_ex h
      have hd := nodes_deep hc _ _ hN n (getI hn)
      simp (disch := first | omega | assumption | exact ⟨by first | assumption | omega, by first | assumption | omega⟩ | (simp only [List.length_cons, List.length_nil]; omega)) only [↓S0, ↓ITE_bool, S1, eq_self, if_true, if_false, true_implies, false_implies, implies_true, ↓c_check_whole, ↓c_world_Check, ↓c_check_deep, ↓c_check_rooted, ↓c_check_full, cell_L hn, hd]
      exact ⟨i + 1, rfl, by omega, by omega⟩
  simp only [app]
  refine LOOP.rule (α := Nat) (fun i => [bb ((List.range i).any fun t => !whole (pathsW w t)), bb false, I i]) (fun i => (i : Int) ≤ c.topics) (fun i => c.topics.toNat - i) 0 rfl (by omega) (fun _ => rfl) ?_
  intro i hl
  simp only [app]
  have hpre : (i : Int) < c.topics → (0 ≤ (i : Int) ∧ w.nodes.length ≤ 8 ∧ ∀ n ∈ w.nodes, (i : Int) < n.topics.length) := fun h => ⟨by omega, by omega, fun n hn => by have := w2 n hn; omega⟩
  have hpre2 : (i : Int) < c.topics → ∃ c : Config, cfgOk c = true ∧ worldOk c w = true ∧ rng i 0 (c.topics - 1) = true := fun h => ⟨c, hc, hw, by unfold rng; simp; omega⟩
  simp (disch := first | omega | assumption | exact ⟨by first | assumption | omega, by first | assumption | omega⟩ | (simp only [List.length_cons, List.length_nil]; omega)) only [↓S0, ↓ITE_bool, S1, eq_self, if_true, if_false, true_implies, false_implies, implies_true, ↓c_check_whole, ↓c_world_Check, ↓c_check_deep, ↓c_check_rooted, ↓c_check_full]
  refine ⟨fun h => ?_, fun h => ?_⟩
  · have hp1 := hpre h
    have hp2 := hpre2 h
    have hs := any_succ (p := fun t => !whole (pathsW w t)) (i := i)
    cases hA : (List.range i).any fun t => !whole (pathsW w t)
    · rw [hA, Bool.false_or] at hs
      simp (disch := first | omega | assumption | exact ⟨by first | assumption | omega, by first | assumption | omega⟩ | (simp only [List.length_cons, List.length_nil]; omega)) only [↓S0, ↓ITE_bool, S1, eq_self, if_true, if_false, true_implies, false_implies, implies_true, ↓c_check_whole, ↓c_world_Check, ↓c_check_deep, ↓c_check_rooted, ↓c_check_full]
      exact ⟨i + 1, by rw [hs]; rfl, by omega, by omega⟩
    · rw [hA, Bool.true_or] at hs
      simp (disch := first | omega | assumption | exact ⟨by first | assumption | omega, by first | assumption | omega⟩ | (simp only [List.length_cons, List.length_nil]; omega)) only [↓S0, ↓ITE_bool, S1, eq_self, if_true, if_false, true_implies, false_implies, implies_true, ↓c_check_whole, ↓c_world_Check, ↓c_check_deep, ↓c_check_rooted, ↓c_check_full]
      exact ⟨i + 1, by rw [hs]; rfl, by omega, by omega⟩
  · have e : c.topics.toNat = i := by omega
    rw [e] at hE
    refine LOOP.rule (α := Nat) (fun i => [bb false, I i]) (fun i => i ≤ w.nodes.length) (fun i => w.nodes.length - i) 0 rfl (by omega) (fun _ => rfl) ?_
    intro j hl2
    simp only [app]
    simp (disch := first | omega | assumption | exact ⟨by first | assumption | omega, by first | assumption | omega⟩ | (simp only [List.length_cons, List.length_nil]; omega)) only [↓S0, ↓ITE_bool, S1, eq_self, if_true, if_false, true_implies, false_implies, implies_true, ↓c_check_whole, ↓c_world_Check, ↓c_check_deep, ↓c_check_rooted, ↓c_check_full]
    refine ⟨fun h => ?_, fun h => ?_⟩
    · obtain ⟨n, hn⟩ := get_ex h
      have hf := hF n (getI hn)
      have ht := w2 n (getI hn)
      simp (disch := first | omega | assumption | exact ⟨by first | assumption | omega, by first | assumption | omega⟩ | (simp only [List.length_cons, List.length_nil]; omega)) only [↓S0, ↓ITE_bool, S1, eq_self, if_true, if_false, true_implies, false_implies, implies_true, ↓c_check_whole, ↓c_world_Check, ↓c_check_deep, ↓c_check_rooted, ↓c_check_full, cell_L hn]
      refine LOOP.rule (α := Nat) (fun i => [I i]) (fun i => i ≤ n.topics.length) (fun i => n.topics.length - i) 0 rfl (by omega) (fun _ => rfl) ?_
      intro k hk
      simp only [app]
      simp (disch := first | omega | assumption | exact ⟨by first | assumption | omega, by first | assumption | omega⟩ | (simp only [List.length_cons, List.length_nil]; omega)) only [↓S0, ↓ITE_bool, S1, eq_self, if_true, if_false, true_implies, false_implies, implies_true, ↓c_check_whole, ↓c_world_Check, ↓c_check_deep, ↓c_check_rooted, ↓c_check_full]
      refine ⟨fun h => ?_, fun h => ⟨j + 1, rfl, by omega, by omega⟩⟩
      obtain ⟨x, hx⟩ := get_ex h
      have hfx : fullT c x = false := by
        rw [List.any_eq_false] at hf
        have := hf x (getI hx)
        simpa using this
      simp (disch := first | omega | assumption | exact ⟨by first | assumption | omega, by first | assumption | omega⟩ | (simp only [List.length_cons, List.length_nil]; omega)) only [↓S0, ↓ITE_bool, S1, eq_self, if_true, if_false, true_implies, false_implies, implies_true, ↓c_check_whole, ↓c_world_Check, ↓c_check_deep, ↓c_check_rooted, ↓c_check_full, cell_L hx, hfx]
      exact ⟨k + 1, rfl, by omega, by omega⟩
    · refine ⟨fun h => ?_, fun h => ?_⟩
      · rw [← hE, if_pos h]
      · rw [← hE, h]; rfl
theorem path_le {c : Config} {n : Node} {x : Topic} (h : deepN c n = false) (hx : x ∈ n.topics) : (x.path.length : Int) ≤ c.depth := by
  rw [deepN, List.any_eq_false] at h
  have := h x hx
  simp at this
  omega
theorem w_ref19_Holds (c : Config) (w : World) (hp : cfgOk c = true ∧ worldOk c w = true) (hg : Goods [I c.nodes, I c.topics, I c.kids, I c.depth, I c.keep, I c.window, I c.queue, L w.nodes, L w.bag]) : S_ref19_Holds ρ (I c.nodes) (I c.topics) (I c.kids) (I c.depth) (I c.keep) (I c.window) (I c.queue) (L w.nodes) (L w.bag) (· = [I (holdsW c w)]) := by
  unfold S_ref19_Holds
  simp only [Goods, good_L, good_I] at hg
  obtain ⟨hc, hw⟩ := hp
  have h0 : worldWhy c w = 0 := by rw [worldWhy, if_pos hc, if_pos hw]
  obtain ⟨w1, w2⟩ := world_tops hw
  have hb := cfg_bd hc
  have hN : nodesGo c 0 w.nodes = true := by
    simp only [worldOk, Bool.and_eq_true] at hw; exact hw.2
  have hD := any_false (nodes_deep hc _ _ hN)
  generalize hE : holdsW c w = q
  rw [holdsW, if_pos h0, cycleW, hD, Bool.false_or] at hE
  refine LOOP.rule (α := Nat) (fun i => [I i]) (fun i => (i : Int) ≤ c.topics ∧ ((List.range i).any fun t => !whole (pathsW w t)) = false) (fun i => c.topics.toNat - i) 0 rfl ⟨by omega, rfl⟩ (fun _ => rfl) ?_
  rintro t ⟨hl, hs⟩
  simp only [app]
  simp (disch := first | omega | assumption | exact ⟨by first | assumption | omega, by first | assumption | omega⟩ | (simp only [List.length_cons, List.length_nil]; omega)) only [↓S0, ↓ITE_bool, S1, eq_self, if_true, if_false, true_implies, false_implies, implies_true, ↓c_ref10_Whole]
  refine ⟨fun h => ?_, fun h => ?_⟩
  · refine LOOP.rule (α := Nat) (fun i => [I i, L ((w.nodes.take i).map fun n => (topAt n t).path)]) (fun i => i ≤ w.nodes.length) (fun i => w.nodes.length - i) 0 rfl (by omega) (fun _ => rfl) ?_
    intro i hi
    simp only [app]
    have hpre : ∀ x ∈ (w.nodes.take i).map fun n => (topAt n t).path, x.length ≤ 1000 := by
      intro p hp
      rw [List.mem_map] at hp
      obtain ⟨n, hn, rfl⟩ := hp
      have hn := List.mem_of_mem_take hn
      have ht := w2 n hn
      obtain ⟨x, hx⟩ := get_ex (xs := n.topics) (i := t) (by omega)
      have := path_le (nodes_deep hc _ _ hN n hn) (getI hx)
      rw [topAt_eq (t := t) (by simpa using hx)]
      omega
    simp (disch := first | omega | assumption | exact ⟨by first | assumption | omega, by first | assumption | omega⟩ | (simp only [List.length_cons, List.length_nil]; omega)) only [↓S0, ↓ITE_bool, S1, eq_self, if_true, if_false, true_implies, false_implies, implies_true, ↓c_ref10_Whole]
    refine ⟨fun h => ?_, fun h => ?_⟩
    · obtain ⟨n, hn⟩ := get_ex (xs := w.nodes) (i := i) (by omega)
      have ht := w2 n (getI hn)
      obtain ⟨x, hx⟩ := get_ex (xs := n.topics) (i := t) (by omega)
      have hd := nodes_deep hc _ _ hN n (getI hn)
      simp (disch := first | omega | assumption | exact ⟨by first | assumption | omega, by first | assumption | omega⟩ | (simp only [List.length_cons, List.length_nil]; omega)) only [↓S0, ↓ITE_bool, S1, eq_self, if_true, if_false, true_implies, false_implies, implies_true, ↓c_ref10_Whole, cell_L hn, cell_L hx]
      have hpl := path_le (nodes_deep hc _ _ hN n (getI hn)) (getI hx)
      rw [OP_app (by simp; omega)]
      refine ⟨fun h => absurd h (by omega), fun _ => ⟨i + 1, ?_, by omega, by omega⟩⟩
      rw [take_s hn, List.map_append, List.map_singleton, topAt_eq (t := t) (by simpa using hx)]; rfl
    · have e : w.nodes.take i = w.nodes := List.take_of_length_le (by omega)
      rw [e]
      have hss := any_succ (p := fun t => !whole (pathsW w t)) (i := t)
      rw [hs, Bool.false_or] at hss
      refine ⟨fun h => ?_, fun h => ⟨t + 1, rfl, ⟨by omega, by rw [hss, Bool.not_eq_false']; exact h⟩, by omega⟩⟩
      rw [← hE, if_pos]
      rw [List.any_eq_true]
      exact ⟨t, by rw [List.mem_range]; omega, by rw [Bool.not_eq_true']; exact h⟩
  · have e : c.topics.toNat = t := by omega
    rw [← hE, e, hs]; rfl
end Go.Xt
end
section
set_option linter.unusedSimpArgs false
set_option linter.unusedVariables false
set_option maxRecDepth 100000
namespace Go.Xt
theorem w_law19_Full  : S_law19_Full ρ  (· = [I 8, I 4, I 2, I 8, I 8, I 8, I 16]) := by
  unfold S_law19_Full
  rfl
theorem full_ok : cfgOk fullC = true := by decide
theorem full_new : worldWhy fullC (newW fullC) = 0 := by decide
theorem full_asked : askedW fullC (newW fullC) 0 = 0 := by decide
theorem full_asked4 : askedW fullC (newW fullC) 4 = 1 := by decide
theorem full_par : (parentsW (newW fullC) 0).length = 8 := by decide
theorem full_roots : rootsW (newW fullC) 0 = [] := by decide
theorem full_whole : whole (pathsW (newW fullC) 0) = true := by decide
theorem full_holds : holdsW fullC (newW fullC) = 0 := by decide
theorem w_law27_wakes  : S_law27_wakes ρ  (· = [bb true]) := by
  unfold S_law27_wakes
  generalize hE : true = q
  simp (disch := first | omega | assumption | exact ⟨by first | assumption | omega, by first | assumption | omega⟩ | (simp only [List.length_cons, List.length_nil]; omega)) only [↓S0, ↓ITE_bool, S1, eq_self, if_true, if_false, true_implies, false_implies, implies_true, ↓c_check_Parents, ↓c_check_Roots, ↓c_check_Whole, ↓c_check_Holds, ↓c_check_Rises, ↓c_law19_Full, ↓c_world_New]
  simp only [show (⟨8, 4, 2, 8, 8, 8, 16⟩ : Config) = fullC from rfl, full_ok, if_true, full_asked, full_asked4, full_par, full_roots, full_whole, full_holds]
  rw [← hE]
  clear hE
  simp [risesE, ofStream]
end Go.Xt
end
section
set_option linter.unusedSimpArgs false
set_option linter.unusedVariables false
set_option maxRecDepth 100000
namespace Go.Xt
theorem nextTo_eq {p x : Event} : nextTo p x = !(decide (x.epoch < p.epoch) || (decide (x.epoch = p.epoch) && (decide (x.seq ≤ endOf p) || !decide (IntKind.i64.wrap (x.seq - 1) = endOf p)))) := by
  unfold nextTo
  by_cases h : x.seq ≤ endOf p
  · rw [decide_eq_true h, decide_eq_false (show ¬ endOf p < x.seq by omega)]; simp
  · rw [decide_eq_false h, decide_eq_true (show endOf p < x.seq by omega)]; simp
theorem w_law27_CheckExact (c : Config) (w : World) (t : Int) (l : List Event) (hp : ∀ f ∈ w.bag, f.bytes.length ≤ 140737488355328) (hg : Goods [I c.nodes, I c.topics, I c.kids, I c.depth, I c.keep, I c.window, I c.queue, L w.nodes, L w.bag, I t, L l]) : S_law27_CheckExact ρ (I c.nodes) (I c.topics) (I c.kids) (I c.depth) (I c.keep) (I c.window) (I c.queue) (L w.nodes) (L w.bag) (I t) (L l) (· = [bb true]) := by
  unfold S_law27_CheckExact
  simp only [Goods, good_L, good_I] at hg
  refine SUB.v1 (bb (heavy25 w || decide (l.length > 50))) ?_ ?_
  · repeat' (first | apply And.intro | intro _ | simp (disch := first | omega | assumption | exact ⟨by first | assumption | omega, by first | assumption | omega⟩ | (simp only [List.length_cons, List.length_nil]; omega)) only [↓S0, ↓ITE_bool, S1, eq_self, if_true, if_false, true_implies, false_implies, implies_true, ↓c_law25_Heavy, ↓c_bkeep_TwinWorld, ↓c_check_Parents, ↓c_check_Roots, ↓c_check_Whole, ↓c_check_Holds, ↓c_check_Rises, ↓c_bkeep_World, ↓c_ref01_Config, ↓c_ref19_World, ↓c_law27_wakes, ↓c_ref19_Holds, ↓c_bkeep_Ints, ↓c_ref10_Whole])
    all_goals (simp_all; try omega)
  cases hH : (heavy25 w || decide (l.length > 50))
  rotate_left
  · simp (disch := first | omega | assumption | exact ⟨by first | assumption | omega, by first | assumption | omega⟩ | (simp only [List.length_cons, List.length_nil]; omega)) only [↓S0, ↓ITE_bool, S1, eq_self, if_true, if_false, true_implies, false_implies, implies_true, ↓c_law25_Heavy, ↓c_bkeep_TwinWorld, ↓c_check_Parents, ↓c_check_Roots, ↓c_check_Whole, ↓c_check_Holds, ↓c_check_Rises, ↓c_bkeep_World, ↓c_ref01_Config, ↓c_ref19_World, ↓c_law27_wakes, ↓c_ref19_Holds, ↓c_bkeep_Ints, ↓c_ref10_Whole]
  simp only [Bool.or_eq_false_iff, decide_eq_false_iff_not] at hH
  have hpre : w.nodes.length ≤ 10 ∧ w.nodes.any heavy21 = false ∧ w.bag.length ≤ 1000 ∧ ∀ f ∈ w.bag, f.bytes.length ≤ 140737488355328 := by
    have h1 := hH.1
    simp only [heavy25, Bool.or_eq_false_iff, decide_eq_false_iff_not] at h1
    exact ⟨by omega, h1.1.2, by omega, hp⟩
  rw [ITE_false]
  simp (disch := first | omega | assumption | exact ⟨by first | assumption | omega, by first | assumption | omega⟩ | (simp only [List.length_cons, List.length_nil]; omega)) only [↓S0, ↓ITE_bool, S1, eq_self, if_true, if_false, true_implies, false_implies, implies_true, ↓c_law25_Heavy, ↓c_bkeep_TwinWorld, ↓c_check_Parents, ↓c_check_Roots, ↓c_check_Whole, ↓c_check_Holds, ↓c_check_Rises, ↓c_bkeep_World, ↓c_ref01_Config, ↓c_ref19_World, ↓c_law27_wakes, ↓c_ref19_Holds, ↓c_bkeep_Ints, ↓c_ref10_Whole]
  refine LOOP.rule (α := Nat × Bool) (fun p => [bb p.2, I p.1]) (fun p => p.1 ≤ l.length ∧ risesE none l = (p.2 && risesE (if p.1 = 0 then none else l[p.1 - 1]?) (l.drop p.1)) ∧ (p.2 = true → ∀ y, p.1 ≠ 0 → l[p.1 - 1]? = some y → ofStream y = true)) (fun p => l.length - p.1) (0, true) rfl ⟨by simp, by simp, by simp⟩ (fun _ => rfl) ?_
  rintro ⟨i, r⟩ ⟨hl, hs, hr⟩
  simp only [app]
  simp only at hl hs hr
  simp (disch := first | omega | assumption | exact ⟨by first | assumption | omega, by first | assumption | omega⟩ | (simp only [List.length_cons, List.length_nil]; omega)) only [↓S0, ↓ITE_bool, S1, eq_self, if_true, if_false, true_implies, false_implies, implies_true, ↓c_law25_Heavy, ↓c_bkeep_TwinWorld, ↓c_check_Parents, ↓c_check_Roots, ↓c_check_Whole, ↓c_check_Holds, ↓c_check_Rises, ↓c_bkeep_World, ↓c_ref01_Config, ↓c_ref19_World, ↓c_law27_wakes, ↓c_ref19_Holds, ↓c_bkeep_Ints, ↓c_ref10_Whole]
  refine ⟨fun h => ?_, fun h => ?_⟩
  · obtain ⟨x, hx⟩ := get_ex (xs := l) (i := i) (by omega)
    have hn : (if i + 1 = 0 then none else l[i + 1 - 1]?) = some x := by rw [if_neg (by omega)]; simpa using hx
    rw [drop_eq hx] at hs
    refine SUB.v1 (bb (!ofStream x)) ?_ ?_
    · simp (disch := first | omega | assumption | exact ⟨by first | assumption | omega, by first | assumption | omega⟩ | (simp only [List.length_cons, List.length_nil]; omega)) only [↓S0, ↓ITE_bool, S1, eq_self, if_true, if_false, true_implies, false_implies, implies_true, ↓c_law25_Heavy, ↓c_bkeep_TwinWorld, ↓c_check_Parents, ↓c_check_Roots, ↓c_check_Whole, ↓c_check_Holds, ↓c_check_Rises, ↓c_bkeep_World, ↓c_ref01_Config, ↓c_ref19_World, ↓c_law27_wakes, ↓c_ref19_Holds, ↓c_bkeep_Ints, ↓c_ref10_Whole, cell_L hx]
      unfold ofStream
      repeat' (first | apply And.intro | intro _ | simp (disch := first | omega | assumption | exact ⟨by first | assumption | omega, by first | assumption | omega⟩ | (simp only [List.length_cons, List.length_nil]; omega)) only [↓S0, ↓ITE_bool, S1, eq_self, if_true, if_false, true_implies, false_implies, implies_true, ↓c_law25_Heavy, ↓c_bkeep_TwinWorld, ↓c_check_Parents, ↓c_check_Roots, ↓c_check_Whole, ↓c_check_Holds, ↓c_check_Rises, ↓c_bkeep_World, ↓c_ref01_Config, ↓c_ref19_World, ↓c_law27_wakes, ↓c_ref19_Holds, ↓c_bkeep_Ints, ↓c_ref10_Whole])
      all_goals simp_all
    refine SUB.v1 (bb (r && ofStream x)) ?_ ?_
    · cases ofStream x <;> simp (disch := first | omega | assumption | exact ⟨by first | assumption | omega, by first | assumption | omega⟩ | (simp only [List.length_cons, List.length_nil]; omega)) only [↓S0, ↓ITE_bool, S1, eq_self, if_true, if_false, true_implies, false_implies, implies_true, ↓c_law25_Heavy, ↓c_bkeep_TwinWorld, ↓c_check_Parents, ↓c_check_Roots, ↓c_check_Whole, ↓c_check_Holds, ↓c_check_Rises, ↓c_bkeep_World, ↓c_ref01_Config, ↓c_ref19_World, ↓c_law27_wakes, ↓c_ref19_Holds, ↓c_bkeep_Ints, ↓c_ref10_Whole] <;> cases r <;> rfl
    by_cases hi : i = 0
    · subst hi
      simp (disch := first | omega | assumption | exact ⟨by first | assumption | omega, by first | assumption | omega⟩ | (simp only [List.length_cons, List.length_nil]; omega)) only [↓S0, ↓ITE_bool, S1, eq_self, if_true, if_false, true_implies, false_implies, implies_true, ↓c_law25_Heavy, ↓c_bkeep_TwinWorld, ↓c_check_Parents, ↓c_check_Roots, ↓c_check_Whole, ↓c_check_Holds, ↓c_check_Rises, ↓c_bkeep_World, ↓c_ref01_Config, ↓c_ref19_World, ↓c_law27_wakes, ↓c_ref19_Holds, ↓c_bkeep_Ints, ↓c_ref10_Whole]
      refine ⟨fun h => absurd h (by omega), fun _ => ?_⟩
      refine ⟨(0 + 1, r && ofStream x), rfl, ⟨by simp only; omega, ?_, ?_⟩, by simp only; omega⟩
      · simp only; rw [hn, hs, if_pos rfl, risesE, Bool.and_assoc]
      · intro h2 y _ hy
        simp at h2 hy
        simp [hx] at hy
        rw [← hy]; exact h2.2
    · obtain ⟨p, hp⟩ := get_ex (xs := l) (i := i - 1) (by omega)
      rw [if_neg hi, hp, risesE] at hs
      have hr := fun hr' => hr hr' p hi hp
      have e1 : (i : Int) - 1 = ((i - 1 : Nat) : Int) := by omega
      simp (disch := first | omega | assumption | exact ⟨by first | assumption | omega, by first | assumption | omega⟩ | (simp only [List.length_cons, List.length_nil]; omega)) only [↓S0, ↓ITE_bool, S1, eq_self, if_true, if_false, true_implies, false_implies, implies_true, ↓c_law25_Heavy, ↓c_bkeep_TwinWorld, ↓c_check_Parents, ↓c_check_Roots, ↓c_check_Whole, ↓c_check_Holds, ↓c_check_Rises, ↓c_bkeep_World, ↓c_ref01_Config, ↓c_ref19_World, ↓c_law27_wakes, ↓c_ref19_Holds, ↓c_bkeep_Ints, ↓c_ref10_Whole, cell_L hp, cell_L hx, e1]
      refine ⟨fun _ => ?_, fun h => absurd (by omega) h⟩
      have fin : ∀ b, (r = true → b = (ofStream x && nextTo p x)) → (r = false → b = false) → ∃ a' : Nat × Bool, [bb b, I ((i : Int) + 1)] = [bb a'.2, I a'.1] ∧ (a'.1 ≤ l.length ∧ risesE none l = (a'.2 && risesE (if a'.1 = 0 then none else l[a'.1 - 1]?) (l.drop a'.1)) ∧ (a'.2 = true → ∀ y, a'.1 ≠ 0 → l[a'.1 - 1]? = some y → ofStream y = true)) ∧ l.length - a'.1 < l.length - i := by
        intro b h1 h2
        refine ⟨(i + 1, b), rfl, ⟨by simp only; omega, ?_, ?_⟩, by simp only; omega⟩
        · simp only; rw [hn, hs]
          cases hrr : r
          · rw [h2 hrr]; rfl
          · rw [h1 hrr, Bool.true_and]
        · intro h3 y _ hy
          simp at h3 hy
          simp [hx] at hy
          cases hrr : r
          · rw [h2 hrr] at h3; cases h3
          · rw [h1 hrr, Bool.and_eq_true] at h3
            rw [← hy]; exact h3.1
      have hm : r = true → (if p.kind = 2 then p.last else p.seq) = endOf p := by
        intro h1
        have := hr h1
        unfold ofStream at this
        unfold endOf
        by_cases k2 : p.kind = 2
        · simp [k2]
        · simp [k2] at this
          simp [this]
      generalize hmm : (if p.kind = 2 then p.last else p.seq) = m at hm
      refine SUB.v1 (I m) ?_ ?_
      · refine ⟨fun h => ?_, fun h => ?_⟩ <;> simp [h] at hmm <;> rw [hmm]
      refine ⟨fun h1 => fin false (fun hr => ?_) (fun _ => rfl), fun h1 => ⟨fun h2 => ?_, fun h2 => fin _ (fun hr => ?_) (fun hr => ?_)⟩⟩
      · simp [nextTo_eq, h1]
      · rw [OP_leq]
        rw [ITE_dec]
        refine ⟨fun h3 => fin false (fun hr => ?_) (fun _ => rfl), fun h3 => ?_⟩
        · simp [nextTo_eq, h1, h2, ← hm hr, h3]
        · rw [OP_subW]
          simp (disch := first | omega | assumption | exact ⟨by first | assumption | omega, by first | assumption | omega⟩ | (simp only [List.length_cons, List.length_nil]; omega)) only [↓S0, ↓ITE_bool, S1, eq_self, if_true, if_false, true_implies, false_implies, implies_true, ↓c_law25_Heavy, ↓c_bkeep_TwinWorld, ↓c_check_Parents, ↓c_check_Roots, ↓c_check_Whole, ↓c_check_Holds, ↓c_check_Rises, ↓c_bkeep_World, ↓c_ref01_Config, ↓c_ref19_World, ↓c_law27_wakes, ↓c_ref19_Holds, ↓c_bkeep_Ints, ↓c_ref10_Whole]
          refine ⟨fun h4 => fin false (fun hr => ?_) (fun _ => rfl), fun h4 => fin _ (fun hr => ?_) (fun hr => ?_)⟩
          · simp [nextTo_eq, h1, h2, ← hm hr, h3, h4]
          · simp [nextTo_eq, h1, h2, ← hm hr, h3, h4, hr]
          · simp [hr]
      · simp [nextTo_eq, h1, h2, hr]
      · simp [hr]
  · rw [drop_nil (by omega)] at hs
    have hq : risesE none l = r := by
      rw [hs]
      cases (if i = 0 then none else l[i - 1]?) <;> simp [risesE]
    rw [hq]
    refine SUB.v1 (bb false) ?_ ?_
    · simp (disch := first | omega | assumption | exact ⟨by first | assumption | omega, by first | assumption | omega⟩ | (simp only [List.length_cons, List.length_nil]; omega)) only [↓S0, ↓ITE_bool, S1, eq_self, if_true, if_false, true_implies, false_implies, implies_true, ↓c_law25_Heavy, ↓c_bkeep_TwinWorld, ↓c_check_Parents, ↓c_check_Roots, ↓c_check_Whole, ↓c_check_Holds, ↓c_check_Rises, ↓c_bkeep_World, ↓c_ref01_Config, ↓c_ref19_World, ↓c_law27_wakes, ↓c_ref19_Holds, ↓c_bkeep_Ints, ↓c_ref10_Whole]
      simp
    rw [ITE_false]
    refine SUB.v1 (I (worldWhy c w)) ?_ ?_
    · unfold worldWhy
      refine ⟨fun hc => ?_, fun hc => ?_⟩
      · simp [hc]
      · simp (disch := first | omega | assumption | exact ⟨by first | assumption | omega, by first | assumption | omega⟩ | (simp only [List.length_cons, List.length_nil]; omega)) only [↓S0, ↓ITE_bool, S1, eq_self, if_true, if_false, true_implies, false_implies, implies_true, ↓c_law25_Heavy, ↓c_bkeep_TwinWorld, ↓c_check_Parents, ↓c_check_Roots, ↓c_check_Whole, ↓c_check_Holds, ↓c_check_Rises, ↓c_bkeep_World, ↓c_ref01_Config, ↓c_ref19_World, ↓c_law27_wakes, ↓c_ref19_Holds, ↓c_bkeep_Ints, ↓c_ref10_Whole]
        refine ⟨fun h => ?_, fun h => ?_⟩ <;> simp [h, hc]
    by_cases h0 : ¬ (worldWhy c w = 0)
    · have a1 : askedW c w t = worldWhy c w := by rw [askedW, if_neg h0]
      have a2 : holdsW c w = worldWhy c w := by rw [holdsW, if_neg h0]
      have a3 : decide (worldWhy c w = 0) = false := decide_eq_false h0
      rw [a1, a2, if_neg h0, if_neg h0, a3]
      simp (disch := first | omega | assumption | exact ⟨by first | assumption | omega, by first | assumption | omega⟩ | (simp only [List.length_cons, List.length_nil]; omega)) only [↓S0, ↓ITE_bool, S1, eq_self, if_true, if_false, true_implies, false_implies, implies_true, ↓c_law25_Heavy, ↓c_bkeep_TwinWorld, ↓c_check_Parents, ↓c_check_Roots, ↓c_check_Whole, ↓c_check_Holds, ↓c_check_Rises, ↓c_bkeep_World, ↓c_ref01_Config, ↓c_ref19_World, ↓c_law27_wakes, ↓c_ref19_Holds, ↓c_bkeep_Ints, ↓c_ref10_Whole]
      simp [h0]
    rw [Decidable.not_not] at h0
    obtain ⟨hc, hw⟩ := worldWhy_0 h0
    obtain ⟨w1, w2⟩ := world_tops hw
    have hb := cfg_bd hc
    rw [h0]
    have hcw : cfgOk c = true ∧ worldOk c w = true := ⟨hc, hw⟩
    simp (disch := first | omega | assumption | exact ⟨by first | assumption | omega, by first | assumption | omega⟩ | (simp only [List.length_cons, List.length_nil]; omega)) only [↓S0, ↓ITE_bool, S1, eq_self, if_true, if_false, true_implies, false_implies, implies_true, ↓c_law25_Heavy, ↓c_bkeep_TwinWorld, ↓c_check_Parents, ↓c_check_Roots, ↓c_check_Whole, ↓c_check_Holds, ↓c_check_Rises, ↓c_bkeep_World, ↓c_ref01_Config, ↓c_ref19_World, ↓c_law27_wakes, ↓c_ref19_Holds, ↓c_bkeep_Ints, ↓c_ref10_Whole]
    have hrr : rng t 0 (c.topics - 1) = (decide (0 ≤ t) && decide (t ≤ c.topics - 1)) := rfl
    refine SUB.v1 (bb (!rng t 0 (c.topics - 1))) ?_ ?_
    · rw [hrr]
      refine ⟨fun h => ?_, fun h => ?_⟩
      · rw [decide_eq_false (show ¬ 0 ≤ t by omega)]; rfl
      · rw [decide_eq_true (show 0 ≤ t by omega)]
        by_cases h3 : c.topics ≤ t
        · rw [decide_eq_true h3, decide_eq_false (show ¬ t ≤ c.topics - 1 by omega)]; rfl
        · rw [decide_eq_false h3, decide_eq_true (show t ≤ c.topics - 1 by omega)]; rfl
    cases hr : rng t 0 (c.topics - 1)
    · have a1 : askedW c w t = 1 := by rw [askedW, if_pos h0, hr]; rfl
      rw [a1]
      simp (disch := first | omega | assumption | exact ⟨by first | assumption | omega, by first | assumption | omega⟩ | (simp only [List.length_cons, List.length_nil]; omega)) only [↓S0, ↓ITE_bool, S1, eq_self, if_true, if_false, true_implies, false_implies, implies_true, ↓c_law25_Heavy, ↓c_bkeep_TwinWorld, ↓c_check_Parents, ↓c_check_Roots, ↓c_check_Whole, ↓c_check_Holds, ↓c_check_Rises, ↓c_bkeep_World, ↓c_ref01_Config, ↓c_ref19_World, ↓c_law27_wakes, ↓c_ref19_Holds, ↓c_bkeep_Ints, ↓c_ref10_Whole]
      simp
      rw [OP_add (by omega) (by omega)]
      simp (disch := first | omega | assumption | exact ⟨by first | assumption | omega, by first | assumption | omega⟩ | (simp only [List.length_cons, List.length_nil]; omega)) only [↓S0, ↓ITE_bool, S1, eq_self, if_true, if_false, true_implies, false_implies, implies_true, ↓c_law25_Heavy, ↓c_bkeep_TwinWorld, ↓c_check_Parents, ↓c_check_Roots, ↓c_check_Whole, ↓c_check_Holds, ↓c_check_Rises, ↓c_bkeep_World, ↓c_ref01_Config, ↓c_ref19_World, ↓c_law27_wakes, ↓c_ref19_Holds, ↓c_bkeep_Ints, ↓c_ref10_Whole]
      simp
    have a1 : askedW c w t = 0 := by rw [askedW, if_pos h0, if_pos hr]
    have hr' := rng_bd hr
    rw [a1]
    simp (disch := first | omega | assumption | exact ⟨by first | assumption | omega, by first | assumption | omega⟩ | (simp only [List.length_cons, List.length_nil]; omega)) only [↓S0, ↓ITE_bool, S1, eq_self, if_true, if_false, true_implies, false_implies, implies_true, ↓c_law25_Heavy, ↓c_bkeep_TwinWorld, ↓c_check_Parents, ↓c_check_Roots, ↓c_check_Whole, ↓c_check_Holds, ↓c_check_Rises, ↓c_bkeep_World, ↓c_ref01_Config, ↓c_ref19_World, ↓c_law27_wakes, ↓c_ref19_Holds, ↓c_bkeep_Ints, ↓c_ref10_Whole]
    obtain ⟨u, rfl⟩ := Int.eq_ofNat_of_zero_le hr'.1
    refine LOOP.rule (α := Nat) (fun i => [I i, L ((w.nodes.take i).map fun n => (topAt n u).parent), L (rootsGo u 0 (w.nodes.take i)), L ((w.nodes.take i).map fun n => (topAt n u).path)]) (fun i => i ≤ w.nodes.length) (fun i => w.nodes.length - i) 0 rfl (by omega) (fun _ => rfl) ?_
    intro i hl
    simp only [app]
    simp (disch := first | omega | assumption | exact ⟨by first | assumption | omega, by first | assumption | omega⟩ | (simp only [List.length_cons, List.length_nil]; omega)) only [↓S0, ↓ITE_bool, S1, eq_self, if_true, if_false, true_implies, false_implies, implies_true, ↓c_law25_Heavy, ↓c_bkeep_TwinWorld, ↓c_check_Parents, ↓c_check_Roots, ↓c_check_Whole, ↓c_check_Holds, ↓c_check_Rises, ↓c_bkeep_World, ↓c_ref01_Config, ↓c_ref19_World, ↓c_law27_wakes, ↓c_ref19_Holds, ↓c_bkeep_Ints, ↓c_ref10_Whole]
    refine ⟨fun h => ?_, fun h => ?_⟩
    · obtain ⟨n, hn⟩ := get_ex (xs := w.nodes) (i := i) (by omega)
      have ht := w2 n (getI hn)
      obtain ⟨x, hx⟩ := get_ex (xs := n.topics) (i := u) (by omega)
      have htx := topAt_eq (n := n) (t := u) (by simpa using hx)
      simp (disch := first | omega | assumption | exact ⟨by first | assumption | omega, by first | assumption | omega⟩ | (simp only [List.length_cons, List.length_nil]; omega)) only [↓S0, ↓ITE_bool, S1, eq_self, if_true, if_false, true_implies, false_implies, implies_true, ↓c_law25_Heavy, ↓c_bkeep_TwinWorld, ↓c_check_Parents, ↓c_check_Roots, ↓c_check_Whole, ↓c_check_Holds, ↓c_check_Rises, ↓c_bkeep_World, ↓c_ref01_Config, ↓c_ref19_World, ↓c_law27_wakes, ↓c_ref19_Holds, ↓c_bkeep_Ints, ↓c_ref10_Whole, cell_L hn, cell_L hx]
      refine .inl ⟨[L ((w.nodes.take (i + 1)).map fun n => (topAt n u).path), L [x.path], L ((w.nodes.take (i + 1)).map fun n => (topAt n u).parent), L [x.parent]], rfl, ?_, ?_⟩
      · have e1 : L ((w.nodes.take (i + 1)).map fun n => (topAt n u).path) = L (((w.nodes.take i).map fun n => (topAt n u).path) ++ [x.path]) := by rw [take_s hn, List.map_append, List.map_singleton, htx]
        have e2 : L ((w.nodes.take (i + 1)).map fun n => (topAt n u).parent) = L (((w.nodes.take i).map fun n => (topAt n u).parent) ++ [x.parent]) := by rw [take_s hn, List.map_append, List.map_singleton, htx]
        rw [e1, e2]
        have e3 : (((w.nodes.take i).map fun n => (topAt n u).path).length + [x.path].length) * 24 ≤ 140737488355328 := by simp; omega
        have e4 : (((w.nodes.take i).map fun n => (topAt n u).parent).length + [x.parent].length) * 8 ≤ 140737488355328 := by simp; omega
        simp only [OP_app e3, OP_app e4, and_self]
      · simp only [app]
        have hll := rootsGo_len (t := u) (w.nodes.take i) 0
        rw [List.length_take] at hll
        have hT : rootsGo u 0 (w.nodes.take (i + 1)) = rootsGo u 0 (w.nodes.take i) ++ (if n.up = true ∧ x.root ≠ 0 then [(i : Int)] else []) := by
          rw [take_s hn, rootsGo_app, htx, List.length_take]
          have : (0 : Int) + ((min i w.nodes.length : Nat) : Int) = i := by omega
          rw [this]
        refine ⟨fun hu => ⟨fun h3 => ?_, fun h3 => ?_⟩, fun hu => ?_⟩
        · rw [if_pos ⟨hu, h3⟩] at hT
          rw [OP_app (by simp; omega)]
          exact ⟨i + 1, by rw [hT]; rfl, by omega, by omega⟩
        · rw [if_neg (by simp [h3]), List.append_nil] at hT
          exact ⟨i + 1, by rw [hT]; rfl, by omega, by omega⟩
        · rw [if_neg (by simp [hu]), List.append_nil] at hT
          exact ⟨i + 1, by rw [hT]; rfl, by omega, by omega⟩
    · have e : w.nodes.take i = w.nodes := List.take_of_length_le (by omega)
      rw [e]
      have hN : nodesGo c 0 w.nodes = true := by
        simp only [worldOk, Bool.and_eq_true] at hw; exact hw.2
      have hpre : ∀ x ∈ w.nodes.map fun n => (topAt n u).path, x.length ≤ 1000 := by
        intro p hp
        rw [List.mem_map] at hp
        obtain ⟨n, hn, rfl⟩ := hp
        have ht := w2 n hn
        obtain ⟨x, hx⟩ := get_ex (xs := n.topics) (i := u) (by omega)
        have := path_le (nodes_deep hc _ _ hN n hn) (getI hx)
        rw [topAt_eq (t := u) (by simpa using hx)]
        omega
      simp (disch := first | omega | assumption | exact ⟨by first | assumption | omega, by first | assumption | omega⟩ | (simp only [List.length_cons, List.length_nil]; omega)) only [↓S0, ↓ITE_bool, S1, eq_self, if_true, if_false, true_implies, false_implies, implies_true, ↓c_law25_Heavy, ↓c_bkeep_TwinWorld, ↓c_check_Parents, ↓c_check_Roots, ↓c_check_Whole, ↓c_check_Holds, ↓c_check_Rises, ↓c_bkeep_World, ↓c_ref01_Config, ↓c_ref19_World, ↓c_law27_wakes, ↓c_ref19_Holds, ↓c_bkeep_Ints, ↓c_ref10_Whole]
      simp [parentsW, rootsW, pathsW]
end Go.Xt
end
section
set_option linter.unusedSimpArgs false
set_option linter.unusedVariables false
set_option maxRecDepth 100000
namespace Go.Xt
def evs (N : Nat) : List Event := (List.range N).map fun k : Nat => dataE 16 (k + 1) (k + 1)
def riseB (N A : Nat) : Bool := risesE none (evs N) && risesE none ((evs N).set A ⟨2, 16, A + 1, A + 1, 0, 0⟩) && risesE none ((evs N).drop A) &&
  !risesE none ((evs N).take A ++ (evs N).drop (A + 1)) && !risesE none ((evs N).take (A + 1) ++ (evs N).drop A) &&
  risesE none (evs N ++ [dataE 32 7 1, dataE 32 8 1]) && !risesE none ((evs N).set A { dataE 16 (A + 1) (A + 1) with epoch := 32 }) &&
  !risesE none ((evs N).set A { dataE 16 (A + 1) (A + 1) with kind := 5 })
theorem riseB_all : ((List.range 20).all fun n => (List.range (n + 1)).all fun a => riseB (n + 3) (a + 1)) = true := by decide +kernel
theorem riseB_ok {N A : Nat} (h0 : 3 ≤ N) (h1 : N ≤ 22) (h2 : 1 ≤ A) (h3 : A ≤ N - 2) : riseB N A = true := by
  have h := riseB_all
  rw [List.all_eq_true] at h
  have h4 := h (N - 3) (by rw [List.mem_range]; omega)
  rw [List.all_eq_true] at h4
  have h5 := h4 (A - 1) (by rw [List.mem_range]; omega)
  rw [show N - 3 + 3 = N by omega, show A - 1 + 1 = A by omega] at h5
  exact h5
theorem evs_succ {N : Nat} : evs (N + 1) = evs N ++ [dataE 16 (N + 1) (N + 1)] := by
  unfold evs
  rw [List.range_succ, List.map_append]; rfl
theorem evs_len {N : Nat} : (evs N).length = N := by simp [evs]
theorem evs_get {N A : Nat} (h : A < N) : (evs N)[A]? = some (dataE 16 (A + 1) (A + 1)) := by simp [evs, h]
theorem OP_rows0 {k : PV → Prop} : OP (.rows 6) [] k = k (.list []) := OP_of (by simp [ev, chunk])
theorem OP_rowsE2 {k : PV → Prop} {a b c d e f a' b' c' d' e' f' : Int} : OP (.rows 6) [I a, I b, I c, I d, I e, I f, I a', I b', I c', I d', I e', I f'] k = k (L [(⟨a, b, c, d, e, f⟩ : Event), ⟨a', b', c', d', e', f'⟩]) := OP_of (by simp [ev, chunk, L, Row.row])
end Go.Xt
end
