/- Steps towards the statements of this seat; the conditions stand in each theorem. -/
import Derived.Test.YtbobikmalojafaaGreatDoorPartW1
section
set_option linter.unusedSimpArgs false
set_option linter.unusedVariables false
set_option maxRecDepth 100000
namespace Go.Xt
set_option linter.defProp false
theorem kids_ages {t : Int} : ∀ {l : List Kid} {a : Int},kidsGo t a l = true → ∀ k ∈ l,0 ≤ k.age ∧ k.age ≤ 6
  | [],_,_ => by simp
  | x :: r,a,h => by
    simp only [kidsGo,Bool.and_eq_true] at h
    intro k hk
    rcases List.mem_cons.1 hk with rfl | h2
    · exact rng_bd h.1.2
    · exact kids_ages h.2 k h2
theorem olderK_cons {x : Kid} {r : List Kid} : olderK (x :: r) = (if x.age + 1 ≤ 6 then [{ x with age := x.age + 1 }] else []) ++ olderK r := by
  unfold olderK;rw [List.map_cons,List.filter_cons];by_cases h : x.age + 1 ≤ 6 <;> simp [h]
theorem w_kids_Older (t : Int) (self : Int) (limit : Int) (l : List Kid) (hp : kidsOk t self limit l = true) (hg : Goods (F_kids_Older (t,self,limit,l)).2.1) : WW ρ 4 S_kids_Older F_kids_Older (t,self,limit,l) := by
  dsimp only [WW,appV,F_kids_Older] at hg ⊢
  unfold S_kids_Older
  simp only [Goods,good_I,good_L] at hg
  have hk : kidsGo t self l = true ∧ l.length ≤ 4 := by
    have := hp
    simp only [kidsOk,Bool.and_eq_true,decide_eq_true_eq] at this
    have h2 := rng_bd this.1.1.2
    exact ⟨this.2,by omega⟩
  have ha := kids_ages hk.1
  generalize hE : olderK l = q
  simp (disch:=first|omega|assumption|(constructor<;>first|assumption|omega)|simp only[LN];omega) only [↓SB,S1,↓c_kids_Check,hp]
  refine LOOP.rule (α := Nat × List Kid) (fun p => [I p.1,L p.2]) (fun p => p.1 ≤ l.length ∧ p.2.length ≤ p.1 ∧ p.2 ++ olderK (l.drop p.1) = q) (fun p => l.length - p.1) (0,[]) rfl ⟨by simp,by simp,by simpa using hE⟩ (fun _ => rfl) ?_
  rintro ⟨i,a⟩ ⟨hi,h2,hs⟩
  simp only at hi h2 hs
  simp only [app]
  simp (disch:=first|omega|assumption|(constructor<;>first|assumption|omega)|simp only[LN];omega) only [↓SB,S1,↓c_kids_Check]
  refine ⟨fun h4 => ?_,fun h4 => ?_⟩
  · obtain ⟨x,hx⟩ := get_ex h4
    rw [drop_eq hx,olderK_cons] at hs
    have hb := ha x (List.mem_of_getElem? hx)
    simp (disch:=first|omega|assumption|(constructor<;>first|assumption|omega)|simp only[LN];omega) only [↓SB,S1,↓c_kids_Check,cell_L hx]
    refine ⟨fun h5 => ⟨(i + 1,a ++ [{ x with age := x.age + 1 }]),rfl,⟨by simp;omega,by simp;omega,?_⟩,by simp;omega⟩,fun h5 => ⟨(i + 1,a),rfl,⟨by simp;omega,by simp;omega,?_⟩,by simp;omega⟩⟩
    · rw [if_pos h5] at hs;simpa using hs
    · rw [if_neg h5] at hs;simpa using hs
  · rw [drop_nil h4] at hs
    simp [olderK] at hs;simp [hs]
theorem w_ref10_OlderKids (l : List Kid) (hp : l.length ≤ 1000 ∧ ∀ k ∈ l,0 ≤ k.age ∧ k.age ≤ 1000) (hg : Goods (F_ref10_OlderKids l).2.1) : WW ρ 1 S_ref10_OlderKids F_ref10_OlderKids l := by
  dsimp only [WW,appV,F_ref10_OlderKids] at hg ⊢
  unfold S_ref10_OlderKids
  obtain ⟨hl,ha⟩ := hp
  generalize hE : olderK l = q
  refine LOOP.rule (α := Nat × List Kid) (fun p => [I p.1,L p.2]) (fun p => p.1 ≤ l.length ∧ p.2.length ≤ p.1 ∧ p.2 ++ olderK (l.drop p.1) = q) (fun p => l.length - p.1) (0,[]) rfl ⟨by simp,by simp,by simpa using hE⟩ (fun _ => rfl) ?_
  rintro ⟨i,a⟩ ⟨hi,h2,hs⟩
  simp only at hi h2 hs
  simp only [app]
  simp (disch:=first|omega|assumption|(constructor<;>first|assumption|omega)|simp only[LN];omega) only [↓SB,S1]
  refine ⟨fun h4 => ?_,fun h4 => ?_⟩
  · obtain ⟨x,hx⟩ := get_ex h4
    rw [drop_eq hx,olderK_cons] at hs
    have hb := ha x (List.mem_of_getElem? hx)
    simp (disch:=first|omega|assumption|(constructor<;>first|assumption|omega)|simp only[LN];omega) only [↓SB,S1,cell_L hx]
    refine ⟨fun h5 => ⟨(i + 1,a ++ [{ x with age := x.age + 1 }]),rfl,⟨by simp;omega,by simp;omega,?_⟩,by simp;omega⟩,fun h5 => ⟨(i + 1,a),rfl,⟨by simp;omega,by simp;omega,?_⟩,by simp;omega⟩⟩
    · rw [if_pos h5] at hs;simpa using hs
    · rw [if_neg h5] at hs;simpa using hs
  · rw [drop_nil h4] at hs
    simp [olderK] at hs;simp [hs]
def oldP (p : Peer) : Peer := { p with age := min (p.age + 1) 1000 }
theorem olderP_step {l : List Peer} {i : Nat} {x : Peer} (hx : l[i]? = some x) : ((olderP (l.take i)) ++ l.drop i).set i (oldP x) = olderP (l.take (i + 1)) ++ l.drop (i + 1) := by
  rw [drop_eq hx,take_one hx]
  have hl : (olderP (l.take i)).length = i := by have := (List.getElem?_eq_some_iff.1 hx).1;simp [olderP];omega
  rw [List.set_append_right _ _ (by omega),hl];simp [olderP,oldP]
theorem olderP_get {l : List Peer} {i : Nat} {x : Peer} (hx : l[i]? = some x) : ((olderP (l.take i)) ++ l.drop i)[i]? = some x := by
  have hl : (olderP (l.take i)).length = i := by have := (List.getElem?_eq_some_iff.1 hx).1;simp [olderP];omega
  rw [List.getElem?_append_right (by omega),hl,drop_eq hx];simp
theorem peer_bd {l : List Peer} {x : Peer} (h : peersOk l = true) (hx : x ∈ l) : 0 ≤ x.inc ∧ x.inc ≤ 1073741824 ∧ 0 ≤ x.age ∧ x.age ≤ 1000 := by
  simp only [peersOk,Bool.and_eq_true,List.all_eq_true] at h
  have := h.2 x hx
  simp only [peerOk,Bool.and_eq_true] at this
  have a := rng_bd this.1;have b := rng_bd this.2;omega
def K_view_Older := And.intro @c_slices_Clone_api_Peer_api_Peer (@c_view_Check)
theorem w_view_Older (l : List Peer) (hp : peersOk l = true) (hg : Goods (F_view_Older l).2.1) : WW ρ 1 S_view_Older F_view_Older l := by
  dsimp only [WW,appV,F_view_Older] at hg ⊢
  unfold S_view_Older
  have hb := peers_len hp
  simp (disch:=first|omega|assumption|(constructor<;>first|assumption|omega)|simp only[LN];omega) only [↓SB,S1,↓K_view_Older,hp]
  refine LOOP.rule (α := Nat) (fun i => [I i,L (olderP (l.take i) ++ l.drop i)]) (fun i => i ≤ l.length) (fun i => l.length - i) 0 rfl (by omega) (fun _ => rfl) ?_
  intro i hl
  have hlen : (olderP (l.take i) ++ l.drop i).length = l.length := by simp [olderP];omega
  simp only [app]
  simp (disch:=first|omega|assumption|(constructor<;>first|assumption|omega)|simp only[LN];omega) only [↓SB,S1,↓K_view_Older]
  refine ⟨fun h4 => ?_,fun h4 => ?_⟩
  · obtain ⟨x,hx⟩ := get_ex h4
    have h5 := peer_bd hp (List.mem_of_getElem? hx)
    have h6 := olderP_get hx
    simp (disch:=first|omega|assumption|(constructor<;>first|assumption|omega)|simp only[LN];omega) only [↓SB,S1,↓K_view_Older,cell_L h6,↓OP_set h6 (j := 1) (v := I (min (x.age + 1) 1000)) (y := oldP x) rfl]
    exact ⟨i + 1,by simp [olderP_step hx],by omega,by omega⟩
  · rw [List.take_of_length_le (by omega),List.drop_eq_nil_of_le (by omega)];simp
theorem w_ref10_Older (l : List Peer) (hp : peersOk l = true) (hg : Goods (F_ref10_Older l).2.1) : WW ρ 1 S_ref10_Older F_ref10_Older l := by
  dsimp only [WW,appV,F_ref10_Older] at hg ⊢
  unfold S_ref10_Older
  have hb := peers_len hp
  simp (disch:=first|omega|assumption|(constructor<;>first|assumption|omega)|simp only[LN];omega) only [↓SB,S1,↓c_bkeep_TwinPeers]
  refine LOOP.rule (α := Nat) (fun i => [I i,L (olderP (l.take i) ++ l.drop i)]) (fun i => i ≤ l.length) (fun i => l.length - i) 0 rfl (by omega) (fun _ => rfl) ?_
  intro i hl
  have hlen : (olderP (l.take i) ++ l.drop i).length = l.length := by simp [olderP];omega
  simp only [app]
  simp (disch:=first|omega|assumption|(constructor<;>first|assumption|omega)|simp only[LN];omega) only [↓SB,S1,↓c_bkeep_TwinPeers]
  refine ⟨fun h4 => ?_,fun h4 => ?_⟩
  · obtain ⟨x,hx⟩ := get_ex (xs := l) (i := i) (by omega)
    have h5 := peer_bd hp (List.mem_of_getElem? hx)
    have h6 := olderP_get hx
    simp (disch:=first|omega|assumption|(constructor<;>first|assumption|omega)|simp only[LN];omega) only [↓SB,S1,↓c_bkeep_TwinPeers,cell_L h6,↓OP_set h6 (j := 1) (v := I (min (x.age + 1) 1000)) (y := oldP x) rfl]
    exact ⟨i + 1,by simp [olderP_step hx],by omega,by omega⟩
  · rw [List.take_of_length_le (by omega),List.drop_eq_nil_of_le (by omega)];simp
theorem w_epoch_Next (n : Int) (top : Int) (hp : isN n = true ∧ 0 ≤ top ∧ top ≤ 1073741824) : WW ρ 2 S_epoch_Next F_epoch_Next (n,top) := by
  dsimp only [WW,appV,F_epoch_Next]
  unfold S_epoch_Next
  obtain ⟨h1,h2,h3⟩ := hp
  have hn := isN_iff.1 h1
  have e1 : ¬ top < 0 := by omega
  have e2 : ¬ 1073741824 < top := by omega
  have hm := Int.emod_nonneg top (show (16 : Int) ≠ 0 by omega)
  have hm2 := Int.emod_lt_of_pos top (show (0 : Int) < 16 by omega)
  refine SUB.v1 (bb false) ?_ ?_
  · simp (disch:=first|omega|assumption|(constructor<;>first|assumption|omega)|simp only[LN];omega) only [↓SB,S1,↓c_ring_Is,h1,e1,e2]
  generalize hE : nextW n top = q
  unfold nextW nextE at hE
  simp (disch:=first|omega|assumption|(constructor<;>first|assumption|omega)|simp only[LN];omega) only [↓SB,S1,↓c_ring_Is]
  refine ⟨fun h => ⟨fun h4 => ?_,fun h4 => ?_⟩,fun h => ⟨fun h4 => ?_,fun h4 => ?_⟩⟩
  all_goals simp only [h,h4,if_true,if_false] at hE
  all_goals subst hE
  all_goals simp
  all_goals omega
theorem w_ref10_NextEpoch (n : Int) (top : Int) (hp : isN n = true ∧ 0 ≤ top ∧ top ≤ 1073741824) : WW ρ 2 S_ref10_NextEpoch F_ref10_NextEpoch (n,top) := by
  dsimp only [WW,appV,F_ref10_NextEpoch]
  unfold S_ref10_NextEpoch
  obtain ⟨h1,h2,h3⟩ := hp
  have hn := isN_iff.1 h1
  have hm := Int.emod_nonneg top (show (16 : Int) ≠ 0 by omega)
  have hm2 := Int.emod_lt_of_pos top (show (0 : Int) < 16 by omega)
  generalize hE : nextW n top = q
  unfold nextW nextE at hE
  simp (disch:=first|omega|assumption|(constructor<;>first|assumption|omega)|simp only[LN];omega) only [↓SB,S1]
  refine ⟨fun h => ⟨fun h4 => ?_,fun h4 => ?_⟩,fun h => ⟨fun h4 => ?_,fun h4 => ?_⟩⟩
  all_goals simp only [h,h4,if_true,if_false] at hE
  all_goals subst hE
  all_goals simp
theorem w_flow_Begun (e : Int) (n : Int) : WW ρ 2 S_flow_Begun F_flow_Begun (e,n) := by
  dsimp only [WW,appV,F_flow_Begun]
  unfold S_flow_Begun;rfl
theorem w_ref10_Begun (epoch : Int) (n : Int) : WW ρ 2 S_ref10_Begun F_ref10_Begun (epoch,n) := by
  dsimp only [WW,appV,F_ref10_Begun]
  unfold S_ref10_Begun;rfl
theorem w_flow_Lacks (s : Stream) : WW ρ 5 S_flow_Lacks F_flow_Lacks s := by
  dsimp only [WW,appV,F_flow_Lacks]
  unfold S_flow_Lacks;simp (disch:=first|omega|assumption|(constructor<;>first|assumption|omega)|simp only[LN];omega) only [↓SB,S1]
theorem w_graft_without (x : Topic) (hp : heavy19 x = false) : WW ρ 16 S_graft_without F_graft_without x := by
  dsimp only [WW,appV,F_graft_without]
  unfold S_graft_without;simp (disch:=first|omega|assumption|(constructor<;>first|assumption|omega)|simp only[LN];omega) only [↓SB,S1,↓c_graft_Twin];rfl
theorem w_ref10_Lost (x : Topic) (hp : heavy19 x = false) : WW ρ 16 S_ref10_Lost F_ref10_Lost x := by
  dsimp only [WW,appV,F_ref10_Lost]
  unfold S_ref10_Lost;simp (disch:=first|omega|assumption|(constructor<;>first|assumption|omega)|simp only[LN];omega) only [↓SB,S1,↓c_bkeep_TwinTopic];rfl
theorem tWhy_iff {c : Config} {t self : Int} {x : Topic} (h : tWhy c t self x = 0) : cfgOk c = true ∧ place c t self = true ∧ topicOk c t self x = true := by
  unfold tWhy at h
  split at h
  · split at h
    · rename_i h1 h2;rw [Bool.and_eq_true] at h2;exact ⟨h1,h2.1,h2.2⟩
    · omega
  · omega
theorem tWhy_of {c : Config} {t self : Int} {x : Topic} (h1 : cfgOk c = true) (h2 : place c t self = true) (h3 : topicOk c t self x = true) : tWhy c t self x = 0 := by
  unfold tWhy;rw [if_pos h1,if_pos (by simp [h2,h3])]
def K_graft_Lost := And.intro @c_graft_Check (@c_graft_without)
theorem w_graft_Lost (c : Config) (t : Int) (self : Int) (x : Topic) (hp : tWhy c t self x = 0) (hg : Goods (F_graft_Lost (c,t,self,x)).2.1) : WW ρ 25 S_graft_Lost F_graft_Lost (c,t,self,x) := by
  dsimp only [WW,appV,F_graft_Lost] at hg ⊢
  unfold S_graft_Lost
  have hW : (if cfgOk c = true then (if (place c t self && topicOk c t self x) = true then (0 : Int) else 1) else 13) = 0 := hp
  obtain ⟨h1,h2,h3⟩ := tWhy_iff hp
  have hl := topic_light h1 h3
  simp (disch:=first|omega|assumption|(constructor<;>first|assumption|omega)|simp only[LN];omega) only [↓SB,S1,↓K_graft_Lost,hW]
def K_root_Step := And.intro @c_graft_Twin (@c_graft_Check)
theorem w_root_Step (c : Config) (t : Int) (self : Int) (x : Topic) (hp : tWhy c t self x = 0) (hg : Goods (F_root_Step (c,t,self,x)).2.1) : WW ρ 25 S_root_Step F_root_Step (c,t,self,x) := by
  dsimp only [WW,appV,F_root_Step] at hg ⊢
  unfold S_root_Step
  have hW : (if cfgOk c = true then (if (place c t self && topicOk c t self x) = true then (0 : Int) else 1) else 13) = 0 := hp
  obtain ⟨h1,h2,h3⟩ := tWhy_iff hp
  have hl := topic_light h1 h3
  simp (disch:=first|omega|assumption|(constructor<;>first|assumption|omega)|simp only[LN];omega) only [↓SB,S1,↓K_root_Step,hW]
theorem top_bd {c : Config} {t self : Int} {x : Topic} (h : topicOk c t self x = true) : 0 ≤ x.top ∧ x.top ≤ 1073741824 ∧ 0 ≤ x.age ∧ x.age ≤ 1000 := by
  simp only [topicOk,Bool.and_eq_true] at h
  have a := rng_bd h.1.1.1.1.1.1.1.1.1;have b := rng_bd h.1.1.1.1.1.1.1.1.2;omega
def K_root_Become := And.intro @c_graft_Twin (And.intro @c_graft_Check (And.intro @c_epoch_Next (@c_flow_Begun)))
theorem w_root_Become (c : Config) (t : Int) (self : Int) (x : Topic) (hp : tWhy c t self x = 0) (hg : Goods (F_root_Become (c,t,self,x)).2.1) : WW ρ 25 S_root_Become F_root_Become (c,t,self,x) := by
  dsimp only [WW,appV,F_root_Become] at hg ⊢
  unfold S_root_Become
  have hW : (if cfgOk c = true then (if (place c t self && topicOk c t self x) = true then (0 : Int) else 1) else 13) = 0 := hp
  obtain ⟨h1,h2,h3⟩ := tWhy_iff hp
  have hl := topic_light h1 h3
  have hb := top_bd h3
  have hpl := place_bd h1 h2
  have hne : isN self = true ∧ 0 ≤ x.top ∧ x.top ≤ 1073741824 := ⟨hpl.2.1,hb.1,hb.2.1⟩
  generalize hE : becomeR self x = q
  unfold becomeR at hE
  simp (disch:=first|omega|assumption|(constructor<;>first|assumption|omega)|simp only[LN];omega) only [↓SB,S1,↓K_root_Become,hW]
  refine ⟨fun a => ⟨fun b => ?_,fun b => ?_⟩,fun a => ?_⟩
  · rw [if_pos ⟨a,b.symm⟩] at hE;subst hE;rfl
  all_goals
    rw [if_neg (by intro h;first | exact h.1 a | exact b h.2.symm)] at hE
    by_cases hz : nextW self x.top = 0
    · rw [if_pos hz] at hE;subst hE;simp (disch:=first|omega|assumption|(constructor<;>first|assumption|omega)|simp only[LN];omega) only [↓SB,S1,↓K_root_Become,hz];simp [topic0,L]
    · rw [if_neg hz] at hE;subst hE;simp (disch:=first|omega|assumption|(constructor<;>first|assumption|omega)|simp only[LN];omega) only [↓SB,S1,↓K_root_Become,hz];first | done | rfl | simp [lostT]
def K_ref10_Become := And.intro @c_bkeep_TwinTopic (And.intro @c_ref10_Lost (And.intro @c_ref10_NextEpoch (@c_ref10_Begun)))
theorem w_ref10_Become (self : Int) (x : Topic) (hp : heavy19 x = false ∧ isN self = true ∧ 0 ≤ x.top ∧ x.top ≤ 1073741824) (hg : Goods (F_ref10_Become (self,x)).2.1) : WW ρ 17 S_ref10_Become F_ref10_Become (self,x) := by
  dsimp only [WW,appV,F_ref10_Become] at hg ⊢
  unfold S_ref10_Become
  obtain ⟨hl,hne⟩ := hp
  generalize hE : becomeR self x = q
  unfold becomeR at hE
  have hl2 : heavy19 x = false := hl
  simp (disch:=first|omega|assumption|(constructor<;>first|assumption|omega)|simp only[LN];omega) only [↓SB,S1,↓K_ref10_Become,Topic.eta]
  refine ⟨fun a => ⟨fun b => ?_,fun b => ?_⟩,fun a => ?_⟩
  · rw [if_pos ⟨a,b⟩] at hE;subst hE;rfl
  all_goals
    rw [if_neg (by intro h;first | exact h.1 a | exact b h.2)] at hE
    by_cases hz : nextW self x.top = 0
    · rw [if_pos hz] at hE;subst hE;simp (disch:=first|omega|assumption|(constructor<;>first|assumption|omega)|simp only[LN];omega) only [↓SB,S1,↓K_ref10_Become,hz];simp [topic0,L]
    · rw [if_neg hz] at hE;subst hE;simp (disch:=first|omega|assumption|(constructor<;>first|assumption|omega)|simp only[LN];omega) only [↓SB,S1,↓K_ref10_Become,hz];first | done | rfl | simp [lostT]
theorem w_beat_Interest (x : Topic) : WW ρ 16 S_beat_Interest F_beat_Interest x := by
  dsimp only [WW,appV,F_beat_Interest]
  unfold S_beat_Interest interest
  simp (disch:=first|omega|assumption|(constructor<;>first|assumption|omega)|simp only[LN];omega) only [↓SB,S1]
  cases x.sub <;> simp
theorem w_ref19_Interest (x : Topic) : WW ρ 16 S_ref19_Interest F_ref19_Interest x := by
  dsimp only [WW,appV,F_ref19_Interest]
  unfold S_ref19_Interest interest
  simp (disch:=first|omega|assumption|(constructor<;>first|assumption|omega)|simp only[LN];omega) only [↓SB,S1]
  cases x.sub <;> simp
theorem w_bkeep_TwinMsg (m : Msg) (hp : m.path.length ≤ 30 ∧ m.todo.length ≤ 30) : WW ρ 16 S_bkeep_TwinMsg F_bkeep_TwinMsg m := by
  dsimp only [WW,appV,F_bkeep_TwinMsg]
  unfold S_bkeep_TwinMsg;simp (disch:=first|omega|assumption|(constructor<;>first|assumption|omega)|simp only[LN];omega) only [↓SB,S1,↓c_bkeep_TwinInts]
theorem w_msg_Twin (m : Msg) (hp : m.path.length ≤ 30 ∧ m.todo.length ≤ 30) : WW ρ 16 S_msg_Twin F_msg_Twin m := by
  dsimp only [WW,appV,F_msg_Twin]
  unfold S_msg_Twin;simp (disch:=first|omega|assumption|(constructor<;>first|assumption|omega)|simp only[LN];omega) only [↓SB,S1,↓c_slices_Clone_int_int]
end Go.Xt
end
section
set_option linter.unusedSimpArgs false
set_option linter.unusedVariables false
set_option maxRecDepth 100000
namespace Go.Xt
set_option linter.defProp false
theorem heed_get {n : Node} {o : Int} (h : heed n o = true) : ∃ (k : Nat) (p : Peer),o = k ∧ n.peers[k]? = some p ∧ p.inc ≠ 0 := by
  simp only [heed,Bool.and_eq_true,decide_eq_true_eq] at h
  have hb := rng_bd h.1
  obtain ⟨k,rfl⟩ := Int.eq_ofNat_of_zero_le hb.1
  obtain ⟨p,hp⟩ := get_ex (xs := n.peers) (i := k) (by omega)
  have h2 := h.2
  simp [List.getD_eq_getElem?_getD,hp] at h2
  exact ⟨k,p,rfl,hp,h2⟩
theorem made_one {self : Int} {n : Node} {x : Msg} (h : x.kind = 1) : madeM self n x = ⟨x.kind,self,n.inc,x.to,0,x.topic,x.epoch,x.seq,x.last,x.value,x.node,x.inc,x.count,x.hops,x.path,x.todo⟩ := by
  simp [madeM,h]
theorem made_two {self : Int} {n : Node} {x : Msg} {k : Nat} {p : Peer} (h : ¬ x.kind = 1) (hk : x.to = k) (hp : n.peers[k]? = some p) : madeM self n x = ⟨x.kind,self,n.inc,x.to,p.inc,x.topic,x.epoch,x.seq,x.last,x.value,x.node,x.inc,x.count,x.hops,x.path,x.todo⟩ := by
  simp [madeM,h,hk,hp,List.getD_eq_getElem?_getD]
def K_beat_Made := And.intro @c_msg_Check (And.intro @c_cast_Heed (@c_msg_Twin))
theorem w_beat_Made (self : Int) (n : Node) (l : List Msg) (hp : l.length ≤ 1000 ∧ n.peers.length ≤ 12 ∧ ∀ m ∈ l,m.path.length ≤ 30 ∧ m.todo.length ≤ 30) (hg : Goods (F_beat_Made (self,n,l)).2.1) : WW ρ 11 S_beat_Made F_beat_Made (self,n,l) := by
  dsimp only [WW,appV,F_beat_Made] at hg ⊢
  unfold S_beat_Made madeL
  obtain ⟨hl,hpl,hm⟩ := hp
  generalize hE : madeGo self n l = q
  simp (disch:=first|omega|assumption|(constructor<;>first|assumption|omega)|simp only[LN];omega) only [↓SB,S1,↓K_beat_Made]
  refine LOOP.rule (α := Nat × List Msg) (fun p => [I p.1,L p.2]) (fun p => p.1 ≤ l.length ∧ p.2.length ≤ p.1 ∧ (madeGo self n (l.drop p.1)).map (p.2 ++ ·) = q) (fun p => l.length - p.1) (0,[]) rfl ⟨by simp,by simp,by simpa using hE⟩ (fun _ => rfl) ?_
  rintro ⟨i,a⟩ ⟨hi,ha,hs⟩
  simp only at hi ha hs
  simp only [app]
  simp (disch:=first|omega|assumption|(constructor<;>first|assumption|omega)|simp only[LN];omega) only [↓SB,S1,↓K_beat_Made]
  refine ⟨fun h4 => ?_,fun h4 => ?_⟩
  · obtain ⟨x,hx⟩ := get_ex h4
    have hxm := hm x (List.mem_of_getElem? hx)
    rw [drop_eq hx,madeGo] at hs
    simp (disch:=first|omega|assumption|(constructor<;>first|assumption|omega)|simp only[LN];omega) only [↓SB,S1,↓K_beat_Made,cell_L hx]
    refine SUB.v1 (bb (!(decide (x.kind = 1) || heed n x.to))) ?_ ?_
    · repeat' (first | apply And.intro | intro _ | simp (disch:=first|omega|assumption|(constructor<;>first|assumption|omega)|simp only[LN];omega) only [↓SB,S1,↓K_beat_Made])
      all_goals simp_all
    cases hk : (decide (x.kind = 1) || heed n x.to)
    · rw [if_neg (by rw [hk];simp)] at hs
      simp (disch:=first|omega|assumption|(constructor<;>first|assumption|omega)|simp only[LN];omega) only [↓SB,S1,↓K_beat_Made]
      exact ⟨(i + 1,a),rfl,⟨by simp;omega,by simp;omega,hs⟩,by simp;omega⟩
    rw [if_pos hk] at hs
    simp (disch:=first|omega|assumption|(constructor<;>first|assumption|omega)|simp only[LN];omega) only [↓SB,S1,↓K_beat_Made]
    refine ⟨fun h5 => ?_,fun h5 => ?_⟩
    · have h6 : heed n x.to = true := by simpa [h5] using hk
      obtain ⟨k,p,e1,e2,e3⟩ := heed_get h6
      have e4 := (List.getElem?_eq_some_iff.1 e2).1
      rw [made_two h5 e1 e2] at hs
      rw [e1] at hs ⊢
      simp (disch:=first|omega|assumption|(constructor<;>first|assumption|omega)|simp only[LN];omega) only [↓SB,S1,↓K_beat_Made,cell_L e2]
      by_cases h7 : msgOk ⟨x.kind,self,n.inc,(k : Int),p.inc,x.topic,x.epoch,x.seq,x.last,x.value,x.node,x.inc,x.count,x.hops,x.path,x.todo⟩ = true
      · rw [if_pos h7] at hs
        simp (disch:=first|omega|assumption|(constructor<;>first|assumption|omega)|simp only[LN];omega) only [↓SB,S1,↓K_beat_Made,h7]
        exact ⟨(i + 1,a ++ [⟨x.kind,self,n.inc,(k : Int),p.inc,x.topic,x.epoch,x.seq,x.last,x.value,x.node,x.inc,x.count,x.hops,x.path,x.todo⟩]),rfl,⟨by simp;omega,by simp;omega,by simpa [Function.comp_def] using hs⟩,by simp;omega⟩
      · rw [if_neg h7] at hs
        simp (disch:=first|omega|assumption|(constructor<;>first|assumption|omega)|simp only[LN];omega) only [↓SB,S1,↓K_beat_Made,h7]
        subst hs;simp [L]
    · rw [made_one h5] at hs
      by_cases h7 : msgOk ⟨x.kind,self,n.inc,x.to,0,x.topic,x.epoch,x.seq,x.last,x.value,x.node,x.inc,x.count,x.hops,x.path,x.todo⟩ = true
      · rw [if_pos h7] at hs
        simp (disch:=first|omega|assumption|(constructor<;>first|assumption|omega)|simp only[LN];omega) only [↓SB,S1,↓K_beat_Made,h7]
        exact ⟨(i + 1,a ++ [⟨x.kind,self,n.inc,x.to,0,x.topic,x.epoch,x.seq,x.last,x.value,x.node,x.inc,x.count,x.hops,x.path,x.todo⟩]),rfl,⟨by simp;omega,by simp;omega,by simpa [Function.comp_def] using hs⟩,by simp;omega⟩
      · rw [if_neg h7] at hs
        simp (disch:=first|omega|assumption|(constructor<;>first|assumption|omega)|simp only[LN];omega) only [↓SB,S1,↓K_beat_Made,h7]
        subst hs;simp [L]
  · rw [drop_nil h4] at hs
    subst hs;simp [madeGo]
def K_ref19_Ready := And.intro @c_ref01_Msg (And.intro @c_ref19_in (@c_bkeep_TwinMsg))
theorem w_ref19_Ready (self : Int) (n : Node) (l : List Msg) (hp : l.length ≤ 1000 ∧ n.peers.length ≤ 12 ∧ ∀ m ∈ l,m.path.length ≤ 30 ∧ m.todo.length ≤ 30) (hg : Goods (F_ref19_Ready (self,n,l)).2.1) : WW ρ 11 S_ref19_Ready F_ref19_Ready (self,n,l) := by
  dsimp only [WW,appV,F_ref19_Ready] at hg ⊢
  unfold S_ref19_Ready madeL
  obtain ⟨hl,hpl,hm⟩ := hp
  generalize hE : madeGo self n l = q
  refine LOOP.rule (α := Nat × List Msg) (fun p => [I p.1,L p.2]) (fun p => p.1 ≤ l.length ∧ p.2.length ≤ p.1 ∧ (madeGo self n (l.drop p.1)).map (p.2 ++ ·) = q) (fun p => l.length - p.1) (0,[]) rfl ⟨by simp,by simp,by simpa using hE⟩ (fun _ => rfl) ?_
  rintro ⟨i,a⟩ ⟨hi,ha,hs⟩
  simp only at hi ha hs
  simp only [app]
  simp (disch:=first|omega|assumption|(constructor<;>first|assumption|omega)|simp only[LN];omega) only [↓SB,S1,↓K_ref19_Ready]
  refine ⟨fun h4 => ?_,fun h4 => ?_⟩
  · obtain ⟨x,hx⟩ := get_ex h4
    have hxm := hm x (List.mem_of_getElem? hx)
    rw [drop_eq hx,madeGo] at hs
    simp (disch:=first|omega|assumption|(constructor<;>first|assumption|omega)|simp only[LN];omega) only [↓SB,S1,↓K_ref19_Ready,cell_L hx]
    refine ⟨fun h5 => ?_,fun h5 => ?_⟩
    · refine SUB.v1 (bb (!heed n x.to)) ?_ ?_
      · simp (disch:=first|omega|assumption|(constructor<;>first|assumption|omega)|simp only[LN];omega) only [↓SB,S1,↓K_ref19_Ready]
        refine ⟨fun h6 => ?_,fun h6 => ?_⟩
        · simp [heed,h6]
        · have h6' := rng_bd (show rng x.to 0 (n.peers.length - 1) = true by simpa using h6)
          obtain ⟨k,hk⟩ := Int.eq_ofNat_of_zero_le h6'.1
          obtain ⟨p,hp⟩ := get_ex (xs := n.peers) (i := k) (by omega)
          rw [hk] at h6 ⊢
          simp (disch:=first|omega|assumption|(constructor<;>first|assumption|omega)|simp only[LN];omega) only [↓SB,S1,↓K_ref19_Ready,cell_L hp]
          simp [heed,rng,hp,List.getD_eq_getElem?_getD]
          intro h9;omega
      cases h6 : heed n x.to
      · rw [if_neg (by simp [h5,h6])] at hs
        simp (disch:=first|omega|assumption|(constructor<;>first|assumption|omega)|simp only[LN];omega) only [↓SB,S1,↓K_ref19_Ready]
        exact ⟨(i + 1,a),rfl,⟨by simp;omega,by simp;omega,hs⟩,by simp;omega⟩
      rw [if_pos (by simp [h6])] at hs
      obtain ⟨k,p,e1,e2,e3⟩ := heed_get h6
      have e4 := (List.getElem?_eq_some_iff.1 e2).1
      rw [made_two h5 e1 e2] at hs
      rw [e1] at hs ⊢
      simp (disch:=first|omega|assumption|(constructor<;>first|assumption|omega)|simp only[LN];omega) only [↓SB,S1,↓K_ref19_Ready,cell_L e2]
      by_cases h7 : msgOk ⟨x.kind,self,n.inc,(k : Int),p.inc,x.topic,x.epoch,x.seq,x.last,x.value,x.node,x.inc,x.count,x.hops,x.path,x.todo⟩ = true
      · rw [if_pos h7] at hs
        simp (disch:=first|omega|assumption|(constructor<;>first|assumption|omega)|simp only[LN];omega) only [↓SB,S1,↓K_ref19_Ready,h7]
        exact ⟨(i + 1,a ++ [⟨x.kind,self,n.inc,(k : Int),p.inc,x.topic,x.epoch,x.seq,x.last,x.value,x.node,x.inc,x.count,x.hops,x.path,x.todo⟩]),rfl,⟨by simp;omega,by simp;omega,by simpa [Function.comp_def] using hs⟩,by simp;omega⟩
      · rw [if_neg h7] at hs
        simp (disch:=first|omega|assumption|(constructor<;>first|assumption|omega)|simp only[LN];omega) only [↓SB,S1,↓K_ref19_Ready,h7]
        subst hs;simp [L]
    · rw [if_pos (by simp [h5]),made_one h5] at hs
      by_cases h7 : msgOk ⟨x.kind,self,n.inc,x.to,0,x.topic,x.epoch,x.seq,x.last,x.value,x.node,x.inc,x.count,x.hops,x.path,x.todo⟩ = true
      · rw [if_pos h7] at hs
        simp (disch:=first|omega|assumption|(constructor<;>first|assumption|omega)|simp only[LN];omega) only [↓SB,S1,↓K_ref19_Ready,h7]
        exact ⟨(i + 1,a ++ [⟨x.kind,self,n.inc,x.to,0,x.topic,x.epoch,x.seq,x.last,x.value,x.node,x.inc,x.count,x.hops,x.path,x.todo⟩]),rfl,⟨by simp;omega,by simp;omega,by simpa [Function.comp_def] using hs⟩,by simp;omega⟩
      · rw [if_neg h7] at hs
        simp (disch:=first|omega|assumption|(constructor<;>first|assumption|omega)|simp only[LN];omega) only [↓SB,S1,↓K_ref19_Ready,h7]
        subst hs;simp [L]
  · rw [drop_nil h4] at hs
    subst hs;simp [madeGo]
theorem w_ref19_ready (self : Int) (n : Node) (l : List Msg) (hp : l.length ≤ 1000 ∧ n.peers.length ≤ 12 ∧ ∀ m ∈ l,m.path.length ≤ 30 ∧ m.todo.length ≤ 30) (hg : Goods (F_ref19_ready (self,n,l)).2.1) : WW ρ 11 S_ref19_ready F_ref19_ready (self,n,l) := by
  dsimp only [WW,appV,F_ref19_ready] at hg ⊢
  unfold S_ref19_ready;simp (disch:=first|omega|assumption|(constructor<;>first|assumption|omega)|simp only[LN];omega) only [↓SB,S1,↓c_ref19_Ready]
def K_beat_Ready := And.intro @c_cast_Check (@c_beat_Made)
theorem w_beat_Ready (c : Config) (self : Int) (n : Node) (l : List Msg) (hp : heavy21 n = false ∧ l.length ≤ 1000 ∧ ∀ m ∈ l,m.path.length ≤ 30 ∧ m.todo.length ≤ 30) (hg : Goods (F_beat_Ready (c,self,n,l)).2.1) : WW ρ 18 S_beat_Ready F_beat_Ready (c,self,n,l) := by
  dsimp only [WW,appV,F_beat_Ready] at hg ⊢
  unfold S_beat_Ready
  obtain ⟨h1,h2,h3⟩ := hp
  have hb := heavy21_bd h1
  have hq : l.length ≤ 1000 ∧ n.peers.length ≤ 12 ∧ ∀ m ∈ l,m.path.length ≤ 30 ∧ m.todo.length ≤ 30 := ⟨h2,hb.1,h3⟩
  unfold readyW madeL
  by_cases h : nodeWhy c self n = 0
  · rw [if_pos h]
    simp (disch:=first|omega|assumption|(constructor<;>first|assumption|omega)|simp only[LN];omega) only [↓SB,S1,↓K_beat_Ready,h,Node.eta,madeL]
    cases hm : madeGo self n l <;> simp [L]
  · rw [if_neg h]
    simp (disch:=first|omega|assumption|(constructor<;>first|assumption|omega)|simp only[LN];omega) only [↓SB,S1,↓K_beat_Ready,h,Node.eta]
    rfl
end Go.Xt
end
section
set_option linter.unusedSimpArgs false
set_option linter.unusedVariables false
set_option maxRecDepth 100000
namespace Go.Xt
set_option linter.defProp false
theorem OP_sets {xs : List Topic} {x y : Topic} {i : Nat} {k : PV → Prop} (h : xs[i]? = some x) : (OP (.set 0) [L xs,I i,bb y.made] fun w0 => OP (.set 1) [w0,I i,bb y.sub] fun w1 => OP (.set 2) [w1,I i,I y.top] fun w2 => OP (.set 3) [w2,I i,I y.root] fun w3 => OP (.set 4) [w3,I i,I y.parent] fun w4 => OP (.set 5) [w4,I i,I y.asked] fun w5 => OP (.set 6) [w5,I i,I y.other] fun w6 => OP (.set 7) [w6,I i,I y.age] fun w7 => OP (.set 8) [w7,I i,L y.path] fun w8 => OP (.set 9) [w8,I i,L y.kids] fun w9 => OP (.set 10) [w9,I i,I y.stream.epoch] fun w10 => OP (.set 11) [w10,I i,I y.stream.want] fun w11 => OP (.set 12) [w11,I i,I y.stream.known] fun w12 => OP (.set 13) [w12,I i,L y.stream.kept] fun w13 => OP (.set 14) [w13,I i,L y.stream.ahead] fun w14 => OP (.set 15) [w14,I i,L y.queue] fun w15 => k w15) = k (L (xs.set i y)) := by
  have hl := (List.getElem?_eq_some_iff.1 h).1
  have hg : ∀ z : Topic,(xs.set i z)[i]? = some z := fun z => by simp [hl]
  obtain ⟨a0,a1,a2,a3,a4,a5,a6,a7,a8,a9,⟨b0,b1,b2,b3,b4⟩,a10⟩ := x
  obtain ⟨c0,c1,c2,c3,c4,c5,c6,c7,c8,c9,⟨d0,d1,d2,d3,d4⟩,c10⟩ := y
  dsimp only
  rw [OP_set h (j := 0) (v := bb c0) (y := (⟨c0,a1,a2,a3,a4,a5,a6,a7,a8,a9,⟨b0,b1,b2,b3,b4⟩,a10⟩ : Topic)) rfl]
  rw [OP_set (hg ⟨c0,a1,a2,a3,a4,a5,a6,a7,a8,a9,⟨b0,b1,b2,b3,b4⟩,a10⟩) (j := 1) (v := bb c1) (y := (⟨c0,c1,a2,a3,a4,a5,a6,a7,a8,a9,⟨b0,b1,b2,b3,b4⟩,a10⟩ : Topic)) rfl,List.set_set]
  rw [OP_set (hg ⟨c0,c1,a2,a3,a4,a5,a6,a7,a8,a9,⟨b0,b1,b2,b3,b4⟩,a10⟩) (j := 2) (v := I c2) (y := (⟨c0,c1,c2,a3,a4,a5,a6,a7,a8,a9,⟨b0,b1,b2,b3,b4⟩,a10⟩ : Topic)) rfl,List.set_set]
  rw [OP_set (hg ⟨c0,c1,c2,a3,a4,a5,a6,a7,a8,a9,⟨b0,b1,b2,b3,b4⟩,a10⟩) (j := 3) (v := I c3) (y := (⟨c0,c1,c2,c3,a4,a5,a6,a7,a8,a9,⟨b0,b1,b2,b3,b4⟩,a10⟩ : Topic)) rfl,List.set_set]
  rw [OP_set (hg ⟨c0,c1,c2,c3,a4,a5,a6,a7,a8,a9,⟨b0,b1,b2,b3,b4⟩,a10⟩) (j := 4) (v := I c4) (y := (⟨c0,c1,c2,c3,c4,a5,a6,a7,a8,a9,⟨b0,b1,b2,b3,b4⟩,a10⟩ : Topic)) rfl,List.set_set]
  rw [OP_set (hg ⟨c0,c1,c2,c3,c4,a5,a6,a7,a8,a9,⟨b0,b1,b2,b3,b4⟩,a10⟩) (j := 5) (v := I c5) (y := (⟨c0,c1,c2,c3,c4,c5,a6,a7,a8,a9,⟨b0,b1,b2,b3,b4⟩,a10⟩ : Topic)) rfl,List.set_set]
  rw [OP_set (hg ⟨c0,c1,c2,c3,c4,c5,a6,a7,a8,a9,⟨b0,b1,b2,b3,b4⟩,a10⟩) (j := 6) (v := I c6) (y := (⟨c0,c1,c2,c3,c4,c5,c6,a7,a8,a9,⟨b0,b1,b2,b3,b4⟩,a10⟩ : Topic)) rfl,List.set_set]
  rw [OP_set (hg ⟨c0,c1,c2,c3,c4,c5,c6,a7,a8,a9,⟨b0,b1,b2,b3,b4⟩,a10⟩) (j := 7) (v := I c7) (y := (⟨c0,c1,c2,c3,c4,c5,c6,c7,a8,a9,⟨b0,b1,b2,b3,b4⟩,a10⟩ : Topic)) rfl,List.set_set]
  rw [OP_set (hg ⟨c0,c1,c2,c3,c4,c5,c6,c7,a8,a9,⟨b0,b1,b2,b3,b4⟩,a10⟩) (j := 8) (v := L c8) (y := (⟨c0,c1,c2,c3,c4,c5,c6,c7,c8,a9,⟨b0,b1,b2,b3,b4⟩,a10⟩ : Topic)) rfl,List.set_set]
  rw [OP_set (hg ⟨c0,c1,c2,c3,c4,c5,c6,c7,c8,a9,⟨b0,b1,b2,b3,b4⟩,a10⟩) (j := 9) (v := L c9) (y := (⟨c0,c1,c2,c3,c4,c5,c6,c7,c8,c9,⟨b0,b1,b2,b3,b4⟩,a10⟩ : Topic)) rfl,List.set_set]
  rw [OP_set (hg ⟨c0,c1,c2,c3,c4,c5,c6,c7,c8,c9,⟨b0,b1,b2,b3,b4⟩,a10⟩) (j := 10) (v := I d0) (y := (⟨c0,c1,c2,c3,c4,c5,c6,c7,c8,c9,⟨d0,b1,b2,b3,b4⟩,a10⟩ : Topic)) rfl,List.set_set]
  rw [OP_set (hg ⟨c0,c1,c2,c3,c4,c5,c6,c7,c8,c9,⟨d0,b1,b2,b3,b4⟩,a10⟩) (j := 11) (v := I d1) (y := (⟨c0,c1,c2,c3,c4,c5,c6,c7,c8,c9,⟨d0,d1,b2,b3,b4⟩,a10⟩ : Topic)) rfl,List.set_set]
  rw [OP_set (hg ⟨c0,c1,c2,c3,c4,c5,c6,c7,c8,c9,⟨d0,d1,b2,b3,b4⟩,a10⟩) (j := 12) (v := I d2) (y := (⟨c0,c1,c2,c3,c4,c5,c6,c7,c8,c9,⟨d0,d1,d2,b3,b4⟩,a10⟩ : Topic)) rfl,List.set_set]
  rw [OP_set (hg ⟨c0,c1,c2,c3,c4,c5,c6,c7,c8,c9,⟨d0,d1,d2,b3,b4⟩,a10⟩) (j := 13) (v := L d3) (y := (⟨c0,c1,c2,c3,c4,c5,c6,c7,c8,c9,⟨d0,d1,d2,d3,b4⟩,a10⟩ : Topic)) rfl,List.set_set]
  rw [OP_set (hg ⟨c0,c1,c2,c3,c4,c5,c6,c7,c8,c9,⟨d0,d1,d2,d3,b4⟩,a10⟩) (j := 14) (v := L d4) (y := (⟨c0,c1,c2,c3,c4,c5,c6,c7,c8,c9,⟨d0,d1,d2,d3,d4⟩,a10⟩ : Topic)) rfl,List.set_set]
  rw [OP_set (hg ⟨c0,c1,c2,c3,c4,c5,c6,c7,c8,c9,⟨d0,d1,d2,d3,d4⟩,a10⟩) (j := 15) (v := L c10) (y := (⟨c0,c1,c2,c3,c4,c5,c6,c7,c8,c9,⟨d0,d1,d2,d3,d4⟩,c10⟩ : Topic)) rfl,List.set_set]
theorem kids_weak {t a b : Int} (h : near t a b = true) : ∀ {l : List Kid},kidsGo t b l = true → kidsGo t a l = true
  | [],_ => rfl
  | x :: r,hk => by
    simp only [kidsGo,Bool.and_eq_true] at hk ⊢
    exact ⟨⟨⟨near_trans h hk.1.1.1,hk.1.1.2⟩,hk.1.2⟩,hk.2⟩
theorem kids_older {t : Int} : ∀ {l : List Kid} {a : Int},kidsGo t a l = true → kidsGo t a (olderK l) = true
  | [],_,_ => rfl
  | x :: r,a,h => by
    have h0 := h
    simp only [kidsGo,Bool.and_eq_true] at h
    have ih := kids_older h.2
    have hr := rng_bd h.1.2
    rw [olderK_cons]
    by_cases hx : x.age + 1 ≤ 6
    · rw [if_pos hx,List.singleton_append,kidsGo,Bool.and_eq_true,Bool.and_eq_true,Bool.and_eq_true]
      exact ⟨⟨⟨h.1.1.1,h.1.1.2⟩,by simp [rng];omega⟩,ih⟩
    · rw [if_neg hx,List.nil_append];exact kids_weak h.1.1.1 ih
theorem olderK_len (l : List Kid) : (olderK l).length ≤ l.length := by
  unfold olderK;exact Nat.le_trans (List.length_filter_le _ _) (by simp)
structure TOk (c : Config) (t me : Int) (x : Topic) : Prop where
  top : rng x.top 0 1073741824 = true
  age : rng x.age 0 1000 = true
  par : link t me x.parent = true
  ask : link t me x.asked = true
  oth : link t me x.other = true
  root : rootOk me x = true
  plc : placedOk x = true
  path : chk t me x.path c.depth = 0
  kids : kidsOk t me c.kids x.kids = true
  flow : flowOk c x.stream x.queue = true
theorem topic_iff {c : Config} {t self : Int} {x : Topic} : topicOk c t self x = true ↔ TOk c t self x := by
  simp only [topicOk,Bool.and_eq_true,decide_eq_true_eq]
  exact ⟨fun ⟨⟨⟨⟨⟨⟨⟨⟨⟨a,b⟩,d⟩,e⟩,f⟩,g⟩,h⟩,i⟩,j⟩,k⟩ => ⟨a,b,d,e,f,g,h,i,j,k⟩,fun ⟨a,b,d,e,f,g,h,i,j,k⟩ => ⟨⟨⟨⟨⟨⟨⟨⟨⟨a,b⟩,d⟩,e⟩,f⟩,g⟩,h⟩,i⟩,j⟩,k⟩⟩
theorem topic_kids {c : Config} {t self : Int} {x : Topic} (h : topicOk c t self x = true) : topicOk c t self { x with kids := olderK x.kids } = true := by
  rw [topic_iff] at h ⊢
  obtain ⟨a,b,d,e,f,g,h,i,j,k⟩ := h
  refine ⟨a,b,d,e,f,g,h,i,?_,k⟩
  simp only [kidsOk,Bool.and_eq_true,decide_eq_true_eq] at j ⊢
  have := olderK_len x.kids
  exact ⟨⟨j.1.1,by omega⟩,kids_older j.2⟩
theorem topic_root0 {c : Config} {t self : Int} {x : Topic} (h : topicOk c t self x = true) : topicOk c t self { x with root := 0 } = true := by
  rw [topic_iff] at h ⊢
  obtain ⟨a,b,d,e,f,g,h,i,j,k⟩ := h
  exact ⟨a,b,d,e,f,by simp [rootOk],h,i,j,k⟩
theorem topic_aged {c : Config} {t self a : Int} {x : Topic} (h : topicOk c t self x = true) (h0 : 0 ≤ a) (h1 : a ≤ 1000) : topicOk c t self { x with age := a } = true := by
  rw [topic_iff] at h ⊢
  obtain ⟨a,b,d,e,f,g,h,i,j,k⟩ := h
  exact ⟨a,by simp [rng];omega,d,e,f,g,h,i,j,k⟩
theorem topic_lost {c : Config} {t self : Int} {x : Topic} (h : topicOk c t self x = true) : topicOk c t self (lostT x) = true := by
  rw [topic_iff] at h ⊢
  obtain ⟨a,b,d,e,f,g,h,i,j,k⟩ := h
  refine ⟨a,by simp [rng,lostT],by simp [link,lostT],by simp [link,lostT],by simp [link,lostT],?_,by simp [placedOk,lostT],?_,j,k⟩
  · simp only [rootOk,Bool.or_eq_true,Bool.and_eq_true,decide_eq_true_eq] at g ⊢
    rcases g with g | g
    · exact .inl g
    · exact .inr ⟨⟨g.1.1,rfl⟩,g.2⟩
  · show chk t self [] c.depth = 0
    unfold chk at i ⊢
    split at i
    · rename_i h1
      simp only [Bool.and_eq_true] at h1
      rw [if_pos (by simp [h1.1])]
      have hd := h1.1.1.2
      simp only [decide_eq_true_eq] at hd
      rw [if_neg (by simp;omega)];simp [rises]
    · omega
theorem older_peers {l : List Peer} (h : peersOk l = true) : peersOk (olderP l) = true := by
  have hb := fun x hx => peer_bd (x := x) h hx
  simp only [peersOk,Bool.and_eq_true,decide_eq_true_eq,List.all_eq_true] at h ⊢
  refine ⟨⟨by simpa [olderP] using h.1.1,by simpa [olderP] using h.1.2⟩,?_⟩
  intro p hp
  simp only [olderP,List.mem_map] at hp
  obtain ⟨q,hq,rfl⟩ := hp
  have := hb q hq
  simp [peerOk,rng];omega
theorem olderP_len (l : List Peer) : (olderP l).length = l.length := by simp [olderP]
theorem tickGo_app {self : Int} {live : List Int} : ∀ (l r : List Topic) (t : Int),tickGo self live t (l ++ r) = tickGo self live t l ++ tickGo self live (t + l.length) r
  | [],r,t => by simp [tickGo]
  | x :: l,r,t => by
    rw [List.cons_append,tickGo,tickGo,tickGo_app l r (t + 1),List.cons_append,List.length_cons,show t + 1 + (l.length : Int) = t + ((l.length + 1 : Nat) : Int) by omega]
theorem tickMs_app {self : Int} {live : List Int} : ∀ (l r : List Topic) (t : Int),tickMs self live t (l ++ r) = tickMs self live t l ++ tickMs self live (t + l.length) r
  | [],r,t => by simp [tickMs]
  | x :: l,r,t => by
    rw [List.cons_append,tickMs,tickMs,tickMs_app l r (t + 1),List.append_assoc,List.length_cons,show t + 1 + (l.length : Int) = t + ((l.length + 1 : Nat) : Int) by omega]
theorem tickGo_len {self : Int} {live : List Int} : ∀ (l : List Topic) (t : Int),(tickGo self live t l).length = l.length
  | [],_ => rfl
  | x :: l,t => by rw [tickGo,List.length_cons,List.length_cons,tickGo_len l]
theorem tick_step {self : Int} {live : List Int} {T : List Topic} {i : Nat} {x : Topic} (hx : T[i]? = some x) :
    (tickGo self live 0 (T.take i) ++ T.drop i).set i (tickT self i live x).1 = tickGo self live 0 (T.take (i + 1)) ++ T.drop (i + 1) ∧
    tickMs self live 0 (T.take (i + 1)) = tickMs self live 0 (T.take i) ++ (tickT self i live x).2 ∧
    (tickGo self live 0 (T.take i) ++ T.drop i)[i]? = some x := by
  have hi := (List.getElem?_eq_some_iff.1 hx).1
  have hl : (T.take i).length = i := by simp;omega
  have hl2 : (tickGo self live 0 (T.take i)).length = i := by rw [tickGo_len,hl]
  refine ⟨?_,?_,?_⟩
  · rw [take_one hx,tickGo_app,hl,List.set_append_right _ _ (by omega),hl2,drop_eq hx];simp [tickGo]
  · rw [take_one hx,tickMs_app,hl];simp [tickMs]
  · rw [List.getElem?_append_right (by omega),hl2,drop_eq hx];simp
theorem calls_step {l : List Call} {i : Nat} {x : Call} (hx : l[i]? = some x) : callsT (l.take (i + 1)) = callsT (l.take i) ++ if x.age + 1 ≤ 20 then [{ x with age := x.age + 1 }] else [] := by
  rw [take_one hx];unfold callsT;rw [List.map_append,List.filter_append]
  by_cases h : x.age + 1 ≤ 20 <;> simp [h]
theorem callsT_len (l : List Call) : (callsT l).length ≤ l.length := by
  unfold callsT;exact Nat.le_trans (List.length_filter_le _ _) (by simp)
theorem calls_bd {c : Config} {a : Int} : ∀ {l : List Call} {p : Int},callsGo c a p l = true → ∀ x ∈ l,p < x.count ∧ x.count ≤ a ∧ 0 ≤ x.topic ∧ x.topic < c.topics ∧ 0 ≤ x.age ∧ x.age ≤ 20
  | [],_,_,_,h => by simp at h
  | y :: r,p,h,x,hx => by
    simp only [callsGo,Bool.and_eq_true,decide_eq_true_eq] at h
    have h1 := rng_bd h.1.1.2;have h2 := rng_bd h.1.2
    rcases List.mem_cons.1 hx with rfl | hx
    · omega
    · have := calls_bd h.2 x hx;omega
theorem pings_step {self : Int} {i : Nat} : pings self ((i + 1 : Nat) : Int) = pings self i ++ if (i : Int) = self then [] else [{ msg0 with kind := 1,to := (i : Int) }] := by
  unfold pings
  rw [Int.toNat_natCast,Int.toNat_natCast,List.range_succ,List.filter_append,List.map_append]
  by_cases h : (i : Int) = self <;> simp [h]
theorem pings_len (self k : Int) : (pings self k).length ≤ k.toNat := by
  unfold pings;rw [List.length_map];exact Nat.le_trans (List.length_filter_le _ _) (by simp)
theorem pings_bare {self k : Int} {m : Msg} (h : m ∈ pings self k) : m.path = [] ∧ m.todo = [] := by
  simp only [pings,List.mem_map] at h
  obtain ⟨i,_,rfl⟩ := h;exact ⟨rfl,rfl⟩
theorem tickT_bare {self t : Int} {live : List Int} {x : Topic} : (∀ m ∈ (tickT self t live x).2,m.path = [] ∧ m.todo = []) ∧ (tickT self t live x).2.length ≤ 2 := by
  unfold tickT leavesT asksM
  dsimp only
  repeat' split
  all_goals simp [msg0]
theorem tickMs_bare {self : Int} {live : List Int} : ∀ (l : List Topic) (t : Int),(∀ m ∈ tickMs self live t l,m.path = [] ∧ m.todo = []) ∧ (tickMs self live t l).length ≤ 2 * l.length
  | [],t => by simp [tickMs]
  | x :: r,t => by
    obtain ⟨a,b⟩ := tickMs_bare (self := self) (live := live) r (t + 1)
    obtain ⟨d,e⟩ := tickT_bare (self := self) (t := t) (live := live) (x := x)
    refine ⟨fun m hm => ?_,by simp only [tickMs,List.length_append,List.length_cons];omega⟩
    rw [tickMs,List.mem_append] at hm
    exact hm.elim (d m) (a m)
theorem topic_agedT {c : Config} {t self : Int} {x : Topic} (h : topicOk c t self x = true) : topicOk c t self (agedT x) = true := by
  have hb := top_bd h
  unfold agedT
  split
  · exact h
  · split
    · exact topic_lost h
    · exact topic_aged h (by omega) (by omega)
theorem topic_freeT {c : Config} {t self : Int} {live : List Int} {x : Topic} (h : topicOk c t self x = true) : topicOk c t self (freeT live x) = true := by
  unfold freeT
  split
  · rw [topic_iff] at h ⊢
    obtain ⟨a,b,d,e,f,g,h,i,j,k⟩ := h
    exact ⟨a,b,d,e,by simp [link],g,h,i,j,k⟩
  · exact h
theorem free_eqs (x : Topic) (live : List Int) : x.made = (freeT live x).made ∧ x.sub = (freeT live x).sub ∧ x.top = (freeT live x).top ∧ x.root = (freeT live x).root ∧ x.parent = (freeT live x).parent ∧ x.asked = (freeT live x).asked ∧ x.age = (freeT live x).age ∧ x.path = (freeT live x).path ∧ x.kids = (freeT live x).kids ∧ x.stream = (freeT live x).stream ∧ x.queue = (freeT live x).queue := by
  unfold freeT;split <;> simp
theorem free_yes {x : Topic} {live : List Int} (h : (decide (x.other ≠ 0) && !live.contains (x.other - 1)) = true) : (freeT live x).other = 0 := by
  simp only [Bool.and_eq_true,decide_eq_true_eq,Bool.not_eq_true'] at h
  unfold freeT;rw [if_pos h]
theorem free_no {x : Topic} {live : List Int} (h : (decide (x.other ≠ 0) && !live.contains (x.other - 1)) = false) : (freeT live x).other = x.other := by
  unfold freeT;rw [if_neg (by rintro ⟨h1,h2⟩;simp [h1] at h;rw [List.contains_iff_mem.2 h] at h2;cases h2)]
def K_cast_Twin := And.intro @c_slices_Clone_api_Peer_api_Peer (And.intro @c_graft_Twin (And.intro @c_slices_Clone_api_Call_api_Call (And.intro @c_slices_Clone_api_Mark_api_Mark (@c_slices_Clone_api_Mark2_api_Mark2))))
theorem w_cast_Twin (n : Node) (hp : heavy21 n = false) (hg : Goods (F_cast_Twin n).2.1) : WW ρ 9 S_cast_Twin F_cast_Twin n := by
  dsimp only [WW,appV,F_cast_Twin] at hg ⊢
  unfold S_cast_Twin
  simp only [Goods,good_I,good_L] at hg
  have hb := heavy21_bd hp
  simp (disch:=first|omega|assumption|(constructor<;>first|assumption|omega)|simp only[LN];omega) only [↓SB,S1,↓K_cast_Twin]
  refine LOOP.rule (α := Nat) (fun i => [I i,L (n.topics.take i)]) (fun i => i ≤ n.topics.length) (fun i => n.topics.length - i) 0 rfl (by omega) (fun _ => rfl) ?_
  intro i hl
  simp only [app]
  simp (disch:=first|omega|assumption|(constructor<;>first|assumption|omega)|simp only[LN];omega) only [↓SB,S1,↓K_cast_Twin]
  refine ⟨fun hcc => ?_,fun hcc => ?_⟩
  · obtain ⟨y,hy⟩ := get_ex hcc
    have hx9 : heavy19 y = false := by simpa using List.any_eq_false.1 hb.2.2.2.2.2 y (List.mem_of_getElem? hy)
    have hlt : (n.topics.take i).length = i := by simp;omega
    simp (disch:=first|omega|assumption|(constructor<;>first|assumption|omega)|simp only[LN];omega) only [↓SB,S1,↓K_cast_Twin,cell_L hy]
    exact ⟨i + 1,by simp [take_one hy],by omega,by omega⟩
  rw [List.take_of_length_le (by omega)]
end Go.Xt
end
section
set_option linter.unusedSimpArgs false
set_option linter.unusedVariables false
set_option maxRecDepth 100000
namespace Go.Xt
set_option linter.defProp false
theorem callGo_ok {c : Config} {self : Int} : ∀ {l : List Call} {T : List Topic},(∀ x ∈ l,0 ≤ x.topic ∧ x.topic < T.length) → topicsGo c self 0 T = true → topicsGo c self 0 (callGo c l T) = true ∧ (callGo c l T).length = T.length
  | [],T,_,h => ⟨h,rfl⟩
  | x :: r,T,hb,h => by
    have h0 := hb x (by simp)
    rw [callGo]
    split
    · exact callGo_ok (fun y hy => hb y (by simp [hy])) h
    · obtain ⟨a,b⟩ := putQ_ok (c := c) (self := self) (x := ⟨4,0,0,0,0,x.count⟩) h h0.1 h0.2
      obtain ⟨d,e⟩ := callGo_ok (c := c) (self := self) (l := r) (fun y hy => by rw [b];exact hb y (by simp [hy])) a
      exact ⟨d,by rw [e,b]⟩
theorem next_bd {t self : Int} {l : List Peer} (h : peersOk l = true) (h0 : 0 ≤ self) (h1 : self < l.length) : -1 ≤ nextN t (liveP l self) self ∧ nextN t (liveP l self) self < 8 := by
  have hlo := nextN_lo t (liveP l self) self
  refine ⟨hlo,?_⟩
  have hz := (chkL_zero (live_chk h h0 h1)).2.1.2.2
  by_cases hn : 0 ≤ nextN t (liveP l self) self
  · have := live_mem l 0 (nextN t (liveP l self) self) (next_mem hz hn)
    have hp := peers_len h;omega
  · omega
theorem live_len {self : Int} : ∀ (l : List Peer) (i : Int),(liveGo self i l).length ≤ l.length
  | [],_ => by simp [liveGo]
  | p :: r,i => by
    have := live_len (self := self) r (i + 1)
    rw [liveGo,List.length_append,List.length_cons];split <;> simp <;> omega
theorem leaves_no {t : Int} {x : Topic} (h : x.parent = 0) : leavesT t x = (x,[]) := if_pos h
theorem leaves_yes {t : Int} {x : Topic} (h : ¬ x.parent = 0) : leavesT t x = (lostT x,[{ msg0 with kind := 6,to := x.parent - 1,topic := t }]) := if_neg h
def K_beat_Tick := And.intro @c_cast_Check (And.intro @c_view_Live (And.intro @c_ring_Owner (And.intro @c_cast_Twin (And.intro @c_slices_Contains_int_int (And.intro @c_beat_Made (And.intro @c_view_Older (And.intro @c_queue_Fit (And.intro @c_kids_Older (And.intro @c_beat_Interest (And.intro @c_root_Become (And.intro @c_root_Step (And.intro @c_cast_Next (And.intro @c_flow_Lacks (@c_graft_Lost))))))))))))))
theorem w_beat_Tick (c : Config) (self : Int) (n : Node) (hp : heavy21 n = false) (hg : Goods (F_beat_Tick (c,self,n)).2.1) : WW ρ 17 S_beat_Tick F_beat_Tick (c,self,n) := by
  dsimp only [WW,appV,F_beat_Tick] at hg ⊢
  unfold S_beat_Tick
  simp only [Goods,good_I,good_L] at hg
  generalize hE : tickW c self n = q
  unfold tickW at hE
  simp (disch:=first|omega|assumption|(constructor<;>first|assumption|omega)|simp only[LN];omega) only [↓SB,S1,↓K_beat_Tick]
  refine ⟨fun hw => ?_,fun hw => ?_⟩
  · rw [if_neg hw] at hE;rw [← hE];rfl
  rw [if_pos hw] at hE
  obtain ⟨hc,hsr,hu,H⟩ := why_zero hw
  have hb := cfg_bd hc
  have hsb := rng_bd hsr
  have hpl := H.pl;have hml := H.ml;have hkl := H.kl;have hcl := H.cl;have htl := H.tl
  have hpo := H.peers
  have hop := older_peers hpo
  have hol := olderP_len n.peers
  have hpz : placeP (olderP n.peers) self = 0 := by unfold placeP;rw [if_pos hop,if_pos (by omega)]
  have hnx := fun t => next_bd (t := t) hop hsb.1 (by omega)
  have hcz := live_chk hop hsb.1 (by omega)
  have hlen : (liveP (olderP n.peers) self).length ≤ 1000 := by have := live_len (self := self) (olderP n.peers) 0;unfold liveP;omega
  simp (disch:=first|omega|assumption|(constructor<;>first|assumption|omega)|simp only[LN];omega) only [↓SB,S1,↓K_beat_Tick,hpz]
  generalize hlv : liveP (olderP n.peers) self = live at hE hnx hcz hlen ⊢
  have hcb := calls_bd H.calls
  have hTok := callGo_ok (c := c) (self := self) (l := n.calls) (T := n.topics) (fun x hx => by have := hcb x hx;omega) H.tops
  refine SUB.val [L (callsT n.calls),L (callGo c n.calls n.topics)] rfl ?_ ?_
  · generalize hT : callGo c n.calls n.topics = T at hTok ⊢
    simp (disch:=first|omega|assumption|(constructor<;>first|assumption|omega)|simp only[LN];omega) only [↓SB,S1,↓K_beat_Tick]
    refine LOOP.rule (α := Nat × List Topic) (fun p => [I p.1,L p.2,L (callsT (n.calls.take p.1))]) (fun p => p.1 ≤ n.calls.length ∧ callGo c (n.calls.drop p.1) p.2 = T ∧ topicsGo c self 0 p.2 = true ∧ p.2.length = n.topics.length) (fun p => n.calls.length - p.1) (0,n.topics) rfl ⟨by simp,by simpa using hT,H.tops,rfl⟩ (fun _ => rfl) ?_
    rintro ⟨i,a⟩ ⟨hi,h1,h2,h3⟩
    simp only at hi h1 h2 h3
    have hcl3 := callsT_len (n.calls.take i)
    have hcl4 : (n.calls.take i).length ≤ i := by simp;omega
    simp only [app]
    simp (disch:=first|omega|assumption|(constructor<;>first|assumption|omega)|simp only[LN];omega) only [↓SB,S1,↓K_beat_Tick]
    refine ⟨fun h4 => ?_,fun h4 => ?_⟩
    · obtain ⟨x,hx⟩ := get_ex h4
      have hxb := hcb x (List.mem_of_getElem? hx)
      rw [drop_eq hx,callGo] at h1
      have hcs := calls_step hx
      simp (disch:=first|omega|assumption|(constructor<;>first|assumption|omega)|simp only[LN];omega) only [↓SB,S1,↓K_beat_Tick,cell_L hx,↓OP_rowCall (a_count := x.count)]
      refine ⟨fun h5 => ?_,fun h5 => ?_⟩
      · rw [if_pos h5] at h1 hcs
        exact ⟨(i + 1,a),by rw [hcs];simp,⟨by simp;omega,h1,h2,h3⟩,by simp;omega⟩
      · rw [if_neg h5] at h1 hcs
        obtain ⟨k,hk⟩ := Int.eq_ofNat_of_zero_le hxb.2.2.1
        obtain ⟨y,hy⟩ := get_ex (xs := a) (i := k) (by omega)
        have hyo := tops_get h2 hy
        have hyl := heavy19_bd (topic_light hc hyo)
        obtain ⟨p1,p2⟩ := putQ_ok (c := c) (self := self) (x := ⟨4,0,0,0,0,x.count⟩) h2 hxb.2.2.1 (by omega)
        have hpq : putQ c a x.topic ⟨4,0,0,0,0,x.count⟩ = a.set k { y with queue := fitE y.queue c.queue ⟨4,0,0,0,0,x.count⟩ } := by
          simp [putQ,hk,List.getD_eq_getElem?_getD,hy]
        rw [hk]
        simp (disch:=first|omega|assumption|(constructor<;>first|assumption|omega)|simp only[LN];omega) only [↓SB,S1,↓K_beat_Tick,cell_L hy,↓OP_set hy (j := 15) (v := L (fitE y.queue c.queue ⟨4,0,0,0,0,x.count⟩)) (y := { y with queue := fitE y.queue c.queue ⟨4,0,0,0,0,x.count⟩ }) rfl]
        exact ⟨(i + 1,putQ c a x.topic ⟨4,0,0,0,0,x.count⟩),by rw [hcs,hpq];simp,⟨by simp;omega,h1,p1,by rw [p2,h3]⟩,by simp;omega⟩
    · rw [drop_nil h4,callGo] at h1
      rw [List.take_of_length_le (by omega),h1]
  simp only [app]
  generalize hT : callGo c n.calls n.topics = T at hE hTok ⊢
  obtain ⟨hT1,hT2⟩ := hTok
  simp (disch:=first|omega|assumption|(constructor<;>first|assumption|omega)|simp only[LN];omega) only [↓SB,S1,↓K_beat_Tick]
  refine LOOP.rule (α := Nat) (fun i => [I i,L (tickGo self live 0 (T.take i) ++ T.drop i),L (tickMs self live 0 (T.take i))]) (fun i => i ≤ T.length) (fun i => T.length - i) 0 (by simp [tickGo,tickMs,L]) (by omega) (fun _ => rfl) ?_
  intro i hi
  have hGl : (tickGo self live 0 (T.take i) ++ T.drop i).length = T.length := by simp [tickGo_len];omega
  have hMl := (tickMs_bare (self := self) (live := live) (T.take i) 0).2
  have hTl : (T.take i).length ≤ i := by simp;omega
  simp only [app]
  simp (disch:=first|omega|assumption|(constructor<;>first|assumption|omega)|simp only[LN];omega) only [↓SB,S1,↓K_beat_Tick]
  refine ⟨fun h4 => ?_,fun h4 => ?_⟩
  · obtain ⟨x,hx⟩ := get_ex h4
    obtain ⟨hS,hM,hX⟩ := tick_step (self := self) (live := live) hx
    have hxo := tops_get hT1 hx
    rw [Int.zero_add] at hxo
    have hpc : place c i self = true := by simp only [place,Bool.and_eq_true];exact ⟨by simp [rng];omega,hsr⟩
    have hit := (place_bd hc hpc).1
    have hkk := (topic_iff.1 hxo).kids
    have hcn : peersOk (olderP n.peers) = true ∧ rng self 0 ((olderP n.peers).length - 1) = true ∧ isT (i : Int) = true := ⟨hop,by simp [rng];omega,hit⟩
    have hk1 := topic_kids hxo
    obtain ⟨x1,hx1⟩ : ∃ x1 : Topic,x1 = { x with kids := olderK x.kids } := ⟨_,rfl⟩
    rw [← hx1] at hk1
    have hW1 := tWhy_of hc hpc hk1
    have hl1 := topic_light hc hk1
    have hl1b := heavy19_bd hl1
    have hP1 := link_bd (topic_iff.1 hk1).par
    have hB1 := top_bd hk1
    have hTk : tickT self i live x = if ownsN self i live = true then if interest x1 = true then (becomeT self x1,[]) else leavesT i x1 else if interest x1 = true then (askT i (nextN i live self) (freeT live (agedT { x1 with root := 0 })),asksM i (nextN i live self) (freeT live (agedT { x1 with root := 0 }))) else leavesT i { x1 with root := 0 } := by rw [hx1];rfl
    have e1made : x.made = x1.made := by rw [hx1]
    have e1sub : x.sub = x1.sub := by rw [hx1]
    have e1top : x.top = x1.top := by rw [hx1]
    have e1root : x.root = x1.root := by rw [hx1]
    have e1parent : x.parent = x1.parent := by rw [hx1]
    have e1asked : x.asked = x1.asked := by rw [hx1]
    have e1other : x.other = x1.other := by rw [hx1]
    have e1age : x.age = x1.age := by rw [hx1]
    have e1path : x.path = x1.path := by rw [hx1]
    have e1kids : olderK x.kids = x1.kids := by rw [hx1]
    have e1stream : x.stream = x1.stream := by rw [hx1]
    have e1queue : x.queue = x1.queue := by rw [hx1]
    simp (disch:=first|omega|assumption|(constructor<;>first|assumption|omega)|simp only[LN];omega) only [↓SB,S1,↓K_beat_Tick,cell_L hX,e1made,e1sub,e1top,e1root,e1parent,e1asked,e1other,e1age,e1path,e1kids,e1stream,e1queue]
    refine ⟨fun ho => ?_,fun ho => ?_⟩
    · have hOw : ownsN self i live = true := by simp [ownsN,ho]
      rw [if_pos hOw] at hTk
      try simp (disch:=first|omega|assumption|(constructor<;>first|assumption|omega)|simp only[LN];omega) only [↓SB,S1,↓K_beat_Tick]
      refine ⟨fun hI => ?_,fun hI => ?_⟩
      · rw [if_neg (by simp [hI])] at hTk
        refine SUB.path ?_
        simp (disch:=first|omega|assumption|(constructor<;>first|assumption|omega)|simp only[LN];omega) only [↓SB,S1,↓K_beat_Tick]
        refine ⟨fun hz => ?_,fun hz => ?_⟩
        · rw [leaves_no hz] at hTk
          rw [hTk] at hS hM
          refine ⟨rfl,?_⟩
          try simp only [app]
          first | rw [OP_idx (by omega) (by omega),OP_sets hX (y := x1)] | rw [OP_sets hX (y := x1)]
          try simp (disch:=first|omega|assumption|(constructor<;>first|assumption|omega)|simp only[LN];omega) only [↓SB,S1,↓K_beat_Tick]
          exact ⟨i + 1,by rw [hM,← hS];simp [msg0],by omega,by omega⟩
        · rw [leaves_yes hz] at hTk
          rw [hTk] at hS hM
          simp (disch:=first|omega|assumption|(constructor<;>first|assumption|omega)|simp only[LN];omega) only [↓SB,S1,↓K_beat_Tick,↓OP_rowMsg0]
          refine ⟨rfl,?_⟩
          try simp only [app]
          first | rw [OP_idx (by omega) (by omega),OP_sets hX (y := lostT x1)] | rw [OP_sets hX (y := lostT x1)]
          try simp (disch:=first|omega|assumption|(constructor<;>first|assumption|omega)|simp only[LN];omega) only [↓SB,S1,↓K_beat_Tick]
          exact ⟨i + 1,by rw [hM,← hS];simp [msg0],by omega,by omega⟩
      · rw [if_pos (by simpa using hI)] at hTk
        refine SUB.path ?_
        simp (disch:=first|omega|assumption|(constructor<;>first|assumption|omega)|simp only[LN];omega) only [↓SB,S1,↓K_beat_Tick]
        refine ⟨rfl,?_⟩
        simp only [app]
        simp (disch:=first|omega|assumption|(constructor<;>first|assumption|omega)|simp only[LN];omega) only [↓SB,S1,↓K_beat_Tick]
        refine ⟨fun hz => ?_,fun hz => ?_⟩
        · rw [show becomeT self x1 = x1 from if_neg hz] at hTk
          rw [hTk] at hS hM
          first | rw [OP_idx (by omega) (by omega),OP_sets hX (y := x1)] | rw [OP_sets hX (y := x1)]
          try simp (disch:=first|omega|assumption|(constructor<;>first|assumption|omega)|simp only[LN];omega) only [↓SB,S1,↓K_beat_Tick]
          exact ⟨i + 1,by rw [hM,← hS];simp [msg0],by omega,by omega⟩
        · rw [show becomeT self x1 = (becomeR self x1).1 from if_pos hz] at hTk
          rw [hTk] at hS hM
          first | rw [OP_idx (by omega) (by omega),OP_sets hX (y := (becomeR self x1).1)] | rw [OP_sets hX (y := (becomeR self x1).1)]
          try simp (disch:=first|omega|assumption|(constructor<;>first|assumption|omega)|simp only[LN];omega) only [↓SB,S1,↓K_beat_Tick]
          exact ⟨i + 1,by rw [hM,← hS];simp [msg0],by omega,by omega⟩
    · have hOw : ¬ ownsN self i live = true := by simp [ownsN,ho]
      rw [if_neg hOw] at hTk
      obtain ⟨x2,hx2⟩ : ∃ x2 : Topic,x2 = { x1 with root := 0 } := ⟨_,rfl⟩
      have hk2 := topic_root0 hk1
      rw [← hx2] at hk2 hTk
      have hW2 := tWhy_of hc hpc hk2
      have hl2 := topic_light hc hk2
      have hP2 := link_bd (topic_iff.1 hk2).par
      have hB2 := top_bd hk2
      have hi2 : interest x1 = interest x2 := by rw [hx2];rfl
      rw [hi2] at hTk
      have e2made : x1.made = x2.made := by rw [hx2]
      have e2sub : x1.sub = x2.sub := by rw [hx2]
      have e2top : x1.top = x2.top := by rw [hx2]
      have e2parent : x1.parent = x2.parent := by rw [hx2]
      have e2asked : x1.asked = x2.asked := by rw [hx2]
      have e2other : x1.other = x2.other := by rw [hx2]
      have e2age : x1.age = x2.age := by rw [hx2]
      have e2path : x1.path = x2.path := by rw [hx2]
      have e2kids : x1.kids = x2.kids := by rw [hx2]
      have e2stream : x1.stream = x2.stream := by rw [hx2]
      have e2queue : x1.queue = x2.queue := by rw [hx2]
      refine SUB.val [bb x2.made,bb x2.sub,I x2.top,I x2.root,I x2.parent,I x2.asked,I x2.other,I x2.age,L x2.path,L x2.kids,I x2.stream.epoch,I x2.stream.want,I x2.stream.known,L x2.stream.kept,L x2.stream.ahead,L x2.queue] rfl ?_ ?_
      · simp (disch:=first|omega|assumption|(constructor<;>first|assumption|omega)|simp only[LN];omega) only [↓SB,S1,↓K_beat_Tick]
        refine ⟨fun hz => ?_,fun hz => ?_⟩
        · rw [hx2]
        · rw [hx2];simp [hz]
      simp only [app]
      simp (disch:=first|omega|assumption|(constructor<;>first|assumption|omega)|simp only[LN];omega) only [↓SB,S1,↓K_beat_Tick]
      refine ⟨fun hI => ?_,fun hI => ?_⟩
      · rw [if_neg (by simp [hI])] at hTk
        refine SUB.path ?_
        simp (disch:=first|omega|assumption|(constructor<;>first|assumption|omega)|simp only[LN];omega) only [↓SB,S1,↓K_beat_Tick]
        refine ⟨fun hz => ?_,fun hz => ?_⟩
        · rw [leaves_no hz] at hTk
          rw [hTk] at hS hM
          refine ⟨rfl,?_⟩
          try simp only [app]
          first | rw [OP_idx (by omega) (by omega),OP_sets hX (y := x2)] | rw [OP_sets hX (y := x2)]
          try simp (disch:=first|omega|assumption|(constructor<;>first|assumption|omega)|simp only[LN];omega) only [↓SB,S1,↓K_beat_Tick]
          exact ⟨i + 1,by rw [hM,← hS];simp [msg0],by omega,by omega⟩
        · rw [leaves_yes hz] at hTk
          rw [hTk] at hS hM
          simp (disch:=first|omega|assumption|(constructor<;>first|assumption|omega)|simp only[LN];omega) only [↓SB,S1,↓K_beat_Tick,↓OP_rowMsg0]
          refine ⟨rfl,?_⟩
          try simp only [app]
          first | rw [OP_idx (by omega) (by omega),OP_sets hX (y := lostT x2)] | rw [OP_sets hX (y := lostT x2)]
          try simp (disch:=first|omega|assumption|(constructor<;>first|assumption|omega)|simp only[LN];omega) only [↓SB,S1,↓K_beat_Tick]
          exact ⟨i + 1,by rw [hM,← hS];simp [msg0],by omega,by omega⟩
      · rw [if_pos (by simpa using hI)] at hTk
        obtain ⟨y1,hy1⟩ : ∃ y1 : Topic,y1 = agedT x2 := ⟨_,rfl⟩
        have hk3 := topic_agedT hk2
        rw [← hy1] at hk3 hTk
        obtain ⟨y2,hy2⟩ : ∃ y2 : Topic,y2 = freeT live y1 := ⟨_,rfl⟩
        have hk4 := topic_freeT (live := live) hk3
        rw [← hy2] at hk4 hTk
        have hO3 := link_bd (topic_iff.1 hk3).oth
        have hO4 := link_bd (topic_iff.1 hk4).oth
        have hP4 := link_bd (topic_iff.1 hk4).par
        have hnb := hnx i
        have hfe := free_eqs y1 live
        rw [← hy2] at hfe
        obtain ⟨e3made,e3sub,e3top,e3root,e3parent,e3asked,e3age,e3path,e3kids,e3stream,e3queue⟩ := hfe
        refine SUB.path ?_
        simp (disch:=first|omega|assumption|(constructor<;>first|assumption|omega)|simp only[LN];omega) only [↓SB,S1,↓K_beat_Tick]
        refine SUB.val [bb y1.made,bb y1.sub,I y1.top,I y1.root,I y1.parent,I y1.asked,I y1.other,I y1.age,L y1.path,L y1.kids,I y1.stream.epoch,I y1.stream.want,I y1.stream.known,L y1.stream.kept,L y1.stream.ahead,L y1.queue] rfl ?_ ?_
        · have hW3 : tWhy c i self { x2 with age := min (x2.age + 1) 1000 } = 0 := tWhy_of hc hpc (topic_aged hk2 (by omega) (by omega))
          simp (disch:=first|omega|assumption|(constructor<;>first|assumption|omega)|simp only[LN];omega) only [↓SB,S1,↓K_beat_Tick]
          refine ⟨fun hz => ⟨fun h6 => ?_,fun h6 => ?_⟩,fun hz => ?_⟩
          · rw [hy1];unfold agedT;rw [if_neg hz,if_pos h6];rfl
          · rw [hy1];unfold agedT;rw [if_neg hz,if_neg h6]
          · rw [hy1];unfold agedT;rw [if_pos hz]
        simp only [app]
        refine SUB.v1 (bb (decide (y1.other ≠ 0) && !live.contains (y1.other - 1))) ?_ ?_
        · simp (disch:=first|omega|assumption|(constructor<;>first|assumption|omega)|simp only[LN];omega) only [↓SB,S1,↓K_beat_Tick]
          refine ⟨fun hz => ?_,fun hz => ?_⟩ <;> simp [hz]
        refine SUB.v1 (I y2.other) ?_ ?_
        · simp (disch:=first|omega|assumption|(constructor<;>first|assumption|omega)|simp only[LN];omega) only [↓SB,S1,↓K_beat_Tick]
          refine ⟨fun hz => ?_,fun hz => ?_⟩
          · rw [hy2,free_yes hz]
          · rw [hy2,free_no hz]
        simp (disch:=first|omega|assumption|(constructor<;>first|assumption|omega)|simp only[LN];omega) only [↓SB,S1,↓K_beat_Tick,e3made,e3sub,e3top,e3root,e3parent,e3asked,e3age,e3path,e3kids,e3stream,e3queue]
        refine SUB.v1 (I (if y2.other = 0 then nextN i live self else y2.other - 1)) ?_ ?_
        · simp (disch:=first|omega|assumption|(constructor<;>first|assumption|omega)|simp only[LN];omega) only [↓SB,S1,↓K_beat_Tick,hlv]
          refine ⟨fun hz => ?_,fun hz => ?_⟩
          · rw [if_pos hz]
          · rw [if_neg hz]
        have hto : -1 ≤ (if y2.other = 0 then nextN i live self else y2.other - 1) ∧ (if y2.other = 0 then nextN i live self else y2.other - 1) < 8 := by split <;> omega
        unfold askT asksM at hTk
        generalize (if y2.other = 0 then nextN i live self else y2.other - 1) = to at hto hTk ⊢
        simp (disch:=first|omega|assumption|(constructor<;>first|assumption|omega)|simp only[LN];omega) only [↓SB,S1,↓K_beat_Tick,↓OP_rowMsg0,e3made,e3sub,e3top,e3root,e3parent,e3asked,e3age,e3path,e3kids,e3stream,e3queue]
        refine ⟨fun hz => ⟨fun h6 => ?_,fun h6 => ?_⟩,fun hz => ?_⟩
        · rw [if_pos ⟨hz,h6⟩] at hTk
          rw [hTk] at hS hM
          try simp (disch:=first|omega|assumption|(constructor<;>first|assumption|omega)|simp only[LN];omega) only [↓SB,S1,↓K_beat_Tick,↓OP_rowMsg0]
          refine ⟨rfl,?_⟩
          try simp only [app]
          first | rw [OP_idx (by omega) (by omega),OP_sets hX (y := { y2 with asked := to + 1 })] | rw [OP_sets hX (y := { y2 with asked := to + 1 })]
          try simp (disch:=first|omega|assumption|(constructor<;>first|assumption|omega)|simp only[LN];omega) only [↓SB,S1,↓K_beat_Tick]
          exact ⟨i + 1,by rw [hM,← hS];simp [msg0],by omega,by omega⟩
        · rw [if_neg (by intro h;exact h6 h.2)] at hTk
          rw [hTk] at hS hM
          refine ⟨rfl,?_⟩
          try simp only [app]
          first | rw [OP_idx (by omega) (by omega),OP_sets hX (y := { y2 with asked := to + 1 })] | rw [OP_sets hX (y := { y2 with asked := to + 1 })]
          try simp (disch:=first|omega|assumption|(constructor<;>first|assumption|omega)|simp only[LN];omega) only [↓SB,S1,↓K_beat_Tick]
          exact ⟨i + 1,by rw [hM,← hS];simp [msg0],by omega,by omega⟩
        · rw [if_neg (by intro h;exact h.1 hz)] at hTk
          rw [hTk] at hS hM
          refine ⟨rfl,?_⟩
          try simp only [app]
          first | rw [OP_idx (by omega) (by omega),OP_sets hX (y := { y2 with asked := to + 1 })] | rw [OP_sets hX (y := { y2 with asked := to + 1 })]
          try simp (disch:=first|omega|assumption|(constructor<;>first|assumption|omega)|simp only[LN];omega) only [↓SB,S1,↓K_beat_Tick]
          exact ⟨i + 1,by rw [hM,← hS];simp [msg0],by omega,by omega⟩
  · rw [List.take_of_length_le (by omega),List.drop_eq_nil_of_le (by omega),List.append_nil]
    obtain ⟨hMb,hMn⟩ := tickMs_bare (self := self) (live := live) T 0
    refine LOOP.rule (α := Nat) (fun j => [I j,L (tickMs self live 0 T ++ pings self j)]) (fun j => (j : Int) ≤ c.nodes) (fun j => c.nodes.toNat - j) 0 (by simp [pings]) (by omega) (fun _ => rfl) ?_
    intro j hj
    have hpn := pings_len self j
    have hps := pings_step (self := self) (i := j)
    simp only [app]
    simp (disch:=first|omega|assumption|(constructor<;>first|assumption|omega)|simp only[LN];omega) only [↓SB,S1,↓K_beat_Tick]
    refine ⟨fun h => ⟨fun h5 => ?_,fun h5 => ?_⟩,fun h => ?_⟩
    · rw [if_neg h5] at hps
      simp (disch:=first|omega|assumption|(constructor<;>first|assumption|omega)|simp only[LN];omega) only [↓SB,S1,↓K_beat_Tick,↓OP_rowMsg0]
      exact ⟨j + 1,by rw [hps];simp [msg0],by omega,by omega⟩
    · rw [if_pos h5] at hps
      exact ⟨j + 1,by rw [hps];simp,by omega,by omega⟩
    · have hj2 : (j : Int) = c.nodes := by omega
      have hpre : (tickMs self live 0 T ++ pings self j).length ≤ 1000 ∧ (olderP n.peers).length ≤ 12 ∧ ∀ m ∈ tickMs self live 0 T ++ pings self j,m.path.length ≤ 30 ∧ m.todo.length ≤ 30 := by
        refine ⟨by simp;omega,by omega,fun m hm => ?_⟩
        have : m.path = [] ∧ m.todo = [] := (List.mem_append.1 hm).elim (hMb m) pings_bare
        rw [this.1,this.2];simp
      simp (disch:=first|omega|assumption|(constructor<;>first|assumption|omega)|simp only[LN];omega) only [↓SB,S1,↓K_beat_Tick]
      rw [← hE,hj2]
      simp only [tickN,tickM,hlv,hT]
end Go.Xt
end
section
set_option linter.unusedSimpArgs false
set_option linter.unusedVariables false
set_option maxRecDepth 100000
namespace Go.Xt
set_option linter.defProp false
theorem own_R {t : Int} (ht : isT t = true) : ∀ (l : List Int) (b : Int),isN b = true → l.all isN = true → ownGo t b l = ownR t b l
  | [],_,_,_ => rfl
  | x :: r,b,hb,h => by
    rw [List.all_cons,Bool.and_eq_true] at h
    have hb2 := isN_iff.1 hb
    rw [ownGo,ownR]
    have hn : near t x b = decide (gap t x < gap t b) := by simp [near,ht,hb,h.1]
    rw [hn]
    by_cases hc : gap t x < gap t b
    · rw [if_pos (by simpa using hc),if_pos (.inr hc)];exact own_R ht r x h.1 h.2
    · rw [if_neg (by simpa using hc),if_neg (by omega)];exact own_R ht r b hb h.2
theorem owner_R {t : Int} {l : List Int} (ht : isT t = true) (h : l.all isN = true) (hne : l ≠ []) : (owner t l).1 = ownerR t l := by
  unfold owner ownerR
  rw [if_pos ht,if_pos h]
  cases l with
  | nil => exact absurd rfl hne
  | cons x r =>
    rw [List.all_cons,Bool.and_eq_true] at h
    show ownGo t x (x :: r) = _
    rw [ownR,if_pos (.inl (by omega)),ownGo,ite_self];exact own_R ht r x h.1 h.2
def K_ref19_Tick := And.intro @c_bkeep_TwinPeers (And.intro @c_bkeep_TwinTopic (And.intro @c_ref19_has (And.intro @c_ref10_Older (And.intro @c_ref10_OlderKids (And.intro @c_ref01_Owner (And.intro @c_ref19_Interest (And.intro @c_ref10_Become (And.intro @c_ref10_Lost (And.intro @c_ref10_Next (And.intro @c_ref19_ready (And.intro @c_ref10_Put (@c_ref10_Live))))))))))))
theorem w_ref19_Tick (c : Config) (self : Int) (n : Node) (hp : heavy21 n = false ∧ nodeWhy c self n = 0) (hg : Goods (F_ref19_Tick (c,self,n)).2.1) : WW ρ 17 S_ref19_Tick F_ref19_Tick (c,self,n) := by
  dsimp only [WW,appV,F_ref19_Tick] at hg ⊢
  unfold S_ref19_Tick
  simp only [Goods,good_I,good_L] at hg
  obtain ⟨hlt0,hw⟩ := hp
  obtain ⟨hc,hsr,hu,H⟩ := why_zero hw
  have hb := cfg_bd hc
  have hsb := rng_bd hsr
  have hpl := H.pl;have hml := H.ml;have hkl := H.kl;have hcl := H.cl;have htl := H.tl
  refine SUB.val [L n.taken,L n.marks,L n.calls,L n.topics,L n.peers] rfl ?_ ?_
  · simp (disch:=first|omega|assumption|(constructor<;>first|assumption|omega)|simp only[LN];omega) only [↓SB,S1,↓K_ref19_Tick]
    refine LOOP.rule (α := Nat) (fun i => [I i,L (n.topics.take i)]) (fun i => i ≤ n.topics.length) (fun i => n.topics.length - i) 0 rfl (by omega) (fun _ => rfl) ?_
    intro i hl
    simp only [app]
    simp (disch:=first|omega|assumption|(constructor<;>first|assumption|omega)|simp only[LN];omega) only [↓SB,S1,↓K_ref19_Tick]
    refine ⟨fun hcc => ?_,fun hcc => ?_⟩
    · obtain ⟨y,hy⟩ := get_ex hcc
      have hx9 := node_light hc H hy
      have hlt : (n.topics.take i).length = i := by simp;omega
      simp (disch:=first|omega|assumption|(constructor<;>first|assumption|omega)|simp only[LN];omega) only [↓SB,S1,↓K_ref19_Tick,cell_L hy]
      exact ⟨i + 1,by simp [take_one hy],by omega,by omega⟩
    rw [List.take_of_length_le (by omega)]
  simp only [app]
  have hpo := H.peers
  have hop := older_peers hpo
  have hol := olderP_len n.peers
  have hnx := fun t => next_bd (t := t) hop hsb.1 (by omega)
  have hcz := live_chk hop hsb.1 (by omega)
  have hcz2 := chkL_zero hcz
  have hlen : (liveP (olderP n.peers) self).length ≤ 1000 := by have := live_len (self := self) (olderP n.peers) 0;unfold liveP;omega
  have hcb := calls_bd H.calls
  have hTok := callGo_ok (c := c) (self := self) (l := n.calls) (T := n.topics) (fun x hx => by have := hcb x hx;omega) H.tops
  generalize hlv : liveP (olderP n.peers) self = live at hnx hcz hcz2 hlen
  generalize hT : callGo c n.calls n.topics = T at hTok
  simp (disch:=first|omega|assumption|(constructor<;>first|assumption|omega)|simp only[LN];omega) only [↓SB,S1,↓K_ref19_Tick]
  refine LOOP.rule (α := Nat × List Topic) (fun p => [I p.1,L p.2,L (callsT (n.calls.take p.1))]) (fun p => p.1 ≤ n.calls.length ∧ callGo c (n.calls.drop p.1) p.2 = T ∧ topicsGo c self 0 p.2 = true ∧ p.2.length = n.topics.length) (fun p => n.calls.length - p.1) (0,n.topics) rfl ⟨by simp,by simpa using hT,H.tops,rfl⟩ (fun _ => rfl) ?_
  rintro ⟨i,a⟩ ⟨hi,h1,h2,h3⟩
  simp only at hi h1 h2 h3
  have hcl3 := callsT_len (n.calls.take i)
  have hcl4 : (n.calls.take i).length ≤ i := by simp;omega
  simp only [app]
  simp (disch:=first|omega|assumption|(constructor<;>first|assumption|omega)|simp only[LN];omega) only [↓SB,S1,↓K_ref19_Tick]
  refine ⟨fun h4 => ?_,fun h4 => ?_⟩
  · obtain ⟨x,hx⟩ := get_ex h4
    have hxb := hcb x (List.mem_of_getElem? hx)
    rw [drop_eq hx,callGo] at h1
    have hcs := calls_step hx
    simp (disch:=first|omega|assumption|(constructor<;>first|assumption|omega)|simp only[LN];omega) only [↓SB,S1,↓K_ref19_Tick,cell_L hx,↓OP_rowCall (a_count := x.count)]
    refine ⟨fun h5 => ?_,fun h5 => ?_⟩
    · rw [if_neg (by omega)] at h1 hcs
      obtain ⟨k,hk⟩ := Int.eq_ofNat_of_zero_le hxb.2.2.1
      obtain ⟨y,hy⟩ := get_ex (xs := a) (i := k) (by omega)
      have hyo := tops_get h2 hy
      have hyl := heavy19_bd (topic_light hc hyo)
      obtain ⟨p1,p2⟩ := putQ_ok (c := c) (self := self) (x := ⟨4,0,0,0,0,x.count⟩) h2 hxb.2.2.1 (by omega)
      have hev : evOk ⟨4,0,0,0,0,x.count⟩ = true := by have := hcb x (List.mem_of_getElem? hx);have hab := rng_bd H.asks;simp [evOk,rng,cnt];omega
      have hfc := fit_call (topic_q hyo) hev rfl
      have hpq : putQ c a x.topic ⟨4,0,0,0,0,x.count⟩ = a.set k { y with queue := fitE y.queue c.queue ⟨4,0,0,0,0,x.count⟩ } := by
        simp [putQ,hk,List.getD_eq_getElem?_getD,hy]
      have hpre : y.queue.length ≤ 1000 ∧ 2 ≤ c.queue ∧ c.queue ≤ 32 ∧ ((4 : Int) = 3 ∨ (4 : Int) = 4) := ⟨by omega,by omega,by omega,.inr rfl⟩
      rw [hk]
      simp (disch:=first|omega|assumption|(constructor<;>first|assumption|omega)|simp only[LN];omega) only [↓SB,S1,↓K_ref19_Tick,cell_L hy,↓OP_set hy (j := 15) (v := L (if (y.queue.length : Int) < c.queue - 1 then y.queue ++ [⟨4,0,0,0,0,x.count⟩] else y.queue)) (y := { y with queue := if (y.queue.length : Int) < c.queue - 1 then y.queue ++ [⟨4,0,0,0,0,x.count⟩] else y.queue }) rfl]
      refine ⟨fun h6 => ?_,fun h6 => ?_⟩
      · exact ⟨(i + 1,putQ c a x.topic ⟨4,0,0,0,0,x.count⟩),by rw [hcs,hpq,hfc];simp,⟨by simp;omega,h1,p1,by rw [p2,h3]⟩,by simp;omega⟩
      · rw [if_neg h6] at hfc
        have hsame : putQ c a x.topic ⟨4,0,0,0,0,x.count⟩ = a := by rw [hpq,hfc];exact set_same hy
        exact ⟨(i + 1,putQ c a x.topic ⟨4,0,0,0,0,x.count⟩),by rw [hcs,hsame];simp,⟨by simp;omega,h1,p1,by rw [p2,h3]⟩,by simp;omega⟩
    · rw [if_pos (by omega)] at h1 hcs
      exact ⟨(i + 1,a),by rw [hcs];simp,⟨by simp;omega,h1,h2,h3⟩,by simp;omega⟩
  rw [drop_nil h4,callGo] at h1
  rw [List.take_of_length_le (show n.calls.length ≤ i by omega),h1]
  clear h1 h2 h3
  refine SUB.v1 (L live) ?_ ?_
  · simp (disch:=first|omega|assumption|(constructor<;>first|assumption|omega)|simp only[LN];omega) only [↓SB,S1,↓K_ref19_Tick,hlv]
  obtain ⟨hT1,hT2⟩ := hTok
  refine LOOP.rule (α := Nat) (fun i => [I i,L (tickGo self live 0 (T.take i) ++ T.drop i),L (tickMs self live 0 (T.take i))]) (fun i => i ≤ T.length) (fun i => T.length - i) 0 (by simp [tickGo,tickMs,L]) (by omega) (fun _ => rfl) ?_
  intro i hi
  have hGl : (tickGo self live 0 (T.take i) ++ T.drop i).length = T.length := by simp [tickGo_len];omega
  have hMl := (tickMs_bare (self := self) (live := live) (T.take i) 0).2
  have hTl : (T.take i).length ≤ i := by simp;omega
  simp only [app]
  simp (disch:=first|omega|assumption|(constructor<;>first|assumption|omega)|simp only[LN];omega) only [↓SB,S1,↓K_ref19_Tick]
  refine ⟨fun h4 => ?_,fun h4 => ?_⟩
  · obtain ⟨x,hx⟩ := get_ex (xs := T) (i := i) (by omega)
    obtain ⟨hS,hM,hX⟩ := tick_step (self := self) (live := live) hx
    have hxo := tops_get hT1 hx
    rw [Int.zero_add] at hxo
    have hpc : place c i self = true := by simp only [place,Bool.and_eq_true];exact ⟨by simp [rng];omega,hsr⟩
    have hit := (place_bd hc hpc).1
    have hka : x.kids.length ≤ 1000 ∧ ∀ k ∈ x.kids,0 ≤ k.age ∧ k.age ≤ 1000 := by
      have hkk := (topic_iff.1 hxo).kids
      have hkl := heavy19_bd (topic_light hc hxo)
      simp only [kidsOk,Bool.and_eq_true] at hkk
      exact ⟨by omega,fun k hk => by have := kids_ages hkk.2 k hk;omega⟩
    have hcn : isT (i : Int) = true ∧ chkL live self = 0 := ⟨hit,hcz⟩
    have hoN : isT (i : Int) = true ∧ live.all isN = true := ⟨hit,hcz2.1.1⟩
    have hoR := owner_R hit hcz2.1.1 hcz2.2.1.2.2
    have hk1 := topic_kids hxo
    obtain ⟨x1,hx1⟩ : ∃ x1 : Topic,x1 = { x with kids := olderK x.kids } := ⟨_,rfl⟩
    rw [← hx1] at hk1
    have hl1 := topic_light hc hk1
    have hP1 := link_bd (topic_iff.1 hk1).par
    have hB1 := top_bd hk1
    have hk2 := topic_root0 hk1
    have hl2 := topic_light hc hk2
    have hBe : heavy19 x1 = false ∧ isN self = true ∧ 0 ≤ x1.top ∧ x1.top ≤ 1073741824 := ⟨hl1,hcz2.1.2,hB1.1,hB1.2.1⟩
    obtain ⟨Y,hY⟩ : ∃ Y,Y = tickT self i live x := ⟨_,rfl⟩
    have hTk : Y = if ownsN self i live = true then if interest x1 = true then (becomeT self x1,[]) else leavesT i x1 else if interest x1 = true then (askT i (nextN i live self) (freeT live (agedT { x1 with root := 0 })),asksM i (nextN i live self) (freeT live (agedT { x1 with root := 0 }))) else leavesT i { x1 with root := 0 } := by rw [hY,hx1];rfl
    rw [← hY] at hS hM
    have e1made : x.made = x1.made := by rw [hx1]
    have e1sub : x.sub = x1.sub := by rw [hx1]
    have e1top : x.top = x1.top := by rw [hx1]
    have e1root : x.root = x1.root := by rw [hx1]
    have e1parent : x.parent = x1.parent := by rw [hx1]
    have e1asked : x.asked = x1.asked := by rw [hx1]
    have e1other : x.other = x1.other := by rw [hx1]
    have e1age : x.age = x1.age := by rw [hx1]
    have e1path : x.path = x1.path := by rw [hx1]
    have e1kids : olderK x.kids = x1.kids := by rw [hx1]
    have e1stream : x.stream = x1.stream := by rw [hx1]
    have e1queue : x.queue = x1.queue := by rw [hx1]
    simp (disch:=first|omega|assumption|(constructor<;>first|assumption|omega)|simp only[LN];omega) only [↓SB,S1,↓K_ref19_Tick,cell_L hX,e1made,e1sub,e1top,e1root,e1parent,e1asked,e1other,e1age,e1path,e1kids,e1stream,e1queue]
    refine SUB.val [bb Y.1.made,bb Y.1.sub,I Y.1.top,I Y.1.root,I Y.1.parent,I Y.1.asked,I Y.1.other,I Y.1.age,L Y.1.path,L Y.1.kids,I Y.1.stream.epoch,I Y.1.stream.want,I Y.1.stream.known,L Y.1.stream.kept,L Y.1.stream.ahead,L Y.1.queue,L (tickMs self live 0 (T.take i) ++ Y.2)] rfl ?_ ?_
    · simp (disch:=first|omega|assumption|(constructor<;>first|assumption|omega)|simp only[LN];omega) only [↓SB,S1,↓K_ref19_Tick]
      refine ⟨fun ho => ⟨fun hI => ⟨fun hz => ?_,fun hz => ?_⟩,fun hI => ?_⟩,fun ho => ⟨fun hI => ?_,fun hI => ?_⟩⟩
      · rw [if_pos (by simp [ownsN,hoR,ho]),if_pos hI,show becomeT self x1 = (becomeR self x1).1 from if_pos hz] at hTk
        rw [hTk];simp
      · rw [if_pos (by simp [ownsN,hoR,ho]),if_pos hI,show becomeT self x1 = x1 from if_neg hz] at hTk
        rw [hTk];simp
      · rw [if_pos (by simp [ownsN,hoR,ho]),if_neg (by simp [hI])] at hTk
        refine ⟨fun hz => ?_,fun hz => ?_⟩
        · rw [leaves_yes (show ¬ (x1 : Topic).parent = 0 by show ¬ x1.parent = 0;omega)] at hTk
          rw [hTk]
          simp (disch:=first|omega|assumption|(constructor<;>first|assumption|omega)|simp only[LN];omega) only [↓SB,S1,↓K_ref19_Tick,↓OP_rowMsg0]
          simp [msg0,lostT]
        · rw [leaves_no (show (x1 : Topic).parent = 0 by show x1.parent = 0;omega)] at hTk
          rw [hTk]
          try simp
      · rw [if_neg (by simp [ownsN,hoR,ho]),if_pos hI] at hTk
        obtain ⟨y1,hy1⟩ : ∃ y1 : Topic,y1 = agedT { x1 with root := 0 } := ⟨_,rfl⟩
        have hk3 := topic_agedT hk2
        rw [← hy1] at hk3 hTk
        obtain ⟨y2,hy2⟩ : ∃ y2 : Topic,y2 = freeT live y1 := ⟨_,rfl⟩
        have hk4 := topic_freeT (live := live) hk3
        rw [← hy2] at hk4 hTk
        have hO3 := link_bd (topic_iff.1 hk3).oth
        have hO4 := link_bd (topic_iff.1 hk4).oth
        have hP4 := link_bd (topic_iff.1 hk4).par
        have hnb := hnx i
        have hfe := free_eqs y1 live
        rw [← hy2] at hfe
        obtain ⟨e3made,e3sub,e3top,e3root,e3parent,e3asked,e3age,e3path,e3kids,e3stream,e3queue⟩ := hfe
        refine SUB.val [bb y1.made,bb y1.sub,I y1.top,I y1.root,I y1.parent,I y1.asked,I y1.other,I y1.age,L y1.path,L y1.kids,I y1.stream.epoch,I y1.stream.want,I y1.stream.known,L y1.stream.kept,L y1.stream.ahead,L y1.queue] rfl ?_ ?_
        · have hl3 : heavy19 { x1 with root := 0,age := min (x1.age + 1) 1000 } = false := topic_light hc (topic_aged hk2 (a := min (x1.age + 1) 1000) (by omega) (by omega))
          simp (disch:=first|omega|assumption|(constructor<;>first|assumption|omega)|simp only[LN];omega) only [↓SB,S1,↓K_ref19_Tick]
          refine ⟨fun hz => ⟨fun h6 => ?_,fun h6 => ?_⟩,fun hz => ?_⟩
          · rw [hy1];unfold agedT;rw [if_neg (show ¬ x1.parent = 0 by omega),if_pos h6];rfl
          · rw [hy1];unfold agedT;rw [if_neg (show ¬ x1.parent = 0 by omega),if_neg h6]
          · rw [hy1];unfold agedT;rw [if_pos (show x1.parent = 0 by omega)]
        simp only [app]
        refine SUB.v1 (bb (decide (y1.other ≠ 0) && !live.contains (y1.other - 1))) ?_ ?_
        · simp (disch:=first|omega|assumption|(constructor<;>first|assumption|omega)|simp only[LN];omega) only [↓SB,S1,↓K_ref19_Tick]
          refine ⟨fun hz => ?_,fun hz => ?_⟩
          · rw [show decide (y1.other ≠ 0) = true by simp;omega];simp
          · rw [show decide (y1.other ≠ 0) = false by simp;omega];simp
        refine SUB.v1 (I y2.other) ?_ ?_
        · simp (disch:=first|omega|assumption|(constructor<;>first|assumption|omega)|simp only[LN];omega) only [↓SB,S1,↓K_ref19_Tick]
          refine ⟨fun hz => ?_,fun hz => ?_⟩
          · rw [hy2,free_yes hz]
          · rw [hy2,free_no hz]
        simp (disch:=first|omega|assumption|(constructor<;>first|assumption|omega)|simp only[LN];omega) only [↓SB,S1,↓K_ref19_Tick,e3made,e3sub,e3top,e3root,e3parent,e3asked,e3age,e3path,e3kids,e3stream,e3queue]
        refine SUB.v1 (I (if y2.other = 0 then nextN i live self else y2.other - 1)) ?_ ?_
        · simp (disch:=first|omega|assumption|(constructor<;>first|assumption|omega)|simp only[LN];omega) only [↓SB,S1,↓K_ref19_Tick]
          refine ⟨fun hz => ?_,fun hz => ?_⟩
          · rw [if_pos hz]
          · rw [if_neg hz]
        have hto : -1 ≤ (if y2.other = 0 then nextN i live self else y2.other - 1) ∧ (if y2.other = 0 then nextN i live self else y2.other - 1) < 8 := by split <;> omega
        unfold askT asksM at hTk
        generalize (if y2.other = 0 then nextN i live self else y2.other - 1) = to at hto hTk ⊢
        simp (disch:=first|omega|assumption|(constructor<;>first|assumption|omega)|simp only[LN];omega) only [↓SB,S1,↓K_ref19_Tick,↓OP_rowMsg0,e3made,e3sub,e3top,e3root,e3parent,e3asked,e3age,e3path,e3kids,e3stream,e3queue]
        refine ⟨fun hz => ⟨fun h6 => ?_,fun h6 => ?_⟩,fun hz => ?_⟩
        · rw [if_pos ⟨by omega,h6⟩] at hTk
          rw [hTk];simp [msg0]
        · rw [if_neg (by intro h;exact h6 h.2)] at hTk
          rw [hTk];simp [msg0]
        · rw [if_neg (by intro h;exact h.1 (by omega))] at hTk
          rw [hTk];simp [msg0]
      · rw [if_neg (by simp [ownsN,hoR,ho]),if_neg (by simp [hI])] at hTk
        refine ⟨fun hz => ?_,fun hz => ?_⟩
        · rw [leaves_yes (show ¬ ({ x1 with root := 0 } : Topic).parent = 0 by show ¬ x1.parent = 0;omega)] at hTk
          rw [hTk]
          simp (disch:=first|omega|assumption|(constructor<;>first|assumption|omega)|simp only[LN];omega) only [↓SB,S1,↓K_ref19_Tick,↓OP_rowMsg0]
          simp [msg0,lostT]
        · rw [leaves_no (show ({ x1 with root := 0 } : Topic).parent = 0 by show x1.parent = 0;omega)] at hTk
          rw [hTk]
          try simp
    simp only [app]
    first | rw [OP_idx (by omega) (by omega),OP_sets hX (y := Y.1)] | rw [OP_sets hX (y := Y.1)]
    try simp (disch:=first|omega|assumption|(constructor<;>first|assumption|omega)|simp only[LN];omega) only [↓SB,S1,↓K_ref19_Tick]
    exact ⟨i + 1,by rw [hM,← hS];simp,by omega,by omega⟩
  · rw [List.take_of_length_le (by omega),List.drop_eq_nil_of_le (by omega),List.append_nil]
    obtain ⟨hMb,hMn⟩ := tickMs_bare (self := self) (live := live) T 0
    refine LOOP.rule (α := Nat) (fun j => [I j,L (tickMs self live 0 T ++ pings self j)]) (fun j => (j : Int) ≤ c.nodes) (fun j => c.nodes.toNat - j) 0 (by simp [pings]) (by omega) (fun _ => rfl) ?_
    intro j hj
    have hpn := pings_len self j
    have hps := pings_step (self := self) (i := j)
    simp only [app]
    simp (disch:=first|omega|assumption|(constructor<;>first|assumption|omega)|simp only[LN];omega) only [↓SB,S1,↓K_ref19_Tick]
    refine ⟨fun h => ⟨fun h5 => ?_,fun h5 => ?_⟩,fun h => ?_⟩
    · rw [if_neg h5] at hps
      simp (disch:=first|omega|assumption|(constructor<;>first|assumption|omega)|simp only[LN];omega) only [↓SB,S1,↓K_ref19_Tick,↓OP_rowMsg0]
      exact ⟨j + 1,by rw [hps];simp [msg0],by omega,by omega⟩
    · rw [if_pos h5] at hps
      exact ⟨j + 1,by rw [hps];simp,by omega,by omega⟩
    · have hj2 : (j : Int) = c.nodes := by omega
      have hpre : (tickMs self live 0 T ++ pings self j).length ≤ 1000 ∧ (olderP n.peers).length ≤ 12 ∧ ∀ m ∈ tickMs self live 0 T ++ pings self j,m.path.length ≤ 30 ∧ m.todo.length ≤ 30 := by
        refine ⟨by simp;omega,by omega,fun m hm => ?_⟩
        have : m.path = [] ∧ m.todo = [] := (List.mem_append.1 hm).elim (hMb m) pings_bare
        rw [this.1,this.2];simp
      simp (disch:=first|omega|assumption|(constructor<;>first|assumption|omega)|simp only[LN];omega) only [↓SB,S1,↓K_ref19_Tick]
      rw [hj2]
      simp only [tickN,tickM,hlv,hT]
end Go.Xt
end
section
set_option linter.unusedSimpArgs false
set_option linter.unusedVariables false
set_option maxRecDepth 100000
namespace Go.Xt
set_option linter.defProp false
def wT := tickW fullC 3 wN0
def wL : List Msg := [{ msg0 with kind := 6,to := 1 },{ msg0 with kind := 1,to := 2 }]
def wR := readyW fullC 3 wN0 wL
theorem wt0 : heavy21 wN0 = false ∧ wT.2.2 = 0 ∧ wT.2.1.length = 7 ∧ wT.1.up = true ∧ wR.2 = 0 ∧ wR.1.length = 1 := by decide +kernel
theorem wt1 : wT.2.1[0]? = some { msg0 with kind := 1,frm := 3,fromInc := 1,to := 0 } := by decide +kernel
theorem wt2 : wR.1[0]? = some { msg0 with kind := 1,frm := 3,fromInc := 1,to := 2 } := by decide +kernel
theorem wt3 : heavy21 wN0 = false ∧ wL.length ≤ 1000 ∧ ∀ m ∈ wL,m.path.length ≤ 30 ∧ m.todo.length ≤ 30 := by
  refine ⟨wt0.1,by decide,fun m hm => ?_⟩
  simp only [wL,List.mem_cons,List.not_mem_nil,or_false] at hm
  rcases hm with rfl | rfl <;> decide
def K_law22_wakes := And.intro @c_beat_Ready (And.intro @c_beat_Tick (@c_law19_Full))
theorem w_law22_wakes  : WW ρ 0 S_law22_wakes F_law22_wakes () := by
  dsimp only [WW,appV,F_law22_wakes]
  unfold S_law22_wakes
  have e8 : (8 : Int).toNat = 8 := rfl
  have e4 : (4 : Int).toNat = 4 := rfl
  rw [c_law19_Full]
  have cT : ∀ k,CALL ρ 27 [I 8,I 4,I 2,I 8,I 8,I 8,I 16,I 3,bb true,I 1,L wN0.peers,L wN0.topics,L (α := Call) [],I 0,I 0,L wN0.marks,L (α := Mark2) []] 11 k = k (bb wT.1.up) (I wT.1.inc) (L wT.1.peers) (L wT.1.topics) (L wT.1.calls) (I wT.1.pubs) (I wT.1.asks) (L wT.1.marks) (L wT.1.taken) (L wT.2.1) (I wT.2.2) :=
    fun k => c_beat_Tick (k_ := k) wt0.1
  have cR : ∀ k,CALL ρ 26 [I 8,I 4,I 2,I 8,I 8,I 8,I 16,I 3,bb true,I 1,L wN0.peers,L wN0.topics,L (α := Call) [],I 0,I 0,L wN0.marks,L (α := Mark2) [],L wL] 2 k = k (L wR.1) (I wR.2) :=
    fun k => c_beat_Ready (k_ := k) wt3
  have f1 : (List.replicate 8 (⟨0,0⟩ : Peer)) = wN0.peers := rfl
  have f2 : (List.replicate 4 topic0) = wN0.topics := rfl
  have f3 : (List.replicate 8 (⟨0,0,0⟩ : Mark)) = wN0.marks := rfl
  have f4 : ∀ k,OP (.rows 16) [I 6,I 0,I 0,I 1,I 0,I 0,I 0,I 0,I 0,I 0,I 0,I 0,I 0,I 0,.list [],.list [],I 1,I 0,I 0,I 2,I 0,I 0,I 0,I 0,I 0,I 0,I 0,I 0,I 0,I 0,.list [],.list []] k = k (L wL) := fun k => OP_of (by rfl)
  refine Or.inl ⟨[L wN0.peers,L wN0.topics,L wN0.marks,bb wT.1.up,I wT.1.inc,L wT.1.peers,L wT.1.topics,L wT.1.calls,I wT.1.pubs,I wT.1.asks,L wT.1.marks,L wT.1.taken,L wT.2.1,I wT.2.2,L wT.2.1,I wT.2.2,bb wT.1.up,I wT.1.inc,L wT.1.peers,L wT.1.topics,L wT.1.calls,I wT.1.pubs,I wT.1.asks,L wT.1.marks,L wT.1.taken,L wN0.peers,L wN0.topics,L wN0.marks],rfl,?_,?_⟩
  · simp (disch := omega) only [OP_replPeer,OP_replTopic,OP_replMark,e8,e4,f1,f2,f3,cT,and_self]
  simp only [app]
  refine Or.inl ⟨[L wN0.peers,L wN0.topics,L wN0.marks,L wL,I wR.2,I wR.2,L wR.1,L wN0.peers,L wN0.topics,L wN0.marks],rfl,?_,?_⟩
  · simp (disch := omega) only [OP_replPeer,OP_replTopic,OP_replMark,e8,e4,f1,f2,f3,f4,cR,and_self]
  simp only [app]
  obtain ⟨g0,g1,g2,g3,g4,g5⟩ := wt0
  have g2' : (wT.2.1.length : Int) = 7 := by rw [g2];rfl
  have g5' : (wR.1.length : Int) = 1 := by rw [g5];rfl
  have h1 : ∀ j,(L wT.2.1).cellAt (I 0) j = look (Row.row ({ msg0 with kind := 1,frm := 3,fromInc := 1,to := 0 } : Msg)) j := fun j => cell_L (i := 0) wt1
  have h2 : ∀ j,(L wR.1).cellAt (I 0) j = look (Row.row ({ msg0 with kind := 1,frm := 3,fromInc := 1,to := 2 } : Msg)) j := fun j => cell_L (i := 0) wt2
  rw [g1,g3,g4]
  simp (disch:=first|omega|assumption|(constructor<;>first|assumption|omega)|simp only[LN];omega) only [↓SB,S1,↓K_law22_wakes,h1,h2,g2',g5']
end Go.Xt
end
section
set_option linter.unusedSimpArgs false
set_option linter.unusedVariables false
set_option maxRecDepth 100000
namespace Go.Xt
set_option linter.defProp false
set_option maxHeartbeats 4000000
theorem ready_z {c : Config} {self : Int} {n : Node} {l : List Msg} (h : nodeWhy c self n = 0) : readyW c self n l = (madeL self n l,if (madeGo self n l).isSome = true then 0 else 5) := if_pos h
theorem ready_n {c : Config} {self : Int} {n : Node} {l : List Msg} (h : ¬ nodeWhy c self n = 0) : readyW c self n l = ([],nodeWhy c self n) := if_neg h
theorem tick_z {c : Config} {self : Int} {n : Node} (h : nodeWhy c self n = 0) : tickW c self n = (tickN c self n,tickM c self n,0) := if_pos h
theorem tick_n {c : Config} {self : Int} {n : Node} (h : ¬ nodeWhy c self n = 0) : tickW c self n = (node0,[],nodeWhy c self n) := if_neg h
def K_law22_BeatExact := And.intro @c_law21_Heavy (And.intro @c_law06_Heavy (And.intro @c_ref19_Check (And.intro @c_bkeep_Node (And.intro @c_bkeep_Msgs (And.intro @c_beat_Ready (And.intro @c_beat_Tick (And.intro @c_law22_wakes (And.intro @c_ref19_Ready (And.intro @c_ref19_Tick (And.intro @c_bkeep_TwinPeers (@c_bkeep_TwinTopic)))))))))))
theorem w_law22_BeatExact (c : Config) (self : Int) (n : Node) (l : List Msg) (hg : Goods (F_law22_BeatExact (c,self,n,l)).2.1) : WW ρ 18 S_law22_BeatExact F_law22_BeatExact (c,self,n,l) := by
  dsimp only [WW,appV,F_law22_BeatExact] at hg ⊢
  unfold S_law22_BeatExact
  simp only [Goods,good_I,good_L] at hg
  refine SUB.v1 (bb (heavy21 n || decide (l.length > 30))) ?_ ?_
  · repeat' (first | apply And.intro | intro _ | simp (disch:=first|omega|assumption|(constructor<;>first|assumption|omega)|simp only[LN];omega) only [↓SB,S1,↓K_law22_BeatExact])
    all_goals simp_all
    all_goals omega
  by_cases hh0 : (heavy21 n || decide (l.length > 30)) = true
  · simp (disch:=first|omega|assumption|(constructor<;>first|assumption|omega)|simp only[LN];omega) only [↓SB,S1,↓K_law22_BeatExact,hh0]
  have hh : (heavy21 n || decide (l.length > 30)) = false := by simpa using hh0
  simp only [Bool.or_eq_false_iff,decide_eq_false_iff_not] at hh
  obtain ⟨hh1,hh2⟩ := hh
  have hhb := heavy21_bd hh1
  simp (disch:=first|omega|assumption|(constructor<;>first|assumption|omega)|simp only[LN];omega) only [↓SB,S1,↓K_law22_BeatExact,hh0]
  refine LOOP.rule (α := Nat) (fun i => [I i]) (fun i => i ≤ l.length ∧ ∀ m ∈ l.take i,m.path.length ≤ 30 ∧ m.todo.length ≤ 30) (fun i => l.length - i) 0 rfl ⟨by omega,by simp⟩ (fun _ => rfl) ?_
  rintro i ⟨hi,hm⟩
  simp only [app]
  simp (disch:=first|omega|assumption|(constructor<;>first|assumption|omega)|simp only[LN];omega) only [↓SB,S1,↓K_law22_BeatExact]
  refine ⟨fun h4 => ?_,fun h4 => ?_⟩
  · obtain ⟨x,hx⟩ := get_ex h4
    simp (disch:=first|omega|assumption|(constructor<;>first|assumption|omega)|simp only[LN];omega) only [↓SB,S1,↓K_law22_BeatExact,cell_L hx]
    intro h5
    refine ⟨i + 1,rfl,⟨by omega,?_⟩,by omega⟩
    rw [take_one hx]
    intro m hm2
    rcases List.mem_append.1 hm2 with h | h
    · exact hm m h
    · rw [List.mem_singleton] at h;subst h;simp at h5;omega
  rw [List.take_of_length_le (by omega)] at hm
  clear h4 hi
  refine LOOP.rule (α := Nat) (fun i => [I i,L (n.topics.take i)]) (fun i => i ≤ n.topics.length) (fun i => n.topics.length - i) 0 rfl (by omega) (fun _ => rfl) ?_
  clear i
  intro i hl
  simp only [app]
  simp (disch:=first|omega|assumption|(constructor<;>first|assumption|omega)|simp only[LN];omega) only [↓SB,S1,↓K_law22_BeatExact]
  refine ⟨fun hcc => ?_,fun hcc => ?_⟩
  · obtain ⟨y,hy⟩ := get_ex hcc
    have hx9 : heavy19 y = false := by simpa using List.any_eq_false.1 hhb.2.2.2.2.2 y (List.mem_of_getElem? hy)
    have hlt : (n.topics.take i).length = i := by simp;omega
    simp (disch:=first|omega|assumption|(constructor<;>first|assumption|omega)|simp only[LN];omega) only [↓SB,S1,↓K_law22_BeatExact,cell_L hy]
    exact ⟨i + 1,by simp [take_one hy],by omega,by omega⟩
  rw [List.take_of_length_le (by omega)]
  have hpr : heavy21 n = false ∧ l.length ≤ 1000 ∧ ∀ m ∈ l,m.path.length ≤ 30 ∧ m.todo.length ≤ 30 := ⟨hh1,by omega,hm⟩
  have hpg : l.length ≤ 1000 ∧ n.peers.length ≤ 12 ∧ ∀ m ∈ l,m.path.length ≤ 30 ∧ m.todo.length ≤ 30 := ⟨by omega,by omega,hm⟩
  simp (disch:=first|omega|assumption|(constructor<;>first|assumption|omega)|simp only[LN];omega) only [↓SB,S1,↓K_law22_BeatExact,Node.eta]
  by_cases hw : nodeWhy c self n = 0
  · have hpt : heavy21 n = false ∧ nodeWhy c self n = 0 := ⟨hh1,hw⟩
    rw [ready_z hw,tick_z hw]
    simp (disch:=first|omega|assumption|(constructor<;>first|assumption|omega)|simp only[LN];omega) only [↓SB,S1,↓K_law22_BeatExact,hw]
    refine SUB.v1 (bb false) ?_ ?_
    · cases hs : (madeGo self n l).isSome <;> simp (disch:=first|omega|assumption|(constructor<;>first|assumption|omega)|simp only[LN];omega) only [↓SB,S1,↓K_law22_BeatExact,hs] <;> simp
    simp (disch:=first|omega|assumption|(constructor<;>first|assumption|omega)|simp only[LN];omega) only [↓SB,S1,↓K_law22_BeatExact]
  · rw [ready_n hw,tick_n hw]
    simp (disch:=first|omega|assumption|(constructor<;>first|assumption|omega)|simp only[LN];omega) only [↓SB,S1,↓K_law22_BeatExact,hw,node0]
    simp
end Go.Xt
end
section
set_option linter.unusedSimpArgs false
set_option linter.unusedVariables false
set_option maxRecDepth 100000
namespace Go.Xt
set_option linter.defProp false
set_option maxHeartbeats 4000000
theorem next_up {n top : Int} (hn : isN n = true) (h0 : 0 ≤ top) : top < nextE n top ∧ nextE n top ≤ top + 16 ∧ nextE n top % 16 = n := by
  have h1 := isN_iff.1 hn
  have hm := Int.emod_nonneg top (show (16 : Int) ≠ 0 by omega)
  have hm2 := Int.emod_lt_of_pos top (show (0 : Int) < 16 by omega)
  unfold nextE;split <;> omega
def Kept (x y : Topic) : Prop := y = { x with queue := y.queue } ∧ x.queue.length ≤ y.queue.length
theorem callGo_kept {c : Config} : ∀ {l : List Call} {T : List Topic},(∀ x ∈ l,0 ≤ x.topic) → ∀ {k : Nat} {x : Topic},T[k]? = some x → ∃ y,(callGo c l T)[k]? = some y ∧ Kept x y
  | [],T,_,k,x,hx => ⟨x,hx,rfl,by omega⟩
  | z :: r,T,hb,k,x,hx => by
    have ih := fun (T : List Topic) (x : Topic) => callGo_kept (c := c) (l := r) (T := T) (fun y hy => hb y (by simp [hy])) (k := k) (x := x)
    rw [callGo]
    split
    · exact ih T x hx
    · obtain ⟨j,hj⟩ := Int.eq_ofNat_of_zero_le (hb z (by simp))
      by_cases hk : j = k
      · subst hk
        have hlt := (List.getElem?_eq_some_iff.1 hx).1
        have h1 : (putQ c T z.topic ⟨4,0,0,0,0,z.count⟩)[j]? = some { x with queue := fitE x.queue c.queue ⟨4,0,0,0,0,z.count⟩ } := by
          have hgd : T.getD j topic0 = x := by simp [List.getD_eq_getElem?_getD,hx]
          simp only [putQ,hj,Int.toNat_natCast,hgd,List.getElem?_set_self hlt]
        obtain ⟨y,h2,h3,h4⟩ := ih _ _ h1
        have hf := fit_len x.queue c.queue ⟨4,0,0,0,0,z.count⟩
        exact ⟨y,h2,by rw [h3],by dsimp only at h4;omega⟩
      · have h1 : (putQ c T z.topic ⟨4,0,0,0,0,z.count⟩)[k]? = some x := by
          simp [putQ,hj,List.getElem?_set_ne hk,hx]
        exact ih _ _ h1
theorem tickGo_get {self : Int} {live : List Int} : ∀ {l : List Topic} {t : Int} {k : Nat} {x : Topic},l[k]? = some x → (tickGo self live t l)[k]? = some (tickT self (t + k) live x).1
  | [],_,_,_,h => by simp at h
  | y :: r,t,0,x,h => by simp at h;subst h;simp [tickGo]
  | y :: r,t,k + 1,x,h => by
    have := tickGo_get (self := self) (live := live) (l := r) (t := t + 1) (k := k) (x := x) (by simpa using h)
    rw [tickGo,List.getElem?_cons_succ,this,show t + 1 + (k : Int) = t + ((k + 1 : Nat) : Int) by omega]
structure Quiet (x y : Topic) : Prop where
  made : y.made = x.made
  sub : y.sub = x.sub
  top : x.top ≤ y.top
  kids : y.kids.length ≤ x.kids.length
  queue : x.queue.length ≤ y.queue.length
  str : y.stream = x.stream ∨ (y.root ≠ 0 ∧ y.root ≠ x.root)
theorem tick_quiet {c : Config} {t self : Int} {live : List Int} {x : Topic} (hs : isN self = true) (h : topicOk c t self x = true) : Quiet x (tickT self t live x).1 := by
  have hk := olderK_len x.kids
  have hb := top_bd h
  have hr := (topic_iff.1 h).root
  have ha : ∀ z : Topic,(agedT z).made = z.made ∧ (agedT z).sub = z.sub ∧ (agedT z).top = z.top ∧ (agedT z).kids = z.kids ∧ (agedT z).queue = z.queue ∧ (agedT z).stream = z.stream := fun z => by
    unfold agedT;split
    · simp
    · split <;> simp [lostT]
  have hf : ∀ z : Topic,(freeT live z).made = z.made ∧ (freeT live z).sub = z.sub ∧ (freeT live z).top = z.top ∧ (freeT live z).kids = z.kids ∧ (freeT live z).queue = z.queue ∧ (freeT live z).stream = z.stream := fun z => by
    unfold freeT;split <;> simp
  have hl : ∀ z : Topic,(leavesT t z).1.made = z.made ∧ (leavesT t z).1.sub = z.sub ∧ (leavesT t z).1.top = z.top ∧ (leavesT t z).1.kids = z.kids ∧ (leavesT t z).1.queue = z.queue ∧ (leavesT t z).1.stream = z.stream := fun z => by
    unfold leavesT;split <;> simp [lostT]
  unfold tickT
  dsimp only
  split
  · split
    · unfold becomeT
      split
      · rename_i hz
        unfold becomeR at hz ⊢
        dsimp only at hz ⊢
        split
        · exact ⟨rfl,rfl,by dsimp only;omega,hk,by dsimp only;omega,.inl rfl⟩
        · rename_i hnr
          rw [if_neg hnr] at hz
          split
          · rename_i hnz;rw [if_pos hnz] at hz;simp at hz
          · rename_i hnz
            obtain ⟨u1,u2,u3⟩ := next_up hs hb.1
            have hw : nextW self x.top = nextE self x.top := by
              unfold nextW at hnz ⊢
              by_cases hq : 1073741824 < nextE self x.top
              · rw [if_pos hq] at hnz;exact absurd rfl hnz
              · rw [if_neg hq]
            rw [hw]
            refine ⟨rfl,rfl,by dsimp only;omega,hk,by dsimp only [lostT];omega,.inr ⟨by dsimp only;omega,?_⟩⟩
            simp only [rootOk,Bool.or_eq_true,Bool.and_eq_true,decide_eq_true_eq] at hr
            dsimp only
            rcases hr with hr | hr
            · omega
            · have := hr.1.1.2;omega
      · exact ⟨rfl,rfl,by dsimp only;omega,hk,by dsimp only;omega,.inl rfl⟩
    · obtain ⟨a,b,d,e,f,g⟩ := hl { x with kids := olderK x.kids }
      exact ⟨a,b,by rw [d];dsimp only;omega,by rw [e];exact hk,by rw [f];dsimp only;omega,.inl g⟩
  · split
    · obtain ⟨a,b,d,e,f,g⟩ := ha { { x with kids := olderK x.kids } with root := 0 }
      obtain ⟨a',b',d',e',f',g'⟩ := hf (agedT { { x with kids := olderK x.kids } with root := 0 })
      refine ⟨?_,?_,?_,?_,?_,.inl ?_⟩
      · show (freeT live _).made = _;rw [a',a]
      · show (freeT live _).sub = _;rw [b',b]
      · show _ ≤ (freeT live _).top;rw [d',d];dsimp only;omega
      · show (freeT live _).kids.length ≤ _;rw [e',e];exact hk
      · show _ ≤ (freeT live _).queue.length;rw [f',f];dsimp only;omega
      · show (freeT live _).stream = _;rw [g',g]
    · obtain ⟨a,b,d,e,f,g⟩ := hl { { x with kids := olderK x.kids } with root := 0 }
      exact ⟨a,b,by rw [d];dsimp only;omega,by rw [e];exact hk,by rw [f];dsimp only;omega,.inl g⟩
theorem quiet_law {c : Config} {self : Int} {n m : Node} (hw : nodeWhy c self n = 0) (hm : m = tickN c self n) :
    m.marks = n.marks ∧ m.taken = n.taken ∧ m.calls.length ≤ n.calls.length ∧ m.topics.length = n.topics.length ∧ ∀ (k : Nat) (x : Topic),n.topics[k]? = some x → ∃ y,m.topics[k]? = some y ∧ Quiet x y := by
  obtain ⟨hc,hsr,hu,H⟩ := why_zero hw
  have hb := cfg_bd hc
  have hsb := rng_bd hsr
  have hcb := calls_bd H.calls
  have htl := H.tl
  have hs : isN self = true := isN_iff.2 (by omega)
  obtain ⟨h1,h2⟩ := callGo_ok (c := c) (self := self) (l := n.calls) (T := n.topics) (fun x hx => by have := hcb x hx;omega) H.tops
  subst hm
  refine ⟨rfl,rfl,callsT_len _,by show (tickGo _ _ _ _).length = _;rw [tickGo_len,h2],fun k x hx => ?_⟩
  obtain ⟨z,hz,e1,e2⟩ := callGo_kept (c := c) (l := n.calls) (fun x hx => (hcb x hx).2.2.1) hx
  have hg := tickGo_get (self := self) (live := liveP (olderP n.peers) self) (t := 0) hz
  refine ⟨_,hg,?_⟩
  have hq := tick_quiet (live := liveP (olderP n.peers) self) hs (tops_get h1 hz)
  have f1 : z.made = x.made := by rw [e1]
  have f2 : z.sub = x.sub := by rw [e1]
  have f3 : z.top = x.top := by rw [e1]
  have f4 : z.kids = x.kids := by rw [e1]
  have f5 : z.stream = x.stream := by rw [e1]
  have f6 : z.root = x.root := by rw [e1]
  obtain ⟨a,b,d,e,f,g⟩ := hq
  rw [f1] at a;rw [f2] at b;rw [f3] at d;rw [f4] at e;rw [f5,f6] at g
  exact ⟨a,b,d,e,by omega,g⟩
def K_law22_BeatQuiet := And.intro @c_law21_Heavy (And.intro @c_ref19_Check (And.intro @c_beat_Tick (And.intro @c_law22_wakes (@c_bkeep_Stream))))
theorem w_law22_BeatQuiet (c : Config) (self : Int) (n : Node) (hg : Goods (F_law22_BeatQuiet (c,self,n)).2.1) : WW ρ 17 S_law22_BeatQuiet F_law22_BeatQuiet (c,self,n) := by
  dsimp only [WW,appV,F_law22_BeatQuiet] at hg ⊢
  unfold S_law22_BeatQuiet
  simp only [Goods,good_I,good_L] at hg
  refine SUB.v1 (bb (heavy21 n || decide (¬ nodeWhy c self n = 0))) ?_ ?_
  · simp (disch:=first|omega|assumption|(constructor<;>first|assumption|omega)|simp only[LN];omega) only [↓SB,S1,↓K_law22_BeatQuiet,Node.eta]
    cases heavy21 n <;> simp
  cases hh : (heavy21 n || decide (¬ nodeWhy c self n = 0))
  case true => simp (disch:=first|omega|assumption|(constructor<;>first|assumption|omega)|simp only[LN];omega) only [↓SB,S1,↓K_law22_BeatQuiet]
  simp only [Bool.or_eq_false_iff,decide_eq_false_iff_not,Decidable.not_not] at hh
  obtain ⟨hh1,hw⟩ := hh
  have hhb := heavy21_bd hh1
  obtain ⟨hc,hsr,hu,H⟩ := why_zero hw
  have hb := cfg_bd hc
  have htl := H.tl
  have hT := tick_z hw
  simp (disch:=first|omega|assumption|(constructor<;>first|assumption|omega)|simp only[LN];omega) only [↓SB,S1,↓K_law22_BeatQuiet,Node.eta,hT]
  obtain ⟨m,hm⟩ : ∃ m,m = tickN c self n := ⟨_,rfl⟩
  obtain ⟨q1,q2,q3,q4,q5⟩ := quiet_law hw hm
  rw [← hm]
  refine SUB.v1 (bb false) ?_ ?_
  · simp (disch:=first|omega|assumption|(constructor<;>first|assumption|omega)|simp only[LN];omega) only [↓SB,S1,↓K_law22_BeatQuiet,q1,q2,q4]
    have : ¬ (n.calls.length : Int) < m.calls.length := by omega
    simp [this]
  simp (disch:=first|omega|assumption|(constructor<;>first|assumption|omega)|simp only[LN];omega) only [↓SB,S1,↓K_law22_BeatQuiet,q1,q2]
  refine LOOP.rule (α := Nat) (fun i => [I i]) (fun i => i ≤ n.marks.length) (fun i => n.marks.length - i) 0 rfl (by omega) (fun _ => rfl) ?_
  intro i hi
  simp only [app]
  simp (disch:=first|omega|assumption|(constructor<;>first|assumption|omega)|simp only[LN];omega) only [↓SB,S1,↓K_law22_BeatQuiet]
  refine ⟨fun h4 => ?_,fun h4 => ?_⟩
  · obtain ⟨x,hx⟩ := get_ex h4
    simp (disch:=first|omega|assumption|(constructor<;>first|assumption|omega)|simp only[LN];omega) only [↓SB,S1,↓K_law22_BeatQuiet,cell_L hx]
    exact ⟨fun h => by simp at h,fun _ => ⟨i + 1,rfl,by omega,by omega⟩⟩
  clear h4 hi i
  refine LOOP.rule (α := Nat) (fun i => [I i]) (fun i => i ≤ n.taken.length) (fun i => n.taken.length - i) 0 rfl (by omega) (fun _ => rfl) ?_
  intro i hi
  simp only [app]
  simp (disch:=first|omega|assumption|(constructor<;>first|assumption|omega)|simp only[LN];omega) only [↓SB,S1,↓K_law22_BeatQuiet]
  refine ⟨fun h4 => ?_,fun h4 => ?_⟩
  · obtain ⟨x,hx⟩ := get_ex h4
    simp (disch:=first|omega|assumption|(constructor<;>first|assumption|omega)|simp only[LN];omega) only [↓SB,S1,↓K_law22_BeatQuiet,cell_L hx]
    exact ⟨fun h => by simp at h,fun _ => ⟨i + 1,rfl,by omega,by omega⟩⟩
  clear h4 hi i
  refine LOOP.rule (α := Nat) (fun i => [I i]) (fun i => i ≤ n.topics.length) (fun i => n.topics.length - i) 0 rfl (by omega) (fun _ => rfl) ?_
  intro i hi
  simp only [app]
  simp (disch:=first|omega|assumption|(constructor<;>first|assumption|omega)|simp only[LN];omega) only [↓SB,S1,↓K_law22_BeatQuiet]
  intro h4
  obtain ⟨x,hx⟩ := get_ex h4
  obtain ⟨y,hy,Q⟩ := q5 i x hx
  refine SUB.val [bb x.made,bb x.sub,I x.top,I x.root,I x.parent,I x.asked,I x.other,I x.age,L x.path,L x.kids,I x.stream.epoch,I x.stream.want,I x.stream.known,L x.stream.kept,L x.stream.ahead,L x.queue,bb y.made,bb y.sub,I y.top,I y.root,I y.parent,I y.asked,I y.other,I y.age,L y.path,L y.kids,I y.stream.epoch,I y.stream.want,I y.stream.known,L y.stream.kept,L y.stream.ahead,L y.queue,bb y.made,bb y.sub,I y.top,I y.root,I y.parent,I y.asked,I y.other,I y.age,L y.path,L y.kids,I y.stream.epoch,I y.stream.want,I y.stream.known,L y.stream.kept,L y.stream.ahead,L y.queue,bb x.made,bb x.sub,I x.top,I x.root,I x.parent,I x.asked,I x.other,I x.age,L x.path,L x.kids,I x.stream.epoch,I x.stream.want,I x.stream.known,L x.stream.kept,L x.stream.ahead,L x.queue] rfl ?_ ?_
  · simp (disch:=first|omega|assumption|(constructor<;>first|assumption|omega)|simp only[LN];omega) only [↓SB,S1,↓K_law22_BeatQuiet,cell_L hx,cell_L hy]
  simp only [app]
  have k1 := Q.made;have k2 := Q.sub;have k3 := Q.top;have k4 := Q.kids;have k5 := Q.queue
  have k3' : ¬ y.top < x.top := by omega
  have k4' : ¬ (x.kids.length : Int) < y.kids.length := by omega
  have k5' : ¬ (y.queue.length : Int) < x.queue.length := by omega
  simp (disch:=first|omega|assumption|(constructor<;>first|assumption|omega)|simp only[LN];omega) only [↓SB,S1,↓K_law22_BeatQuiet,k1,k2,k3',k4',k5',Stream.eta]
  rcases Q.str with h | h
  · rw [h];simp;exact ⟨i + 1,rfl,by omega,by omega⟩
  · by_cases hst : x.stream = y.stream
    · rw [hst];simp;exact ⟨i + 1,rfl,by omega,by omega⟩
    · simp (disch:=first|omega|assumption|(constructor<;>first|assumption|omega)|simp only[LN];omega) only [↓SB,S1,↓K_law22_BeatQuiet,hst,h.1,h.2]
      exact ⟨fun e => by simp at e,fun _ => ⟨fun e => by simp at e,fun _ => ⟨i + 1,rfl,by omega,by omega⟩⟩⟩
end Go.Xt
end
section
set_option linter.unusedSimpArgs false
set_option linter.unusedVariables false
set_option maxRecDepth 100000
namespace Go.Xt
theorem topic_become {c : Config} {t self : Int} {x : Topic} (hc : cfgOk c = true) (hs : isN self = true) (h : topicOk c t self x = true) : topicOk c t self (becomeT self x) = true := by
  unfold becomeT
  split
  · rename_i hz
    unfold becomeR at hz ⊢
    split
    · exact h
    · rename_i hnr
      rw [if_neg hnr] at hz
      split
      · rename_i hnz;rw [if_pos hnz] at hz;simp at hz
      · rename_i hnz
        have hb := top_bd h
        have hcb := cfg_bd hc
        obtain ⟨u1,u2,u3⟩ := next_up hs hb.1
        have hw : nextW self x.top = nextE self x.top ∧ nextE self x.top ≤ 1073741824 := by
          unfold nextW at hnz ⊢
          by_cases hq : 1073741824 < nextE self x.top
          · rw [if_pos hq] at hnz;exact absurd rfl hnz
          · rw [if_neg hq];exact ⟨rfl,by omega⟩
        rw [hw.1]
        generalize nextE self x.top = e at u1 u2 u3 hw ⊢
        have hl := topic_iff.1 (topic_lost h)
        obtain ⟨a,b,d,e',f,g,i,j,k,l⟩ := hl
        have hep : ep e = true := by simp only [ep,Bool.and_eq_true];exact ⟨by simp [rng];omega,by rw [u3];exact hs⟩
        refine topic_iff.2 ⟨by simp [rng];omega,b,d,e',f,?_,i,j,k,?_⟩
        · simp only [rootOk,Bool.or_eq_true,Bool.and_eq_true,decide_eq_true_eq]
          exact .inr ⟨⟨⟨⟨hep,u3⟩,by omega⟩,rfl⟩,rfl⟩
        · simp only [flowOk,Bool.and_eq_true] at l ⊢
          refine ⟨?_,l.2⟩
          simp only [streamOk,begun,keptOk,aheadOk,Bool.or_eq_true,Bool.and_eq_true,decide_eq_true_eq]
          exact .inr ⟨⟨⟨⟨hep,by decide⟩,by decide⟩,⟨⟨⟨⟨by decide,by simp [rng];omega⟩,decide_eq_true (by simp;omega)⟩,by simp⟩,rfl⟩⟩,⟨by decide,by simp [rng];omega⟩,rfl⟩
  · exact h
theorem topic_leaves {c : Config} {t self : Int} {x : Topic} (h : topicOk c t self x = true) : topicOk c t self (leavesT t x).1 = true := by
  unfold leavesT;split
  · exact h
  · exact topic_lost h
theorem link_up {t self a : Int} (h : a = -1 ∨ near t a self = true) : link t self (a + 1) = true := by
  simp only [link,Bool.or_eq_true,Bool.and_eq_true,decide_eq_true_eq]
  rcases h with h | h
  · left;omega
  · have := (near_dom h).2.1
    right;exact ⟨by omega,by rw [show a + 1 - 1 = a by omega];exact h⟩
theorem link_dn {t self a : Int} (h : link t self a = true) : a - 1 = -1 ∨ near t (a - 1) self = true := by
  simp only [link,Bool.or_eq_true,Bool.and_eq_true,decide_eq_true_eq] at h
  rcases h with h | h
  · left;omega
  · exact .inr h.2
theorem to_near {c : Config} {t self : Int} {live : List Int} {y : Topic} (h : topicOk c t self y = true) : (if y.other = 0 then nextN t live self else y.other - 1) = -1 ∨ near t (if y.other = 0 then nextN t live self else y.other - 1) self = true := by
  split
  · exact (next_cases t live self).imp id (·.1)
  · exact link_dn (topic_iff.1 h).oth
theorem topic_ask {c : Config} {t self : Int} {live : List Int} {y : Topic} (h : topicOk c t self y = true) : topicOk c t self (askT t (nextN t live self) y) = true := by
  have hn := to_near (live := live) h
  rw [topic_iff] at h ⊢
  obtain ⟨a,b,d,e,f,g,h,i,j,k⟩ := h
  exact ⟨a,b,d,link_up hn,f,g,h,i,j,k⟩
theorem topic_tick {c : Config} {t self : Int} {live : List Int} {x : Topic} (hc : cfgOk c = true) (hs : isN self = true) (h : topicOk c t self x = true) : topicOk c t self (tickT self t live x).1 = true := by
  have h1 := topic_kids h
  unfold tickT
  dsimp only
  split
  · split
    · exact topic_become hc hs h1
    · exact topic_leaves h1
  · split
    · exact topic_ask (topic_freeT (topic_agedT (topic_root0 h1)))
    · exact topic_leaves (topic_root0 h1)
theorem tops_tick {c : Config} {self : Int} {live : List Int} (hc : cfgOk c = true) (hs : isN self = true) : ∀ {l : List Topic} {t : Int},topicsGo c self t l = true → topicsGo c self t (tickGo self live t l) = true
  | [],_,_ => rfl
  | x :: r,t,h => by
    rw [topicsGo,Bool.and_eq_true] at h
    rw [tickGo,topicsGo,Bool.and_eq_true]
    exact ⟨topic_tick hc hs h.1,tops_tick hc hs h.2⟩
theorem calls_older {c : Config} {a : Int} : ∀ {l : List Call} {p : Int},callsGo c a p l = true → callsGo c a p (callsT l) = true
  | [],_,_ => rfl
  | x :: r,p,h => by
    simp only [callsGo,Bool.and_eq_true,decide_eq_true_eq] at h
    have hr := rng_bd h.1.2
    have ih := calls_older h.2
    have hcons : callsT (x :: r) = (if x.age + 1 ≤ 20 then [{ x with age := x.age + 1 }] else []) ++ callsT r := by
      unfold callsT;rw [List.map_cons,List.filter_cons];by_cases h : x.age + 1 ≤ 20 <;> simp [h]
    rw [hcons]
    by_cases hx : x.age + 1 ≤ 20
    · rw [if_pos hx,List.singleton_append]
      simp only [callsGo,Bool.and_eq_true,decide_eq_true_eq]
      exact ⟨⟨⟨h.1.1.1,h.1.1.2⟩,by simp [rng];omega⟩,ih⟩
    · rw [if_neg hx,List.nil_append];exact calls_mono ih (by omega) (by omega)
theorem tick_node {c : Config} {self : Int} {n : Node} (hw : nodeWhy c self n = 0) : nodeWhy c self (tickN c self n) = 0 := by
  obtain ⟨hc,hsr,hu,H⟩ := why_zero hw
  have hb := cfg_bd hc
  have hsb := rng_bd hsr
  have hcb := calls_bd H.calls
  have htl := H.tl
  have hs : isN self = true := isN_iff.2 (by omega)
  obtain ⟨h1,h2⟩ := callGo_ok (c := c) (self := self) (l := n.calls) (T := n.topics) (fun x hx => by have := hcb x hx;omega) H.tops
  have hcl := callsT_len n.calls
  have hcl2 := H.cl
  have hpl := H.pl
  refine why_of hc hsr hu ⟨H.inc,H.pubs,H.asks,calls_older H.calls,by show (callsT n.calls).length ≤ 40;omega,?_,?_,H.ml,H.kl,tops_tick hc hs h1,older_peers H.peers,H.marks,H.taken⟩
  · show ((olderP n.peers).length : Int) = c.nodes;rw [olderP_len];exact hpl
  · show ((tickGo _ _ _ _).length : Int) = c.topics;rw [tickGo_len,h2];exact htl
inductive Pre (c : Config) (me : Int) : Msg → Prop
  | ping (i : Int) (h0 : 0 ≤ i) (h1 : i < c.nodes) (h2 : i ≠ me) : Pre c me { msg0 with kind := 1,to := i }
  | join (t a e : Int) (h0 : 0 ≤ t) (h1 : t < c.topics) (h2 : a = -1 ∨ near t a me = true) (h3 : rng e 0 1073741824 = true) : Pre c me { msg0 with kind := 2,to := a,topic := t,epoch := e }
  | leave (t a : Int) (h0 : 0 ≤ t) (h1 : t < c.topics) (h2 : a = -1 ∨ near t a me = true) : Pre c me { msg0 with kind := 6,to := a,topic := t }
  | nack (t a e s : Int) (h0 : 0 ≤ t) (h1 : t < c.topics) (h2 : a = -1 ∨ near t a me = true) (h3 : rng e 1 1073741824 = true) (h4 : cnt s = true) : Pre c me { msg0 with kind := 8,to := a,topic := t,epoch := e,seq := s }
theorem leaves_pre {c : Config} {t self : Int} {x : Topic} (h0 : 0 ≤ t) (h1 : t < c.topics) (h : topicOk c t self x = true) : ∀ m ∈ (leavesT t x).2,Pre c self m := by
  intro m hm
  unfold leavesT at hm
  split at hm
  · simp at hm
  · simp only [List.mem_singleton] at hm
    subst hm;exact .leave t _ h0 h1 (link_dn (topic_iff.1 h).par)
theorem tick_pre {c : Config} {t self : Int} {live : List Int} {x : Topic} (h0 : 0 ≤ t) (h1 : t < c.topics) (h : topicOk c t self x = true) : ∀ m ∈ (tickT self t live x).2,Pre c self m := by
  have hk := topic_kids h
  unfold tickT
  dsimp only
  split
  · split
    · simp
    · exact leaves_pre h0 h1 hk
  · split
    · have hy := topic_freeT (live := live) (topic_agedT (topic_root0 hk))
      generalize freeT live (agedT { { x with kids := olderK x.kids } with root := 0 }) = y at hy ⊢
      have hyi := topic_iff.1 hy
      intro m hm
      simp only [asksM,List.mem_append,List.mem_singleton] at hm
      rcases hm with rfl | hm
      · exact .join t _ _ h0 h1 (to_near hy) hyi.top
      · split at hm
        · rename_i hq
          simp only [List.mem_singleton] at hm
          subst hm
          have hf := hyi.flow
          simp only [flowOk,streamOk,Bool.and_eq_true,Bool.or_eq_true] at hf
          rcases hf.1 with hz | hz
          · simp only [streamZ,Bool.and_eq_true,decide_eq_true_eq] at hz;omega
          · simp only [ep,Bool.and_eq_true] at hz
            exact .nack t _ _ _ h0 h1 (link_dn hyi.par) hz.1.1.1.1.1 hz.1.1.1.2
        · simp at hm
    · exact leaves_pre h0 h1 (topic_root0 hk)
theorem ticks_pre {c : Config} {self : Int} {live : List Int} : ∀ {l : List Topic} {t : Int},0 ≤ t → t + l.length ≤ c.topics → topicsGo c self t l = true → ∀ m ∈ tickMs self live t l,Pre c self m
  | [],_,_,_,_,_,hm => by simp [tickMs] at hm
  | x :: r,t,h0,h1,h,m,hm => by
    rw [topicsGo,Bool.and_eq_true] at h
    rw [List.length_cons] at h1
    rw [tickMs,List.mem_append] at hm
    rcases hm with hm | hm
    · exact tick_pre h0 (by omega) h.1 m hm
    · exact ticks_pre (by omega) (by omega) h.2 m hm
structure Out (c : Config) (me : Int) (n : Node) (m : Msg) : Prop where
  frm : m.frm = me
  finc : m.fromInc = n.inc
  ne : m.to ≠ me
  lo : 0 ≤ m.to
  hi : m.to < c.nodes
  top : m.topic < c.topics
  kind : m.kind = 1 ∨ ((m.kind = 2 ∨ m.kind = 6 ∨ m.kind = 8) ∧ m.toInc = (n.peers.getD m.to.toNat ⟨0,0⟩).inc)
end Go.Xt
end
section
set_option linter.unusedSimpArgs false
set_option linter.unusedVariables false
set_option maxRecDepth 100000
namespace Go.Xt
set_option linter.defProp false
set_option maxHeartbeats 4000000
theorem older_getD (l : List Peer) (k : Nat) : ((olderP l).getD k ⟨0,0⟩).inc = (l.getD k ⟨0,0⟩).inc := by
  simp only [olderP,List.getD_eq_getElem?_getD,List.getElem?_map]
  cases l[k]? <;> rfl
theorem older_get? (l : List Peer) (k : Nat) : ((olderP l)[k]?.getD ⟨0,0⟩).inc = (l[k]?.getD ⟨0,0⟩).inc := by
  have := older_getD l k
  simpa only [List.getD_eq_getElem?_getD] using this
theorem heed_old {c : Config} {self a : Int} {n : Node} (hw : nodeWhy c self n = 0) (h : heed (tickN c self n) a = true) : 0 ≤ a ∧ a < c.nodes ∧ cnt (n.peers.getD a.toNat ⟨0,0⟩).inc = true := by
  obtain ⟨hc,hsr,hu,H⟩ := why_zero hw
  have hpl := H.pl
  simp only [heed,tickN,Bool.and_eq_true,decide_eq_true_eq,older_getD,olderP_len] at h
  have hb := rng_bd h.1
  have h2 := h.2
  refine ⟨by omega,by omega,?_⟩
  obtain ⟨k,rfl⟩ := Int.eq_ofNat_of_zero_le hb.1
  obtain ⟨p,hp⟩ := get_ex (xs := n.peers) (i := k) (by omega)
  have hpb := peer_bd H.peers (List.mem_of_getElem? hp)
  simp only [Int.toNat_natCast,List.getD_eq_getElem?_getD,hp,Option.getD_some] at h2 ⊢
  simp [cnt,rng];omega
theorem sent_ok {c : Config} {self : Int} {n : Node} (hw : nodeWhy c self n = 0) {m : Msg} (hp : Pre c self m) (hk : (decide (m.kind = 1) || heed (tickN c self n) m.to) = true) :
    msgOk (madeM self (tickN c self n) m) = true ∧ Out c self n (madeM self (tickN c self n) m) := by
  obtain ⟨hc,hsr,hu,H⟩ := why_zero hw
  have hb := cfg_bd hc
  have hsb := rng_bd hsr
  have hs : isN self = true := isN_iff.2 (by omega)
  have hi := H.inc
  have hN : (tickN c self n).inc = n.inc := rfl
  have hP : (tickN c self n).peers = olderP n.peers := rfl
  cases hp with
  | ping i h0 h1 h2 =>
    have hiN : isN i = true := isN_iff.2 (by omega)
    refine ⟨?_,⟨rfl,rfl,h2,h0,h1,by show (0 : Int) < _;omega,.inl rfl⟩⟩
    simp [msgOk,madeM,msg0,bareM,knownM,endsOk,spareM,hs,hiN,hi,hN,Ne.symm h2]
  | join t a e h0 h1 h2 h3 =>
    have hh : heed (tickN c self n) a = true := by simpa [msg0] using hk
    obtain ⟨b0,b1,b2⟩ := heed_old hw hh
    rw [List.getD_eq_getElem?_getD] at b2
    have hnr := h2.resolve_left (by omega)
    have hne := near_ne hnr
    have haN : isN a = true := isN_iff.2 (by omega)
    have htN : rng t 0 3 = true := by simp [rng];omega
    refine ⟨?_,⟨rfl,rfl,hne,b0,b1,h1,.inr ⟨.inl rfl,?_⟩⟩⟩
    · simp [msgOk,madeM,msg0,bareM,knownM,endsOk,spareM,hs,haN,hi,hN,hP,Ne.symm hne,older_get?,b2,htN,h3]
    · simp [madeM,hP,older_get?]
  | leave t a h0 h1 h2 =>
    have hh : heed (tickN c self n) a = true := by simpa [msg0] using hk
    obtain ⟨b0,b1,b2⟩ := heed_old hw hh
    rw [List.getD_eq_getElem?_getD] at b2
    have hnr := h2.resolve_left (by omega)
    have hne := near_ne hnr
    have haN : isN a = true := isN_iff.2 (by omega)
    have htN : rng t 0 3 = true := by simp [rng];omega
    refine ⟨?_,⟨rfl,rfl,hne,b0,b1,h1,.inr ⟨.inr (.inl rfl),?_⟩⟩⟩
    · simp [msgOk,madeM,msg0,bareM,knownM,endsOk,spareM,hs,haN,hi,hN,hP,Ne.symm hne,older_get?,b2,htN]
    · simp [madeM,hP,older_get?]
  | nack t a e s h0 h1 h2 h3 h4 =>
    have hh : heed (tickN c self n) a = true := by simpa [msg0] using hk
    obtain ⟨b0,b1,b2⟩ := heed_old hw hh
    rw [List.getD_eq_getElem?_getD] at b2
    have hnr := h2.resolve_left (by omega)
    have hne := near_ne hnr
    have haN : isN a = true := isN_iff.2 (by omega)
    have htN : rng t 0 3 = true := by simp [rng];omega
    refine ⟨?_,⟨rfl,rfl,hne,b0,b1,h1,.inr ⟨.inr (.inr rfl),?_⟩⟩⟩
    · simp [msgOk,madeM,msg0,bareM,knownM,endsOk,spareM,placeM,hs,haN,hi,hN,hP,Ne.symm hne,older_get?,b2,htN,h3,h4]
    · simp [madeM,hP,older_get?]
def goes (n : Node) (m : Msg) : Bool := decide (m.kind = 1) || heed n m.to
theorem made_all {self : Int} {n : Node} : ∀ {l : List Msg},(∀ m ∈ l,goes n m = true → msgOk (madeM self n m) = true) → madeGo self n l = some ((l.filter (goes n)).map (madeM self n))
  | [],_ => rfl
  | m :: r,h => by
    have ih := made_all (self := self) (n := n) (l := r) (fun m hm => h m (by simp [hm]))
    rw [madeGo,List.filter_cons,show (decide (m.kind = 1) || heed n m.to) = goes n m from rfl]
    by_cases hg : goes n m = true
    · rw [if_pos hg,if_pos hg,if_pos (h m (by simp) hg),ih];rfl
    · rw [if_neg hg,if_neg hg,ih]
def cnt1 (l : List Msg) : Nat := (l.filter fun m => decide (m.kind = 1)).length
theorem cnt1_app (a b : List Msg) : cnt1 (a ++ b) = cnt1 a + cnt1 b := by simp [cnt1]
theorem cnt1_le (a : List Msg) : cnt1 a ≤ a.length := List.length_filter_le _ _
theorem cnt1_made {self : Int} {n : Node} : ∀ l : List Msg,cnt1 ((l.filter (goes n)).map (madeM self n)) = cnt1 l
  | [] => rfl
  | m :: r => by
    have ih := cnt1_made (self := self) (n := n) r
    have hk : (madeM self n m).kind = m.kind := rfl
    unfold cnt1 at ih ⊢
    by_cases h1 : m.kind = 1
    · have hg : goes n m = true := by simp [goes,h1]
      simp only [List.filter_cons,hg,if_true,List.map_cons,hk,h1,decide_true,List.length_cons];omega
    · by_cases hg : goes n m = true
      · simp only [List.filter_cons,hg,if_true,List.map_cons,hk,h1,decide_false,Bool.false_eq_true,if_false];exact ih
      · simp only [List.filter_cons,hg,h1,decide_false,Bool.false_eq_true,if_false];exact ih
theorem pings_one {self k : Int} : ∀ m ∈ pings self k,m.kind = 1 ∧ ∃ i : Int,0 ≤ i ∧ i < k ∧ i ≠ self ∧ m = { msg0 with kind := 1,to := i } := by
  intro m hm
  simp only [pings,List.mem_map,List.mem_filter,List.mem_range,decide_eq_true_eq] at hm
  obtain ⟨i,⟨h1,h2⟩,rfl⟩ := hm
  exact ⟨rfl,i,by omega,by omega,h2,rfl⟩
theorem pings_count {self : Int} (h0 : 0 ≤ self) : ∀ k : Nat,((pings self (k : Int)).length : Int) = k - (if self < k then 1 else 0)
  | 0 => by simp [pings];omega
  | k + 1 => by
    have ih := pings_count h0 k
    rw [pings_step,List.length_append]
    by_cases h : (k : Int) = self
    · rw [if_pos h];rw [if_neg (by omega)] at ih;rw [if_pos (by omega)];simp;omega
    · rw [if_neg h]
      by_cases h2 : self < k
      · rw [if_pos h2] at ih;rw [if_pos (by omega)];simp;omega
      · rw [if_neg h2] at ih;rw [if_neg (by omega)];simp;omega
theorem tickT_kind {self t : Int} {live : List Int} {x : Topic} : ∀ m ∈ (tickT self t live x).2,m.kind ≠ 1 := by
  unfold tickT leavesT asksM
  dsimp only
  repeat' split
  all_goals simp
theorem tickMs_kind {self : Int} {live : List Int} : ∀ (l : List Topic) (t : Int),∀ m ∈ tickMs self live t l,m.kind ≠ 1
  | [],t => by simp [tickMs]
  | x :: r,t => by
    intro m hm
    rw [tickMs,List.mem_append] at hm
    exact hm.elim (tickT_kind m) (tickMs_kind r (t + 1) m)
theorem tick_sends {c : Config} {self : Int} {n : Node} (hw : nodeWhy c self n = 0) :
    ∃ l : List Msg,l = tickMs self (liveP (olderP n.peers) self) 0 (callGo c n.calls n.topics) ++ pings self c.nodes ∧
      (∀ m ∈ l,Pre c self m) ∧ tickM c self n = (l.filter (goes (tickN c self n))).map (madeM self (tickN c self n)) ∧
      (∀ m ∈ tickM c self n,Out c self n m) ∧ (cnt1 (tickM c self n) : Int) = c.nodes - 1 ∧ (tickM c self n).length ≤ 1000 := by
  obtain ⟨hc,hsr,hu,H⟩ := why_zero hw
  have hb := cfg_bd hc
  have hsb := rng_bd hsr
  have hcb := calls_bd H.calls
  have htl := H.tl
  obtain ⟨h1,h2⟩ := callGo_ok (c := c) (self := self) (l := n.calls) (T := n.topics) (fun x hx => by have := hcb x hx;omega) H.tops
  have hpre : ∀ m ∈ tickMs self (liveP (olderP n.peers) self) 0 (callGo c n.calls n.topics) ++ pings self c.nodes,Pre c self m := by
    intro m hm
    rcases List.mem_append.1 hm with hm | hm
    · exact ticks_pre (by omega) (by omega) h1 m hm
    · obtain ⟨_,i,a,b,d,rfl⟩ := pings_one m hm
      exact .ping i a b d
  have hmade := made_all (self := self) (n := tickN c self n) (fun m hm hg => (sent_ok hw (hpre m hm) hg).1)
  have hM : tickM c self n = ((tickMs self (liveP (olderP n.peers) self) 0 (callGo c n.calls n.topics) ++ pings self c.nodes).filter (goes (tickN c self n))).map (madeM self (tickN c self n)) := by
    unfold tickM madeL;rw [hmade];rfl
  refine ⟨_,rfl,hpre,hM,?_,?_,?_⟩
  · intro m hm
    rw [hM] at hm
    simp only [List.mem_map,List.mem_filter] at hm
    obtain ⟨z,⟨hz,hg⟩,rfl⟩ := hm
    exact (sent_ok hw (hpre z hz) hg).2
  · rw [hM,cnt1_made,cnt1_app]
    have e1 : cnt1 (tickMs self (liveP (olderP n.peers) self) 0 (callGo c n.calls n.topics)) = 0 := by
      unfold cnt1;rw [List.length_eq_zero_iff,List.filter_eq_nil_iff]
      intro m hm;simpa using tickMs_kind _ _ m hm
    have e2 : cnt1 (pings self c.nodes) = (pings self c.nodes).length := by
      unfold cnt1;rw [List.filter_eq_self.2];intro m hm;simpa using (pings_one m hm).1
    obtain ⟨k,hk⟩ := Int.eq_ofNat_of_zero_le (show 0 ≤ c.nodes by omega)
    have e3 := pings_count hsb.1 k
    rw [if_pos (by omega)] at e3
    rw [e1,e2,hk];omega
  · rw [hM,List.length_map]
    have := List.length_filter_le (goes (tickN c self n)) (tickMs self (liveP (olderP n.peers) self) 0 (callGo c n.calls n.topics) ++ pings self c.nodes)
    have e1 := (tickMs_bare (self := self) (live := liveP (olderP n.peers) self) (callGo c n.calls n.topics) 0).2
    have e2 := pings_len self c.nodes
    rw [List.length_append] at this;omega
def K_law22_BeatRight := And.intro @c_law21_Heavy (And.intro @c_ref19_Check (And.intro @c_cast_Check (And.intro @c_beat_Tick (@c_law22_wakes))))
theorem w_law22_BeatRight (c : Config) (self : Int) (n : Node) (hg : Goods (F_law22_BeatRight (c,self,n)).2.1) : WW ρ 17 S_law22_BeatRight F_law22_BeatRight (c,self,n) := by
  dsimp only [WW,appV,F_law22_BeatRight] at hg ⊢
  unfold S_law22_BeatRight
  simp only [Goods,good_I,good_L] at hg
  refine SUB.v1 (bb (heavy21 n || decide (¬ nodeWhy c self n = 0))) ?_ ?_
  · simp (disch:=first|omega|assumption|(constructor<;>first|assumption|omega)|simp only[LN];omega) only [↓SB,S1,↓K_law22_BeatRight,Node.eta]
    cases heavy21 n <;> simp
  cases hh : (heavy21 n || decide (¬ nodeWhy c self n = 0))
  case true => simp (disch:=first|omega|assumption|(constructor<;>first|assumption|omega)|simp only[LN];omega) only [↓SB,S1,↓K_law22_BeatRight]
  simp only [Bool.or_eq_false_iff,decide_eq_false_iff_not,Decidable.not_not] at hh
  obtain ⟨hh1,hw⟩ := hh
  obtain ⟨hc,hsr,hu,H⟩ := why_zero hw
  have hb := cfg_bd hc
  have hsb := rng_bd hsr
  have hpl := H.pl
  have hT := tick_z hw
  have hwm := tick_node hw
  obtain ⟨l,hl,hpre,hM,hO,hC,hL⟩ := tick_sends hw
  clear hl hpre hM
  generalize hout : tickM c self n = out at hT hO hC hL
  simp (disch:=first|omega|assumption|(constructor<;>first|assumption|omega)|simp only[LN];omega) only [↓SB,S1,↓K_law22_BeatRight,Node.eta,hT]
  refine SUB.v1 (bb false) ?_ ?_
  · simp (disch:=first|omega|assumption|(constructor<;>first|assumption|omega)|simp only[LN];omega) only [↓SB,S1,↓K_law22_BeatRight,Node.eta,hwm,show (tickN c self n).inc = n.inc from rfl,show (tickN c self n).pubs = n.pubs from rfl,show (tickN c self n).asks = n.asks from rfl]
  simp (disch:=first|omega|assumption|(constructor<;>first|assumption|omega)|simp only[LN];omega) only [↓SB,S1,↓K_law22_BeatRight]
  refine LOOP.rule (α := Nat) (fun i => [I (cnt1 (out.take i)),I i]) (fun i => i ≤ out.length) (fun i => out.length - i) 0 rfl (by omega) (fun _ => rfl) ?_
  intro i hi
  have hcl := cnt1_le (out.take i)
  have hcl2 : (out.take i).length ≤ 1000 := by simp;omega
  simp only [app]
  simp (disch:=first|omega|assumption|(constructor<;>first|assumption|omega)|simp only[LN];omega) only [↓SB,S1,↓K_law22_BeatRight]
  refine ⟨fun h4 => ?_,fun h4 => ?_⟩
  · obtain ⟨x,hx⟩ := get_ex h4
    have O := hO x (List.mem_of_getElem? hx)
    obtain ⟨o1,o2,o3,o4,o5,o6,o7⟩ := O
    have hct : cnt1 (out.take (i + 1)) = cnt1 (out.take i) + if x.kind = 1 then 1 else 0 := by
      rw [take_one hx,cnt1_app];by_cases h : x.kind = 1 <;> simp [cnt1,h]
    simp (disch:=first|omega|assumption|(constructor<;>first|assumption|omega)|simp only[LN];omega) only [↓SB,S1,↓K_law22_BeatRight,cell_L hx]
    refine SUB.v1 (bb false) ?_ ?_
    · have a1 : ¬ x.to < 0 := by omega
      have a2 : ¬ c.nodes ≤ x.to := by omega
      have a3 : ¬ c.topics ≤ x.topic := by omega
      simp (disch:=first|omega|assumption|(constructor<;>first|assumption|omega)|simp only[LN];omega) only [↓SB,S1,↓K_law22_BeatRight,o1,o2,o3,a1,a2,a3]
    obtain ⟨k,hk⟩ := Int.eq_ofNat_of_zero_le o4
    obtain ⟨p,hp⟩ := get_ex (xs := n.peers) (i := k) (by omega)
    rcases o7 with h7 | ⟨h7,h8⟩
    · rw [if_pos h7] at hct
      simp (disch:=first|omega|assumption|(constructor<;>first|assumption|omega)|simp only[LN];omega) only [↓SB,S1,↓K_law22_BeatRight,h7]
      exact ⟨i + 1,by rw [hct];simp,by omega,by omega⟩
    · have h9 : x.toInc = p.inc := by rw [h8,hk];simp [List.getD_eq_getElem?_getD,hp]
      have h1 : ¬ x.kind = 1 := by omega
      rw [if_neg h1] at hct
      rw [hk]
      have e0 : ∃ a' : Nat,[I ((cnt1 (out.take i) : Nat) : Int),I ((i : Int) + 1)] = [I ((cnt1 (out.take a') : Nat) : Int),I (a' : Int)] ∧ a' ≤ out.length ∧ out.length - a' < out.length - i := ⟨i + 1,by rw [hct];simp,by omega,by omega⟩
      rcases h7 with h7 | h7 | h7
      all_goals
        simp (disch:=first|omega|assumption|(constructor<;>first|assumption|omega)|simp only[LN];omega) only [↓SB,S1,↓K_law22_BeatRight,h7,cell_L hp,h9]
        repeat' (first | exact e0 | refine ⟨fun h => absurd h (by decide),fun _ => ?_⟩)
  · rw [List.take_of_length_le (by omega)]
    have : (cnt1 out : Int) = c.nodes - 1 := hC
    simp (disch:=first|omega|assumption|(constructor<;>first|assumption|omega)|simp only[LN];omega) only [↓SB,S1,↓K_law22_BeatRight,this]
end Go.Xt
end
section
set_option linter.unusedSimpArgs false
set_option linter.unusedVariables false
set_option maxRecDepth 100000
namespace Go.Xt
set_option linter.defProp false
set_option maxHeartbeats 4000000
theorem nn_inj_fin : ∀ a b : Fin 8,nn (a.val : Int) = nn (b.val : Int) → a = b := by decide +kernel
theorem nn_inj {a b : Int} (ha : isN a = true) (hb : isN b = true) (h : nn a = nn b) : a = b := by
  rw [isN_iff] at ha hb
  obtain ⟨a,rfl⟩ := Int.eq_ofNat_of_zero_le ha.1
  obtain ⟨b,rfl⟩ := Int.eq_ofNat_of_zero_le hb.1
  have := nn_inj_fin ⟨a,by omega⟩ ⟨b,by omega⟩ h
  simp only [Fin.mk.injEq] at this;omega
theorem aheadGo_min {self : Int} : ∀ (l : List Int) (b d : Int),(∀ x ∈ l,0 ≤ x) → (b < 0 ∨ d = far (nn b) (nn self)) →
    (aheadGo self b d l = b ∨ (aheadGo self b d l ∈ l ∧ aheadGo self b d l ≠ self)) ∧ (b < 0 → (∃ x ∈ l,x ≠ self) → aheadGo self b d l ∈ l ∧ aheadGo self b d l ≠ self) ∧
    (∀ x ∈ l,x ≠ self → far (nn (aheadGo self b d l)) (nn self) ≤ far (nn x) (nn self)) ∧ (0 ≤ b → far (nn (aheadGo self b d l)) (nn self) ≤ far (nn b) (nn self))
  | [],b,d,_,_ => by simp [aheadGo]
  | x :: r,b,d,h0,hd => by
    have h1 : ∀ x ∈ r,0 ≤ x := fun y hy => h0 y (by simp [hy])
    have hx := h0 x (by simp)
    unfold aheadGo
    split
    · rename_i hc
      obtain ⟨a1,a2,a3,a4⟩ := aheadGo_min r x (far (nn x) (nn self)) h1 (.inr rfl)
      have a5 : aheadGo self x (far (nn x) (nn self)) r ∈ x :: r ∧ aheadGo self x (far (nn x) (nn self)) r ≠ self := by
        rcases a1 with a1 | a1
        · rw [a1];exact ⟨by simp,hc.1⟩
        · exact ⟨by simp [a1.1],a1.2⟩
      refine ⟨.inr a5,fun _ _ => a5,fun y hy hn => ?_,fun hb => ?_⟩
      · rcases List.mem_cons.1 hy with rfl | hy
        · exact a4 hx
        · exact a3 y hy hn
      · have := a4 hx
        rcases hd with h | h
        · omega
        · rcases hc.2 with h2 | h2 <;> omega
    · rename_i hc
      obtain ⟨a1,a2,a3,a4⟩ := aheadGo_min r b d h1 hd
      refine ⟨?_,fun hb he => ?_,fun y hy hn => ?_,a4⟩
      · rcases a1 with a1 | a1
        · exact .inl a1
        · exact .inr ⟨by simp [a1.1],a1.2⟩
      · obtain ⟨y,hy,hn⟩ := he
        rcases List.mem_cons.1 hy with rfl | hy
        · exact absurd ⟨hn,.inl hb⟩ hc
        · have := a2 hb ⟨y,hy,hn⟩
          exact ⟨by simp [this.1],this.2⟩
      · rcases List.mem_cons.1 hy with rfl | hy
        · have hb : ¬ (b < 0 ∨ far (nn y) (nn self) < d) := fun h => hc ⟨hn,h⟩
          have := a4 (by omega)
          rcases hd with h | h <;> omega
        · exact a3 y hy hn
theorem aheadN_min {live : List Int} {self : Int} (h : ∀ x ∈ live,isN x = true) (he : ∃ x ∈ live,x ≠ self) :
    aheadN live self ∈ live ∧ aheadN live self ≠ self ∧ ∀ x ∈ live,x ≠ self → far (nn (aheadN live self)) (nn self) ≤ far (nn x) (nn self) := by
  obtain ⟨_,a2,a3,_⟩ := aheadGo_min (self := self) live (-1) 0 (fun x hx => (isN_iff.1 (h x hx)).1) (.inl (by omega))
  have := a2 (by omega) he
  exact ⟨this.1,this.2,a3⟩
theorem gap_of {t n : Int} : gap t n = far (tt t) (nn n) := rfl
theorem ahead_near {t : Int} {live : List Int} {self x : Int} (ht : isT t = true) (h : ∀ x ∈ live,isN x = true) (hx : x ∈ live) (hs : self ∈ live) (hn : gap t x < gap t self) : near t (aheadN live self) self = true := by
  have hne : x ≠ self := by rintro rfl;omega
  obtain ⟨a1,a2,a3⟩ := aheadN_min h ⟨x,hx,hne⟩
  have a4 := a3 x hx hne
  have n1 := h _ a1
  have n2 := h _ hs
  simp only [near,Bool.and_eq_true,decide_eq_true_eq]
  refine ⟨⟨⟨ht,n1⟩,n2⟩,?_⟩
  have k1 : nn (aheadN live self) ≠ nn self := fun e => a2 (nn_inj n1 n2 e)
  rw [gap_of,gap_of] at hn ⊢
  have b1 := tt_bd t
  have b2 := nn_bd x
  have b3 := nn_bd self
  have b4 := nn_bd (aheadN live self)
  generalize nn (aheadN live self) = a at *
  generalize nn self = s at *
  generalize nn x = y at *
  generalize tt t = u at *
  simp only [far] at *
  repeat' split at a4
  all_goals repeat' split at hn
  all_goals repeat' split
  all_goals omega
theorem ownGo_min {t : Int} : ∀ (l : List Int) (b : Int),(∀ x ∈ l,near t x (ownGo t b l) = false) ∧ (near t b (ownGo t b l) = false)
  | [],b => by
    refine ⟨by simp,?_⟩
    cases h : near t b b with
    | false => exact h
    | true => exact absurd rfl (near_ne h)
  | x :: r,b => by
    unfold ownGo
    by_cases e : near t x b = true
    · rw [if_pos e]
      obtain ⟨h1,h2⟩ := ownGo_min (t := t) r x
      refine ⟨fun y hy => ?_,?_⟩
      · rcases List.mem_cons.1 hy with rfl | hy
        · exact h2
        · exact h1 y hy
      · cases h : near t b (ownGo t x r) with
        | false => rfl
        | true => rw [near_trans e h] at h2;cases h2
    · rw [if_neg e]
      obtain ⟨h1,h2⟩ := ownGo_min (t := t) r b
      refine ⟨fun y hy => ?_,h2⟩
      rcases List.mem_cons.1 hy with rfl | hy
      · cases h : near t y (ownGo t b r) with
        | false => rfl
        | true =>
          rcases ownGo_near (t := t) r b with h3 | h3
          · rw [h3] at h;exact absurd h e
          · exact absurd (near_trans h h3.1) e
      · exact h1 y hy
def own (t : Int) (l : List Int) : Int := (owner t l).1
theorem owner_ok {t : Int} {l : List Int} (ht : isT t = true) (h : ∀ x ∈ l,isN x = true) (hl : l ≠ []) : (owner t l).2 = 0 ∧ own t l ∈ l ∧ ∀ x ∈ l,near t x (own t l) = false := by
  unfold own owner
  rw [if_pos ht,if_pos (List.all_eq_true.2 h)]
  cases l with
  | nil => exact absurd rfl hl
  | cons x r =>
    refine ⟨rfl,?_,(ownGo_min (x :: r) x).1⟩
    rcases ownGo_near (t := t) (x :: r) x with e | e
    · simp only;rw [e];simp
    · exact e.2
theorem near_lin {t a b : Int} (ht : isT t = true) (ha : isN a = true) (hb : isN b = true) (h : a ≠ b) : near t a b = true ∨ near t b a = true := by
  simp only [near,ht,ha,hb,Bool.true_and,decide_eq_true_eq]
  simp only [gap_of]
  have k : nn a ≠ nn b := fun e => h (nn_inj ha hb e)
  have b1 := tt_bd t
  have b2 := nn_bd a
  have b3 := nn_bd b
  revert b1 b2 b3 k
  generalize nn a = x
  generalize nn b = y
  generalize tt t = u
  intro k b1 b2 b3
  simp only [far]
  repeat' split
  all_goals omega
theorem next_none {t : Int} {live : List Int} {n : Int} (ht : isT t = true) (h : ∀ x ∈ live,isN x = true) (hn : n ∈ live) : nextN t live n < 0 ↔ n = own t live := by
  have hl : live ≠ [] := by rintro rfl;simp at hn
  obtain ⟨_,o1,o2⟩ := owner_ok ht h hl
  constructor
  · intro hx
    refine Classical.byContradiction fun hne => ?_
    rcases near_lin ht (h _ hn) (h _ o1) hne with e | e
    · rw [o2 n hn] at e;cases e
    · have ha := ahead_near ht h o1 hn (near_dom e).2.2.2
      have : near t (aheadN live n) (ownGo t n (fingers live n ++ [aheadN live n])) = false := (ownGo_min _ _).1 _ (by simp)
      unfold nextN at hx
      split at hx
      · rename_i h1;rw [h1,ha] at this;cases this
      · rename_i h1
        have := (near_dom ((ownGo_near (t := t) _ _).resolve_left h1).1).2.1.1
        omega
  · rintro rfl
    rcases next_cases t live (own t live) with e | ⟨e1,e2⟩
    · omega
    · rcases known_live hl e2 with h1 | h1
      · omega
      · rw [o2 _ h1.1] at e1;cases e1
theorem aged_eqs (z : Topic) : (agedT z).sub = z.sub ∧ (agedT z).kids = z.kids ∧ (agedT z).root = z.root ∧ (agedT z).top = z.top := by
  unfold agedT;split
  · simp
  · split <;> simp [lostT]
theorem place_path {x : Topic} {c : Config} {t self : Int} (h : topicOk c t self x = true) (hp : x.parent = 0) : x.path = [] := by
  have h1 := topic_iff.1 h
  have hpl := h1.plc
  unfold placedOk at hpl
  cases hx : x.path with
  | nil => rfl
  | cons p r =>
    rw [hx] at hpl
    simp only [decide_eq_true_eq] at hpl
    have hc := h1.path
    unfold chk at hc
    split at hc
    · rename_i h2
      simp only [Bool.and_eq_true,List.all_eq_true] at h2
      have := isN_iff.1 (h2.2 p (by rw [hx];simp))
      rw [wr (by omega) (by omega)] at hpl;omega
    · omega
theorem own_law {c : Config} {t self : Int} {live : List Int} {x X : Topic} (hs : isN self = true) (h : topicOk c t self x = true) (ho : ownsN self t live = true) (hX : X = (tickT self t live x).1) :
    (interest X = true → ((X.root ≠ 0 ∧ X.root = X.top) ∨ 1073741792 ≤ X.top) ∧ (X.parent = 0 ∨ X.root = 0)) ∧ (interest X = false → X.parent = 0) := by
  have h1 := topic_kids h
  generalize hx1 : ({ x with kids := olderK x.kids } : Topic) = x1 at h1
  have hr := (topic_iff.1 h1).root
  simp only [rootOk,Bool.or_eq_true,Bool.and_eq_true,decide_eq_true_eq] at hr
  have hb := top_bd h1
  unfold tickT at hX
  dsimp only at hX
  rw [hx1,if_pos ho] at hX
  by_cases hi : interest x1 = true
  · rw [if_pos hi] at hX
    have hbi : ∀ z,interest z = true → interest z = false → False := fun z a b => by rw [a] at b;cases b
    unfold becomeT at hX
    split at hX
    · rename_i hz
      unfold becomeR at hz hX
      split at hX
      · rename_i hc
        subst hX
        exact ⟨fun _ => ⟨.inl hc,by rcases hr with hr | hr;exact .inr hr;exact .inl hr.1.2⟩,fun h2 => (hbi _ hi h2).elim⟩
      · rename_i hnr
        rw [if_neg hnr] at hz
        split at hX
        · rename_i hnz;rw [if_pos hnz] at hz;simp at hz
        · rename_i hnz
          subst hX
          have : interest ({ lostT x1 with root := nextW self x1.top,top := nextW self x1.top,stream := begun (nextW self x1.top) 1 } : Topic) = interest x1 := rfl
          exact ⟨fun _ => ⟨.inl ⟨hnz,rfl⟩,.inl rfl⟩,fun h2 => (hbi _ hi (this ▸ h2)).elim⟩
    · rename_i hz
      subst hX
      refine ⟨fun _ => ⟨.inr ?_,by rcases hr with hr | hr;exact .inr hr;exact .inl hr.1.2⟩,fun h2 => (hbi _ hi h2).elim⟩
      unfold becomeR at hz
      split at hz
      · exact absurd rfl hz
      · split at hz
        · rename_i hnz
          obtain ⟨u1,u2,u3⟩ := next_up hs hb.1
          unfold nextW at hnz
          split at hnz
          · omega
          · omega
        · exact absurd rfl hz
  · rw [if_neg hi] at hX
    have hp : X.parent = 0 := by
      subst hX;unfold leavesT;split
      · assumption
      · rfl
    have hii : interest X = interest x1 := by
      subst hX;unfold leavesT;split <;> rfl
    exact ⟨fun h2 => absurd (hii ▸ h2) hi,fun _ => hp⟩
structure NotOwn (t me nx : Int) (X : Topic) : Prop where
  root : X.root = 0
  free : interest X = false → X.parent = 0 ∧ X.path = []
  ask0 : interest X = true → X.other = 0 → X.asked = nx + 1
  ask1 : interest X = true → X.other ≠ 0 → X.asked = X.other
theorem not_law {c : Config} {t self : Int} {live : List Int} {x X : Topic} (h : topicOk c t self x = true) (ho : ownsN self t live = false) (hX : X = (tickT self t live x).1) :
    NotOwn t self (nextN t live self) X ∧ ∀ m ∈ (tickT self t live x).2,m.kind = 2 → interest X = true ∧ m.to + 1 = X.asked ∧ (m.to = -1 ∨ near t m.to self = true) ∧ m.epoch = X.top := by
  have h1 := topic_kids h
  have hT : tickT self t live x = if interest { x with kids := olderK x.kids } = true then (askT t (nextN t live self) (freeT live (agedT { { x with kids := olderK x.kids } with root := 0 })),asksM t (nextN t live self) (freeT live (agedT { { x with kids := olderK x.kids } with root := 0 }))) else leavesT t { { x with kids := olderK x.kids } with root := 0 } := by
    unfold tickT;dsimp only;rw [if_neg (by rw [ho];simp)]
  rw [hT] at hX ⊢
  generalize hx1 : ({ x with kids := olderK x.kids } : Topic) = x1 at h1 hX ⊢
  have h2 := topic_root0 h1
  by_cases hi : interest x1 = true
  · rw [if_pos hi] at hX ⊢
    have h3 := topic_freeT (live := live) (topic_agedT h2)
    obtain ⟨a1,a2,a3,a4⟩ := aged_eqs { x1 with root := 0 }
    have hf := free_eqs (agedT { x1 with root := 0 }) live
    generalize hy : freeT live (agedT { x1 with root := 0 }) = y at h3 hX hf ⊢
    obtain ⟨e3made,e3sub,e3top,e3root,e3parent,e3asked,e3age,e3path,e3kids,e3stream,e3queue⟩ := hf
    dsimp only at hX a1 a2 a3 a4
    have hix : interest X = true := by
      rw [hX,← hi];show interest y = _;unfold interest;rw [← e3sub,← e3kids,a1,a2]
    have hrx : X.root = 0 := by rw [hX];show y.root = 0;rw [← e3root,a3]
    refine ⟨⟨hrx,fun h => (by rw [hix] at h;cases h),fun _ h => ?_,fun _ h => ?_⟩,fun m hm hk => ?_⟩
    · rw [hX] at h ⊢
      show (if y.other = 0 then _ else _) + 1 = _
      rw [if_pos (show y.other = 0 from h)]
    · rw [hX] at h ⊢
      show (if y.other = 0 then _ else _) + 1 = y.other
      rw [if_neg (show ¬ y.other = 0 from h)];omega
    · refine ⟨hix,?_⟩
      simp only [asksM,List.mem_append,List.mem_singleton] at hm
      rcases hm with rfl | hm
      · rw [hX];exact ⟨rfl,to_near h3,rfl⟩
      · split at hm
        · simp only [List.mem_singleton] at hm;subst hm;simp at hk
        · simp at hm
  · rw [if_neg hi] at hX ⊢
    have hii : interest X = interest x1 := by
      rw [hX];unfold leavesT;split <;> rfl
    have hrx : X.root = 0 := by rw [hX];unfold leavesT;split <;> rfl
    have hfx : X.parent = 0 ∧ X.path = [] := by
      rw [hX];unfold leavesT;split
      · rename_i hp;exact ⟨hp,place_path h2 hp⟩
      · exact ⟨rfl,rfl⟩
    refine ⟨⟨hrx,fun _ => hfx,fun h => absurd (hii ▸ h) hi,fun h => absurd (hii ▸ h) hi⟩,fun m hm hk => ?_⟩
    unfold leavesT at hm
    split at hm
    · simp at hm
    · simp only [List.mem_singleton] at hm;subst hm;simp at hk
def isJ (t : Int) (m : Msg) : Bool := decide (m.kind = 2) && decide (m.topic = t)
def cj (t : Int) (l : List Msg) : Nat := (l.filter (isJ t)).length
theorem cj_app (t : Int) (a b : List Msg) : cj t (a ++ b) = cj t a + cj t b := by simp [cj]
theorem cj_le (t : Int) (a : List Msg) : cj t a ≤ a.length := List.length_filter_le _ _
theorem tickT_topic {self t : Int} {live : List Int} {x : Topic} : ∀ m ∈ (tickT self t live x).2,m.topic = t := by
  unfold tickT leavesT asksM
  dsimp only
  repeat' split
  all_goals simp
theorem cj_tick {self s t : Int} {live : List Int} {x : Topic} : cj t (tickT self s live x).2 ≤ if s = t then 1 else 0 := by
  unfold tickT leavesT asksM
  dsimp only
  repeat' split
  all_goals simp [cj,isJ,List.filter_cons]
  all_goals (try split)
  all_goals simp_all
theorem cj_ticks {self t : Int} {live : List Int} : ∀ (l : List Topic) (s : Int),cj t (tickMs self live s l) ≤ if s ≤ t then 1 else 0
  | [],s => by simp [tickMs,cj]
  | x :: r,s => by
    have a := cj_tick (self := self) (s := s) (t := t) (live := live) (x := x)
    have b := cj_ticks (self := self) (t := t) (live := live) r (s + 1)
    rw [tickMs,cj_app]
    by_cases h : s = t
    · rw [if_pos h] at a;rw [if_neg (by omega)] at b;rw [if_pos (by omega)];omega
    · rw [if_neg h] at a
      by_cases h2 : s ≤ t
      · rw [if_pos (by omega)] at b;rw [if_pos h2];omega
      · rw [if_neg (by omega)] at b;rw [if_neg h2];omega
theorem cj_made {self t : Int} {n : Node} : ∀ l : List Msg,cj t ((l.filter (goes n)).map (madeM self n)) ≤ cj t l
  | [] => by simp [cj]
  | m :: r => by
    have ih := cj_made (self := self) (t := t) (n := n) r
    have hk : isJ t (madeM self n m) = isJ t m := rfl
    unfold cj at ih ⊢
    by_cases hg : goes n m = true
    · simp only [List.filter_cons,hg,if_true,List.map_cons,hk];split <;> simp <;> omega
    · simp only [List.filter_cons,hg,if_false,Bool.false_eq_true];split <;> simp <;> omega
theorem ticks_mem {self t : Int} {live : List Int} {m : Msg} (hj : m.topic = t) : ∀ {l : List Topic} {s : Int},m ∈ tickMs self live s l → ∃ (k : Nat) (x : Topic),l[k]? = some x ∧ t = s + k ∧ m ∈ (tickT self t live x).2
  | [],s,h => by simp [tickMs] at h
  | x :: r,s,h => by
    rw [tickMs,List.mem_append] at h
    rcases h with h | h
    · have := tickT_topic m h
      exact ⟨0,x,rfl,by simp;omega,by rw [show t = s by omega];exact h⟩
    · obtain ⟨k,y,a,b,d⟩ := ticks_mem hj h
      exact ⟨k + 1,y,by simpa using a,by simp;omega,d⟩
theorem topics_law {c : Config} {self : Int} {n : Node} (hw : nodeWhy c self n = 0) {k : Nat} (hk : (k : Int) < c.topics) :
    ∃ X,(tickN c self n).topics[k]? = some X ∧
      (ownsN self k (liveP (olderP n.peers) self) = true → (interest X = true → ((X.root ≠ 0 ∧ X.root = X.top) ∨ 1073741792 ≤ X.top) ∧ (X.parent = 0 ∨ X.root = 0)) ∧ (interest X = false → X.parent = 0)) ∧
      (ownsN self k (liveP (olderP n.peers) self) = false → NotOwn k self (nextN k (liveP (olderP n.peers) self) self) X ∧
        ∀ m ∈ tickM c self n,isJ k m = true → interest X = true ∧ m.to + 1 = X.asked ∧ near k m.to self = true ∧ m.epoch = X.top) ∧
      cj k (tickM c self n) ≤ 1 ∧ topicOk c k self X = true := by
  obtain ⟨hc,hsr,hu,H⟩ := why_zero hw
  have hb := cfg_bd hc
  have hsb := rng_bd hsr
  have hs : isN self = true := isN_iff.2 (by omega)
  have hcb := calls_bd H.calls
  have htl := H.tl
  obtain ⟨h1,h2⟩ := callGo_ok (c := c) (self := self) (l := n.calls) (T := n.topics) (fun x hx => by have := hcb x hx;omega) H.tops
  obtain ⟨x,hx⟩ := get_ex (xs := callGo c n.calls n.topics) (i := k) (by omega)
  have hxo := tops_get h1 hx
  rw [Int.zero_add] at hxo
  have hg := tickGo_get (self := self) (live := liveP (olderP n.peers) self) (t := 0) hx
  rw [Int.zero_add] at hg
  obtain ⟨l,hl,hpre,hM,hO,_,_⟩ := tick_sends hw
  refine ⟨_,hg,fun ho => own_law hs hxo ho rfl,fun ho => ?_,?_,topic_tick hc hs hxo⟩
  · obtain ⟨hn,hms⟩ := not_law hxo ho rfl
    refine ⟨hn,fun m hm hj => ?_⟩
    have hlo := (hO m hm).lo
    rw [hM] at hm
    simp only [List.mem_map,List.mem_filter] at hm
    obtain ⟨z,⟨hz,_⟩,rfl⟩ := hm
    have hj2 : z.kind = 2 ∧ z.topic = k := by simpa [isJ,madeM] using hj
    rw [hl,List.mem_append] at hz
    rcases hz with hz | hz
    · obtain ⟨j,y,e1,e2,e3⟩ := ticks_mem hj2.2 hz
      have : j = k := by omega
      subst this
      rw [hx] at e1;cases e1
      obtain ⟨f1,f2,f3,f4⟩ := hms z e3 hj2.1
      exact ⟨f1,f2,f3.resolve_left (by have : (madeM self (tickN c self n) z).to = z.to := rfl;omega),f4⟩
    · have := (pings_one z hz).1;omega
  · rw [hM]
    refine Nat.le_trans (cj_made l) ?_
    rw [hl,cj_app]
    have a := cj_ticks (self := self) (t := k) (live := liveP (olderP n.peers) self) (callGo c n.calls n.topics) 0
    have b : cj k (pings self c.nodes) = 0 := by
      unfold cj;rw [List.length_eq_zero_iff,List.filter_eq_nil_iff]
      intro m hm;have := (pings_one m hm).1;simp [isJ,this]
    split at a <;> omega
def K_law22_BeatTopics := And.intro @c_law21_Heavy (And.intro @c_ref19_Check (And.intro @c_beat_Tick (And.intro @c_law22_wakes (And.intro @c_view_Live (And.intro @c_ring_Owner (And.intro @c_route_Next (@c_ring_Nearer)))))))
theorem w_law22_BeatTopics (c : Config) (self : Int) (n : Node) (hg : Goods (F_law22_BeatTopics (c,self,n)).2.1) : WW ρ 17 S_law22_BeatTopics F_law22_BeatTopics (c,self,n) := by
  dsimp only [WW,appV,F_law22_BeatTopics] at hg ⊢
  unfold S_law22_BeatTopics
  simp only [Goods,good_I,good_L] at hg
  refine SUB.v1 (bb (heavy21 n || decide (¬ nodeWhy c self n = 0))) ?_ ?_
  · simp (disch:=first|omega|assumption|(constructor<;>first|assumption|omega)|simp only[LN];omega) only [↓SB,S1,↓K_law22_BeatTopics,Node.eta]
    cases heavy21 n <;> simp
  cases hh : (heavy21 n || decide (¬ nodeWhy c self n = 0))
  case true => simp (disch:=first|omega|assumption|(constructor<;>first|assumption|omega)|simp only[LN];omega) only [↓SB,S1,↓K_law22_BeatTopics]
  simp only [Bool.or_eq_false_iff,decide_eq_false_iff_not,Decidable.not_not] at hh
  obtain ⟨hh1,hw⟩ := hh
  obtain ⟨hc,hsr,hu,H⟩ := why_zero hw
  have hb := cfg_bd hc
  have hsb := rng_bd hsr
  have hpl := H.pl
  have hT := tick_z hw
  have hq := quiet_law hw rfl
  have htl := H.tl
  obtain ⟨l,hl,hpre,hM,hO,hC,hL⟩ := tick_sends hw
  have hlaw := fun (k : Nat) (hk : (k : Int) < c.topics) => topics_law hw hk
  clear hl hpre hM
  generalize hout : tickM c self n = out at hT hO hC hL hlaw
  have hop := older_peers H.peers
  have hol := olderP_len n.peers
  have hpz : placeP (olderP n.peers) self = 0 := by unfold placeP;rw [if_pos hop,if_pos (by omega)]
  have hcz := live_chk hop hsb.1 (by omega)
  have hcz2 := chkL_zero hcz
  have hln := live_len (self := self) (olderP n.peers) 0
  simp (disch:=first|omega|assumption|(constructor<;>first|assumption|omega)|simp only[LN];omega) only [↓SB,S1,↓K_law22_BeatTopics,Node.eta,hT]
  refine SUB.v1 (bb false) ?_ ?_
  · have : ((tickN c self n).topics.length : Int) = c.topics := by rw [hq.2.2.2.1];exact htl
    simp (disch:=first|omega|assumption|(constructor<;>first|assumption|omega)|simp only[LN];omega) only [↓SB,S1,↓K_law22_BeatTopics,this]
  simp (disch:=first|omega|assumption|(constructor<;>first|assumption|omega)|simp only[LN];omega) only [↓SB,S1,↓K_law22_BeatTopics,show (tickN c self n).peers = olderP n.peers from rfl,hpz]
  generalize hlv : liveP (olderP n.peers) self = live at hcz hcz2 hlaw ⊢
  refine LOOP.rule (α := Nat) (fun i => [I i]) (fun i => (i : Int) ≤ c.topics) (fun i => c.topics.toNat - i) 0 rfl (by omega) (fun _ => rfl) ?_
  intro i hi
  simp only [app]
  simp (disch:=first|omega|assumption|(constructor<;>first|assumption|omega)|simp only[LN];omega) only [↓SB,S1,↓K_law22_BeatTopics]
  intro h4
  obtain ⟨X,hX,hA,hB,hJ,hXo⟩ := hlaw i h4
  have hlt := (List.getElem?_eq_some_iff.1 hX).1
  have hit : isT (i : Int) = true := isT_iff.2 (by omega)
  have hak : askedN i live self = 0 := by unfold askedN;rw [if_pos hcz,if_pos hit]
  have hlm : ∀ x ∈ live,isN x = true := List.all_eq_true.1 hcz2.1.1
  have how := owner_ok hit hlm hcz2.2.1.2.2
  have hown : (owner (i : Int) live).1 = own i live := rfl
  have hsm : self ∈ live := by have := hcz2.2.2.2;simpa using this
  have hnn := next_none (n := self) hit hlm hsm
  have hXb := top_bd hXo
  have hnb := nextN_lo i live self
  have go : ∃ a' : Nat,[I ((i : Int) + 1)] = [I (a' : Int)] ∧ (a' : Int) ≤ c.topics ∧ c.topics.toNat - a' < c.topics.toNat - i := ⟨i + 1,rfl,by omega,by omega⟩
  simp (disch:=first|omega|assumption|(constructor<;>first|assumption|omega)|simp only[LN];omega) only [↓SB,S1,↓K_law22_BeatTopics,cell_L hX,hak,how.1]
  refine SUB.v1 (bb false) ?_ ?_
  · simp (disch:=first|omega|assumption|(constructor<;>first|assumption|omega)|simp only[LN];omega) only [↓SB,S1,↓K_law22_BeatTopics]
  simp (disch:=first|omega|assumption|(constructor<;>first|assumption|omega)|simp only[LN];omega) only [↓SB,S1,↓K_law22_BeatTopics]
  refine SUB.v1 (bb (interest X)) ?_ ?_
  · unfold interest
    simp (disch:=first|omega|assumption|(constructor<;>first|assumption|omega)|simp only[LN];omega) only [↓SB,S1,↓K_law22_BeatTopics]
    cases X.sub <;> simp
  rw [hown] at *
  by_cases ho : own i live = self
  · obtain ⟨g1,g2⟩ := hA (by simp [ownsN,show (owner (i : Int) live).1 = own i live from rfl,ho])
    cases hI : interest X
    · have g3 := g2 hI
      simp (disch:=first|omega|assumption|(constructor<;>first|assumption|omega)|simp only[LN];omega) only [↓SB,S1,↓K_law22_BeatTopics,ho,g3]
      exact go
    · obtain ⟨g3,g4⟩ := g1 hI
      repeat' (first | apply And.intro | intro _ | simp (disch:=first|omega|assumption|(constructor<;>first|assumption|omega)|simp only[LN];omega) only [↓SB,S1,↓K_law22_BeatTopics])
      all_goals first | exact go | omega | (exfalso;omega) | (simp_all;done) | trace_state
  · obtain ⟨N,hm⟩ := hB (by simp [ownsN,show (owner (i : Int) live).1 = own i live from rfl,ho])
    have hr := N.root
    simp (disch:=first|omega|assumption|(constructor<;>first|assumption|omega)|simp only[LN];omega) only [↓SB,S1,↓K_law22_BeatTopics,ho,hr]
    refine LOOP.rule (α := Nat) (fun j => [I (cj i (out.take j)),I j]) (fun j => j ≤ out.length) (fun j => out.length - j) 0 rfl (by omega) (fun _ => rfl) ?_
    intro j hj
    have hcl := cj_le i (out.take j)
    have hcl2 : (out.take j).length ≤ 1000 := by simp;omega
    simp only [app]
    simp (disch:=first|omega|assumption|(constructor<;>first|assumption|omega)|simp only[LN];omega) only [↓SB,S1,↓K_law22_BeatTopics]
    refine ⟨fun h5 => ?_,fun h5 => ?_⟩
    · obtain ⟨z,hz⟩ := get_ex h5
      have hzm := List.mem_of_getElem? hz
      have O := hO z hzm
      have hlo := O.lo;have hhi := O.hi
      have hct : cj i (out.take (j + 1)) = cj i (out.take j) + if isJ i z = true then 1 else 0 := by
        rw [take_one hz,cj_app];by_cases h : isJ i z = true <;> simp [cj,h]
      refine SUB.v1 (bb (isJ i z)) ?_ ?_
      · unfold isJ
        simp (disch:=first|omega|assumption|(constructor<;>first|assumption|omega)|simp only[LN];omega) only [↓SB,S1,↓K_law22_BeatTopics,cell_L hz]
        refine ⟨fun h => ?_,fun h => ?_⟩ <;> simp [h]
      cases hjz : isJ i z
      · rw [hjz,if_neg (by simp)] at hct
        simp (disch:=first|omega|assumption|(constructor<;>first|assumption|omega)|simp only[LN];omega) only [↓SB,S1,↓K_law22_BeatTopics]
        exact ⟨j + 1,by rw [hct];simp,by omega,by omega⟩
      · rw [if_pos hjz] at hct
        obtain ⟨f1,f2,f3,f4⟩ := hm z hzm hjz
        simp (disch:=first|omega|assumption|(constructor<;>first|assumption|omega)|simp only[LN];omega) only [↓SB,S1,↓K_law22_BeatTopics,cell_L hz,f1,f2,f3,f4]
        exact ⟨j + 1,by rw [hct];simp,by omega,by omega⟩
    · rw [List.take_of_length_le (by omega)]
      cases hI : interest X
      · obtain ⟨g1,g2⟩ := N.free hI
        simp (disch:=first|omega|assumption|(constructor<;>first|assumption|omega)|simp only[LN];omega) only [↓SB,S1,↓K_law22_BeatTopics,g1,g2]
        exact ⟨fun h => absurd rfl h,fun _ => go⟩
      · have g0 := N.ask0 hI
        have g1 := N.ask1 hI
        have h0 : 0 ≤ nextN i live self := by
          have : ¬ nextN i live self < 0 := fun h => ho (hnn.1 h).symm
          omega
        have hmx : max (nextN i live self) 0 = nextN i live self := by omega
        have hj2 : ¬ 1 < (cj i out : Int) := by omega
        have hnu := (near_dom (next_near h0)).2.1
        simp (disch:=first|omega|assumption|(constructor<;>first|assumption|omega)|simp only[LN];omega) only [↓SB,S1,↓K_law22_BeatTopics,hj2,hmx,h0]
        by_cases hz : X.other = 0
        · have := g0 hz
          simp (disch:=first|omega|assumption|(constructor<;>first|assumption|omega)|simp only[LN];omega) only [↓SB,S1,↓K_law22_BeatTopics,hz,this]
          exact ⟨fun h => by simp at h,fun _ => go⟩
        · have := g1 hz
          simp (disch:=first|omega|assumption|(constructor<;>first|assumption|omega)|simp only[LN];omega) only [↓SB,S1,↓K_law22_BeatTopics,hz,this]
          exact ⟨fun h => by simp at h,fun _ => go⟩
end Go.Xt
end
