/- BeatExact: for every input the law returns true, and each argument reads afterwards as it read before. No further conditions. -/
import Derived.ProofKit
import Derived.Test.YtbobikmalojafaaGreatDoorRows
import Derived.ChangeSame
import Derived.JoinedOf
import Derived.RowKit
import Derived.SevenTiedAt
import Derived.Test.YtbobikmalojafaaGreatDoorCards
import Derived.Test.YtbobikmalojafaaGreatDoorTie
import Derived.Test.YtbobikmalojafaaGreatDoorEr6
import Derived.Test.YtbobikmalojafaaGreatDoorOk
import Derived.Test.YtbobikmalojafaaGreatDoorV3
import Derived.Test.YtbobikmalojafaaGreatDoorV5
import Derived.Test.YtbobikmalojafaaGreatDoorV6
import Derived.Test.YtbobikmalojafaaGreatDoorCloBeatExact
namespace Go.Proofs.YtbobikmalojafaaGreatDoor
open Go.ChangeShapes Go.WideShapes Go.ChangeAt Go.RowKit Go.Xt
set_option maxRecDepth 100000
set_option linter.unusedVariables false
set_option linter.unusedSimpArgs false
theorem Tryz.ownK : ownKnob Tryz.prog.godebug = none := by kernel_rfl
theorem Tryz.laidO : laidOutB Tryz.prog = true := by kernel_rfl
theorem BeatExact_law : ∀ ps,All2 Has [.int .i64,.int .i64,.int .i64,.int .i64,.int .i64,.int .i64,.int .i64,.int .i64,.bool,.int .i64,.list 16 [.int .i64,.int .i64],.list 200 [.bool,.bool,.int .i64,.int .i64,.int .i64,.int .i64,.int .i64,.int .i64,.list 8 [.int .i64],.list 24 [.int .i64,.int .i64,.int .i64],.int .i64,.int .i64,.int .i64,.list 16 [.int .i64,.int .i64],.list 16 [.int .i64,.int .i64],.list 48 [.int .i64,.int .i64,.int .i64,.int .i64,.int .i64,.int .i64]],.list 24 [.int .i64,.int .i64,.int .i64],.int .i64,.int .i64,.list 24 [.int .i64,.int .i64,.int .i64],.list 40 [.int .i64,.int .i64,.int .i64,.int .i64,.int .i64],.list 160 [.int .i64,.int .i64,.int .i64,.int .i64,.int .i64,.int .i64,.int .i64,.int .i64,.int .i64,.int .i64,.int .i64,.int .i64,.int .i64,.int .i64,.list 8 [.int .i64],.list 8 [.int .i64]]] ps → f_law22_BeatExact ps = some [.bool true] := by
  intro ps h
  obtain ⟨p0,r0,rfl,h0,g0⟩ := all2_cons h
  obtain ⟨p1,r1,rfl,h1,g1⟩ := all2_cons g0
  obtain ⟨p2,r2,rfl,h2,g2⟩ := all2_cons g1
  obtain ⟨p3,r3,rfl,h3,g3⟩ := all2_cons g2
  obtain ⟨p4,r4,rfl,h4,g4⟩ := all2_cons g3
  obtain ⟨p5,r5,rfl,h5,g5⟩ := all2_cons g4
  obtain ⟨p6,r6,rfl,h6,g6⟩ := all2_cons g5
  obtain ⟨p7,r7,rfl,h7,g7⟩ := all2_cons g6
  obtain ⟨p8,r8,rfl,h8,g8⟩ := all2_cons g7
  obtain ⟨p9,r9,rfl,h9,g9⟩ := all2_cons g8
  obtain ⟨p10,r10,rfl,h10,g10⟩ := all2_cons g9
  obtain ⟨p11,r11,rfl,h11,g11⟩ := all2_cons g10
  obtain ⟨p12,r12,rfl,h12,g12⟩ := all2_cons g11
  obtain ⟨p13,r13,rfl,h13,g13⟩ := all2_cons g12
  obtain ⟨p14,r14,rfl,h14,g14⟩ := all2_cons g13
  obtain ⟨p15,r15,rfl,h15,g15⟩ := all2_cons g14
  obtain ⟨p16,r16,rfl,h16,g16⟩ := all2_cons g15
  obtain ⟨p17,r17,rfl,h17,g17⟩ := all2_cons g16
  obtain rfl := all2_nil g17
  obtain ⟨c_nodes,rfl⟩ := has_int h0
  obtain ⟨c_topics,rfl⟩ := has_int h1
  obtain ⟨c_kids,rfl⟩ := has_int h2
  obtain ⟨c_depth,rfl⟩ := has_int h3
  obtain ⟨c_keep,rfl⟩ := has_int h4
  obtain ⟨c_window,rfl⟩ := has_int h5
  obtain ⟨c_queue,rfl⟩ := has_int h6
  obtain ⟨self,rfl⟩ := has_int h7
  obtain ⟨n_up,rfl⟩ := has_bool h8
  obtain ⟨n_inc,rfl⟩ := has_int h9
  obtain ⟨n_peers,rfl,s10⟩ := has_list (α := Go.Xt.Peer) h10 rfl rfl
  obtain ⟨n_topics,rfl,s11⟩ := has_list (α := Go.Xt.Topic) h11 rfl rfl
  obtain ⟨n_calls,rfl,s12⟩ := has_list (α := Go.Xt.Call) h12 rfl rfl
  obtain ⟨n_pubs,rfl⟩ := has_int h13
  obtain ⟨n_asks,rfl⟩ := has_int h14
  obtain ⟨n_marks,rfl,s15⟩ := has_list (α := Go.Xt.Mark) h15 rfl rfl
  obtain ⟨n_taken,rfl,s16⟩ := has_list (α := Go.Xt.Mark2) h16 rfl rfl
  obtain ⟨l,rfl,s17⟩ := has_list (α := Go.Xt.Msg) h17 rfl rfl
  exact r_law22_BeatExact
theorem BeatExact_hs {H : Type} (ds gs : List (DataW H)) (h : ds.length = 4) (hg : gs = []) : Rows.beatExactSpec.fn H (ds ++ gs) = { results := [.lit (.bool true)],args := ds,vars := [] } := by
  subst hg
  match ds,h with
  | [d0,d1,d2,d3],_ => rfl
theorem BeatExact_met (os : Os) (args : Array Value) : laidMetH Tryz.prog Rows.beatExactRow.laid ((laidWorld Tryz.prog 0 gErr os).forCall (fun _ _ => 0) ⟨#[],args,[]⟩).memory :=
  laidMetH_of_parts (laidMet_nil _ _) (by kernel_rfl)
theorem BeatExact_lifted (os : Os) (started : os.Started) (H : Type) (enc : TypeId × Value → H) :
    ReturnsInHanded {} Tryz.checked os 4 .any (fun w args => (Rows.beatExactSpec.pre enc Tryz.prog Tryz.f4 Rows.beatExactRow.domain false w args ∧ laidMetH Tryz.prog Rows.beatExactRow.laid w) ∧ sizedMet enc Tryz.prog Tryz.f4 (OpenSpec.ofChange Rows.beatExactSpec) false w args)
      (Rows.beatExactSpec.post enc Tryz.prog Tryz.f4 false true false false) := by
  refine returnsInHanded_of_change_and (C := Tryz.checked) (X := fun w _ => laidMetH Tryz.prog Rows.beatExactRow.laid w) (fun _ _ _ hh h => h.of_heap hh) Tryz.ownK started (by kernel_rfl) Tryz.func4
    (ChangeSpec.witness_at (enc := enc) (C := Tryz.checked) (os := os) (X := fun w _ => laidMetH Tryz.prog Rows.beatExactRow.laid w) false (laidWorld Tryz.prog 0 gErr os) #[.agg #[.int .i64 0,.int .i64 0,.int .i64 0,.int .i64 0,.int .i64 0,.int .i64 0,.int .i64 0],.int .i64 0,.agg #[.bool false,.int .i64 0,.slice none 0 0,.slice none 0 0,.slice none 0 0,.int .i64 0,.int .i64 0,.slice none 0 0,.slice none 0 0],.slice none 0 0] 8 rfl (by kernel_rfl) (by kernel_rfl) (by kernel_rfl) (by kernel_rfl) (by kernel_rfl) (BeatExact_met os _)) ?_
  intro W base args ds gs before hval0 hW _ hsz hL _
  have hval : ∀ (j : Nat) t v,Tryz.f4.params[j]? = some t → args[j]? = some v → Value.okWide Tryz.prog W .any base t v := hval0
  have hW' := hW
  obtain ⟨p,q,hA,hV,_,_,_⟩ := hW'
  have hn : ds.length = 4 := trodAll_len _ _ _ _ hA
  have hg : gs = [] := (trodVars_none hV).1
  exact law_calls (hP := ok_law22_BeatExact) Tryz.func4 (by kernel_rfl) (tb := Tryz.f4.resultTypes[0]!) (by kernel_rfl) (tys := [.int .i64,.int .i64,.int .i64,.int .i64,.int .i64,.int .i64,.int .i64,.int .i64,.bool,.int .i64,.list 16 [.int .i64,.int .i64],.list 200 [.bool,.bool,.int .i64,.int .i64,.int .i64,.int .i64,.int .i64,.int .i64,.list 8 [.int .i64],.list 24 [.int .i64,.int .i64,.int .i64],.int .i64,.int .i64,.int .i64,.list 16 [.int .i64,.int .i64],.list 16 [.int .i64,.int .i64],.list 48 [.int .i64,.int .i64,.int .i64,.int .i64,.int .i64,.int .i64]],.list 24 [.int .i64,.int .i64,.int .i64],.int .i64,.int .i64,.list 24 [.int .i64,.int .i64,.int .i64],.list 40 [.int .i64,.int .i64,.int .i64,.int .i64,.int .i64],.list 160 [.int .i64,.int .i64,.int .i64,.int .i64,.int .i64,.int .i64,.int .i64,.int .i64,.int .i64,.int .i64,.int .i64,.int .i64,.int .i64,.int .i64,.list 8 [.int .i64],.list 8 [.int .i64]]]) (by kernel_rfl) BeatExact_law Tryz.laidO
    (by decide +kernel) rfl (laid_met hL) (BeatExact_hs ds gs hn hg) hW hval (wts_of rfl hg hsz)
theorem beatExact_holds : Rows.BeatExactSaid :=
  OpenClaim.holds_of_wide 4 Tryz.f4 rfl rfl rfl rfl rfl rfl rfl ⟨rfl,rfl,rfl,rfl,rfl⟩ rfl rfl rfl rfl rfl (by kernel_rfl) Tryz.func4 beatExact_closed
    (of_decide_eq_true (by kernel_rfl)) (by unfold Func.isWrapper;first | (rw [if_pos (by decide +kernel)];kernel_rfl) | (rw [if_neg (by decide +kernel)];exact ⟨rfl,rfl⟩))
    (fun os started H enc _ => BeatExact_lifted os started H enc)
theorem beatExact_stands : (Tryz.f4.params.toList.all fun t => !Tryz.prog.wantsStandIn t) = true := by kernel_rfl
theorem beatExact_card : Rows.BeatExactCardSaid :=
  Claim7.holds_tied_plain_at .later [] [.handle] true (true, "9c96838d341e26dcdeea7ad17500304895db502e24ce241086ec14f18446b29b") true
    beatExact_holds (fun _ h => by cases h) (by kernel_rfl) (fun _ h => by cases h) beatExact_row_tie rfl ⟨rfl,rfl⟩ (by kernel_rfl) rfl
    (fun f fn hf hfn => by
      obtain rfl : f = 4 := Option.some.inj ((show Tryz.prog.funcNamed "bellwether/bellwetherlaw22.BeatExact" = some 4 by kernel_rfl).symm.trans hf) |>.symm
      obtain rfl : fn = Tryz.f4 := (Option.some.inj (Tryz.func4.symm.trans hfn)).symm
      refine ⟨by kernel_rfl,fun j t ht => ?_⟩
      have hm : t ∈ Tryz.f4.params.toList := by rw [Array.mem_toList_iff];exact Array.mem_of_getElem? ht
      have h2 : (!Tryz.prog.wantsStandIn t) = true := List.all_eq_true.1 beatExact_stands t hm
      cases hb : Tryz.prog.wantsStandIn t with
      | false => exact hb
      | true => rw [hb] at h2;cases h2)
    (by kernel_rfl)
end Go.Proofs.YtbobikmalojafaaGreatDoor
