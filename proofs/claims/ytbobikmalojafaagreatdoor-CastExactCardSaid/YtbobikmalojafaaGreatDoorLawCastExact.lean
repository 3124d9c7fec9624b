/- CastExact: for every input the law returns true, and each argument reads afterwards as it read before. No further conditions. -/
import Derived.ProofKit
import Derived.Test.YtbobikmalojafaaGreatDoorRows
import Derived.ChangeSame
import Derived.JoinedOf
import Derived.RowKit
import Derived.SevenTiedAt
import Derived.Test.YtbobikmalojafaaGreatDoorCards
import Derived.Test.YtbobikmalojafaaGreatDoorTie
import Derived.Test.YtbobikmalojafaaGreatDoorEr6
import Derived.Test.YtbobikmalojafaaGreatDoorOk
import Derived.Test.YtbobikmalojafaaGreatDoorV3
import Derived.Test.YtbobikmalojafaaGreatDoorCloCastExact
import Derived.Test.YtbobikmalojafaaGreatDoorV5
import Derived.Test.YtbobikmalojafaaGreatDoorV6
namespace Go.Proofs.YtbobikmalojafaaGreatDoor
open Go.ChangeShapes Go.WideShapes Go.ChangeAt Go.RowKit Go.Xt
set_option maxRecDepth 100000
set_option linter.unusedVariables false
set_option linter.unusedSimpArgs false
theorem Tryz.ownK : ownKnob Tryz.prog.godebug = none := by kernel_rfl
theorem Tryz.laidO : laidOutB Tryz.prog = true := by kernel_rfl
theorem CastExact_law : ∀ ps,All2 Has [.int .i64,.int .i64,.int .i64,.int .i64,.int .i64,.int .i64,.int .i64,.int .i64,.bool,.int .i64,.list 16 [.int .i64,.int .i64],.list 200 [.bool,.bool,.int .i64,.int .i64,.int .i64,.int .i64,.int .i64,.int .i64,.list 8 [.int .i64],.list 24 [.int .i64,.int .i64,.int .i64],.int .i64,.int .i64,.int .i64,.list 16 [.int .i64,.int .i64],.list 16 [.int .i64,.int .i64],.list 48 [.int .i64,.int .i64,.int .i64,.int .i64,.int .i64,.int .i64]],.list 24 [.int .i64,.int .i64,.int .i64],.int .i64,.int .i64,.list 24 [.int .i64,.int .i64,.int .i64],.list 40 [.int .i64,.int .i64,.int .i64,.int .i64,.int .i64],.int .i64,.int .i64,.int .i64,.int .i64,.int .i64,.int .i64,.int .i64,.int .i64,.int .i64,.int .i64,.int .i64,.int .i64,.int .i64,.int .i64,.int .i64,.int .i64,.list 8 [.int .i64],.list 8 [.int .i64]] ps → f_law21_CastExact ps = some [.bool true] := by
  intro ps h
  obtain ⟨p0,r0,rfl,h0,g0⟩ := all2_cons h
  obtain ⟨p1,r1,rfl,h1,g1⟩ := all2_cons g0
  obtain ⟨p2,r2,rfl,h2,g2⟩ := all2_cons g1
  obtain ⟨p3,r3,rfl,h3,g3⟩ := all2_cons g2
  obtain ⟨p4,r4,rfl,h4,g4⟩ := all2_cons g3
  obtain ⟨p5,r5,rfl,h5,g5⟩ := all2_cons g4
  obtain ⟨p6,r6,rfl,h6,g6⟩ := all2_cons g5
  obtain ⟨p7,r7,rfl,h7,g7⟩ := all2_cons g6
  obtain ⟨p8,r8,rfl,h8,g8⟩ := all2_cons g7
  obtain ⟨p9,r9,rfl,h9,g9⟩ := all2_cons g8
  obtain ⟨p10,r10,rfl,h10,g10⟩ := all2_cons g9
  obtain ⟨p11,r11,rfl,h11,g11⟩ := all2_cons g10
  obtain ⟨p12,r12,rfl,h12,g12⟩ := all2_cons g11
  obtain ⟨p13,r13,rfl,h13,g13⟩ := all2_cons g12
  obtain ⟨p14,r14,rfl,h14,g14⟩ := all2_cons g13
  obtain ⟨p15,r15,rfl,h15,g15⟩ := all2_cons g14
  obtain ⟨p16,r16,rfl,h16,g16⟩ := all2_cons g15
  obtain ⟨p17,r17,rfl,h17,g17⟩ := all2_cons g16
  obtain ⟨p18,r18,rfl,h18,g18⟩ := all2_cons g17
  obtain ⟨p19,r19,rfl,h19,g19⟩ := all2_cons g18
  obtain ⟨p20,r20,rfl,h20,g20⟩ := all2_cons g19
  obtain ⟨p21,r21,rfl,h21,g21⟩ := all2_cons g20
  obtain ⟨p22,r22,rfl,h22,g22⟩ := all2_cons g21
  obtain ⟨p23,r23,rfl,h23,g23⟩ := all2_cons g22
  obtain ⟨p24,r24,rfl,h24,g24⟩ := all2_cons g23
  obtain ⟨p25,r25,rfl,h25,g25⟩ := all2_cons g24
  obtain ⟨p26,r26,rfl,h26,g26⟩ := all2_cons g25
  obtain ⟨p27,r27,rfl,h27,g27⟩ := all2_cons g26
  obtain ⟨p28,r28,rfl,h28,g28⟩ := all2_cons g27
  obtain ⟨p29,r29,rfl,h29,g29⟩ := all2_cons g28
  obtain ⟨p30,r30,rfl,h30,g30⟩ := all2_cons g29
  obtain ⟨p31,r31,rfl,h31,g31⟩ := all2_cons g30
  obtain ⟨p32,r32,rfl,h32,g32⟩ := all2_cons g31
  obtain ⟨p33,r33,rfl,h33,g33⟩ := all2_cons g32
  obtain ⟨p34,r34,rfl,h34,g34⟩ := all2_cons g33
  obtain rfl := all2_nil g34
  obtain ⟨c_nodes,rfl⟩ := has_int h0
  obtain ⟨c_topics,rfl⟩ := has_int h1
  obtain ⟨c_kids,rfl⟩ := has_int h2
  obtain ⟨c_depth,rfl⟩ := has_int h3
  obtain ⟨c_keep,rfl⟩ := has_int h4
  obtain ⟨c_window,rfl⟩ := has_int h5
  obtain ⟨c_queue,rfl⟩ := has_int h6
  obtain ⟨self,rfl⟩ := has_int h7
  obtain ⟨n_up,rfl⟩ := has_bool h8
  obtain ⟨n_inc,rfl⟩ := has_int h9
  obtain ⟨n_peers,rfl,s10⟩ := has_list (α := Go.Xt.Peer) h10 rfl rfl
  obtain ⟨n_topics,rfl,s11⟩ := has_list (α := Go.Xt.Topic) h11 rfl rfl
  obtain ⟨n_calls,rfl,s12⟩ := has_list (α := Go.Xt.Call) h12 rfl rfl
  obtain ⟨n_pubs,rfl⟩ := has_int h13
  obtain ⟨n_asks,rfl⟩ := has_int h14
  obtain ⟨n_marks,rfl,s15⟩ := has_list (α := Go.Xt.Mark) h15 rfl rfl
  obtain ⟨n_taken,rfl,s16⟩ := has_list (α := Go.Xt.Mark2) h16 rfl rfl
  obtain ⟨t,rfl⟩ := has_int h17
  obtain ⟨value,rfl⟩ := has_int h18
  obtain ⟨x_kind,rfl⟩ := has_int h19
  obtain ⟨x_frm,rfl⟩ := has_int h20
  obtain ⟨x_fromInc,rfl⟩ := has_int h21
  obtain ⟨x_to,rfl⟩ := has_int h22
  obtain ⟨x_toInc,rfl⟩ := has_int h23
  obtain ⟨x_topic,rfl⟩ := has_int h24
  obtain ⟨x_epoch,rfl⟩ := has_int h25
  obtain ⟨x_seq,rfl⟩ := has_int h26
  obtain ⟨x_last,rfl⟩ := has_int h27
  obtain ⟨x_value,rfl⟩ := has_int h28
  obtain ⟨x_node,rfl⟩ := has_int h29
  obtain ⟨x_inc,rfl⟩ := has_int h30
  obtain ⟨x_count,rfl⟩ := has_int h31
  obtain ⟨x_hops,rfl⟩ := has_int h32
  obtain ⟨x_path,rfl,s33⟩ := has_list (α := Int) h33 rfl rfl
  obtain ⟨x_todo,rfl,s34⟩ := has_list (α := Int) h34 rfl rfl
  exact r_law21_CastExact
theorem CastExact_hs {H : Type} (ds gs : List (DataW H)) (h : ds.length = 6) (hg : gs = []) : Rows.castExactSpec.fn H (ds ++ gs) = { results := [.lit (.bool true)],args := ds,vars := [] } := by
  subst hg
  match ds,h with
  | [d0,d1,d2,d3,d4,d5],_ => rfl
theorem CastExact_met (os : Os) (args : Array Value) : laidMetH Tryz.prog Rows.castExactRow.laid ((laidWorld Tryz.prog 0 gErr os).forCall (fun _ _ => 0) ⟨#[],args,[]⟩).memory :=
  laidMetH_of_parts (laidMet_nil _ _) (by kernel_rfl)
theorem CastExact_lifted (os : Os) (started : os.Started) (H : Type) (enc : TypeId × Value → H) :
    ReturnsInHanded {} Tryz.checked os 3 .any (fun w args => (Rows.castExactSpec.pre enc Tryz.prog Tryz.f3 Rows.castExactRow.domain false w args ∧ laidMetH Tryz.prog Rows.castExactRow.laid w) ∧ sizedMet enc Tryz.prog Tryz.f3 (OpenSpec.ofChange Rows.castExactSpec) false w args)
      (Rows.castExactSpec.post enc Tryz.prog Tryz.f3 false true false false) := by
  refine returnsInHanded_of_change_and (C := Tryz.checked) (X := fun w _ => laidMetH Tryz.prog Rows.castExactRow.laid w) (fun _ _ _ hh h => h.of_heap hh) Tryz.ownK started (by kernel_rfl) Tryz.func3
    (ChangeSpec.witness_at (enc := enc) (C := Tryz.checked) (os := os) (X := fun w _ => laidMetH Tryz.prog Rows.castExactRow.laid w) false (laidWorld Tryz.prog 0 gErr os) #[.agg #[.int .i64 0,.int .i64 0,.int .i64 0,.int .i64 0,.int .i64 0,.int .i64 0,.int .i64 0],.int .i64 0,.agg #[.bool false,.int .i64 0,.slice none 0 0,.slice none 0 0,.slice none 0 0,.int .i64 0,.int .i64 0,.slice none 0 0,.slice none 0 0],.int .i64 0,.int .i64 0,.agg #[.int .i64 0,.int .i64 0,.int .i64 0,.int .i64 0,.int .i64 0,.int .i64 0,.int .i64 0,.int .i64 0,.int .i64 0,.int .i64 0,.int .i64 0,.int .i64 0,.int .i64 0,.int .i64 0,.slice none 0 0,.slice none 0 0]] 8 rfl (by kernel_rfl) (by kernel_rfl) (by kernel_rfl) (by kernel_rfl) (by kernel_rfl) (CastExact_met os _)) ?_
  intro W base args ds gs before hval0 hW _ hsz hL _
  have hval : ∀ (j : Nat) t v,Tryz.f3.params[j]? = some t → args[j]? = some v → Value.okWide Tryz.prog W .any base t v := hval0
  have hW' := hW
  obtain ⟨p,q,hA,hV,_,_,_⟩ := hW'
  have hn : ds.length = 6 := trodAll_len _ _ _ _ hA
  have hg : gs = [] := (trodVars_none hV).1
  exact law_calls (hP := ok_law21_CastExact) Tryz.func3 (by kernel_rfl) (tb := Tryz.f3.resultTypes[0]!) (by kernel_rfl) (tys := [.int .i64,.int .i64,.int .i64,.int .i64,.int .i64,.int .i64,.int .i64,.int .i64,.bool,.int .i64,.list 16 [.int .i64,.int .i64],.list 200 [.bool,.bool,.int .i64,.int .i64,.int .i64,.int .i64,.int .i64,.int .i64,.list 8 [.int .i64],.list 24 [.int .i64,.int .i64,.int .i64],.int .i64,.int .i64,.int .i64,.list 16 [.int .i64,.int .i64],.list 16 [.int .i64,.int .i64],.list 48 [.int .i64,.int .i64,.int .i64,.int .i64,.int .i64,.int .i64]],.list 24 [.int .i64,.int .i64,.int .i64],.int .i64,.int .i64,.list 24 [.int .i64,.int .i64,.int .i64],.list 40 [.int .i64,.int .i64,.int .i64,.int .i64,.int .i64],.int .i64,.int .i64,.int .i64,.int .i64,.int .i64,.int .i64,.int .i64,.int .i64,.int .i64,.int .i64,.int .i64,.int .i64,.int .i64,.int .i64,.int .i64,.int .i64,.list 8 [.int .i64],.list 8 [.int .i64]]) (by kernel_rfl) CastExact_law Tryz.laidO
    (by decide +kernel) rfl (laid_met hL) (CastExact_hs ds gs hn hg) hW hval (wts_of rfl hg hsz)
theorem castExact_holds : Rows.CastExactSaid :=
  OpenClaim.holds_of_wide 3 Tryz.f3 rfl rfl rfl rfl rfl rfl rfl ⟨rfl,rfl,rfl,rfl,rfl⟩ rfl rfl rfl rfl rfl (by kernel_rfl) Tryz.func3 castExact_closed
    (of_decide_eq_true (by kernel_rfl)) (by unfold Func.isWrapper;first | (rw [if_pos (by decide +kernel)];kernel_rfl) | (rw [if_neg (by decide +kernel)];exact ⟨rfl,rfl⟩))
    (fun os started H enc _ => CastExact_lifted os started H enc)
theorem castExact_stands : (Tryz.f3.params.toList.all fun t => !Tryz.prog.wantsStandIn t) = true := by kernel_rfl
theorem castExact_card : Rows.CastExactCardSaid :=
  Claim7.holds_tied_plain_at .later [] [.handle] true (true, "9c96838d341e26dcdeea7ad17500304895db502e24ce241086ec14f18446b29b") true
    castExact_holds (fun _ h => by cases h) (by kernel_rfl) (fun _ h => by cases h) castExact_row_tie rfl ⟨rfl,rfl⟩ (by kernel_rfl) rfl
    (fun f fn hf hfn => by
      obtain rfl : f = 3 := Option.some.inj ((show Tryz.prog.funcNamed "bellwether/bellwetherlaw21.CastExact" = some 3 by kernel_rfl).symm.trans hf) |>.symm
      obtain rfl : fn = Tryz.f3 := (Option.some.inj (Tryz.func3.symm.trans hfn)).symm
      refine ⟨by kernel_rfl,fun j t ht => ?_⟩
      have hm : t ∈ Tryz.f3.params.toList := by rw [Array.mem_toList_iff];exact Array.mem_of_getElem? ht
      have h2 : (!Tryz.prog.wantsStandIn t) = true := List.all_eq_true.1 castExact_stands t hm
      cases hb : Tryz.prog.wantsStandIn t with
      | false => exact hb
      | true => rw [hb] at h2;cases h2)
    (by kernel_rfl)
end Go.Proofs.YtbobikmalojafaaGreatDoor
