/- Steps towards the statements of this seat; the conditions stand in each theorem. -/
import Derived.ProofKit
import Derived.Test.YthpnjlaaannaaaaGreatDoorRows
import Derived.ChangeSame
import Derived.JoinedOf
import Derived.RowKit
import Derived.SevenTiedAt
import Derived.Test.YthpnjlaaannaaaaGreatDoorCards
import Derived.Test.YthpnjlaaannaaaaGreatDoorTie
import Derived.Test.YthpnjlaaannaaaaGreatDoorEr6
import Derived.Test.YthpnjlaaannaaaaGreatDoorOk
import Derived.Test.YthpnjlaaannaaaaGreatDoorV3
import Derived.Test.YthpnjlaaannaaaaGreatDoorV5
import Derived.Test.YthpnjlaaannaaaaGreatDoorV6
/- CastHeard: for every input the law returns true, and each argument reads afterwards as it read before. No further conditions. -/
namespace Go.Proofs.YthpnjlaaannaaaaGreatDoor
open Go.ChangeShapes Go.WideShapes Go.ChangeAt Go.RowKit Go.Xt
set_option maxRecDepth 100000
set_option linter.unusedVariables false
set_option linter.unusedSimpArgs false
theorem Tryz.ownK : ownKnob Tryz.prog.godebug = none := by kernel_rfl
theorem Tryz.laidO : laidOutB Tryz.prog = true := by kernel_rfl
theorem CastHeard_law : ∀ ps, All2 Has [.int .i64, .int .i64, .int .i64, .int .i64, .int .i64, .int .i64, .int .i64, .int .i64, .bool, .int .i64, .list 16 [.int .i64, .int .i64], .list 200 [.bool, .bool, .int .i64, .int .i64, .int .i64, .int .i64, .int .i64, .int .i64, .list 8 [.int .i64], .list 24 [.int .i64, .int .i64, .int .i64], .int .i64, .int .i64, .int .i64, .list 16 [.int .i64, .int .i64], .list 16 [.int .i64, .int .i64], .list 48 [.int .i64, .int .i64, .int .i64, .int .i64, .int .i64, .int .i64]], .list 24 [.int .i64, .int .i64, .int .i64], .int .i64, .int .i64, .list 24 [.int .i64, .int .i64, .int .i64], .list 40 [.int .i64, .int .i64, .int .i64, .int .i64, .int .i64], .int .i64, .int .i64, .int .i64, .bool] ps → f_law21_CastHeard ps = some [.bool true] := by
  intro ps h
  match ps, h with
  | [p0, p1, p2, p3, p4, p5, p6, p7, p8, p9, p10, p11, p12, p13, p14, p15, p16, p17, p18, p19, p20], ⟨h0, h1, h2, h3, h4, h5, h6, h7, h8, h9, h10, h11, h12, h13, h14, h15, h16, h17, h18, h19, h20, _⟩ =>
    obtain ⟨c_nodes, rfl⟩ := has_int h0
    obtain ⟨c_topics, rfl⟩ := has_int h1
    obtain ⟨c_kids, rfl⟩ := has_int h2
    obtain ⟨c_depth, rfl⟩ := has_int h3
    obtain ⟨c_keep, rfl⟩ := has_int h4
    obtain ⟨c_window, rfl⟩ := has_int h5
    obtain ⟨c_queue, rfl⟩ := has_int h6
    obtain ⟨self, rfl⟩ := has_int h7
    obtain ⟨n_up, rfl⟩ := has_bool h8
    obtain ⟨n_inc, rfl⟩ := has_int h9
    obtain ⟨n_peers, rfl, s10⟩ := has_list (α := Go.Xt.Peer) h10 rfl rfl
    obtain ⟨n_topics, rfl, s11⟩ := has_list (α := Go.Xt.Topic) h11 rfl rfl
    obtain ⟨n_calls, rfl, s12⟩ := has_list (α := Go.Xt.Call) h12 rfl rfl
    obtain ⟨n_pubs, rfl⟩ := has_int h13
    obtain ⟨n_asks, rfl⟩ := has_int h14
    obtain ⟨n_marks, rfl, s15⟩ := has_list (α := Go.Xt.Mark) h15 rfl rfl
    obtain ⟨n_taken, rfl, s16⟩ := has_list (α := Go.Xt.Mark2) h16 rfl rfl
    obtain ⟨count, rfl⟩ := has_int h17
    obtain ⟨t, rfl⟩ := has_int h18
    obtain ⟨who, rfl⟩ := has_int h19
    obtain ⟨found, rfl⟩ := has_bool h20
    exact r_law21_CastHeard
theorem CastHeard_hs {H : Type} (ds gs : List (DataW H)) (h : ds.length = 7) (hg : gs = []) : Rows.castHeardSpec.fn H (ds ++ gs) = { results := [.lit (.bool true)], args := ds, vars := [] } := by
  subst hg
  match ds, h with
  | [d0, d1, d2, d3, d4, d5, d6], _ => rfl
theorem CastHeard_met (os : Os) (args : Array Value) : laidMetH Tryz.prog Rows.castHeardRow.laid ((laidWorld Tryz.prog 0 gErr os).forCall (fun _ _ => 0) ⟨#[], args, []⟩).memory :=
  laidMetH_of_parts (laidMet_nil _ _) (by kernel_rfl)
theorem CastHeard_lifted (os : Os) (started : os.Started) (H : Type) (enc : TypeId × Value → H) :
    ReturnsInHanded {} Tryz.checked os 5 .any (fun w args => (Rows.castHeardSpec.pre enc Tryz.prog Tryz.f5 Rows.castHeardRow.domain false w args ∧ laidMetH Tryz.prog Rows.castHeardRow.laid w) ∧ sizedMet enc Tryz.prog Tryz.f5 (OpenSpec.ofChange Rows.castHeardSpec) false w args)
      (Rows.castHeardSpec.post enc Tryz.prog Tryz.f5 false true false false) := by
  refine returnsInHanded_of_change_and (C := Tryz.checked) (X := fun w _ => laidMetH Tryz.prog Rows.castHeardRow.laid w) (fun _ _ _ hh h => h.of_heap hh) Tryz.ownK started (by kernel_rfl) Tryz.func5
    (ChangeSpec.witness_at (enc := enc) (C := Tryz.checked) (os := os) (X := fun w _ => laidMetH Tryz.prog Rows.castHeardRow.laid w) false (laidWorld Tryz.prog 0 gErr os) #[.agg #[.int .i64 0, .int .i64 0, .int .i64 0, .int .i64 0, .int .i64 0, .int .i64 0, .int .i64 0], .int .i64 0, .agg #[.bool false, .int .i64 0, .slice none 0 0, .slice none 0 0, .slice none 0 0, .int .i64 0, .int .i64 0, .slice none 0 0, .slice none 0 0], .int .i64 0, .int .i64 0, .int .i64 0, .bool false] 8 rfl (by kernel_rfl) (by kernel_rfl) (by kernel_rfl) (by kernel_rfl) (by kernel_rfl) (CastHeard_met os _)) ?_
  intro W base args ds gs before hval0 hW _ hsz hL _
  have hval : ∀ (j : Nat) t v, Tryz.f5.params[j]? = some t → args[j]? = some v → Value.okWide Tryz.prog W .any base t v := hval0
  have hW' := hW
  obtain ⟨p, q, hA, hV, _, _, _⟩ := hW'
  have hn : ds.length = 7 := trodAll_len _ _ _ _ hA
  have hg : gs = [] := (trodVars_none hV).1
  exact law_calls (hP := ok_law21_CastHeard) Tryz.func5 (by kernel_rfl) (tb := Tryz.f5.resultTypes[0]!) (by kernel_rfl) (tys := [.int .i64, .int .i64, .int .i64, .int .i64, .int .i64, .int .i64, .int .i64, .int .i64, .bool, .int .i64, .list 16 [.int .i64, .int .i64], .list 200 [.bool, .bool, .int .i64, .int .i64, .int .i64, .int .i64, .int .i64, .int .i64, .list 8 [.int .i64], .list 24 [.int .i64, .int .i64, .int .i64], .int .i64, .int .i64, .int .i64, .list 16 [.int .i64, .int .i64], .list 16 [.int .i64, .int .i64], .list 48 [.int .i64, .int .i64, .int .i64, .int .i64, .int .i64, .int .i64]], .list 24 [.int .i64, .int .i64, .int .i64], .int .i64, .int .i64, .list 24 [.int .i64, .int .i64, .int .i64], .list 40 [.int .i64, .int .i64, .int .i64, .int .i64, .int .i64], .int .i64, .int .i64, .int .i64, .bool]) (by kernel_rfl) CastHeard_law Tryz.laidO
    (by decide +kernel) rfl (laid_met hL) (CastHeard_hs ds gs hn hg) hW hval (wts_of rfl hg hsz)
theorem castHeard_holds : Rows.CastHeardSaid :=
  OpenClaim.holds_of_wide 5 Tryz.f5 rfl rfl rfl rfl rfl rfl rfl ⟨rfl, rfl, rfl, rfl, rfl⟩ rfl rfl rfl rfl rfl (by kernel_rfl) Tryz.func5 (by kernel_rfl)
    (of_decide_eq_true (by kernel_rfl)) (by unfold Func.isWrapper; first | (rw [if_pos (by decide +kernel)]; kernel_rfl) | (rw [if_neg (by decide +kernel)]; exact ⟨rfl, rfl⟩))
    (fun os started H enc _ => CastHeard_lifted os started H enc)
theorem castHeard_stands : (Tryz.f5.params.toList.all fun t => !Tryz.prog.wantsStandIn t) = true := by kernel_rfl
theorem castHeard_card : Rows.CastHeardCardSaid :=
  Claim7.holds_tied_plain_at .later [] [.handle] true (true, "4bd87573eeb22c743326f309f2bcd0a6f0dafecc52b8d232b74fbad6ba4b3b99") true
    castHeard_holds (fun _ h => by cases h) (by kernel_rfl) (fun _ h => by cases h) castHeard_row_tie rfl ⟨rfl, rfl⟩ (by kernel_rfl) rfl
    (fun f fn hf hfn => by
      obtain rfl : f = 5 := Option.some.inj ((show Tryz.prog.funcNamed "bellwether/bellwetherlaw21.CastHeard" = some 5 by kernel_rfl).symm.trans hf) |>.symm
      obtain rfl : fn = Tryz.f5 := (Option.some.inj (Tryz.func5.symm.trans hfn)).symm
      refine ⟨by kernel_rfl, fun j t ht => ?_⟩
      have hm : t ∈ Tryz.f5.params.toList := by rw [Array.mem_toList_iff]; exact Array.mem_of_getElem? ht
      have h2 : (!Tryz.prog.wantsStandIn t) = true := List.all_eq_true.1 castHeard_stands t hm
      cases hb : Tryz.prog.wantsStandIn t with
      | false => exact hb
      | true => rw [hb] at h2; cases h2)
    (by kernel_rfl)
end Go.Proofs.YthpnjlaaannaaaaGreatDoor
