/- Steps towards the statements of this seat; the conditions stand in each theorem. -/
import Derived.ProofKit
import Derived.Test.YtbahjmohodgadaaGreatDoorRows
import Derived.ChangeSame
import Derived.JoinedOf
import Derived.RowKit
import Derived.SevenTiedAt
import Derived.Test.YtbahjmohodgadaaGreatDoorCards
import Derived.Test.YtbahjmohodgadaaGreatDoorTie
import Derived.Test.YtbahjmohodgadaaGreatDoorEr6
import Derived.Test.YtbahjmohodgadaaGreatDoorOk
import Derived.Test.YtbahjmohodgadaaGreatDoorV3
import Derived.Test.YtbahjmohodgadaaGreatDoorV5
import Derived.Test.YtbahjmohodgadaaGreatDoorV6
/- CheckRises: for every input the law returns true, and each argument reads afterwards as it read before. No further conditions. -/
namespace Go.Proofs.YtbahjmohodgadaaGreatDoor
open Go.ChangeShapes Go.WideShapes Go.ChangeAt Go.RowKit Go.Xt
set_option maxRecDepth 100000
set_option linter.unusedVariables false
set_option linter.unusedSimpArgs false
theorem Tryz.ownK : ownKnob Tryz.prog.godebug = none := by kernel_rfl
theorem Tryz.laidO : laidOutB Tryz.prog = true := by kernel_rfl
theorem CheckRises_law : ∀ ps, All2 Has [.int .i64, .int .i64, .int .i64] ps → f_law27_CheckRises ps = some [.bool true] := by
  intro ps h
  match ps, h with
  | [p0, p1, p2], ⟨h0, h1, h2, _⟩ =>
    obtain ⟨n, rfl⟩ := has_int h0
    obtain ⟨at_, rfl⟩ := has_int h1
    obtain ⟨how, rfl⟩ := has_int h2
    exact r_law27_CheckRises
theorem CheckRises_hs {H : Type} (ds gs : List (DataW H)) (h : ds.length = 3) (hg : gs = []) : Rows.checkRisesSpec.fn H (ds ++ gs) = { results := [.lit (.bool true)], args := ds, vars := [] } := by
  subst hg
  match ds, h with
  | [d0, d1, d2], _ => rfl
theorem CheckRises_met (os : Os) (args : Array Value) : laidMetH Tryz.prog Rows.checkRisesRow.laid ((laidWorld Tryz.prog 0 gErr os).forCall (fun _ _ => 0) ⟨#[], args, []⟩).memory :=
  laidMetH_of_parts (laidMet_nil _ _) (by kernel_rfl)
theorem CheckRises_lifted (os : Os) (started : os.Started) (H : Type) (enc : TypeId × Value → H) :
    ReturnsInHanded {} Tryz.checked os 4 .any (fun w args => (Rows.checkRisesSpec.pre enc Tryz.prog Tryz.f4 Rows.checkRisesRow.domain false w args ∧ laidMetH Tryz.prog Rows.checkRisesRow.laid w) ∧ sizedMet enc Tryz.prog Tryz.f4 (OpenSpec.ofChange Rows.checkRisesSpec) false w args)
      (Rows.checkRisesSpec.post enc Tryz.prog Tryz.f4 false true false false) := by
  refine returnsInHanded_of_change_and (C := Tryz.checked) (X := fun w _ => laidMetH Tryz.prog Rows.checkRisesRow.laid w) (fun _ _ _ hh h => h.of_heap hh) Tryz.ownK started (by kernel_rfl) Tryz.func4
    (ChangeSpec.witness_at (enc := enc) (C := Tryz.checked) (os := os) (X := fun w _ => laidMetH Tryz.prog Rows.checkRisesRow.laid w) false (laidWorld Tryz.prog 0 gErr os) #[.int .i64 0, .int .i64 0, .int .i64 0] 8 rfl (by kernel_rfl) (by kernel_rfl) (by kernel_rfl) (by kernel_rfl) (by kernel_rfl) (CheckRises_met os _)) ?_
  intro W base args ds gs before hval0 hW _ hsz hL _
  have hval : ∀ (j : Nat) t v, Tryz.f4.params[j]? = some t → args[j]? = some v → Value.okWide Tryz.prog W .any base t v := hval0
  have hW' := hW
  obtain ⟨p, q, hA, hV, _, _, _⟩ := hW'
  have hn : ds.length = 3 := trodAll_len _ _ _ _ hA
  have hg : gs = [] := (trodVars_none hV).1
  exact law_calls (hP := ok_law27_CheckRises) Tryz.func4 (by kernel_rfl) (tb := Tryz.f4.resultTypes[0]!) (by kernel_rfl) (tys := [.int .i64, .int .i64, .int .i64]) (by kernel_rfl) CheckRises_law Tryz.laidO
    (by decide +kernel) rfl (laid_met hL) (CheckRises_hs ds gs hn hg) hW hval (wts_of rfl hg hsz)
theorem checkRises_holds : Rows.CheckRisesSaid :=
  OpenClaim.holds_of_wide 4 Tryz.f4 rfl rfl rfl rfl rfl rfl rfl ⟨rfl, rfl, rfl, rfl, rfl⟩ rfl rfl rfl rfl rfl (by kernel_rfl) Tryz.func4 (by kernel_rfl)
    (of_decide_eq_true (by kernel_rfl)) (by unfold Func.isWrapper; first | (rw [if_pos (by decide +kernel)]; kernel_rfl) | (rw [if_neg (by decide +kernel)]; exact ⟨rfl, rfl⟩))
    (fun os started H enc _ => CheckRises_lifted os started H enc)
theorem checkRises_stands : (Tryz.f4.params.toList.all fun t => !Tryz.prog.wantsStandIn t) = true := by kernel_rfl
theorem checkRises_card : Rows.CheckRisesCardSaid :=
  Claim7.holds_tied_plain_at .later [] [.handle] true (true, "c33e0139d13033c643f776f22d2ed49f3954087d9d5d42aa87d6b1dac2dbb079") true
    checkRises_holds (fun _ h => by cases h) (by kernel_rfl) (fun _ h => by cases h) checkRises_row_tie rfl ⟨rfl, rfl⟩ (by kernel_rfl) rfl
    (fun f fn hf hfn => by
      obtain rfl : f = 4 := Option.some.inj ((show Tryz.prog.funcNamed "bellwether/bellwetherlaw27.CheckRises" = some 4 by kernel_rfl).symm.trans hf) |>.symm
      obtain rfl : fn = Tryz.f4 := (Option.some.inj (Tryz.func4.symm.trans hfn)).symm
      refine ⟨by kernel_rfl, fun j t ht => ?_⟩
      have hm : t ∈ Tryz.f4.params.toList := by rw [Array.mem_toList_iff]; exact Array.mem_of_getElem? ht
      have h2 : (!Tryz.prog.wantsStandIn t) = true := List.all_eq_true.1 checkRises_stands t hm
      cases hb : Tryz.prog.wantsStandIn t with
      | false => exact hb
      | true => rw [hb] at h2; cases h2)
    (by kernel_rfl)
end Go.Proofs.YtbahjmohodgadaaGreatDoor
