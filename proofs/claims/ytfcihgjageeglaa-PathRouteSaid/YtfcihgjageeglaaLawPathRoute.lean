/- PathRoute: for every input the law returns true, and each argument reads afterwards as it read before. No further conditions. -/
import Derived.Test.YtfcihgjageeglaaOk
import Derived.Test.YtfcihgjageeglaaV3
import Derived.ProofKit
import Derived.Test.YtfcihgjageeglaaRows
namespace Go.Proofs.Ytfcihgjageeglaa
open Go.ChangeShapes Go.WideShapes Go.ChangeAt Go.RowKit Go.Xt
set_option maxRecDepth 100000
set_option linter.unusedVariables false
set_option linter.unusedSimpArgs false
theorem Try.ownK : ownKnob Try.prog.godebug = none := by kernel_rfl
theorem Try.laidO : laidOutB Try.prog = true := by kernel_rfl
theorem PathRoute_law : ∀ ps, All2 Has [.int .i64, .int .i64, .int .i64, .int .i64] ps → f_law12_PathRoute ps = some [.bool true] := by
  intro ps h
  match ps, h with
  | [p0, p1, p2, p3], ⟨h0, h1, h2, h3, _⟩ =>
    obtain ⟨t, rfl⟩ := has_int h0
    obtain ⟨bits, rfl⟩ := has_int h1
    obtain ⟨self, rfl⟩ := has_int h2
    obtain ⟨depth, rfl⟩ := has_int h3
    exact r_law12_PathRoute
theorem PathRoute_hs {H : Type} (ds gs : List (DataW H)) (h : ds.length = 4) (hg : gs = []) : Rows.pathRouteSpec.fn H (ds ++ gs) = { results := [.lit (.bool true)], args := ds, vars := [] } := by
  subst hg
  match ds, h with
  | [d0, d1, d2, d3], _ => rfl
theorem PathRoute_lifted (os : Os) (started : os.Started) (H : Type) (enc : TypeId × Value → H) :
    ReturnsInHanded {} Try.checked os 11 .any (Rows.pathRouteSpec.pre6 enc Try.prog Try.f11 Rows.pathRouteRow.domain false) (Rows.pathRouteSpec.post enc Try.prog Try.f11 false true false false) := by
  refine returnsInHanded_of_change (C := Try.checked) Try.ownK started (by kernel_rfl) Try.func11
    (ChangeSpec.witness6 (enc := enc) (C := Try.checked) false ⟨#[], #[.int .i64 0, .int .i64 0, .int .i64 0, .int .i64 0], []⟩ 8 (by kernel_rfl) (by kernel_rfl) (by kernel_rfl) (by kernel_rfl)) ?_
  intro W base args ds gs before hval0 hW hcnd _
  have hval : ∀ (j : Nat) t v, Try.f11.params[j]? = some t → args[j]? = some v → Value.okWide Try.prog W .any base t v := hval0
  have hW' := hW
  obtain ⟨p, q, hA, hV, _, _, _⟩ := hW'
  have hn : ds.length = 4 := trodAll_len _ _ _ _ hA
  exact law_calls (hP := ok_law12_PathRoute) Try.func11 (by kernel_rfl) (tb := Try.f11.resultTypes[0]!) (by kernel_rfl) (tys := [.int .i64, .int .i64, .int .i64, .int .i64]) (by kernel_rfl) PathRoute_law Try.laidO
    (by decide +kernel) rfl (PathRoute_hs ds gs hn (trodVars_none hV).1) hW hval
theorem pathRoute_holds : Rows.PathRouteSaid :=
  OpenClaim.holds_of_wide 11 Try.f11 rfl rfl rfl rfl rfl rfl rfl ⟨rfl, rfl, rfl, rfl, rfl⟩ rfl rfl rfl rfl rfl (by kernel_rfl) Try.func11 (by kernel_rfl)
    (of_decide_eq_true (by kernel_rfl)) (by unfold Func.isWrapper; first | (rw [if_pos (by decide +kernel)]; kernel_rfl) | (rw [if_neg (by decide +kernel)]; exact ⟨rfl, rfl⟩))
    (fun os started H enc _ => PathRoute_lifted os started H enc)
end Go.Proofs.Ytfcihgjageeglaa
