/- Steps towards the statements of this seat; the conditions stand in each theorem. -/
import Derived.Test.YtahdphncepnbeaaGreatDoorOk
open Go.Proofs
set_option maxRecDepth 100000
set_option linter.unusedVariables false
set_option linter.unusedSimpArgs false
namespace Go.Xt
theorem MG:O 6:=ar ab aq cJ 19 jV vQ (ac mS (ac jZ (ac lP (ac qj (ac ux (ac D6 (ac oQ (ac uw (ac yT (ac FK (ac Df (ac fD (ac yU (ac FN (ac Da (ac uu an)))))))))))))))) (.inl fun _=>rfl) (.inl rfl) (by kernel_rfl) (fun _=>rfl) fun _ hp hg=>wo _ _ _ _ _ hg
end Go.Xt
