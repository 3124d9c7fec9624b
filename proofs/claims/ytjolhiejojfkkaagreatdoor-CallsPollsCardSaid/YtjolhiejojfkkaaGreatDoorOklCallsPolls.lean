/- Steps towards the statements of this seat; the conditions stand in each theorem. -/
import Derived.Test.YtjolhiejojfkkaaGreatDoorOk
open Go.Proofs
set_option maxRecDepth 100000
set_option linter.unusedVariables false
set_option linter.unusedSimpArgs false
namespace Go.Xt
theorem Nc:O 5:=av af ar cX 18 kx wy (ac je (ac jf (ac jZ (ac fU (ac wj (ac iF (ac mO an))))))) (.inl fun _=>rfl) (.inl rfl) (by kernel_rfl) (fun _=>rfl) fun _ hp hg=>x5 _ _ _ _ hg
end Go.Xt
