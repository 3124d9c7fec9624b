/- Steps towards the statements of this seat; the conditions stand in each theorem. -/
import Derived.Test.YtjolhiejojfkkaaGreatDoorOk
open Go.Proofs
set_option maxRecDepth 100000
set_option linter.unusedVariables false
set_option linter.unusedSimpArgs false
namespace Go.Xt
theorem Nd:O 10:=av af ar cZ 20 kA wB (ac je (ac jf (ac jZ (ac fU (ac mO (ac fT (ac kg (ac dY (ac jg (ac rm (ac qL an))))))))))) (.inl fun _=>rfl) (.inl rfl) (by kernel_rfl) (fun _=>rfl) fun _ hp hg=>x7 _ _ _ _ _ _ hg
end Go.Xt
