/- Steps towards the statements of this seat; the conditions stand in each theorem. -/
import Derived.Test.YtbobikmalojafaaGreatDoorRows
import Derived.Test.YtbobikmalojafaaGreatDoorH
import Derived.Test.YtbobikmalojafaaGreatDoorT
open Go.Proofs
set_option maxRecDepth 100000
namespace Go.Xt
theorem Eb:(vv Tryz.prog [⟨16,none,none,false⟩,⟨31,some 0,none,true⟩,⟨32,none,none,false⟩,⟨44,some 3,none,false⟩,⟨50,none,none,false⟩,⟨73,some 0,none,false⟩,⟨74,some 0,none,true⟩,⟨119,none,none,false⟩,⟨138,some 0,none,true⟩,⟨139,none,none,false⟩,⟨141,none,none,false⟩,⟨142,none,none,false⟩,⟨166,none,none,false⟩,⟨193,none,none,false⟩,⟨222,none,none,false⟩] uo 20 ⟨27,none,none,false⟩).map (fun t ρ=>JZ 17 fun l Q=>W ρ t l [] Q)=some lE:=by kernel_rfl
end Go.Xt
