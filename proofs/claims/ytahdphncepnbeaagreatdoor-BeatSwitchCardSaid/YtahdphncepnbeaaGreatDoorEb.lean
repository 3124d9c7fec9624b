/- Steps towards the statements of this seat; the conditions stand in each theorem. -/
import Derived.Test.YtahdphncepnbeaaGreatDoorRows
import Derived.Test.YtahdphncepnbeaaGreatDoorH
import Derived.Test.YtahdphncepnbeaaGreatDoorT
open Go.Proofs
set_option maxRecDepth 100000
namespace Go.Xt
theorem zN:(s0 Tryz.prog [⟨29,[],none,false⟩,⟨31,[],none,false⟩,⟨32,[3],none,false⟩,⟨33,[0],none,true⟩,⟨34,[0],none,true⟩,⟨46,[],none,false⟩,⟨80,[0],none,true⟩,⟨81,[],none,false⟩,⟨83,[],none,false⟩,⟨84,[],none,false⟩,⟨86,[],none,false⟩,⟨87,[],none,false⟩,⟨88,[],none,false⟩,⟨147,[],none,false⟩,⟨152,[],none,false⟩,⟨153,[],none,false⟩,⟨193,[],none,false⟩] ra 20 ⟨10,[2,3],none,false⟩).map (fun t ρ=>FA 17 fun l Q=>W ρ t l [] Q)=some jr:=by kernel_rfl
end Go.Xt
