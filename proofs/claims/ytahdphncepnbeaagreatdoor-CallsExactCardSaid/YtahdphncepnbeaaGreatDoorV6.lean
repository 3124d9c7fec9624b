/- Steps towards the statements of this seat; the conditions stand in each theorem. -/
import Derived.LaidLaws
import Derived.LaidHandle
import Derived.FnData
import Derived.Test.YtahdphncepnbeaaGreatDoorXt20
set_option autoImplicit false
namespace Go.Xt
open Go
theorem UM{P:Program}{W:World} (h:laidMetH P [("errors.errorType", .iface "internal/reflectlite.rtype" (.agg [.ptr (.lit (.string [101,114,114,111,114]))]))] W):Laid P W.heap.size W:=by
 intro p hp
 unfold SW at hp
 split at hp
 ·rename_i g r e h1 h2 h3
  obtain rfl:=List.mem_singleton.1 hp
  have h':laidMet P [] W∧handlesMet P [("errors.errorType", .iface "internal/reflectlite.rtype" (.agg [.ptr (.lit (.string [101,114,114,111,114]))]))] W:=h
  obtain ⟨name,u,ty,e1,e2,e3,e4,e5⟩:=h'.2 _ (List.mem_singleton.2 rfl)
  have en:name=[101,114,114,111,114]:=(Option.some.inj e1).symm
  subst en
  obtain rfl:=Option.some.inj (h2.symm.trans e2)
  have hm:ty∈(List.range P.types.size).filter fun t=>P.rowNamed t [101,114,114,111,114]:=List.mem_filter.2 ⟨List.mem_range.2 e3,e4⟩
  rw[h3] at hm
  obtain rfl:=List.mem_singleton.1 hm
  have hc:W.cell? ⟨g,0,none⟩=some (.iface r (.agg #[typeHandle P ty])):=by simpa using World.var?_cell h1 e5 0
  exact ⟨cell_lt hc,hc⟩
 ·cases hp
noncomputable def U0(P:Program)(g:Nat)(v:Value)(os:Os):World :=
  let w0:=World.holding P os ⟨#[],#[],[]⟩
  { w0 with heap:=w0.heap.modify g fun
      | .cells _ t frozen=>.cells #[v] t frozen
      | o=>o }
end Go.Xt
