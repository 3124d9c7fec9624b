/- Steps towards the statements of this seat; the conditions stand in each theorem. -/
import Derived.Test.YtjolhiejojfkkaaGreatDoorEr2
set_option linter.unusedSimpArgs false
set_option linter.unusedVariables false
set_option maxRecDepth 100000
namespace Go.Xt
open Go Go.RowKit Go.Extern.Stop Go.Stop Go.Extern Go.Proofs
theorem Uc(t:Addr)(w:World):(ReflectliteValue.unpack (.iface 214 (.pointer (some t)))).run Tryz.prog w
  = .ok (.agg #[.pointer (some ⟨1,214,none⟩),.pointer (some ⟨w.heap.size,0,none⟩),.int .u64 150]) (w.alloc (.cells #[.pointer (some t)] 214)):=by kernel_rfl
theorem SK(a:Addr)(w:World):(ReflectliteValue.methodAny (ReflectliteValue.valueError "reflectlite.Value.Type" 0) (fun t _ _ _=>ReflectliteType.toType t) #[.agg #[.pointer (some ⟨1,214,none⟩),.pointer (some a),.int .u64 150]]).run Tryz.prog w
  = .ok (.iface 279 (.agg #[.pointer (some ⟨1,214,none⟩)])) w:=by kernel_rfl
theorem UW(h:Value)(w:World):(Go.method 449 279 (.agg #[h]) "Kind").run Tryz.prog w=.ok (310,h) w:=by kernel_rfl
theorem SL(w:World):((ReflectliteType.abiMethod fun t=>(fun a:Nat=>Value.int IntKind.u8 (a:Int)) <$> Rtype.kind t) #[.pointer (some ⟨1,214,none⟩)]).run Tryz.prog w=.ok (.int .u8 22) w:=by kernel_rfl
theorem Q6(w:World):((ReflectliteType.abiMethod fun t=>(fun a:Nat=>Value.int IntKind.u8 (a:Int)) <$> Rtype.kind t) #[.pointer (some ⟨1,48,none⟩)]).run Tryz.prog w=.ok (.int .u8 2) w:=by kernel_rfl
theorem Rv(a p:Addr)(W:World)(ha:W.cell? a=some (.pointer (some p))) :
  (ReflectliteValue.method (ReflectliteValue.valueError "reflectlite.Value.IsNil" 0) ReflectliteValue.isNil #[.agg #[.pointer (some ⟨1,214,none⟩),.pointer (some a),.int .u64 150]]).run Tryz.prog W=.ok (.bool false) W:=by
 have hp:(ReflectliteValue.parts (.agg #[.pointer (some ⟨1,214,none⟩),.pointer (some a),.int .u64 150])).run Tryz.prog W=_:=M0 a W
 rw[rlm]
 simp only[Sem.run_bind,hp,Result.andThen]
 simp[ReflectliteValue.isNil,loadVar,isAgg,underlying,Tryz.underlying214,ha,Result.andThen]
theorem UX(h:Value)(w:World):(Go.method 449 279 (.agg #[h]) "Elem").run Tryz.prog w=.ok (324,.agg #[h]) w:=by kernel_rfl
theorem Vu(h:Value)(w:World):(Go.method 449 279 (.agg #[h]) "Implements").run Tryz.prog w=.ok (325,.agg #[h]) w:=by kernel_rfl
theorem SM(w:World):(ReflectliteType.method ReflectliteType.elem #[.agg #[.pointer (some ⟨1,214,none⟩)]]).run Tryz.prog w=.ok (.iface 279 (.agg #[.pointer (some ⟨1,48,none⟩)])) w:=by kernel_rfl
theorem Rw(w:World):(ReflectliteType.relation "Implements" ReflectliteType.implements_ #[.agg #[.pointer (some ⟨1,48,none⟩)],.iface 279 (.agg #[.pointer (some ⟨1,172,none⟩)])]).run Tryz.prog w=.ok (.bool true) w:=by kernel_rfl
def O8:Value:=.iface 279 (.agg #[.pointer (some ⟨1,172,none⟩)])
theorem Ud(t:Value)(w:World):Calls Tryz.prog 193 #[.nilIface,t] w fun e w'=>e=.returned (.bool false)∧w'=w:=by
 go_enter Tryz.func193,Tryz.ntmps193
 go_wp2
 go_ret
 exact ⟨rfl,rfl⟩
set_option maxHeartbeats 4000000 in
theorem SN(ty:TypeId)(p:Value)(e:Int)(ta:Addr)(old:Value)(w:World)(hg:w.cell? ⟨0,0,none⟩=some O8)(ht:w.cell? ta=some old)
  (hAs: ∀(a:Addr) (w1:World),Below w.heap.size w w1→w1.cell? a=some (.pointer (some ta)) →
   Calls Tryz.prog 238 #[.iface ty p,.iface 214 (.pointer (some ta)),vTa a,hTy] w1 fun ev w'=>ev=.returned (.bool true)∧zn ta e w1 w') :
  Calls Tryz.prog 193 #[.iface ty p,.iface 214 (.pointer (some ta))] w fun ev w'=>ev=.returned (.bool true)∧zn ta e w w':=by
 unfold vTa hTy at hAs
 unfold O8 at hg
 have h132:=@run_callFunc_extern Tryz.prog 233 _ Extern.ReflectliteType.typeOf Tryz.func233 (by kernel_rfl) (by kernel_rfl) (by kernel_rfl) (by kernel_rfl)
 have h134:=@run_callFunc_extern Tryz.prog 235 _ (fun args=>ReflectliteValue.unpack (args.getD 0 (.tuple #[]))) Tryz.func235 (by kernel_rfl) (by kernel_rfl) (by kernel_rfl) (by kernel_rfl)
 have h135:=@run_callFunc_extern Tryz.prog 236 _ (ReflectliteValue.methodAny (ReflectliteValue.valueError "reflectlite.Value.Type" 0) (fun t _ _ _=>ReflectliteType.toType t)) Tryz.func236 (by kernel_rfl) (by kernel_rfl) (by kernel_rfl) (by kernel_rfl)
 have h136:=@run_callFunc_extern Tryz.prog 237 _ (ReflectliteValue.method (ReflectliteValue.valueError "reflectlite.Value.IsNil" 0) ReflectliteValue.isNil) Tryz.func237 (by kernel_rfl) (by kernel_rfl) (by kernel_rfl) (by kernel_rfl)
 have h196:=@run_callFunc_extern Tryz.prog 310 _ (ReflectliteType.abiMethod fun t=>do pure (.int .u8 (←Rtype.kind t))) Tryz.func310 (by kernel_rfl) (by kernel_rfl) (by kernel_rfl) (by kernel_rfl)
 have h210:=@run_callFunc_extern Tryz.prog 324 _ (ReflectliteType.method ReflectliteType.elem) Tryz.func324 (by kernel_rfl) (by kernel_rfl) (by kernel_rfl) (by kernel_rfl)
 have h211:=@run_callFunc_extern Tryz.prog 325 _ (ReflectliteType.relation "Implements" ReflectliteType.implements_) Tryz.func325 (by kernel_rfl) (by kernel_rfl) (by kernel_rfl) (by kernel_rfl)
 have f1:=Uc;have f2:=SK;have mK:=UW;have k1:=SL;have k2:=Q6
 have mE:=UX;have mI:=Vu;have e1:=SM;have i1:=Rw
 have hlt:0<w.heap.size:=Go.Xt.cell_lt hg
 have htl:ta.block<w.heap.size:=Go.Xt.cell_lt ht
 have HC:=(⟨hAs⟩:PLift _)
 clear hAs
 have n8:=Rv ⟨w.heap.size,0,none⟩ ta ((w.alloc (.cells #[.pointer (some ta)] 214)).alloc (.cells #[.pointer (some ⟨1,214,none⟩),.pointer (some ⟨w.heap.size,0,none⟩),.int .u64 150] 249)) (by simp)
 have hg2:((w.alloc (.cells #[.pointer (some ta)] 214)).alloc (.cells #[.pointer (some ⟨1,214,none⟩),.pointer (some ⟨w.heap.size,0,none⟩),.int .u64 150] 249)).cell? ⟨0,0,none⟩=some (.iface 279 (.agg #[.pointer (some ⟨1,172,none⟩)])):=by
  rw[World.cell?_alloc_lt _ _ ⟨0,0,none⟩ (by simp),World.cell?_alloc_lt _ _ ⟨0,0,none⟩ hlt];exact hg
 have hcall:=HC.down ⟨w.heap.size,0,none⟩ ((w.alloc (.cells #[.pointer (some ta)] 214)).alloc (.cells #[.pointer (some ⟨1,214,none⟩),.pointer (some ⟨w.heap.size,0,none⟩),.int .u64 150] 249)) (((Below.refl _ w).alloc (Nat.le_refl _) _).alloc (by simp) _) (by simp)
 have hB:Below w.heap.size w ((w.alloc (.cells #[.pointer (some ta)] 214)).alloc (.cells #[.pointer (some ⟨1,214,none⟩),.pointer (some ⟨w.heap.size,0,none⟩),.int .u64 150] 249)):=((Below.refl _ w).alloc (Nat.le_refl _) _).alloc (by simp) _
 have HB:=(⟨hB⟩:PLift _)
 clear hB
 go_enter Tryz.func193,Tryz.ntmps193
 go_wp2_with (first | (go_at_call 238;refine hcall.mono ?_;rintro e w' ⟨rfl,hpost⟩) | go_in)
 go_ret
 exact ⟨rfl,(HB.down.mono (Nat.le_of_lt htl)).trans hpost.1,hpost.2⟩
end Go.Xt
