/- Steps towards the statements of this seat; the conditions stand in each theorem. -/
import Derived.Test.YtahdphncepnbeaaGreatDoorEr2
set_option linter.unusedSimpArgs false
set_option linter.unusedVariables false
set_option maxRecDepth 100000
namespace Go.Xt
open Go Go.RowKit Go.Extern.Stop Go.Stop Go.Extern Go.Proofs
theorem TJ(t:Addr)(w:World):(ReflectliteValue.unpack (.iface 210 (.pointer (some t)))).run Tryz.prog w
  = .ok (.agg #[.pointer (some ⟨1,210,none⟩),.pointer (some ⟨w.heap.size,0,none⟩),.int .u64 150]) (w.alloc (.cells #[.pointer (some t)] 210)):=by kernel_rfl
theorem Sg(a:Addr)(w:World):(ReflectliteValue.methodAny (ReflectliteValue.valueError "reflectlite.Value.Type" 0) (fun t _ _ _=>ReflectliteType.toType t) #[.agg #[.pointer (some ⟨1,210,none⟩),.pointer (some a),.int .u64 150]]).run Tryz.prog w
  = .ok (.iface 275 (.agg #[.pointer (some ⟨1,210,none⟩)])) w:=by kernel_rfl
theorem Up(h:Value)(w:World):(Go.method 447 275 (.agg #[h]) "Kind").run Tryz.prog w=.ok (306,h) w:=by kernel_rfl
theorem Sh(w:World):((ReflectliteType.abiMethod fun t=>(fun a:Nat=>Value.int IntKind.u8 (a:Int)) <$> Rtype.kind t) #[.pointer (some ⟨1,210,none⟩)]).run Tryz.prog w=.ok (.int .u8 22) w:=by kernel_rfl
theorem PD(w:World):((ReflectliteType.abiMethod fun t=>(fun a:Nat=>Value.int IntKind.u8 (a:Int)) <$> Rtype.kind t) #[.pointer (some ⟨1,48,none⟩)]).run Tryz.prog w=.ok (.int .u8 2) w:=by kernel_rfl
theorem QX(a p:Addr)(W:World)(ha:W.cell? a=some (.pointer (some p))) :
  (ReflectliteValue.method (ReflectliteValue.valueError "reflectlite.Value.IsNil" 0) ReflectliteValue.isNil #[.agg #[.pointer (some ⟨1,210,none⟩),.pointer (some a),.int .u64 150]]).run Tryz.prog W=.ok (.bool false) W:=by
 have hp:(ReflectliteValue.parts (.agg #[.pointer (some ⟨1,210,none⟩),.pointer (some a),.int .u64 150])).run Tryz.prog W=_:=Lx a W
 rw[rlm]
 simp only[Sem.run_bind,hp,Result.andThen]
 simp[ReflectliteValue.isNil,loadVar,isAgg,underlying,Tryz.underlying210,ha,Result.andThen]
theorem Uq(h:Value)(w:World):(Go.method 447 275 (.agg #[h]) "Elem").run Tryz.prog w=.ok (320,.agg #[h]) w:=by kernel_rfl
theorem UY(h:Value)(w:World):(Go.method 447 275 (.agg #[h]) "Implements").run Tryz.prog w=.ok (321,.agg #[h]) w:=by kernel_rfl
theorem Si(w:World):(ReflectliteType.method ReflectliteType.elem #[.agg #[.pointer (some ⟨1,210,none⟩)]]).run Tryz.prog w=.ok (.iface 275 (.agg #[.pointer (some ⟨1,48,none⟩)])) w:=by kernel_rfl
theorem QY(w:World):(ReflectliteType.relation "Implements" ReflectliteType.implements_ #[.agg #[.pointer (some ⟨1,48,none⟩)],.iface 275 (.agg #[.pointer (some ⟨1,170,none⟩)])]).run Tryz.prog w=.ok (.bool true) w:=by kernel_rfl
def NC:Value:=.iface 275 (.agg #[.pointer (some ⟨1,170,none⟩)])
theorem TK(t:Value)(w:World):Calls Tryz.prog 184 #[.nilIface,t] w fun e w'=>e=.returned (.bool false)∧w'=w:=by
 go_enter Tryz.func184,Tryz.ntmps184
 go_wp2
 go_ret
 exact ⟨rfl,rfl⟩
set_option maxHeartbeats 4000000 in
theorem Sj(ty:TypeId)(p:Value)(e:Int)(ta:Addr)(old:Value)(w:World)(hg:w.cell? ⟨0,0,none⟩=some NC)(ht:w.cell? ta=some old)
  (hAs: ∀(a:Addr) (w1:World),Below w.heap.size w w1→w1.cell? a=some (.pointer (some ta)) →
   Calls Tryz.prog 232 #[.iface ty p,.iface 210 (.pointer (some ta)),vTa a,hTy] w1 fun ev w'=>ev=.returned (.bool true)∧yz ta e w1 w') :
  Calls Tryz.prog 184 #[.iface ty p,.iface 210 (.pointer (some ta))] w fun ev w'=>ev=.returned (.bool true)∧yz ta e w w':=by
 unfold vTa hTy at hAs
 unfold NC at hg
 have h132:=@run_callFunc_extern Tryz.prog 227 _ Extern.ReflectliteType.typeOf Tryz.func227 (by kernel_rfl) (by kernel_rfl) (by kernel_rfl) (by kernel_rfl)
 have h134:=@run_callFunc_extern Tryz.prog 229 _ (fun args=>ReflectliteValue.unpack (args.getD 0 (.tuple #[]))) Tryz.func229 (by kernel_rfl) (by kernel_rfl) (by kernel_rfl) (by kernel_rfl)
 have h135:=@run_callFunc_extern Tryz.prog 230 _ (ReflectliteValue.methodAny (ReflectliteValue.valueError "reflectlite.Value.Type" 0) (fun t _ _ _=>ReflectliteType.toType t)) Tryz.func230 (by kernel_rfl) (by kernel_rfl) (by kernel_rfl) (by kernel_rfl)
 have h136:=@run_callFunc_extern Tryz.prog 231 _ (ReflectliteValue.method (ReflectliteValue.valueError "reflectlite.Value.IsNil" 0) ReflectliteValue.isNil) Tryz.func231 (by kernel_rfl) (by kernel_rfl) (by kernel_rfl) (by kernel_rfl)
 have h196:=@run_callFunc_extern Tryz.prog 306 _ (ReflectliteType.abiMethod fun t=>do pure (.int .u8 (←Rtype.kind t))) Tryz.func306 (by kernel_rfl) (by kernel_rfl) (by kernel_rfl) (by kernel_rfl)
 have h210:=@run_callFunc_extern Tryz.prog 320 _ (ReflectliteType.method ReflectliteType.elem) Tryz.func320 (by kernel_rfl) (by kernel_rfl) (by kernel_rfl) (by kernel_rfl)
 have h211:=@run_callFunc_extern Tryz.prog 321 _ (ReflectliteType.relation "Implements" ReflectliteType.implements_) Tryz.func321 (by kernel_rfl) (by kernel_rfl) (by kernel_rfl) (by kernel_rfl)
 have f1:=TJ;have f2:=Sg;have mK:=Up;have k1:=Sh;have k2:=PD
 have mE:=Uq;have mI:=UY;have e1:=Si;have i1:=QY
 have hlt:0<w.heap.size:=Go.Xt.cell_lt hg
 have htl:ta.block<w.heap.size:=Go.Xt.cell_lt ht
 have HC:=(⟨hAs⟩:PLift _)
 clear hAs
 have n8:=QX ⟨w.heap.size,0,none⟩ ta ((w.alloc (.cells #[.pointer (some ta)] 210)).alloc (.cells #[.pointer (some ⟨1,210,none⟩),.pointer (some ⟨w.heap.size,0,none⟩),.int .u64 150] 245)) (by simp)
 have hg2:((w.alloc (.cells #[.pointer (some ta)] 210)).alloc (.cells #[.pointer (some ⟨1,210,none⟩),.pointer (some ⟨w.heap.size,0,none⟩),.int .u64 150] 245)).cell? ⟨0,0,none⟩=some (.iface 275 (.agg #[.pointer (some ⟨1,170,none⟩)])):=by
  rw[World.cell?_alloc_lt _ _ ⟨0,0,none⟩ (by simp),World.cell?_alloc_lt _ _ ⟨0,0,none⟩ hlt];exact hg
 have hcall:=HC.down ⟨w.heap.size,0,none⟩ ((w.alloc (.cells #[.pointer (some ta)] 210)).alloc (.cells #[.pointer (some ⟨1,210,none⟩),.pointer (some ⟨w.heap.size,0,none⟩),.int .u64 150] 245)) (((Below.refl _ w).alloc (Nat.le_refl _) _).alloc (by simp) _) (by simp)
 have hB:Below w.heap.size w ((w.alloc (.cells #[.pointer (some ta)] 210)).alloc (.cells #[.pointer (some ⟨1,210,none⟩),.pointer (some ⟨w.heap.size,0,none⟩),.int .u64 150] 245)):=((Below.refl _ w).alloc (Nat.le_refl _) _).alloc (by simp) _
 have HB:=(⟨hB⟩:PLift _)
 clear hB
 go_enter Tryz.func184,Tryz.ntmps184
 go_wp2_with (first | (go_at_call 232;refine hcall.mono ?_;rintro e w' ⟨rfl,hpost⟩) | go_in)
 go_ret
 exact ⟨rfl,(HB.down.mono (Nat.le_of_lt htl)).trans hpost.1,hpost.2⟩
end Go.Xt
