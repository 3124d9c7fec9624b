/- Steps towards the statements of this seat; the conditions stand in each theorem. -/
import Derived.Test.YtbobikmalojafaaGreatDoorEr2
set_option linter.unusedSimpArgs false
set_option linter.unusedVariables false
set_option maxRecDepth 100000
namespace Go.Xt
open Go Go.RowKit Go.Extern.Stop Go.Stop Go.Extern Go.Proofs
theorem Lk(t:Addr)(w:World):(ReflectliteValue.unpack (.iface 198 (.pointer (some t)))).run Tryz.prog w
  = .ok (.agg #[.pointer (some ⟨1,198,none⟩),.pointer (some ⟨w.heap.size,0,none⟩),.int .u64 150]) (w.alloc (.cells #[.pointer (some t)] 198)):=by kernel_rfl
theorem K7(a:Addr)(w:World):(ReflectliteValue.methodAny (ReflectliteValue.valueError "reflectlite.Value.Type" 0) (fun t _ _ _=>ReflectliteType.toType t) #[.agg #[.pointer (some ⟨1,198,none⟩),.pointer (some a),.int .u64 150]]).run Tryz.prog w
  = .ok (.iface 250 (.agg #[.pointer (some ⟨1,198,none⟩)])) w:=by kernel_rfl
theorem LV(h:Value)(w:World):(Go.method 419 250 (.agg #[h]) "Kind").run Tryz.prog w=.ok (280,h) w:=by kernel_rfl
theorem K8(w:World):((ReflectliteType.abiMethod fun t=>(fun a:Nat=>Value.int IntKind.u8 (a:Int)) <$> Rtype.kind t) #[.pointer (some ⟨1,198,none⟩)]).run Tryz.prog w=.ok (.int .u8 22) w:=by kernel_rfl
theorem HZ(w:World):((ReflectliteType.abiMethod fun t=>(fun a:Nat=>Value.int IntKind.u8 (a:Int)) <$> Rtype.kind t) #[.pointer (some ⟨1,38,none⟩)]).run Tryz.prog w=.ok (.int .u8 2) w:=by kernel_rfl
theorem Ja(a p:Addr)(W:World)(ha:W.cell? a=some (.pointer (some p))) :
  (ReflectliteValue.method (ReflectliteValue.valueError "reflectlite.Value.IsNil" 0) ReflectliteValue.isNil #[.agg #[.pointer (some ⟨1,198,none⟩),.pointer (some a),.int .u64 150]]).run Tryz.prog W=.ok (.bool false) W:=by
 have hp:(ReflectliteValue.parts (.agg #[.pointer (some ⟨1,198,none⟩),.pointer (some a),.int .u64 150])).run Tryz.prog W=_:=Ey a W
 rw[rlm]
 simp only[Sem.run_bind,hp,Result.andThen]
 simp[ReflectliteValue.isNil,loadVar,isAgg,underlying,Tryz.underlying198,ha,Result.andThen]
theorem LW(h:Value)(w:World):(Go.method 419 250 (.agg #[h]) "Elem").run Tryz.prog w=.ok (294,.agg #[h]) w:=by kernel_rfl
theorem Md(h:Value)(w:World):(Go.method 419 250 (.agg #[h]) "Implements").run Tryz.prog w=.ok (295,.agg #[h]) w:=by kernel_rfl
theorem K9(w:World):(ReflectliteType.method ReflectliteType.elem #[.agg #[.pointer (some ⟨1,198,none⟩)]]).run Tryz.prog w=.ok (.iface 250 (.agg #[.pointer (some ⟨1,38,none⟩)])) w:=by kernel_rfl
theorem Jb(w:World):(ReflectliteType.relation "Implements" ReflectliteType.implements_ #[.agg #[.pointer (some ⟨1,38,none⟩)],.iface 250 (.agg #[.pointer (some ⟨1,160,none⟩)])]).run Tryz.prog w=.ok (.bool true) w:=by kernel_rfl
def rV:Value:=.iface 250 (.agg #[.pointer (some ⟨1,160,none⟩)])
theorem Ll(t:Value)(w:World):Calls Tryz.prog 180 #[.nilIface,t] w fun e w'=>e=.returned (.bool false)∧w'=w:=by
 go_enter Tryz.func180,Tryz.ntmps180
 go_wp2
 go_ret
 exact ⟨rfl,rfl⟩
set_option maxHeartbeats 4000000 in
theorem Ka(ty:TypeId)(p:Value)(e:Int)(ta:Addr)(old:Value)(w:World)(hg:w.cell? ⟨0,0,none⟩=some rV)(ht:w.cell? ta=some old)
  (hAs: ∀(a:Addr) (w1:World),Below w.heap.size w w1→w1.cell? a=some (.pointer (some ta)) →
   Calls Tryz.prog 214 #[.iface ty p,.iface 198 (.pointer (some ta)),vTa a,hTy] w1 fun ev w'=>ev=.returned (.bool true)∧tT ta e w1 w') :
  Calls Tryz.prog 180 #[.iface ty p,.iface 198 (.pointer (some ta))] w fun ev w'=>ev=.returned (.bool true)∧tT ta e w w':=by
 unfold vTa hTy at hAs
 unfold rV at hg
 have h132:=@run_callFunc_extern Tryz.prog 209 _ Extern.ReflectliteType.typeOf Tryz.func209 (by kernel_rfl) (by kernel_rfl) (by kernel_rfl) (by kernel_rfl)
 have h134:=@run_callFunc_extern Tryz.prog 211 _ (fun args=>ReflectliteValue.unpack (args.getD 0 (.tuple #[]))) Tryz.func211 (by kernel_rfl) (by kernel_rfl) (by kernel_rfl) (by kernel_rfl)
 have h135:=@run_callFunc_extern Tryz.prog 212 _ (ReflectliteValue.methodAny (ReflectliteValue.valueError "reflectlite.Value.Type" 0) (fun t _ _ _=>ReflectliteType.toType t)) Tryz.func212 (by kernel_rfl) (by kernel_rfl) (by kernel_rfl) (by kernel_rfl)
 have h136:=@run_callFunc_extern Tryz.prog 213 _ (ReflectliteValue.method (ReflectliteValue.valueError "reflectlite.Value.IsNil" 0) ReflectliteValue.isNil) Tryz.func213 (by kernel_rfl) (by kernel_rfl) (by kernel_rfl) (by kernel_rfl)
 have h196:=@run_callFunc_extern Tryz.prog 280 _ (ReflectliteType.abiMethod fun t=>do pure (.int .u8 (←Rtype.kind t))) Tryz.func280 (by kernel_rfl) (by kernel_rfl) (by kernel_rfl) (by kernel_rfl)
 have h210:=@run_callFunc_extern Tryz.prog 294 _ (ReflectliteType.method ReflectliteType.elem) Tryz.func294 (by kernel_rfl) (by kernel_rfl) (by kernel_rfl) (by kernel_rfl)
 have h211:=@run_callFunc_extern Tryz.prog 295 _ (ReflectliteType.relation "Implements" ReflectliteType.implements_) Tryz.func295 (by kernel_rfl) (by kernel_rfl) (by kernel_rfl) (by kernel_rfl)
 have f1:=Lk;have f2:=K7;have mK:=LV;have k1:=K8;have k2:=HZ
 have mE:=LW;have mI:=Md;have e1:=K9;have i1:=Jb
 have hlt:0<w.heap.size:=Go.Xt.cell_lt hg
 have htl:ta.block<w.heap.size:=Go.Xt.cell_lt ht
 have HC:=(⟨hAs⟩:PLift _)
 clear hAs
 have n8:=Ja ⟨w.heap.size,0,none⟩ ta ((w.alloc (.cells #[.pointer (some ta)] 198)).alloc (.cells #[.pointer (some ⟨1,198,none⟩),.pointer (some ⟨w.heap.size,0,none⟩),.int .u64 150] 226)) (by simp)
 have hg2:((w.alloc (.cells #[.pointer (some ta)] 198)).alloc (.cells #[.pointer (some ⟨1,198,none⟩),.pointer (some ⟨w.heap.size,0,none⟩),.int .u64 150] 226)).cell? ⟨0,0,none⟩=some (.iface 250 (.agg #[.pointer (some ⟨1,160,none⟩)])):=by
  rw[World.cell?_alloc_lt _ _ ⟨0,0,none⟩ (by simp),World.cell?_alloc_lt _ _ ⟨0,0,none⟩ hlt];exact hg
 have hcall:=HC.down ⟨w.heap.size,0,none⟩ ((w.alloc (.cells #[.pointer (some ta)] 198)).alloc (.cells #[.pointer (some ⟨1,198,none⟩),.pointer (some ⟨w.heap.size,0,none⟩),.int .u64 150] 226)) (((Below.refl _ w).alloc (Nat.le_refl _) _).alloc (by simp) _) (by simp)
 have hB:Below w.heap.size w ((w.alloc (.cells #[.pointer (some ta)] 198)).alloc (.cells #[.pointer (some ⟨1,198,none⟩),.pointer (some ⟨w.heap.size,0,none⟩),.int .u64 150] 226)):=((Below.refl _ w).alloc (Nat.le_refl _) _).alloc (by simp) _
 have HB:=(⟨hB⟩:PLift _)
 clear hB
 go_enter Tryz.func180,Tryz.ntmps180
 go_wp2_with (first | (go_at_call 214;refine hcall.mono ?_;rintro e w' ⟨rfl,hpost⟩) | go_in)
 go_ret
 exact ⟨rfl,(HB.down.mono (Nat.le_of_lt htl)).trans hpost.1,hpost.2⟩
end Go.Xt
