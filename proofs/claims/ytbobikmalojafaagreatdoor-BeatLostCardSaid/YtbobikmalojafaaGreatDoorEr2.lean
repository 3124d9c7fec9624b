/- Steps towards the statements of this seat; the conditions stand in each theorem. -/
import Derived.Test.YtbobikmalojafaaGreatDoorEr1
set_option linter.unusedSimpArgs false
set_option linter.unusedVariables false
set_option maxRecDepth 100000
namespace Go.Xt
open Go Go.RowKit Go.Extern.Stop Go.Stop Go.Extern Go.Proofs
def hTy:Value:=.iface 250 (.agg #[.pointer (some ⟨1,38,none⟩)])
def vTa(a:Addr):Value:=.agg #[.pointer (some ⟨1,198,none⟩),.pointer (some a),.int .u64 150]
theorem G9(v:Value)(w:World):(Extern.ReflectliteType.typeOf #[.iface 237 v]).run Tryz.prog w=.ok (.iface 250 (.agg #[.pointer (some ⟨1,237,none⟩)])) w:=by kernel_rfl
theorem HW(v:Value)(w:World):(Extern.ReflectliteType.typeOf #[.iface 234 v]).run Tryz.prog w=.ok (.iface 250 (.agg #[.pointer (some ⟨1,234,none⟩)])) w:=by kernel_rfl
theorem LT(h:Value)(w:World):(Go.method 419 250 (.agg #[h]) "AssignableTo").run Tryz.prog w=.ok (292,.agg #[h]) w:=by kernel_rfl
theorem J7(w:World):(ReflectliteType.relation "AssignableTo" ReflectliteType.assignableTo #[.agg #[.pointer (some ⟨1,38,none⟩)],.iface 250 (.agg #[.pointer (some ⟨1,38,none⟩)])]).run Tryz.prog w=.ok (.bool true) w:=by kernel_rfl
theorem HX(w:World):(ReflectliteType.relation "AssignableTo" ReflectliteType.assignableTo #[.agg #[.pointer (some ⟨1,237,none⟩)],.iface 250 (.agg #[.pointer (some ⟨1,38,none⟩)])]).run Tryz.prog w=.ok (.bool false) w:=by kernel_rfl
theorem J8(w:World):(ReflectliteType.relation "AssignableTo" ReflectliteType.assignableTo #[.agg #[.pointer (some ⟨1,234,none⟩)],.iface 250 (.agg #[.pointer (some ⟨1,38,none⟩)])]).run Tryz.prog w=.ok (.bool false) w:=by kernel_rfl
theorem J9(e:Int)(w:World):(ReflectliteValue.unpack (.iface 38 (.int .i64 e))).run Tryz.prog w
  = .ok (.agg #[.pointer (some ⟨1,38,none⟩),.pointer (some ⟨w.heap.size,0,none⟩),.int .u64 130]) (w.alloc (.cells #[.int .i64 e] 38)):=by kernel_rfl
theorem rlm(z:Sem Value)(f:TypeId→Addr→Nat→Nat→Sem Value)(v:Value) :
  ReflectliteValue.method z f #[v]=(do match ←ReflectliteValue.parts v with | none=>z | some (t,a,fl)=>f t a fl (fl % 32)):=rfl
theorem Ey(a:Addr)(w:World):(ReflectliteValue.parts (vTa a)).run Tryz.prog w=.ok (some (198,a,150)) w:=by kernel_rfl
theorem HY(w:World):(Rtype.elem? 198).run Tryz.prog w=.ok (some 38) w:=by kernel_rfl
theorem K5(p:Addr)(w:World):(ReflectliteValue.mk 38 p ReflectliteValue.flagAddr).run Tryz.prog w=.ok (.agg #[.pointer (some ⟨1,38,none⟩),.pointer (some p),.int .u64 386]) w:=by kernel_rfl
theorem LU(a p:Addr)(W:World)(ha:W.cell? a=some (.pointer (some p))) :
  (ReflectliteValue.method (ReflectliteValue.valueError "reflectlite.Value.Elem" 0) ReflectliteValue.elem #[.agg #[.pointer (some ⟨1,198,none⟩),.pointer (some a),.int .u64 150]]).run Tryz.prog W
   = .ok (.agg #[.pointer (some ⟨1,38,none⟩),.pointer (some p),.int .u64 386]) W:=by
 have hp:(ReflectliteValue.parts (.agg #[.pointer (some ⟨1,198,none⟩),.pointer (some a),.int .u64 150])).run Tryz.prog W=_:=Ey a W
 rw[rlm]
 simp only[Sem.run_bind,hp,Result.andThen]
 simp[ReflectliteValue.elem,loadVar,isAgg,underlying,Tryz.underlying198,ha,Result.andThen,HY,K5]
theorem rls(v x:Value):ReflectliteValue.set #[v,x]=(do
  let (some (dst,a,fl),some (src,b,_)):=(←ReflectliteValue.parts v,←ReflectliteValue.parts x)
   | unsupported (.noEntry "extern/(internal/reflectlite.Value).Set.zeroValue")
  if fl / ReflectliteValue.flagAddr % 2 == 0 then unsupported (.noEntry "extern/(internal/reflectlite.Value).Set.unaddressable")
  let val ←loadVar src b
  if ←Rtype.directlyAssignable dst src then storeVar dst a val
  else if ←Rtype.implements dst src then
   if (←Rtype.kind src) == 20 then
    match val with
    | .nilIface=>unsupported (.noEntry "extern/reflectlite: a nil value of one interface type handed on as a value of another")
    | _=>storeVar dst a val
   else storeVar dst a (.iface src val)
  else panicString ("reflectlite.Set: value of type " ++(←Rtype.spelt src)++ " is not assignable to type " ++(←Rtype.spelt dst))
  pure (.tuple #[])):=rfl
theorem Ez(a:Addr)(w:World):(ReflectliteValue.parts (.agg #[.pointer (some ⟨1,38,none⟩),.pointer (some a),.int .u64 386])).run Tryz.prog w=.ok (some (38,a,386)) w:=by kernel_rfl
theorem Ga(a:Addr)(w:World):(ReflectliteValue.parts (.agg #[.pointer (some ⟨1,38,none⟩),.pointer (some a),.int .u64 130])).run Tryz.prog w=.ok (some (38,a,130)) w:=by kernel_rfl
theorem EA(w:World):(Rtype.directlyAssignable 38 38).run Tryz.prog w=.ok true w:=by kernel_rfl
theorem Mc(ta b:Addr)(e:Int)(old:Value)(W:World)(hb:W.cell? b=some (.int .i64 e))(ht:W.cell? ta=some old)(hf:W.frozen? ta=false) :
  (ReflectliteValue.set #[.agg #[.pointer (some ⟨1,38,none⟩),.pointer (some ta),.int .u64 386],.agg #[.pointer (some ⟨1,38,none⟩),.pointer (some b),.int .u64 130]]).run Tryz.prog W
   = .ok (.tuple #[]) (W.setCell ta (.int .i64 e)):=by
 rw[rls]
 simp only[Sem.run_bind,Ez,Ga,Result.andThen]
 simp[ReflectliteValue.flagAddr,loadVar,isAgg,underlying,Tryz.underlying38,hb,Result.andThen,EA,storeVar,Value.cells,storeCells,Addr.add]
 rw[run_store Tryz.prog W ta _ _ (by rfl)]
 simp[ht,hf]
def tT(ta:Addr)(e:Int)(w w':World):Prop:=Below ta.block w w'∧w'.cell? ta=some (.int .i64 e)
set_option maxHeartbeats 4000000 in
theorem EB(e:Int)(g:Nat)(a ta:Addr)(old:Value)(w:World)(hw:w.cell? ⟨g,1,none⟩=some (.iface 38 (.int .i64 e)))
  (ha:w.cell? a=some (.pointer (some ta))) (ht:w.cell? ta=some old) (hf:w.frozen? ta=false) :
  Calls Tryz.prog 214 #[.iface 237 (.pointer (some ⟨g,0,none⟩)),.iface 198 (.pointer (some ta)),vTa a,hTy] w fun ev w'=>ev=.returned (.bool true)∧tT ta e w w':=by
 unfold vTa hTy
 have h132:=@run_callFunc_extern Tryz.prog 209 _ Extern.ReflectliteType.typeOf Tryz.func209 (by kernel_rfl) (by kernel_rfl) (by kernel_rfl) (by kernel_rfl)
 have h134:=@run_callFunc_extern Tryz.prog 211 _ (fun args=>ReflectliteValue.unpack (args.getD 0 (.tuple #[]))) Tryz.func211 (by kernel_rfl) (by kernel_rfl) (by kernel_rfl) (by kernel_rfl)
 have h148:=@run_callFunc_extern Tryz.prog 233 _ (ReflectliteValue.method (ReflectliteValue.valueError "reflectlite.Value.Elem" 0) ReflectliteValue.elem) Tryz.func233 (by kernel_rfl) (by kernel_rfl) (by kernel_rfl) (by kernel_rfl)
 have h149:=@run_callFunc_extern Tryz.prog 234 _ ReflectliteValue.set Tryz.func234 (by kernel_rfl) (by kernel_rfl) (by kernel_rfl) (by kernel_rfl)
 have h208:=@run_callFunc_extern Tryz.prog 292 _ (ReflectliteType.relation "AssignableTo" ReflectliteType.assignableTo) Tryz.func292 (by kernel_rfl) (by kernel_rfl) (by kernel_rfl) (by kernel_rfl)
 have t1:=Ac;have t2:=G9
 have mA:=LT;have a1:=J7;have a2:=HX
 have h5:=HV;have h6:=zZ;have h7:=Aa
 have m1:=Ab
 have vl:=J9
 have hgl:g<w.heap.size:=Go.Xt.cell_lt hw
 have hal:a.block<w.heap.size:=Go.Xt.cell_lt ha
 have htl:ta.block<w.heap.size:=Go.Xt.cell_lt ht
 let W1:World:=w.alloc (.cells #[.pointer (some ⟨1,198,none⟩),.pointer (some a),.int .u64 150] 226)
 have el:=LU a ta W1 (by rw[World.cell?_alloc_lt _ _ a hal];exact ha)
 have hT:(W1.alloc (.cells #[.int .i64 e] 38)).cell? ta=some old:=by rw[World.cell?_alloc_lt _ _ ta (by simp[W1];omega),World.cell?_alloc_lt _ _ ta htl];exact ht
 have st:=Mc ta ⟨w.heap.size+1,0,none⟩ e old (W1.alloc (.cells #[.int .i64 e] 38))
  (by rw[World.cell?_alloc_at _ _ _ _ (by simp[W1])];rfl)
  hT
  (by rw[World.frozen?_alloc_old _ _ ta (by simp[W1];omega),World.frozen?_alloc_old _ _ ta (Nat.ne_of_lt htl)];exact hf)
 simp only[W1] at el st hT
 have HT:=(⟨hT⟩:PLift _)
 clear hT
 clear W1
 go_enter Tryz.func214,Tryz.ntmps214
 go_wp2
 refine wp_loop_rounds 2 ?_
 rw[rounds_succ]
 go_wp2
 rw[rounds_succ]
 go_wp2
 go_ret
 refine ⟨rfl,?_,?_⟩
 ·exact ((((Below.refl _ w).alloc (by omega) _).alloc (by simp;omega) _).setCell (Nat.le_refl _) _)
 ·exact World.cell?_setCell_same' _ _ _ (by rw[HT.down];rfl)
set_option maxHeartbeats 4000000 in
theorem K6(e:Int)(r:List Int)(b g c:Nat)(a ta:Addr)(old:Value)(w:World)(hJ:tS w b g c (e::r))(hr:r.length≤1000)
  (ha:w.cell? a=some (.pointer (some ta))) (ht:w.cell? ta=some old) (hf:w.frozen? ta=false) :
  Calls Tryz.prog 214 #[.iface 234 (.pointer (some ⟨b,0,none⟩)),.iface 198 (.pointer (some ta)),vTa a,hTy] w fun ev w'=>ev=.returned (.bool true)∧tT ta e w w':=by
 obtain ⟨hc0,hlc,hcells⟩:=hJ
 obtain ⟨u,hu1,hu2⟩:=hcells 0 e rfl
 clear hcells
 have hbl:b<w.heap.size:=Go.Xt.cell_lt hc0
 have hgl:g<w.heap.size:=Go.Xt.cell_lt hu1
 have hul:u<w.heap.size:=Go.Xt.cell_lt hu2
 have hal:a.block<w.heap.size:=Go.Xt.cell_lt ha
 have htl:ta.block<w.heap.size:=Go.Xt.cell_lt ht
 have key: ∀o:Obj,(∀x:Addr,x.block<w.heap.size→(w.alloc o).cell? x=w.cell? x):=fun o x hx=>World.cell?_alloc_lt _ _ x hx
 have hcall: ∀o:Obj,Calls Tryz.prog 214 #[.iface 237 (.pointer (some ⟨u,0,none⟩)),.iface 198 (.pointer (some ta)),vTa a,hTy] (w.alloc o) fun ev w'=>ev=.returned (.bool true)∧tT ta e (w.alloc o) w':=fun o =>
  EB e u a ta old (w.alloc o) (by rw[key o _ hul];exact hu2) (by rw[key o _ hal];exact ha) (by rw[key o _ htl];exact ht) (by rw[World.frozen?_alloc_old _ _ ta (Nat.ne_of_lt htl)];exact hf)
 unfold vTa hTy at hcall ⊢
 have h132:=@run_callFunc_extern Tryz.prog 209 _ Extern.ReflectliteType.typeOf Tryz.func209 (by kernel_rfl) (by kernel_rfl) (by kernel_rfl) (by kernel_rfl)
 have h134:=@run_callFunc_extern Tryz.prog 211 _ (fun args=>ReflectliteValue.unpack (args.getD 0 (.tuple #[]))) Tryz.func211 (by kernel_rfl) (by kernel_rfl) (by kernel_rfl) (by kernel_rfl)
 have h148:=@run_callFunc_extern Tryz.prog 233 _ (ReflectliteValue.method (ReflectliteValue.valueError "reflectlite.Value.Elem" 0) ReflectliteValue.elem) Tryz.func233 (by kernel_rfl) (by kernel_rfl) (by kernel_rfl) (by kernel_rfl)
 have h149:=@run_callFunc_extern Tryz.prog 234 _ ReflectliteValue.set Tryz.func234 (by kernel_rfl) (by kernel_rfl) (by kernel_rfl) (by kernel_rfl)
 have h208:=@run_callFunc_extern Tryz.prog 292 _ (ReflectliteType.relation "AssignableTo" ReflectliteType.assignableTo) Tryz.func292 (by kernel_rfl) (by kernel_rfl) (by kernel_rfl) (by kernel_rfl)
 have t2:=HW
 have mA:=LT;have a2:=J8
 have h5:=J5;have h6:=Et;have h7:=Eu
 have m1:=Ev
 have HC:=(⟨hcall⟩:PLift _)
 clear hcall
 have hc0': ∀o:Obj,(w.alloc o).cell? ⟨b,0,none⟩=some (.slice (some ⟨g,0,none⟩) (e::r).length c):=fun o=>by rw[key o _ hbl];exact hc0
 have hu1': ∀o:Obj,(w.alloc o).cell? ⟨g,0,none⟩=some (.iface 237 (.pointer (some ⟨u,0,none⟩))):=fun o=>by rw[key o _ hgl];exact hu1
 have hlen:(0:Int)<((e::r).length:Nat):=by simp
 generalize (e::r).length=len at *
 clear key
 go_enter Tryz.func214,Tryz.ntmps214
 go_wp2
 refine wp_loop_rounds 1 ?_
 rw[rounds_succ]
 go_wp2
 refine wp_loop_rounds 1 ?_
 rw[rounds_succ]
 go_wp2_with (first | (go_at_call 214;refine (HC.down _).mono ?_;rintro e w' ⟨rfl,hpost⟩) | go_in)
 go_ret
 exact ⟨rfl,((Below.refl _ w).alloc (Nat.le_of_lt htl) _).trans hpost.1,hpost.2⟩
end Go.Xt
