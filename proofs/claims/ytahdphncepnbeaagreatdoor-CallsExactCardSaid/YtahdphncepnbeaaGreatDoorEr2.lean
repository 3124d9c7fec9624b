/- Steps towards the statements of this seat; the conditions stand in each theorem. -/
import Derived.Test.YtahdphncepnbeaaGreatDoorEr1
set_option linter.unusedSimpArgs false
set_option linter.unusedVariables false
set_option maxRecDepth 100000
namespace Go.Xt
open Go Go.RowKit Go.Extern.Stop Go.Stop Go.Extern Go.Proofs
def hTy:Value:=.iface 275 (.agg #[.pointer (some ⟨1,48,none⟩)])
def vTa(a:Addr):Value:=.agg #[.pointer (some ⟨1,210,none⟩),.pointer (some a),.int .u64 150]
theorem NA(v:Value)(w:World):(Extern.ReflectliteType.typeOf #[.iface 256 v]).run Tryz.prog w=.ok (.iface 275 (.agg #[.pointer (some ⟨1,256,none⟩)])) w:=by kernel_rfl
theorem PA(v:Value)(w:World):(Extern.ReflectliteType.typeOf #[.iface 253 v]).run Tryz.prog w=.ok (.iface 275 (.agg #[.pointer (some ⟨1,253,none⟩)])) w:=by kernel_rfl
theorem Un(h:Value)(w:World):(Go.method 447 275 (.agg #[h]) "AssignableTo").run Tryz.prog w=.ok (318,.agg #[h]) w:=by kernel_rfl
theorem QU(w:World):(ReflectliteType.relation "AssignableTo" ReflectliteType.assignableTo #[.agg #[.pointer (some ⟨1,48,none⟩)],.iface 275 (.agg #[.pointer (some ⟨1,48,none⟩)])]).run Tryz.prog w=.ok (.bool true) w:=by kernel_rfl
theorem PB(w:World):(ReflectliteType.relation "AssignableTo" ReflectliteType.assignableTo #[.agg #[.pointer (some ⟨1,256,none⟩)],.iface 275 (.agg #[.pointer (some ⟨1,48,none⟩)])]).run Tryz.prog w=.ok (.bool false) w:=by kernel_rfl
theorem QV(w:World):(ReflectliteType.relation "AssignableTo" ReflectliteType.assignableTo #[.agg #[.pointer (some ⟨1,253,none⟩)],.iface 275 (.agg #[.pointer (some ⟨1,48,none⟩)])]).run Tryz.prog w=.ok (.bool false) w:=by kernel_rfl
theorem QW(e:Int)(w:World):(ReflectliteValue.unpack (.iface 48 (.int .i64 e))).run Tryz.prog w
  = .ok (.agg #[.pointer (some ⟨1,48,none⟩),.pointer (some ⟨w.heap.size,0,none⟩),.int .u64 130]) (w.alloc (.cells #[.int .i64 e] 48)):=by kernel_rfl
theorem rlm(z:Sem Value)(f:TypeId→Addr→Nat→Nat→Sem Value)(v:Value) :
  ReflectliteValue.method z f #[v]=(do match ←ReflectliteValue.parts v with | none=>z | some (t,a,fl)=>f t a fl (fl % 32)):=rfl
theorem Lx(a:Addr)(w:World):(ReflectliteValue.parts (vTa a)).run Tryz.prog w=.ok (some (210,a,150)) w:=by kernel_rfl
theorem PC(w:World):(Rtype.elem? 210).run Tryz.prog w=.ok (some 48) w:=by kernel_rfl
theorem Se(p:Addr)(w:World):(ReflectliteValue.mk 48 p ReflectliteValue.flagAddr).run Tryz.prog w=.ok (.agg #[.pointer (some ⟨1,48,none⟩),.pointer (some p),.int .u64 386]) w:=by kernel_rfl
theorem Uo(a p:Addr)(W:World)(ha:W.cell? a=some (.pointer (some p))) :
  (ReflectliteValue.method (ReflectliteValue.valueError "reflectlite.Value.Elem" 0) ReflectliteValue.elem #[.agg #[.pointer (some ⟨1,210,none⟩),.pointer (some a),.int .u64 150]]).run Tryz.prog W
   = .ok (.agg #[.pointer (some ⟨1,48,none⟩),.pointer (some p),.int .u64 386]) W:=by
 have hp:(ReflectliteValue.parts (.agg #[.pointer (some ⟨1,210,none⟩),.pointer (some a),.int .u64 150])).run Tryz.prog W=_:=Lx a W
 rw[rlm]
 simp only[Sem.run_bind,hp,Result.andThen]
 simp[ReflectliteValue.elem,loadVar,isAgg,underlying,Tryz.underlying210,ha,Result.andThen,PC,Se]
theorem rls(v x:Value):ReflectliteValue.set #[v,x]=(do
  let (some (dst,a,fl),some (src,b,_)):=(←ReflectliteValue.parts v,←ReflectliteValue.parts x)
   | unsupported (.noEntry "extern/(internal/reflectlite.Value).Set.zeroValue")
  if fl / ReflectliteValue.flagAddr % 2 == 0 then unsupported (.noEntry "extern/(internal/reflectlite.Value).Set.unaddressable")
  let val ←loadVar src b
  if ←Rtype.directlyAssignable dst src then storeVar dst a val
  else if ←Rtype.implements dst src then
   if (←Rtype.kind src) == 20 then
    match val with
    | .nilIface=>unsupported (.noEntry "extern/reflectlite: a nil value of one interface type handed on as a value of another")
    | _=>storeVar dst a val
   else storeVar dst a (.iface src val)
  else panicString ("reflectlite.Set: value of type " ++(←Rtype.spelt src)++ " is not assignable to type " ++(←Rtype.spelt dst))
  pure (.tuple #[])):=rfl
theorem Lz(a:Addr)(w:World):(ReflectliteValue.parts (.agg #[.pointer (some ⟨1,48,none⟩),.pointer (some a),.int .u64 386])).run Tryz.prog w=.ok (some (48,a,386)) w:=by kernel_rfl
theorem NB(a:Addr)(w:World):(ReflectliteValue.parts (.agg #[.pointer (some ⟨1,48,none⟩),.pointer (some a),.int .u64 130])).run Tryz.prog w=.ok (some (48,a,130)) w:=by kernel_rfl
theorem LA(w:World):(Rtype.directlyAssignable 48 48).run Tryz.prog w=.ok true w:=by kernel_rfl
theorem UX(ta b:Addr)(e:Int)(old:Value)(W:World)(hb:W.cell? b=some (.int .i64 e))(ht:W.cell? ta=some old)(hf:W.frozen? ta=false) :
  (ReflectliteValue.set #[.agg #[.pointer (some ⟨1,48,none⟩),.pointer (some ta),.int .u64 386],.agg #[.pointer (some ⟨1,48,none⟩),.pointer (some b),.int .u64 130]]).run Tryz.prog W
   = .ok (.tuple #[]) (W.setCell ta (.int .i64 e)):=by
 rw[rls]
 simp only[Sem.run_bind,Lz,NB,Result.andThen]
 simp[ReflectliteValue.flagAddr,loadVar,isAgg,underlying,Tryz.underlying48,hb,Result.andThen,LA,storeVar,Value.cells,storeCells,Addr.add]
 rw[run_store Tryz.prog W ta _ _ (by rfl)]
 simp[ht,hf]
def yz(ta:Addr)(e:Int)(w w':World):Prop:=Below ta.block w w'∧w'.cell? ta=some (.int .i64 e)
set_option maxHeartbeats 4000000 in
theorem LB(e:Int)(g:Nat)(a ta:Addr)(old:Value)(w:World)(hw:w.cell? ⟨g,1,none⟩=some (.iface 48 (.int .i64 e)))
  (ha:w.cell? a=some (.pointer (some ta))) (ht:w.cell? ta=some old) (hf:w.frozen? ta=false) :
  Calls Tryz.prog 232 #[.iface 256 (.pointer (some ⟨g,0,none⟩)),.iface 210 (.pointer (some ta)),vTa a,hTy] w fun ev w'=>ev=.returned (.bool true)∧yz ta e w w':=by
 unfold vTa hTy
 have h132:=@run_callFunc_extern Tryz.prog 227 _ Extern.ReflectliteType.typeOf Tryz.func227 (by kernel_rfl) (by kernel_rfl) (by kernel_rfl) (by kernel_rfl)
 have h134:=@run_callFunc_extern Tryz.prog 229 _ (fun args=>ReflectliteValue.unpack (args.getD 0 (.tuple #[]))) Tryz.func229 (by kernel_rfl) (by kernel_rfl) (by kernel_rfl) (by kernel_rfl)
 have h148:=@run_callFunc_extern Tryz.prog 255 _ (ReflectliteValue.method (ReflectliteValue.valueError "reflectlite.Value.Elem" 0) ReflectliteValue.elem) Tryz.func255 (by kernel_rfl) (by kernel_rfl) (by kernel_rfl) (by kernel_rfl)
 have h149:=@run_callFunc_extern Tryz.prog 256 _ ReflectliteValue.set Tryz.func256 (by kernel_rfl) (by kernel_rfl) (by kernel_rfl) (by kernel_rfl)
 have h208:=@run_callFunc_extern Tryz.prog 318 _ (ReflectliteType.relation "AssignableTo" ReflectliteType.assignableTo) Tryz.func318 (by kernel_rfl) (by kernel_rfl) (by kernel_rfl) (by kernel_rfl)
 have t1:=Gd;have t2:=NA
 have mA:=Un;have a1:=QU;have a2:=PB
 have h5:=Pz;have h6:=Ga;have h7:=Gb
 have m1:=Gc
 have vl:=QW
 have hgl:g<w.heap.size:=Go.Xt.cell_lt hw
 have hal:a.block<w.heap.size:=Go.Xt.cell_lt ha
 have htl:ta.block<w.heap.size:=Go.Xt.cell_lt ht
 let W1:World:=w.alloc (.cells #[.pointer (some ⟨1,210,none⟩),.pointer (some a),.int .u64 150] 245)
 have el:=Uo a ta W1 (by rw[World.cell?_alloc_lt _ _ a hal];exact ha)
 have hT:(W1.alloc (.cells #[.int .i64 e] 48)).cell? ta=some old:=by rw[World.cell?_alloc_lt _ _ ta (by simp[W1];omega),World.cell?_alloc_lt _ _ ta htl];exact ht
 have st:=UX ta ⟨w.heap.size+1,0,none⟩ e old (W1.alloc (.cells #[.int .i64 e] 48))
  (by rw[World.cell?_alloc_at _ _ _ _ (by simp[W1])];rfl)
  hT
  (by rw[World.frozen?_alloc_old _ _ ta (by simp[W1];omega),World.frozen?_alloc_old _ _ ta (Nat.ne_of_lt htl)];exact hf)
 simp only[W1] at el st hT
 have HT:=(⟨hT⟩:PLift _)
 clear hT
 clear W1
 go_enter Tryz.func232,Tryz.ntmps232
 go_wp2
 refine wp_loop_rounds 2 ?_
 rw[rounds_succ]
 go_wp2
 rw[rounds_succ]
 go_wp2
 go_ret
 refine ⟨rfl,?_,?_⟩
 ·exact ((((Below.refl _ w).alloc (by omega) _).alloc (by simp;omega) _).setCell (Nat.le_refl _) _)
 ·exact World.cell?_setCell_same' _ _ _ (by rw[HT.down];rfl)
set_option maxHeartbeats 4000000 in
theorem Sf(e:Int)(r:List Int)(b g c:Nat)(a ta:Addr)(old:Value)(w:World)(hJ:yy w b g c (e::r))(hr:r.length≤1000)
  (ha:w.cell? a=some (.pointer (some ta))) (ht:w.cell? ta=some old) (hf:w.frozen? ta=false) :
  Calls Tryz.prog 232 #[.iface 253 (.pointer (some ⟨b,0,none⟩)),.iface 210 (.pointer (some ta)),vTa a,hTy] w fun ev w'=>ev=.returned (.bool true)∧yz ta e w w':=by
 obtain ⟨hc0,hlc,hcells⟩:=hJ
 obtain ⟨u,hu1,hu2⟩:=hcells 0 e rfl
 clear hcells
 have hbl:b<w.heap.size:=Go.Xt.cell_lt hc0
 have hgl:g<w.heap.size:=Go.Xt.cell_lt hu1
 have hul:u<w.heap.size:=Go.Xt.cell_lt hu2
 have hal:a.block<w.heap.size:=Go.Xt.cell_lt ha
 have htl:ta.block<w.heap.size:=Go.Xt.cell_lt ht
 have key: ∀o:Obj,(∀x:Addr,x.block<w.heap.size→(w.alloc o).cell? x=w.cell? x):=fun o x hx=>World.cell?_alloc_lt _ _ x hx
 have hcall: ∀o:Obj,Calls Tryz.prog 232 #[.iface 256 (.pointer (some ⟨u,0,none⟩)),.iface 210 (.pointer (some ta)),vTa a,hTy] (w.alloc o) fun ev w'=>ev=.returned (.bool true)∧yz ta e (w.alloc o) w':=fun o =>
  LB e u a ta old (w.alloc o) (by rw[key o _ hul];exact hu2) (by rw[key o _ hal];exact ha) (by rw[key o _ htl];exact ht) (by rw[World.frozen?_alloc_old _ _ ta (Nat.ne_of_lt htl)];exact hf)
 unfold vTa hTy at hcall ⊢
 have h132:=@run_callFunc_extern Tryz.prog 227 _ Extern.ReflectliteType.typeOf Tryz.func227 (by kernel_rfl) (by kernel_rfl) (by kernel_rfl) (by kernel_rfl)
 have h134:=@run_callFunc_extern Tryz.prog 229 _ (fun args=>ReflectliteValue.unpack (args.getD 0 (.tuple #[]))) Tryz.func229 (by kernel_rfl) (by kernel_rfl) (by kernel_rfl) (by kernel_rfl)
 have h148:=@run_callFunc_extern Tryz.prog 255 _ (ReflectliteValue.method (ReflectliteValue.valueError "reflectlite.Value.Elem" 0) ReflectliteValue.elem) Tryz.func255 (by kernel_rfl) (by kernel_rfl) (by kernel_rfl) (by kernel_rfl)
 have h149:=@run_callFunc_extern Tryz.prog 256 _ ReflectliteValue.set Tryz.func256 (by kernel_rfl) (by kernel_rfl) (by kernel_rfl) (by kernel_rfl)
 have h208:=@run_callFunc_extern Tryz.prog 318 _ (ReflectliteType.relation "AssignableTo" ReflectliteType.assignableTo) Tryz.func318 (by kernel_rfl) (by kernel_rfl) (by kernel_rfl) (by kernel_rfl)
 have t2:=PA
 have mA:=Un;have a2:=QV
 have h5:=QS;have h6:=Lt;have h7:=Lu
 have m1:=Lv
 have HC:=(⟨hcall⟩:PLift _)
 clear hcall
 have hc0': ∀o:Obj,(w.alloc o).cell? ⟨b,0,none⟩=some (.slice (some ⟨g,0,none⟩) (e::r).length c):=fun o=>by rw[key o _ hbl];exact hc0
 have hu1': ∀o:Obj,(w.alloc o).cell? ⟨g,0,none⟩=some (.iface 256 (.pointer (some ⟨u,0,none⟩))):=fun o=>by rw[key o _ hgl];exact hu1
 have hlen:(0:Int)<((e::r).length:Nat):=by simp
 generalize (e::r).length=len at *
 clear key
 go_enter Tryz.func232,Tryz.ntmps232
 go_wp2
 refine wp_loop_rounds 1 ?_
 rw[rounds_succ]
 go_wp2
 refine wp_loop_rounds 1 ?_
 rw[rounds_succ]
 go_wp2_with (first | (go_at_call 232;refine (HC.down _).mono ?_;rintro e w' ⟨rfl,hpost⟩) | go_in)
 go_ret
 exact ⟨rfl,((Below.refl _ w).alloc (Nat.le_of_lt htl) _).trans hpost.1,hpost.2⟩
end Go.Xt
