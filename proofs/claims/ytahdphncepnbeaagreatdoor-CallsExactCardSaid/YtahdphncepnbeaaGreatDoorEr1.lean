/- Steps towards the statements of this seat; the conditions stand in each theorem. -/
import Derived.Test.YtahdphncepnbeaaGreatDoorRows
import Derived.WalkKit
import Derived.LaidEql
import Derived.Stop.Asserts
import Derived.RowKitTokens
import Derived.Test.YtahdphncepnbeaaGreatDoorXt20
set_option linter.unusedSimpArgs false
set_option linter.unusedVariables false
set_option maxRecDepth 100000
namespace Go.Xt
open Go Go.RowKit Go.Extern.Stop Go.Stop Go.Extern Go.Proofs
theorem sI{P:Program}(w:World)(d:Nat){ti tn:TypeId}{ms:Array (String×TypeId)}{i:TypeInfo}{k:IntKind}(a b:Int)
  (hi:P.underlying ti=some (.interface ms)) (hn:P.underlying tn=some (.int k)) (hinfo:P.info? tn=some i) (hcomp:i.comparable=true) :
  (Op.equalIn (d+2) ti (.iface tn (.int k a)) (.iface tn (.int k b))).run P w=.ok (a == b) w:=by
 simp[Op.equalIn,run_underlying hi,run_underlying hn,typeInfo,hinfo,hcomp]
theorem xv{P:Program}(w:World){ti tn:TypeId}{ms:Array (String×TypeId)}{k:IntKind}(a b:Int)
  (hi:P.underlying ti=some (.interface ms)) (hn:P.underlying tn=some (.int k)) (hc:(P.info? tn).map (·.comparable)=some true) :
  (binOp .eql ti (.iface tn (.int k a)) (.iface tn (.int k b))).run P w=.ok (.bool (a == b)) w:=by
 obtain ⟨i,hinfo,hcomp⟩:=Option.map_eq_some_iff.1 hc
 simp only[binOp]
 simp[Op.equal,Op.maxDepth,sI w 9998 a b hi hn hinfo hcomp]
theorem Sb(a b:Int)(w:World):(binOp .eql 170 (.iface 48 (.int .i64 a)) (.iface 48 (.int .i64 b))).run Tryz.prog w=.ok (.bool (a == b)) w :=
 xv w a b Tryz.underlying170 Tryz.underlying48 (by kernel_rfl)
theorem Ls(tx:TypeId)(vx vy:Value)(w:World)(hne:tx≠48):(binOp .eql 170 (.iface tx vx) (.iface 48 vy)).run Tryz.prog w=.ok (.bool false) w :=
 run_eql_iface_types tx _ vx vy Tryz.underlying170 hne w
theorem QN(v:Value)(xT:TypeId)(w:World):(Instr.typeAssert (.iface 48 v) xT 277 true).run Tryz.prog w=.ok (.tuple #[.nilIface,.bool false]) w :=
 run_typeAssert_lacksB Tryz.underlying277 (by kernel_rfl) (by kernel_rfl) v xT w
theorem QO(v:Value)(xT:TypeId)(w:World):(Instr.typeAssert (.iface 48 v) xT 280 true).run Tryz.prog w=.ok (.tuple #[.nilIface,.bool false]) w :=
 run_typeAssert_lacksB Tryz.underlying280 (by kernel_rfl) (by kernel_rfl) v xT w
theorem QP(v:Value)(xT:TypeId)(w:World):(Instr.typeAssert (.iface 48 v) xT 282 true).run Tryz.prog w=.ok (.tuple #[.nilIface,.bool false]) w :=
 run_typeAssert_lacksB Tryz.underlying282 (by kernel_rfl) (by kernel_rfl) v xT w
theorem Py(v:Value)(xT:TypeId)(w:World):(Instr.typeAssert (.iface 256 v) xT 277 true).run Tryz.prog w=.ok (.tuple #[.nilIface,.bool false]) w :=
 run_typeAssert_lacksB Tryz.underlying277 (by kernel_rfl) (by kernel_rfl) v xT w
theorem Pz(v:Value)(xT:TypeId)(w:World):(Instr.typeAssert (.iface 256 v) xT 286 true).run Tryz.prog w=.ok (.tuple #[.nilIface,.bool false]) w :=
 run_typeAssert_lacksB Tryz.underlying286 (by kernel_rfl) (by kernel_rfl) v xT w
theorem Ga(v:Value)(xT:TypeId)(w:World):(Instr.typeAssert (.iface 256 v) xT 280 true).run Tryz.prog w=.ok (.tuple #[.iface 256 v,.bool true]) w :=
 run_typeAssert_hasB Tryz.underlying280 (by kernel_rfl) v xT w
theorem Gb(v:Value)(xT:TypeId)(w:World):(Instr.typeAssert (.iface 256 v) xT 282 true).run Tryz.prog w=.ok (.tuple #[.nilIface,.bool false]) w :=
 run_typeAssert_lacksB Tryz.underlying282 (by kernel_rfl) (by kernel_rfl) v xT w
theorem QQ(v:Value)(xT:TypeId)(w:World):(Instr.typeAssert (.iface 253 v) xT 277 true).run Tryz.prog w=.ok (.tuple #[.nilIface,.bool false]) w :=
 run_typeAssert_lacksB Tryz.underlying277 (by kernel_rfl) (by kernel_rfl) v xT w
theorem QS(v:Value)(xT:TypeId)(w:World):(Instr.typeAssert (.iface 253 v) xT 286 true).run Tryz.prog w=.ok (.tuple #[.nilIface,.bool false]) w :=
 run_typeAssert_lacksB Tryz.underlying286 (by kernel_rfl) (by kernel_rfl) v xT w
theorem Lt(v:Value)(xT:TypeId)(w:World):(Instr.typeAssert (.iface 253 v) xT 280 true).run Tryz.prog w=.ok (.tuple #[.nilIface,.bool false]) w :=
 run_typeAssert_lacksB Tryz.underlying280 (by kernel_rfl) (by kernel_rfl) v xT w
theorem Lu(v:Value)(xT:TypeId)(w:World):(Instr.typeAssert (.iface 253 v) xT 282 true).run Tryz.prog w=.ok (.tuple #[.iface 253 v,.bool true]) w :=
 run_typeAssert_hasB Tryz.underlying282 (by kernel_rfl) v xT w
theorem Gc(h:Value)(w:World):(Go.method 447 256 h "Unwrap").run Tryz.prog w=.ok (316,h) w:=by kernel_rfl
theorem Lv(h:Value)(w:World):(Go.method 447 253 h "Unwrap").run Tryz.prog w=.ok (314,h) w:=by kernel_rfl
theorem Lw(e b:Int)(g:Nat)(w:World)(hw:w.cell? ⟨g,1,none⟩=some (.iface 48 (.int .i64 e))) :
  Calls Tryz.prog 228 #[.iface 256 (.pointer (some ⟨g,0,none⟩)),.iface 48 (.int .i64 b),.bool true] w fun ev w'=>ev=.returned (.bool (e == b))∧w'=w:=by
 have h0:=Ls 256 (.pointer (some ⟨g,0,none⟩)) (.int .i64 b) (hne:=by decide)
 have h1:=Sb e b
 have h2:=QN;have h3:=QO;have h4:=QP
 have h5:=Py;have h6:=Ga;have h7:=Gb
 have m1:=Gc
 cases hab:(e == b) with
 | true =>
  simp only[hab] at h1
  go_enter Tryz.func228,Tryz.ntmps228
  go_wp2
  refine wp_loop_rounds 2 ?_
  rw[rounds_succ]
  go_wp2
  rw[rounds_succ]
  go_wp2
  go_ret
  exact ⟨rfl,rfl⟩
 | false =>
  simp only[hab] at h1
  go_enter Tryz.func228,Tryz.ntmps228
  go_wp2
  refine wp_loop_rounds 2 ?_
  rw[rounds_succ]
  go_wp2
  rw[rounds_succ]
  go_wp2
  go_ret
  exact ⟨rfl,rfl⟩
def yy(w:World)(b g c:Nat)(l:List Int):Prop :=
 w.cell? ⟨b,0,none⟩=some (.slice (some ⟨g,0,none⟩) l.length c)∧l.length≤c ∧
 ∀(i:Nat) (e:Int),l[i]? =some e→ ∃u,w.cell? ⟨g,i,none⟩=some (.iface 256 (.pointer (some ⟨u,0,none⟩)))∧w.cell? ⟨u,1,none⟩=some (.iface 48 (.int .i64 e))
theorem Sc(l:List Int)(t:Int)(b g c:Nat)(w:World)(hb:l.length≤1000)(hJ:yy w b g c l) :
  Calls Tryz.prog 228 #[.iface 253 (.pointer (some ⟨b,0,none⟩)),.iface 48 (.int .i64 t),.bool true] w fun ev w'=>ev=.returned (.bool (decide (t∈l)))∧w'=w:=by
 have h0:=Ls 253 (.pointer (some ⟨b,0,none⟩)) (.int .i64 t) (hne:=by decide)
 have h5:=QQ;have h6:=Lt;have h7:=Lu
 have m1:=Lv
 obtain ⟨hc0,hlc,hcells⟩:=hJ
 have HC:=(⟨hcells⟩:PLift _)
 clear hcells
 go_enter Tryz.func228,Tryz.ntmps228
 go_wp2
 refine wp_loop_rounds 1 ?_
 rw[rounds_succ]
 go_wp2
 go_loopw [45] (fun i wl=>wl=w∧ ∃k:Nat,i=.int .i64 k∧k≤l.length∧ ∀j:Nat,j<k→l[j]? ≠some t) (fun i _=>l.length-(intOf i).toNat)
 case atStart=>exact ⟨rfl,0,rfl,by omega,fun j hj=>by omega⟩
 case round =>
  obtain ⟨rfl,k,rfl,hk,hne⟩:=hrel
  have HN:=(⟨hne⟩:PLift _)
  clear hne
  by_cases hlt:k<l.length
  ·have hlt':(k:Int)<l.length:=by omega
   obtain ⟨u,hu1,hu2⟩:=HC.down k l[k] (by simp[hlt])
   have hcall:=Lw l[k] t u wr hu2
   cases hkt:(l[k] == t) with
   | true =>
    simp only[hkt] at hcall
    go_wp2_with (first | (go_at_call 228;refine hcall.mono ?_;rintro e w' ⟨rfl,rfl⟩) | go_in)
    go_ret
    refine ⟨?_,rfl⟩
    have:l[k]=t:=by simpa using hkt
    have h9:decide (t∈l)=true:=by rw[decide_eq_true_eq,←this];exact List.getElem_mem hlt
    rw[h9];rfl
   | false =>
    simp only[hkt] at hcall
    go_wp2_with (first | (go_at_call 228;refine hcall.mono ?_;rintro e w' ⟨rfl,rfl⟩) | go_in)
    go_roundw
    case rel =>
     refine ⟨_,_,_,_,_,_,_,_,_,_,_,And.intro ⟨trivial,k+1,?_,by omega,fun j hj=>?_⟩ rfl⟩
     ·simp
     ·by_cases e:j=k
      ·subst e;simp[hlt];simpa using hkt
      ·exact HN.down j (by omega)
    case measure=>simp[intOf];omega
  ·have hlt': ¬(k:Int)<l.length:=by omega
   have hF: ¬t∈l:=fun hh=>by
    obtain ⟨j,hj⟩:=List.mem_iff_getElem?.1 hh
    have hjl:=(List.getElem?_eq_some_iff.1 hj).1
    exact HN.down j (by omega) hj
   have hF2:decide (t∈l)=false:=by simpa using hF
   go_wp2
   go_ret
   refine ⟨?_,rfl⟩
   first | rfl | (rw[hF2];rfl) | (simp only[hF];rfl)
theorem Gd(v:Value)(w:World):(Extern.ReflectliteType.typeOf #[.iface 48 v]).run Tryz.prog w=.ok (.iface 275 (.agg #[.pointer (some ⟨1,48,none⟩)])) w:=by kernel_rfl
theorem QT(w:World):((Extern.ReflectliteType.method fun t=>do Extern.Rtype.noPackHeld "Comparable" t;(fun a=>Value.bool a.comparable) <$> typeInfo t) #[.agg #[.pointer (some ⟨1,48,none⟩)]]).run Tryz.prog w=.ok (.bool true) w:=by kernel_rfl
theorem UW(v:Value)(w:World):(Go.method 447 275 v "Comparable").run Tryz.prog w=.ok (319,v) w:=by kernel_rfl
theorem TI(t:Int)(w:World):Calls Tryz.prog 183 #[.nilIface,.iface 48 (.int .i64 t)] w fun ev w'=>ev=.returned (.bool false)∧w'=w:=by
 have h0:=fun w=>run_eql_iface_nil_left (P:=Tryz.prog) (w:=w) 48 (.int .i64 t) Tryz.underlying170
 go_enter Tryz.func183,Tryz.ntmps183
 go_wp2
 go_ret
 exact ⟨rfl,rfl⟩
theorem Sd(ty:TypeId)(p:Value)(t:Int)(r:Bool)(w:World)(h:Calls Tryz.prog 228 #[.iface ty p,.iface 48 (.int .i64 t),.bool true] w fun ev w'=>ev=.returned (.bool r)∧w'=w) :
  Calls Tryz.prog 183 #[.iface ty p,.iface 48 (.int .i64 t)] w fun ev w'=>ev=.returned (.bool r)∧w'=w:=by
 have h132:=@run_callFunc_extern Tryz.prog 227 _ Extern.ReflectliteType.typeOf Tryz.func227 (by kernel_rfl) (by kernel_rfl) (by kernel_rfl) (by kernel_rfl)
 have hcm:=@run_callFunc_extern Tryz.prog 319 _ (Extern.ReflectliteType.method fun t=>do Extern.Rtype.noPackHeld "Comparable" t;pure (.bool (←typeInfo t).comparable)) Tryz.func319 (by kernel_rfl) (by kernel_rfl) (by kernel_rfl) (by kernel_rfl)
 have t1:=Gd
 have t2:=QT
 have t3:=UW
 go_enter Tryz.func183,Tryz.ntmps183
 go_wp2_with (first | (go_at_call 228;refine h.mono ?_;rintro e w' ⟨rfl,rfl⟩) | go_in)
 go_ret
 exact ⟨rfl,rfl⟩
end Go.Xt
