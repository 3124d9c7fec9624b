/- Steps towards the statements of this seat; the conditions stand in each theorem. -/
import Derived.Test.YtbobikmalojafaaGreatDoorRows
import Derived.WalkKit
import Derived.LaidEql
import Derived.Stop.Asserts
import Derived.RowKitTokens
import Derived.Test.YtbobikmalojafaaGreatDoorXt20
set_option linter.unusedSimpArgs false
set_option linter.unusedVariables false
set_option maxRecDepth 100000
namespace Go.Xt
open Go Go.RowKit Go.Extern.Stop Go.Stop Go.Extern Go.Proofs
theorem pi{P:Program}(w:World)(d:Nat){ti tn:TypeId}{ms:Array (String×TypeId)}{i:TypeInfo}{k:IntKind}(a b:Int)
  (hi:P.underlying ti=some (.interface ms)) (hn:P.underlying tn=some (.int k)) (hinfo:P.info? tn=some i) (hcomp:i.comparable=true) :
  (Op.equalIn (d+2) ti (.iface tn (.int k a)) (.iface tn (.int k b))).run P w=.ok (a == b) w:=by
 simp[Op.equalIn,run_underlying hi,run_underlying hn,typeInfo,hinfo,hcomp]
theorem sU{P:Program}(w:World){ti tn:TypeId}{ms:Array (String×TypeId)}{k:IntKind}(a b:Int)
  (hi:P.underlying ti=some (.interface ms)) (hn:P.underlying tn=some (.int k)) (hc:(P.info? tn).map (·.comparable)=some true) :
  (binOp .eql ti (.iface tn (.int k a)) (.iface tn (.int k b))).run P w=.ok (.bool (a == b)) w:=by
 obtain ⟨i,hinfo,hcomp⟩:=Option.map_eq_some_iff.1 hc
 simp only[binOp]
 simp[Op.equal,Op.maxDepth,pi w 9998 a b hi hn hinfo hcomp]
theorem K2(a b:Int)(w:World):(binOp .eql 160 (.iface 38 (.int .i64 a)) (.iface 38 (.int .i64 b))).run Tryz.prog w=.ok (.bool (a == b)) w :=
 sU w a b Tryz.underlying160 Tryz.underlying38 (by kernel_rfl)
theorem Es(tx:TypeId)(vx vy:Value)(w:World)(hne:tx≠38):(binOp .eql 160 (.iface tx vx) (.iface 38 vy)).run Tryz.prog w=.ok (.bool false) w :=
 run_eql_iface_types tx _ vx vy Tryz.underlying160 hne w
theorem J1(v:Value)(xT:TypeId)(w:World):(Instr.typeAssert (.iface 38 v) xT 252 true).run Tryz.prog w=.ok (.tuple #[.nilIface,.bool false]) w :=
 run_typeAssert_lacksB Tryz.underlying252 (by kernel_rfl) (by kernel_rfl) v xT w
theorem J2(v:Value)(xT:TypeId)(w:World):(Instr.typeAssert (.iface 38 v) xT 255 true).run Tryz.prog w=.ok (.tuple #[.nilIface,.bool false]) w :=
 run_typeAssert_lacksB Tryz.underlying255 (by kernel_rfl) (by kernel_rfl) v xT w
theorem J3(v:Value)(xT:TypeId)(w:World):(Instr.typeAssert (.iface 38 v) xT 257 true).run Tryz.prog w=.ok (.tuple #[.nilIface,.bool false]) w :=
 run_typeAssert_lacksB Tryz.underlying257 (by kernel_rfl) (by kernel_rfl) v xT w
theorem HU(v:Value)(xT:TypeId)(w:World):(Instr.typeAssert (.iface 237 v) xT 252 true).run Tryz.prog w=.ok (.tuple #[.nilIface,.bool false]) w :=
 run_typeAssert_lacksB Tryz.underlying252 (by kernel_rfl) (by kernel_rfl) v xT w
theorem HV(v:Value)(xT:TypeId)(w:World):(Instr.typeAssert (.iface 237 v) xT 261 true).run Tryz.prog w=.ok (.tuple #[.nilIface,.bool false]) w :=
 run_typeAssert_lacksB Tryz.underlying261 (by kernel_rfl) (by kernel_rfl) v xT w
theorem zZ(v:Value)(xT:TypeId)(w:World):(Instr.typeAssert (.iface 237 v) xT 255 true).run Tryz.prog w=.ok (.tuple #[.iface 237 v,.bool true]) w :=
 run_typeAssert_hasB Tryz.underlying255 (by kernel_rfl) v xT w
theorem Aa(v:Value)(xT:TypeId)(w:World):(Instr.typeAssert (.iface 237 v) xT 257 true).run Tryz.prog w=.ok (.tuple #[.nilIface,.bool false]) w :=
 run_typeAssert_lacksB Tryz.underlying257 (by kernel_rfl) (by kernel_rfl) v xT w
theorem J4(v:Value)(xT:TypeId)(w:World):(Instr.typeAssert (.iface 234 v) xT 252 true).run Tryz.prog w=.ok (.tuple #[.nilIface,.bool false]) w :=
 run_typeAssert_lacksB Tryz.underlying252 (by kernel_rfl) (by kernel_rfl) v xT w
theorem J5(v:Value)(xT:TypeId)(w:World):(Instr.typeAssert (.iface 234 v) xT 261 true).run Tryz.prog w=.ok (.tuple #[.nilIface,.bool false]) w :=
 run_typeAssert_lacksB Tryz.underlying261 (by kernel_rfl) (by kernel_rfl) v xT w
theorem Et(v:Value)(xT:TypeId)(w:World):(Instr.typeAssert (.iface 234 v) xT 255 true).run Tryz.prog w=.ok (.tuple #[.nilIface,.bool false]) w :=
 run_typeAssert_lacksB Tryz.underlying255 (by kernel_rfl) (by kernel_rfl) v xT w
theorem Eu(v:Value)(xT:TypeId)(w:World):(Instr.typeAssert (.iface 234 v) xT 257 true).run Tryz.prog w=.ok (.tuple #[.iface 234 v,.bool true]) w :=
 run_typeAssert_hasB Tryz.underlying257 (by kernel_rfl) v xT w
theorem Ab(h:Value)(w:World):(Go.method 419 237 h "Unwrap").run Tryz.prog w=.ok (290,h) w:=by kernel_rfl
theorem Ev(h:Value)(w:World):(Go.method 419 234 h "Unwrap").run Tryz.prog w=.ok (288,h) w:=by kernel_rfl
theorem Ew(e b:Int)(g:Nat)(w:World)(hw:w.cell? ⟨g,1,none⟩=some (.iface 38 (.int .i64 e))) :
  Calls Tryz.prog 210 #[.iface 237 (.pointer (some ⟨g,0,none⟩)),.iface 38 (.int .i64 b),.bool true] w fun ev w'=>ev=.returned (.bool (e == b))∧w'=w:=by
 have h0:=Es 237 (.pointer (some ⟨g,0,none⟩)) (.int .i64 b) (hne:=by decide)
 have h1:=K2 e b
 have h2:=J1;have h3:=J2;have h4:=J3
 have h5:=HU;have h6:=zZ;have h7:=Aa
 have m1:=Ab
 cases hab:(e == b) with
 | true =>
  simp only[hab] at h1
  go_enter Tryz.func210,Tryz.ntmps210
  go_wp2
  refine wp_loop_rounds 2 ?_
  rw[rounds_succ]
  go_wp2
  rw[rounds_succ]
  go_wp2
  go_ret
  exact ⟨rfl,rfl⟩
 | false =>
  simp only[hab] at h1
  go_enter Tryz.func210,Tryz.ntmps210
  go_wp2
  refine wp_loop_rounds 2 ?_
  rw[rounds_succ]
  go_wp2
  rw[rounds_succ]
  go_wp2
  go_ret
  exact ⟨rfl,rfl⟩
def tS(w:World)(b g c:Nat)(l:List Int):Prop :=
 w.cell? ⟨b,0,none⟩=some (.slice (some ⟨g,0,none⟩) l.length c)∧l.length≤c ∧
 ∀(i:Nat) (e:Int),l[i]? =some e→ ∃u,w.cell? ⟨g,i,none⟩=some (.iface 237 (.pointer (some ⟨u,0,none⟩)))∧w.cell? ⟨u,1,none⟩=some (.iface 38 (.int .i64 e))
theorem K3(l:List Int)(t:Int)(b g c:Nat)(w:World)(hb:l.length≤1000)(hJ:tS w b g c l) :
  Calls Tryz.prog 210 #[.iface 234 (.pointer (some ⟨b,0,none⟩)),.iface 38 (.int .i64 t),.bool true] w fun ev w'=>ev=.returned (.bool (decide (t∈l)))∧w'=w:=by
 have h0:=Es 234 (.pointer (some ⟨b,0,none⟩)) (.int .i64 t) (hne:=by decide)
 have h5:=J4;have h6:=Et;have h7:=Eu
 have m1:=Ev
 obtain ⟨hc0,hlc,hcells⟩:=hJ
 have HC:=(⟨hcells⟩:PLift _)
 clear hcells
 go_enter Tryz.func210,Tryz.ntmps210
 go_wp2
 refine wp_loop_rounds 1 ?_
 rw[rounds_succ]
 go_wp2
 go_loopw [45] (fun i wl=>wl=w∧ ∃k:Nat,i=.int .i64 k∧k≤l.length∧ ∀j:Nat,j<k→l[j]? ≠some t) (fun i _=>l.length-(intOf i).toNat)
 case atStart=>exact ⟨rfl,0,rfl,by omega,fun j hj=>by omega⟩
 case round =>
  obtain ⟨rfl,k,rfl,hk,hne⟩:=hrel
  have HN:=(⟨hne⟩:PLift _)
  clear hne
  by_cases hlt:k<l.length
  ·have hlt':(k:Int)<l.length:=by omega
   obtain ⟨u,hu1,hu2⟩:=HC.down k l[k] (by simp[hlt])
   have hcall:=Ew l[k] t u wr hu2
   cases hkt:(l[k] == t) with
   | true =>
    simp only[hkt] at hcall
    go_wp2_with (first | (go_at_call 210;refine hcall.mono ?_;rintro e w' ⟨rfl,rfl⟩) | go_in)
    go_ret
    refine ⟨?_,rfl⟩
    have:l[k]=t:=by simpa using hkt
    have h9:decide (t∈l)=true:=by rw[decide_eq_true_eq,←this];exact List.getElem_mem hlt
    rw[h9];rfl
   | false =>
    simp only[hkt] at hcall
    go_wp2_with (first | (go_at_call 210;refine hcall.mono ?_;rintro e w' ⟨rfl,rfl⟩) | go_in)
    go_roundw
    case rel =>
     refine ⟨_,_,_,_,_,_,_,_,_,_,_,And.intro ⟨trivial,k+1,?_,by omega,fun j hj=>?_⟩ rfl⟩
     ·simp
     ·by_cases e:j=k
      ·subst e;simp[hlt];simpa using hkt
      ·exact HN.down j (by omega)
    case measure=>simp[intOf];omega
  ·have hlt': ¬(k:Int)<l.length:=by omega
   have hF: ¬t∈l:=fun hh=>by
    obtain ⟨j,hj⟩:=List.mem_iff_getElem?.1 hh
    have hjl:=(List.getElem?_eq_some_iff.1 hj).1
    exact HN.down j (by omega) hj
   have hF2:decide (t∈l)=false:=by simpa using hF
   go_wp2
   go_ret
   refine ⟨?_,rfl⟩
   first | rfl | (rw[hF2];rfl) | (simp only[hF];rfl)
theorem Ac(v:Value)(w:World):(Extern.ReflectliteType.typeOf #[.iface 38 v]).run Tryz.prog w=.ok (.iface 250 (.agg #[.pointer (some ⟨1,38,none⟩)])) w:=by kernel_rfl
theorem J6(w:World):((Extern.ReflectliteType.method fun t=>do Extern.Rtype.noPackHeld "Comparable" t;(fun a=>Value.bool a.comparable) <$> typeInfo t) #[.agg #[.pointer (some ⟨1,38,none⟩)]]).run Tryz.prog w=.ok (.bool true) w:=by kernel_rfl
theorem Mb(v:Value)(w:World):(Go.method 419 250 v "Comparable").run Tryz.prog w=.ok (293,v) w:=by kernel_rfl
theorem Lj(t:Int)(w:World):Calls Tryz.prog 179 #[.nilIface,.iface 38 (.int .i64 t)] w fun ev w'=>ev=.returned (.bool false)∧w'=w:=by
 have h0:=fun w=>run_eql_iface_nil_left (P:=Tryz.prog) (w:=w) 38 (.int .i64 t) Tryz.underlying160
 go_enter Tryz.func179,Tryz.ntmps179
 go_wp2
 go_ret
 exact ⟨rfl,rfl⟩
theorem K4(ty:TypeId)(p:Value)(t:Int)(r:Bool)(w:World)(h:Calls Tryz.prog 210 #[.iface ty p,.iface 38 (.int .i64 t),.bool true] w fun ev w'=>ev=.returned (.bool r)∧w'=w) :
  Calls Tryz.prog 179 #[.iface ty p,.iface 38 (.int .i64 t)] w fun ev w'=>ev=.returned (.bool r)∧w'=w:=by
 have h132:=@run_callFunc_extern Tryz.prog 209 _ Extern.ReflectliteType.typeOf Tryz.func209 (by kernel_rfl) (by kernel_rfl) (by kernel_rfl) (by kernel_rfl)
 have hcm:=@run_callFunc_extern Tryz.prog 293 _ (Extern.ReflectliteType.method fun t=>do Extern.Rtype.noPackHeld "Comparable" t;pure (.bool (←typeInfo t).comparable)) Tryz.func293 (by kernel_rfl) (by kernel_rfl) (by kernel_rfl) (by kernel_rfl)
 have t1:=Ac
 have t2:=J6
 have t3:=Mb
 go_enter Tryz.func179,Tryz.ntmps179
 go_wp2_with (first | (go_at_call 210;refine h.mono ?_;rintro e w' ⟨rfl,rfl⟩) | go_in)
 go_ret
 exact ⟨rfl,rfl⟩
end Go.Xt
