/- Steps towards the statements of this seat; the conditions stand in each theorem. -/
import Derived.Laws.Bits
import Derived.Laws.Small
import Derived.Laws.Cells
import Derived.Test.YtahdphncepnbeaaGreatDoorXt1
set_option linter.unusedSimpArgs false
set_option linter.unusedVariables false
namespace Go.Xt
open Go.RowKit
structure Ext (w w':World):Prop where
 siz:w.heap.size≤w'.heap.size
 blk: ∀g,g<w.heap.size→w'.heap[g]? =w.heap[g]?
theorem Ext.refl(w:World):Ext w w:=⟨Nat.le_refl _,fun _ _=>rfl⟩
theorem Ext.obj{w w':World}(E:Ext w w'){g:Nat}{o:Obj}(h:w.heap[g]? =some o):w'.heap[g]? =some o:=by rw[E.blk g (GK h)];exact h
theorem Ext.cell{w w':World}(E:Ext w w'){a:Addr}{v:Value}(h:w.cell? a=some v):w'.cell? a=some v:=by
 rw[dr (w:=w) (E.blk _ (cell_lt h))];exact h
section
variable {P:Program}{B:Bas P}{env:List PV}{κ:Kap}{cs:CS}{tm:Nat→Value}{w:World}{a:Act}
theorem wJ{v:Value}{c:C}(h:oR v=some c)(H:List (Nat×Blk)):aR env κ H w c v:=by
 cases v with
 | int k n =>
  simp only[oR] at h
  split at h
  ·cases h;rename_i hr;exact ⟨rfl,.int hr⟩
  ·cases h
 | bool b=>simp only[oR] at h;cases h;exact ⟨rfl,.bool⟩
 | slice A n c' =>
  simp only[oR] at h
  split at h
  ·rename_i hq
   cases h
   simp only[Bool.and_eq_true,Option.isNone_iff_eq_none,decide_eq_true_eq] at hq
   obtain ⟨⟨rfl,rfl⟩,rfl⟩:=hq
   exact ⟨none,rfl⟩
  ·cases h
 | string s =>
  simp only[oR] at h
  cases h
  refine ⟨rfl,?_⟩
  show RP w _ (.str ⟨s.data.toList.toArray⟩) _
  exact .str
 | nilIface=>simp only[oR] at h;cases h;trivial
 | pointer a =>
  simp only[oR] at h
  split at h
  ·cases h;trivial
  ·cases h
 | _=>simp[oR] at h
theorem aj(R:Rel B env κ cs tm w)(ha: ∀t,t<cs.nt→a.tmps.getD t undef=tm (cs.fb+t)){x:Operand}{sv:SV}(h:az cs x=some sv) :
  bV env κ cs.heap w sv (a.eval x):=by
 cases x with
 | tmp t =>
  simp only[az] at h
  split at h
  ·rename_i ht
   simp only[Act.eval]
   rw[ha t ht]
   exact (R.hslot _ _ h).1
  ·cases h
 | const v =>
  simp only[az] at h
  obtain ⟨c,h1,rfl⟩:=Option.map_eq_some_iff.1 h
  exact wJ h1 _
 | global g=>cases h
 | func f=>simp only[az] at h;cases h;exact ⟨#[],rfl,trivial⟩
theorem fI(H:List (Nat×Blk)){p:PV}{v:Value}(h:RP w (Own κ) p v):aR (env++[p]) κ H w (.at (.v env.length)) v :=
 ⟨by simp[Atom.lt],by simpa[den,ii] using h⟩
theorem uC(k:IntKind)(n:Int):inr k (k.wrap n):=by
 cases k<;>simp[inr,IntKind.wrap,IntKind.min,IntKind.max,IntKind.signed,IntKind.bits]<;>(try split)<;>omega
theorem Ov(k:IntKind)(a:Int)(n:Nat)(h:inr k a):inr k (a.fdiv (2 ^ n)):=by
 have hp:(1:Int)≤2 ^ n:=by
  have:(0:Int)<2 ^ n:=Int.pow_pos (by decide)
  omega
 have h1:a.fdiv (2 ^ n)=a / 2 ^ n:=Int.fdiv_eq_ediv_of_nonneg _ (by omega)
 rw[h1]
 have hm:k.min≤0:=by cases k<;>decide
 have hM:0≤k.max:=by cases k<;>decide
 obtain ⟨h2,h3⟩:=h
 refine ⟨?_,?_⟩
 ·rcases Int.lt_or_le a 0 with h0 | h0
  ·have:a≤a / 2 ^ n:=by
    rw[Int.le_ediv_iff_mul_le (by omega)]
    calc a*2 ^ n≤a*1:=Int.mul_le_mul_of_nonpos_left (by omega) (by omega)
     _=a:=by simp
   omega
  ·have:0≤a / 2 ^ n:=Int.ediv_nonneg h0 (by omega)
   omega
 ·rcases Int.lt_or_le a 0 with h0 | h0
  ·have:a / 2 ^ n<0:=Int.ediv_neg_of_neg_of_pos h0 (by omega)
   omega
  ·have:a / 2 ^ n≤a:=Int.ediv_le_self _ h0
   omega
theorem RD(k:IntKind)(a b:Int)(h:inr k a):inr k (a.tmod b):=by
 have hm:k.min≤0:=by cases k<;>decide
 have hM:0≤k.max:=by cases k<;>decide
 obtain ⟨h2,h3⟩:=h
 have h6:(a.tmod b).natAbs≤a.natAbs:=by rw[Int.natAbs_tmod];exact Nat.mod_le _ _
 rcases Int.lt_or_le a 0 with h0 | h0
 ·have e:a.tmod b= -((-a).tmod b):=by rw[Int.neg_tmod];simp
  have h4:0≤(-a).tmod b:=Int.tmod_nonneg _ (by omega)
  constructor<;>omega
 ·have h4:0≤a.tmod b:=Int.tmod_nonneg _ h0
  constructor<;>omega
theorem RE{O:Nat→Prop}{op:BinOp}{t:TypeId}{x y:Operand}{p q r:PV}{u v:Value}{w:World}(hp:RP w O p u)(hq:RP w O q v)(h:lc op p q=some r) :
  ∃z,(∀w',(do eqGuard op t x y u v;binOp op t u v).run P w'=.ok z w')∧RP w O r z:=by
 cases hp<;>cases hq<;>simp only[lc] at h<;>try (cases h;done)
 rename_i k n hk k' n' hk'
 have hg: ∀w',(eqGuard op t x y (.int k n) (.int k' n')).run P w'=.ok () w':=by
  intro w';unfold eqGuard;split<;>rfl
 simp only[Sem.run_bind,hg,Result.andThen_ok]
 by_cases hkk:k=k'
 ·subst hkk
  cases op<;>simp only[if_true] at h
  case shl=>split at h<;>cases h;rename_i hb;exact ⟨_,fun w'=>by simp[binOp,Op.shift,hb],.int (uC _ _)⟩
  case shr=>split at h<;>cases h;rename_i hb;exact ⟨_,fun w'=>by simp[binOp,Op.shift,hb],.int (Ov _ _ _ hk)⟩
  case quo=>split at h<;>cases h;rename_i hb;exact ⟨_,fun w'=>by simp[binOp,Op.intDiv,hb],.int (uC _ _)⟩
  case rem=>split at h<;>cases h;rename_i hb;exact ⟨_,fun w'=>by simp[binOp,Op.intDiv,hb],.int (RD _ _ _ hk)⟩
  all_goals (cases h;first
   | exact ⟨_,fun w'=>by simp[binOp,Op.intArith,Op.intBits,Op.intCmp],.int (uC _ _)⟩
   | exact ⟨_,fun w'=>by simp[binOp,Op.intArith,Op.intBits,Op.intCmp],.bool⟩)
 ·cases op<;>simp only[if_neg hkk] at h<;>try (cases h;done)
  case shl=>split at h<;>cases h;rename_i hb;exact ⟨_,fun w'=>by simp[binOp,Op.shift,hb],.int (uC _ _)⟩
  case shr=>split at h<;>cases h;rename_i hb;exact ⟨_,fun w'=>by simp[binOp,Op.shift,hb],.int (Ov _ _ _ hk)⟩
theorem sT{α:Type}(xs:List α)(l h i:Nat)(d:α)(hi:i<h-l)(hh:h≤xs.length):((xs.take h).drop l).getD i d=xs.getD (l+i) d:=by
 simp only[List.getD_eq_getElem?_getD,List.getElem?_drop,List.getElem?_take]
 rw[if_pos (by omega)]
theorem AU{es:Nat}{xs:List (List PV)}{n es':Nat}(h:qF es xs=true)(hn:xs.length=n)(hp:0<n)(hes: ∀i,i<n→(xs.getD i []).length=es'):es'=es:=by
 cases xs with
 | nil=>simp at hn;omega
 | cons r rs =>
  have:=hes 0 hp
  simp[qF] at h
  simp at this
  omega
theorem RL.sub{O O':Nat→Prop}{xs:List (List PV)}{A:Option Addr}{n c es l h:Nat}(hr:RL w O O' (.list xs) (.slice A n c))(h1:l≤h)(h2:h≤n)(he:qF es xs=true) :
  RL w O O' (.list ((xs.take h).drop l)) (.slice (if c=l then A else A.map (·.add (l*es))) (h-l) (c-l)):=by
 obtain ⟨xs',A',n',c',es',f,ad,hp,hv,hn,hc,hm,hes,hA,hO,hcell,hsub⟩:=hr
 cases hp;cases hv
 have hlen:((xs.take h).drop l).length=h-l:=by simp;omega
 by_cases hp:0<h-l
 ·have e:es'=es:=AU he hn (by omega) hes
  subst e
  refine ⟨_,_,_,_,es',fun i j=>f (l+i) j,ad.add (l*es'),rfl,rfl,hlen,by omega,by omega,fun i hi=>?_,fun _=>?_,fun _ he=>?_,fun i j hi hj=>?_,fun i j hi hj=>?_⟩
  ·rw[sT _ _ _ _ _ hi (by omega)];exact hes _ (by omega)
  ·rw[if_neg (by omega),hA (by omega)];rfl
  ·rw[dp];exact hO (by omega) he
  ·rw[wH,show l*es'+(i*es'+j)=(l+i)*es'+j by rw[Nat.add_mul];omega]
   exact hcell _ _ (by omega) hj
  ·rw[sT _ _ _ _ _ hi (by omega)];exact hsub _ _ (by omega) hj
 ·exact ⟨_,_,_,_,0,f,ad,rfl,rfl,hlen,by omega,by omega,fun i hi=>absurd hi (by omega),fun h=>absurd h hp,fun h=>absurd h hp,fun i j hi=>absurd hi (by omega),fun i j hi=>absurd hi (by omega)⟩
theorem RL.nil{O O':Nat→Prop}{A:Option Addr}{c:Nat}:RL w O O' (.list []) (.slice A 0 c) :=
 ⟨_,_,_,_,0,fun _ _=>undef,⟨0,0,none⟩,rfl,rfl,rfl,Nat.zero_le _,by omega,fun i hi=>absurd hi (by omega),fun h=>absurd h (by omega),fun h=>absurd h (by omega),fun i j hi=>absurd hi (by omega),fun i j hi=>absurd hi (by omega)⟩
theorem RP.nil{O:Nat→Prop}{A:Option Addr}{c:Nat}:RP w O (.list []) (.slice A 0 c) :=
 .list (es:=0) (fun _ _=>undef) ⟨0,0,none⟩ rfl (Nat.zero_le _) (by omega) (fun i hi=>absurd hi (by omega)) (fun h=>absurd h (by omega)) (fun h=>absurd h (by omega)) (fun i j hi=>absurd hi (by omega)) (fun i j hi=>absurd hi (by omega))
theorem yl(R:Rel B env κ cs tm w){b:Nat}{es:Nat}{x:Atom}{v:Value}(hb:av cs.heap b=some (.arr es x))(h:aR env κ cs.heap w (.own b) v) :
  RL w (Own κ) (yj κ b) (den env x) v∧x.lt env.length=true:=by
 obtain ⟨es',x',xs,h1,h2,h3,h4⟩:=h
 rw[hb] at h1;cases h1
 obtain ⟨k1,k2,xs',k3,k4,k5,k6⟩:=R.hblk _ _ hb
 rw[h3] at k3;cases k3
 refine ⟨?_,h2⟩
 rw[h3]
 rcases h4 with ⟨h4,rfl,A,rfl⟩ | ⟨g,c,cells,T,h4,rfl,h5,h6,h7⟩
 ·exact RL.nil
 ·rcases k6 with ⟨k6,_⟩ | ⟨g',cells',T',c',k6,k7,k8,k9,k10⟩
  ·rw[h4] at k6;cases k6
  ·rw[h4] at k6;cases k6
   rw[h6] at k7;cases k7
   refine ⟨_,_,_,_,es,fun i j=>cells.getD (i*es+j) undef,⟨g,0,none⟩,rfl,rfl,rfl,h5,k4,k5,fun _=>rfl,fun _ _=>?_,fun i j hi hj=>?_,fun i j hi hj=>?_⟩
   ·rintro (ho | ⟨b',hne,hb'⟩)
    ·have h8:=R.hob _ (R.hoth▸ho)
     have h9:=(R.hκ _ _ h4).2.1
     exact absurd h8 (Nat.not_lt.2 h9)
    ·exact hne (R.hinj _ _ _ hb' h4)
   ·obtain ⟨u,hu,_⟩:=k10 i j hi hj
    rw[kx,mX h6];simp[hu]
   ·obtain ⟨u,hu,hr⟩:=k10 i j hi hj
    have e:cells.getD (i*es+j) undef=u:=by simp[hu]
    show RP w (Own κ) _ (cells.getD (i*es+j) undef)
    rw[e]
    exact hr
theorem ym(R:Rel B env κ cs tm w){c:C}{x:Atom}{v:Value}(hl:cs.listOf c=some x)(h:aR env κ cs.heap w c v) :
  (RP w (fun _=>False) (den env x) v)∧x.lt env.length=true:=by
 cases c with
 | «at» a=>simp only[CS.listOf] at hl;cases hl;exact ⟨h.2.mono fun _ _ _=>⟨rfl,fun h=>h⟩,h.1⟩
 | nil0=>simp only[CS.listOf] at hl;cases hl;obtain ⟨A,rfl⟩:=h;exact ⟨RP.nil,rfl⟩
 | own b =>
  simp only[CS.listOf] at hl
  split at hl
  ·rename_i es x' hb;cases hl;obtain ⟨h1,h2⟩:=yl R hb h;exact ⟨h1.any,h2⟩
  ·cases hl
 | bor b a=>simp only[CS.listOf] at hl;cases hl;exact ⟨h.2.2.any,h.1⟩
 | _=>simp[CS.listOf] at hl
theorem iK(R:Rel B env κ cs tm w)(ha: ∀t,t<cs.nt→a.tmps.getD t undef=tm (cs.fb+t)): ∀ {xs:List Operand} {svs:List SV},cd cs xs=some svs →
  aw (bV env κ cs.heap w) svs (xs.map a.eval)
 | [],_,h=>by simp[cd] at h;subst h;trivial
 | x::xs,_,h=>by
  simp only[cd] at h
  obtain ⟨v,h1,h2⟩:=Option.bind_eq_some_iff.1 h
  obtain ⟨vs,h3,h4⟩:=Option.bind_eq_some_iff.1 h2
  cases h4
  exact ⟨aj R ha h1,iK R ha h3⟩
def FW(ρ:Operand→Value)(o:Oper):Option Nat :=
 match o.op with
 | .load _ x=>match ρ x with
  | .pointer (some ad)=>some ad.block
  | _=>none
 | _=>none
def ky(ρ:Operand→Value)(o:Oper)(w w':World):Prop:= ∀g,g<w.heap.size→FW ρ o=some g→w'.heap[g]? =w.heap[g]?
theorem ky.refl(ρ:Operand→Value)(o:Oper)(w:World):ky ρ o w w:=fun _ _ _=>rfl
def QOk(P:Program)(env:List PV)(κ:Kap)(H:List (Nat×Blk))(w:World)(ρ:Operand→Value)(o:Oper):QR→Prop
 | .val sv=> ∃v,(∀w',ky ρ o w w'→(execOp ρ o).run P w'=.ok (.value v) w')∧bV env κ H w sv v
 | .em pop as f=> ∀p,ev pop (as.map (den env))=some p →
   ∃v,(∀w',ky ρ o w w'→(execOp ρ o).run P w'=.ok (.value v) w')∧bV (env++[p]) κ H w (f (.v env.length)) v
theorem nE(R:Rel B env κ cs tm w){x:Atom}{v:Value}(h:bV env κ cs.heap w (.one (.at x)) v):x.lt env.length=true∧RP w (Own κ) (den env x) v:=h
theorem Q9(R:Rel B env κ cs tm w)(ha: ∀t,t<cs.nt→a.tmps.getD t undef=tm (cs.fb+t)){o:Oper}{x:Operand}(ho:o.op=.move x∨o.op=.assign x){sv:SV}(h:az cs x=some sv) :
  QOk P env κ cs.heap w a.eval o (.val sv) :=
 ⟨a.eval x,fun w' _=>by rcases ho with ho | ho<;>simp[execOp,ho],aj R ha h⟩
theorem U3(R:Rel B env κ cs tm w)(ha: ∀t,t<cs.nt→a.tmps.getD t undef=tm (cs.fb+t)){o:Oper}{op:BinOp}{t u:TypeId}{x y:Operand}(ho:o.op=.binOp op t x y u){p q:Atom}
  (hx:az cs x=some (.one (.at p))) (hy:az cs y=some (.one (.at q))) :
  QOk P env κ cs.heap w a.eval o (.em (.bin op) [p,q] fun r=>.one (.at r)):=by
 intro r hr
 obtain ⟨_,h1⟩:=nE R (aj R ha hx)
 obtain ⟨_,h2⟩:=nE R (aj R ha hy)
 obtain ⟨z,hz1,hz2⟩:=RE (P:=P) (op:=op) (t:=t) (x:=x) (y:=y) h1 h2 hr
 refine ⟨z,fun w' _=>?_,fI cs.heap hz2⟩
 have:=hz1 w'
 simp only[Sem.run_bind] at this
 simp only[execOp,ho,Sem.run_bind,this,Result.andThen_ok,Sem.run_pure]
theorem SP(R:Rel B env κ cs tm w)(ha: ∀t,t<cs.nt→a.tmps.getD t undef=tm (cs.fb+t)){o:Oper}{neg:Bool}{t u:TypeId}{x y:Operand}(ho:o.op=.binOp (if neg then .neq else .eql) t x y u)
  (ht:P.underlying t=some .bool) {p q:Atom} (hx:az cs x=some (.one (.at p))) (hy:az cs y=some (.one (.at q))) :
  QOk P env κ cs.heap w a.eval o (.em (.beq neg) [p,q] fun r=>.one (.at r)):=by
 intro r hr
 obtain ⟨_,h1⟩:=nE R (aj R ha hx)
 obtain ⟨_,h2⟩:=nE R (aj R ha hy)
 simp only[List.map_cons,List.map_nil] at hr
 generalize den env p=p' at *
 generalize den env q=q' at *
 generalize hx':a.eval x=u' at *
 generalize hy':a.eval y=v' at *
 cases h1<;>cases h2<;>simp only[ev] at hr<;>try (cases hr;done)
 rename_i b1 b2
 cases hr
 have hg: ∀(op:BinOp) w',(eqGuard op t x y (.bool b1) (.bool b2)).run P w'=.ok () w':=by
  intro op w';unfold eqGuard;split<;>rfl
 cases neg
 ·have ho':o.op=.binOp .eql t x y u:=by simpa using ho
  exact ⟨.bool (b1 == b2),fun w' _=>by simp only[execOp,ho',hx',hy',Sem.run_bind,hg,Result.andThen_ok,run_eql_bool w' t b1 b2 ht,Sem.run_pure],fI cs.heap .bool⟩
 ·have ho':o.op=.binOp .neq t x y u:=by simpa using ho
  exact ⟨.bool (!(b1 == b2)),fun w' _=>by simp only[execOp,ho',hx',hy',Sem.run_bind,hg,Result.andThen_ok,run_neq_bool w' t b1 b2 ht,Sem.run_pure],fI cs.heap .bool⟩
theorem UQ(R:Rel B env κ cs tm w)(ha: ∀t,t<cs.nt→a.tmps.getD t undef=tm (cs.fb+t)){o:Oper}{op:UnOp}{t:TypeId}{x:Operand}(ho:o.op=.unOp op t x){p:Atom}
  (hx:az cs x=some (.one (.at p))):QOk P env κ cs.heap w a.eval o (.em (.un op) [p] fun r=>.one (.at r)):=by
 intro r hr
 obtain ⟨_,h1⟩:=nE R (aj R ha hx)
 simp only[List.map_cons,List.map_nil] at hr
 generalize den env p=p' at *
 generalize hu:a.eval x=u' at *
 cases h1<;>cases op<;>simp only[ev] at hr<;>try (cases hr;done)
 ·cases hr;exact ⟨_,fun w' _=>by simp[execOp,ho,hu,Op.unary,Op.intArith],fI cs.heap (.int (uC _ _))⟩
 ·cases hr;exact ⟨_,fun w' _=>by simp[execOp,ho,hu,Op.unary],fI cs.heap .bool⟩
theorem bj{P:Program}{t:TypeId}{d:TypeDesc}(h:P.underlying t=some d)(w':World):(underlying t).run P w'=.ok d w':=by
 simp[underlying,h]
theorem SX(R:Rel B env κ cs tm w)(ha: ∀t,t<cs.nt→a.tmps.getD t undef=tm (cs.fb+t)){o:Oper}{s t:TypeId}{x:Operand}(ho:o.op=.convert s t x){ik:IntKind}{d:TypeDesc}
  (ht:P.underlying t=some (.int ik)) (hs:P.underlying s=some d) {p:Atom}
  (hx:az cs x=some (.one (.at p))):QOk P env κ cs.heap w a.eval o (.em (.conv ik) [p] fun r=>.one (.at r)):=by
 intro r hr
 obtain ⟨_,h1⟩:=nE R (aj R ha hx)
 simp only[List.map_cons,List.map_nil] at hr
 generalize den env p=p' at *
 generalize hu:a.eval x=u' at *
 cases h1<;>simp only[ev] at hr<;>try (cases hr;done)
 cases hr
 refine ⟨_,fun w' _=>?_,fI cs.heap (.int (uC _ _))⟩
 simp only[execOp,ho,hu,convert,Sem.run_bind,bj hs,bj ht,Result.andThen_ok]
 simp[Conv.intToInt]
theorem ek{t:TypeId}(h:okT P t=true)(w':World):(sizeOf t).run P w'=.ok (P.cellsOf t) w':=by
 simp only[okT,Option.isSome_iff_exists] at h
 obtain ⟨i,h⟩:=h
 simp[sizeOf,typeInfo,h,Program.cellsOf]
theorem MP{t:TypeId}(h:P.cellsOf t≠0):okT P t=true:=by
 cases hi:P.info? t with
 | none=>simp[Program.cellsOf,hi] at h
 | some i=>simp[okT,hi]
theorem mY{t:TypeId}{d:TypeDesc}(h:P.underlying t=some d):okT P t=true:=by
 cases hi:P.info? t with
 | none=>simp[Program.underlying,hi] at h
 | some i=>simp[okT,hi]
end
end Go.Xt
