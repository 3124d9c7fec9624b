/- Steps towards the statements of this seat; the conditions stand in each theorem. -/
import Derived.Test.YtahdphncepnbeaaGreatDoorXt3
set_option linter.unusedSimpArgs false
set_option linter.unusedVariables false
namespace Go.Xt
open Go.RowKit
section
variable {P:Program}{B:Bas P}{env:List PV}{κ:Kap}{cs:CS}{tm:Nat→Value}{w:World}{a:Act}
theorem sub?_some{α:Type}{l r:List α}{off n:Nat}(h:sub? l off n=some r):off+n≤l.length∧r=(l.drop off).take n:=by
 unfold sub? at h;split at h
 ·cases h;exact ⟨by assumption,rfl⟩
 ·cases h
theorem qp{g:Nat→Value}{n j:Nat}{u:Value}(h:((List.range n).map g)[j]? =some u):j<n∧u=g j:=by
 rw[List.getElem?_map] at h
 obtain ⟨k,h1,h2⟩:=Option.map_eq_some_iff.1 h
 have hj:j<n:=by
  rcases Nat.lt_or_ge j n with h | h
  ·exact h
  ·simp[h] at h1
 rw[List.getElem?_range hj] at h1
 cases h1
 exact ⟨hj,h2.symm⟩
theorem po{ad:Addr}{n:Nat}{R:Nat→Value→Prop}(h: ∀j,j<n→ ∃u,w.cell? (ad.add j)=some u∧R j u) :
  ∃us:List Value,us.length=n∧(∀j u,us[j]? =some u→w.cell? (ad.add j)=some u)∧ ∀j u,us[j]? =some u→R j u:=by
 let g:Nat→Value:=fun j=>(w.cell? (ad.add j)).getD undef
 have hg: ∀j,j<n→w.cell? (ad.add j)=some (g j)∧R j (g j):=fun j hj=>by
  obtain ⟨u,h1,h2⟩:=h j hj
  have:g j=u:=by simp[g,h1]
  rw[this];exact ⟨h1,h2⟩
 refine ⟨(List.range n).map g,by simp,fun j u hu=>?_,fun j u hu=>?_⟩
 ·obtain ⟨h1,rfl⟩:=qp hu;exact (hg j h1).1
 ·obtain ⟨h1,rfl⟩:=qp hu;exact (hg j h1).2
theorem jk{α:Type}{R:α→Value→Prop}: ∀ {as:List α} {us:List Value},as.length=us.length→(∀(j:Nat) (x:α) (u:Value),as[j]? =some x→us[j]? =some u→R x u)→af R as us
 | [],[],_,_=>trivial
 | x::as,u::us,hl,h=>⟨h 0 x u rfl rfl,jk (by simpa using hl) fun j y v hy hv=>h (j+1) y v (by simpa using hy) (by simpa using hv)⟩
 | [],_::_,hl,_=>by simp at hl
 | _::_,[],hl,_=>by simp at hl
theorem qO(R:Rel B env κ cs tm w){p:C}{v:Value}{n:Nat}{l:List C}(h:oX cs n p=some l)(hr:az env κ cs.heap w p v) :
  ∃(ad:Addr) (us:List Value),v=.pointer (some ad)∧us.length=n∧(∀(j:Nat) (u:Value),us[j]? =some u→w.cell? (ad.add j)=some u)∧af (az env κ cs.heap w) l us:=by
 cases p with
 | ptr b off =>
  simp only[oX] at h
  split at h
  ·rename_i bl hb
   obtain ⟨h1,rfl⟩:=sub?_some h
   obtain ⟨bl',g,h2,h3,rfl⟩:=hr
   rw[hb] at h2;cases h2
   obtain ⟨g',cells,T,h4,h5,h6⟩:=R.hblk _ _ hb
   rw[h3] at h4;cases h4
   refine ⟨⟨g,off,none⟩,(cells.toList.drop off).take n,rfl,?_,fun j u hu=>?_,(h6.drop off).take n⟩
   ·have:=h6.length;simp at this ⊢;omega
   ·rw[fx,hU h5]
    rw[List.getElem?_take] at hu
    split at hu
    ·rw[List.getElem?_drop] at hu;simpa using hu
    ·cases hu
  ·cases h
 | eptr bo x i off m =>
  simp only[oX] at h
  split at h
  ·rename_i hm
   cases h
   obtain ⟨h1,h2,h3,ad,rfl,h4⟩:=hr
   obtain ⟨us,k1,k2,k3⟩:=po (w:=w) (ad:=ad) (n:=n) (R:=fun j u=>RP w (Own κ) (den env (.cell x i (off+j))) u) fun j hj=>by
    obtain ⟨_,u,h5,h6⟩:=h4 j (by omega);exact ⟨u,h5,h6⟩
   refine ⟨ad,us,rfl,k1,k2,jk (by simp[k1]) fun j c u hc hu=>?_⟩
   rw[List.getElem?_map] at hc
   obtain ⟨j',h5,rfl⟩:=Option.map_eq_some_iff.1 hc
   have hj:j'=j:=by
    rcases Nat.lt_or_ge j n with h | h
    ·rw[List.getElem?_range h] at h5;simpa using h5.symm
    ·simp[h] at h5
   subst hj
   exact ⟨by simp[Atom.lt,h1,h2],k3 _ u hu⟩
  ·cases h
 | aptr b i off =>
  simp only[oX] at h
  split at h
  ·rename_i es x hb
   split at h
   ·rename_i hm
    cases h
    obtain ⟨h1,es',x',xs,g,k,m,h2,h3,h4,h5,h6,h7,h8,rfl⟩:=hr
    rw[hb] at h2;cases h2
    obtain ⟨k1,k2,xs',k3,k4,k5,k6⟩:=R.hblk _ _ hb
    rw[h4] at k3;cases k3
    rcases k6 with ⟨k6,_⟩ | ⟨g',cells,T,c,k6,k7,k8,k9,k10⟩
    ·rw[h5] at k6;cases k6
    ·rw[h5] at k6;cases k6
     obtain ⟨us,e1,e2,e3⟩:=po (w:=w) (ad:=⟨g,m.toNat*es+off,none⟩) (n:=n) (R:=fun j u=>RP w (Own κ) (den env (.cell x i (off+j))) u) fun j hj=>by
      obtain ⟨u,h9,h10⟩:=k10 m.toNat (off+j) (by omega) (by omega)
      refine ⟨u,?_,?_⟩
      ·rw[fx,hU k7,Nat.add_assoc];exact h9
      ·simpa[den,h4,h6,PV.cellAt] using h10
     refine ⟨_,us,rfl,e1,e2,jk (by simp[e1]) fun j c u hc hu=>?_⟩
     rw[List.getElem?_map] at hc
     obtain ⟨j',h9,rfl⟩:=Option.map_eq_some_iff.1 hc
     have hj:j'=j:=by
      rcases Nat.lt_or_ge j n with h | h
      ·rw[List.getElem?_range h] at h9;simpa using h9.symm
      ·simp[h] at h9
     subst hj
     exact ⟨by simp[Atom.lt,h1,h3],e3 _ u hu⟩
   ·cases h
  ·cases h
 | _=>simp[oX] at h
theorem kf{t:TypeId}{d:TypeDesc}(h:P.underlying t=some d)(w':World):(isAgg t).run P w'=.ok (am P t) w':=by
 simp only[isAgg,Sem.run_bind,aI h,Result.andThen_ok,am,h]
 cases d<;>rfl
theorem E4(R:Rel B env κ cs tm w)(ha: ∀t,t<cs.nt→a.tmps.getD t undef=tm (cs.fb+t)){o:Oper}{t:TypeId}{x:Operand}(ho:o.op=.load t x){d:TypeDesc}
  (ht:P.underlying t=some d) {p:C} (hx:ah cs x=some (.one p)) {l:List C} (hl:oX cs (if am P t then P.cellsOf t else 1) p=some l) :
  QOk P env κ cs.heap w a.eval o (.val (if am P t then .agg l else .one (l.headD .junk))):=by
 have hr:az env κ cs.heap w p (a.eval x):=aa R ha hx
 obtain ⟨ad,us,h1,h2,h3,h4⟩:=qO R hl hr
 by_cases hg:am P t=true
 ·simp only[hg,if_true] at h2 ⊢
  refine ⟨.agg us.toArray,fun w' E=>?_,us.toArray,rfl,by simpa using h4⟩
  have same: ∀(j:Nat) (u:Value),w.cell? (ad.add j)=some u→w'.cell? (ad.add j)=w.cell? (ad.add j):=fun j u hc =>
   bI (by rw[bF];exact E _ (by have:=cell_lt hc;rwa [bF] at this) (by simp[vb,ho,h1]))
  have:=run_loadCells_list (P:=P) w' ad us fun j u hu=>(same j u (h3 j u hu)).trans (h3 j u hu)
  rw[h2] at this
  simp[execOp,ho,Instr.loadAt,h1,Instr.sureAddr,loadVar,kf ht,hg,cq (ib ht),this]
 ·have hg':am P t=false:=by simpa using hg
  simp only[hg',Bool.false_eq_true,if_false] at h2 ⊢
  obtain ⟨u,rfl⟩: ∃u,us=[u]:=by
   match us,h2 with
   | [u],_=>exact ⟨u,rfl⟩
  obtain ⟨c,rfl⟩: ∃c,l=[c]:=by
   match l,h4.length with
   | [c],_=>exact ⟨c,rfl⟩
  refine ⟨u,fun w' E=>?_,h4.1⟩
  have hc:=h3 0 u rfl
  have h5:w'.cell? (ad.add 0)=some u:=(bI (by rw[bF];exact E _ (by have:=cell_lt hc;rwa [bF] at this) (by simp[vb,ho,h1]))).trans hc
  have h6:ad.add 0=ad:=by simp[Addr.add]
  rw[h6] at h5
  simp[execOp,ho,Instr.loadAt,h1,Instr.sureAddr,loadVar,kf ht,hg',h5]
theorem pp{t:TypeId}{d:TypeDesc}(h:P.underlying t=some d)(cells:Array Value)(off:Nat)(w':World) :
  (part t cells off).run P w'=if am P t then .ok (.agg (cells.extract off (off+P.cellsOf t))) w' else (match cells[off]? with | some v=>.ok v w' | none=>.halt (.stuck "part: no such cell") w'):=by
 simp only[part,Sem.run_bind,kf h,Result.andThen_ok]
 by_cases hg:am P t=true
 ·simp[hg,cq (ib h)]
 ·have hg':am P t=false:=by simpa using hg
  simp only[hg',Bool.false_eq_true,if_false]
  cases cells[off]? <;>simp
theorem Fb(R:Rel B env κ cs tm w)(ha: ∀t,t<cs.nt→a.tmps.getD t undef=tm (cs.fb+t)){o:Oper}{t:TypeId}{x:Operand}{f:Nat}(ho:o.op=.field t x f){fs:Array Field}{fd:Field}
  (ht:P.underlying t=some (.struct fs)) (hf:fs[f]? =some fd) {d:TypeDesc} (hd:P.underlying fd.type=some d) {l l':List C} (hx:ah cs x=some (.agg l))
  (hl:sub? l fd.offset (if am P fd.type then P.cellsOf fd.type else 1)=some l') :
  QOk P env κ cs.heap w a.eval o (.val (if am P fd.type then .agg l' else .one (l'.headD .junk))):=by
 obtain ⟨vs,h1,h2⟩:aZ env κ cs.heap w (.agg l) (a.eval x):=aa R ha hx
 obtain ⟨h3,rfl⟩:=sub?_some hl
 have hlen:=h2.length
 simp only[Array.length_toList] at hlen
 by_cases hg:am P fd.type=true
 ·simp only[hg,if_true] at h3 ⊢
  refine ⟨.agg (vs.extract fd.offset (fd.offset+P.cellsOf fd.type)),fun w' _=>?_,_,rfl,?_⟩
  ·simp[execOp,ho,Instr.field,aI ht,hf,h1,asAgg,pp hd,hg]
  ·have:=(h2.drop fd.offset).take (P.cellsOf fd.type)
   simpa[List.extract_eq_take_drop,Array.toList_extract] using this
 ·have hg':am P fd.type=false:=by simpa using hg
  simp only[hg',Bool.false_eq_true,if_false] at h3 ⊢
  have hlt:fd.offset<vs.size:=by omega
  refine ⟨vs[fd.offset],fun w' _=>?_,?_⟩
  ·simp[execOp,ho,Instr.field,aI ht,hf,h1,asAgg,pp hd,hg',hlt]
  ·obtain ⟨u,h5,h6⟩:=h2.get fd.offset (l[fd.offset]'(by omega)) (by simp)
   have h7:u=vs[fd.offset]:=by simpa[hlt] using h5.symm
   subst h7
   have h8:((l.drop fd.offset).take 1).headD C.junk=l[fd.offset]'(by omega):=by
    rw[List.drop_eq_getElem_cons (by omega)];rfl
   rw[h8];exact h6
theorem De(R:Rel B env κ cs tm w)(ha: ∀t,t<cs.nt→a.tmps.getD t undef=tm (cs.fb+t)){o:Oper}{x:Operand}{i:Nat}(ho:o.op=.extract x i){ps:List (Bool×List C)}{p:Bool×List C}
  (hx:ah cs x=some (.tup ps)) (hi:ps[i]? =some p):QOk P env κ cs.heap w a.eval o (.val (vL p)):=by
 obtain ⟨vs,h1,h2⟩:aZ env κ cs.heap w (.tup ps) (a.eval x):=aa R ha hx
 obtain ⟨u,h3,h4⟩:=h2.get i p hi
 have h3':vs[i]? =some u:=by simpa using h3
 refine ⟨u,fun w' _=>?_,?_⟩
 ·simp[execOp,ho,Instr.extract,h1,h3']
 ·obtain ⟨t,l⟩:=p
  cases t with
  | true=>exact h4
  | false=>obtain ⟨c,rfl,h⟩:=h4;exact h
theorem kC(R:Rel B env κ cs tm w)(ha: ∀t,t<cs.nt→a.tmps.getD t undef=tm (cs.fb+t)){o:Oper}{x:Operand}(ho:o.op=.nilCheck x){c:C}
  (hx:ah cs x=some (.one c)) (hc:(∃b o,c=.ptr b o)∨(∃b i o,c=.aptr b i o)∨(∃b l i o m,c=.eptr b l i o m)∨(∃K l,c=.fn K l)):QOk P env κ cs.heap w a.eval o (.val (.one c)):=by
 have hr:az env κ cs.heap w c (a.eval x):=aa R ha hx
 refine ⟨a.eval x,fun w' _=>?_,hr⟩
 rcases hc with ⟨b,off,rfl⟩ | ⟨b,i,off,rfl⟩ | ⟨b,l,i,off,m,rfl⟩ | ⟨K,l,rfl⟩
 ·obtain ⟨_,_,_,_,h⟩:=hr;simp[execOp,ho,h]
 ·obtain ⟨_,_,_,_,_,_,_,_,_,_,_,_,_,_,h⟩:=hr;simp[execOp,ho,h]
 ·obtain ⟨_,_,_,ad,h,_⟩:=hr;simp[execOp,ho,h]
 ·obtain ⟨vs,h,_⟩:=hr;simp[execOp,ho,h]
theorem dU(R:Rel B env κ cs tm w){x:Atom}{b:Bool}(h:qh cs x=some b):den env x=.bool b:=by
 have gen:(cs.known.find? (fun p=>decide (p.1=x))).map (·.2)=some b→den env x=.bool b:=by
  intro h
  obtain ⟨p,h1,h2⟩:=Option.map_eq_some_iff.1 h
  have h3:=List.find?_some h1
  have h4:=List.mem_of_find?_eq_some h1
  simp only[decide_eq_true_eq] at h3
  obtain ⟨p1,p2⟩:=p
  simp only at h2 h3;subst h2 h3
  exact (R.hknown _ _ h4).2
 cases x with
 | c l =>
  cases l with
  | bool b'=>simp only[qh] at h;cases h;rfl
  | _=>exact gen h
 | _=>exact gen h
theorem kD{O:Nat→Prop}{p:PV}{v:Value}{b:Bool}(h:RP w O p v)(hb:p=.bool b):v=.bool b:=by subst hb;cases h;rfl
theorem CP(R:Rel B env κ cs tm w)(ha: ∀t,t<cs.nt→a.tmps.getD t undef=tm (cs.fb+t)){o:Oper}{c x y:Operand}(ho:o.op=.pick c x y){p:Atom}{b:Bool}{sv:SV}
  (hc:ah cs c=some (.one (.at p))) (hb:qh cs p=some b) (hx:ah cs (if b then x else y)=some sv):QOk P env κ cs.heap w a.eval o (.val sv):=by
 obtain ⟨_,h1⟩:=iK R (aa R ha hc)
 have h2:=kD h1 (dU R hb)
 refine ⟨a.eval (if b then x else y),fun w' _=>?_,aa R ha hx⟩
 cases b<;>simp[execOp,ho,h2,asBool]
theorem G9(R:Rel B env κ cs tm w)(ha: ∀t,t<cs.nt→a.tmps.getD t undef=tm (cs.fb+t)){o:Oper}{c x y:Operand}(ho:o.op=.pick c x y){p q r:Atom}
  (hc:ah cs c=some (.one (.at p))) (hx:ah cs x=some (.one (.at q))) (hy:ah cs y=some (.one (.at r))) :
  QOk P env κ cs.heap w a.eval o (.em .sel [p,q,r] fun r=>.one (.at r)):=by
 intro z hz
 obtain ⟨_,h1⟩:=iK R (aa R ha hc)
 obtain ⟨_,h2⟩:=iK R (aa R ha hx)
 obtain ⟨_,h3⟩:=iK R (aa R ha hy)
 simp only[List.map_cons,List.map_nil] at hz
 generalize den env p=p' at *
 generalize hv:a.eval c=v at *
 cases h1<;>simp only[ev] at hz<;>try (cases hz;done)
 rename_i b
 cases hz
 cases b
 ·exact ⟨a.eval y,fun w' _=>by simp[execOp,ho,hv,asBool],cU cs.heap (by simpa using h3)⟩
 ·exact ⟨a.eval x,fun w' _=>by simp[execOp,ho,hv,asBool],cU cs.heap (by simpa using h2)⟩
theorem Bo{c:C}{x:Atom}{v:Value}(R:Rel B env κ cs tm w)(hl:cs.listOf c=some x)(hr:az env κ cs.heap w c v) :
  (∃xs A n c',den env x=.list xs∧v=.slice A n c'∧xs.length=n∧n≤c'∧n≤2 ^ 63-1)∨(∀xs,den env x≠.list xs):=by
 obtain ⟨h1,_⟩:=qo R hl hr
 cases hd:den env x with
 | list xs=>rw[hd] at h1;cases h1 with | list f ad hn hc hm=>exact .inl ⟨xs,_,_,_,rfl,rfl,hn,hc,hm⟩
 | _=>exact .inr fun xs h=>by cases h
theorem H7(R:Rel B env κ cs tm w)(ha: ∀t,t<cs.nt→a.tmps.getD t undef=tm (cs.fb+t)){o:Oper}{x:Operand}{args:Array Operand}{ts:Array TypeId}{t e:TypeId}
  (ho:o.op=.call { callee:=.builtin .len,args:=args,argTypes:=ts }) (hargs:args.toList=[x]) (hts:ts.toList=[t]) (ht:P.underlying t=some (.slice e)) {c:C} {la:Atom}
  (hx:ah cs x=some (.one c)) (hl:cs.listOf c=some la):QOk P env κ cs.heap w a.eval o (.em .len [la] fun r=>.one (.at r)):=by
 intro p hp
 have hr:az env κ cs.heap w c (a.eval x):=aa R ha hx
 rcases Bo R hl hr with ⟨xs,A,n,c',h1,h2,h3,h4,h5⟩ | h
 ·simp only[List.map_cons,List.map_nil,h1,ev] at hp
  cases hp
  have e1:args= #[x]:=by apply Array.ext';simpa using hargs
  have e2:ts= #[t]:=by apply Array.ext';simpa using hts
  refine ⟨.int .i64 n,fun w' _=>?_,?_⟩
  ·simp[execOp,ho,e1,e2,resolve,invoke,builtin,Builtin.len_,aI ht,h2,goInt]
  ·rw[h3];exact cU cs.heap (.int (by unfold inr IntKind.min IntKind.max IntKind.signed IntKind.bits;simp only[if_true];omega))
 ·simp only[List.map_cons,List.map_nil] at hp
  cases hd:den env la with
  | list xs=>exact absurd hd (h xs)
  | _=>simp[hd,ev] at hp
theorem yK(R:Rel B env κ cs tm w)(ha: ∀t,t<cs.nt→a.tmps.getD t undef=tm (cs.fb+t)){o:Oper}{x y:Operand}{args:Array Operand}{ts:Array TypeId}{mn:Bool}
  (ho:o.op=.call { callee:=.builtin (if mn then .min else .max),args:=args,argTypes:=ts }) (hargs:args.toList=[x,y]) {p q:Atom}
  (hx:ah cs x=some (.one (.at p))) (hy:ah cs y=some (.one (.at q))):QOk P env κ cs.heap w a.eval o (.em (if mn then .mn else .mx) [p,q] fun r=>.one (.at r)):=by
 intro z hz
 obtain ⟨_,h1⟩:=iK R (aa R ha hx)
 obtain ⟨_,h2⟩:=iK R (aa R ha hy)
 have e1:args= #[x,y]:=by apply Array.ext';simpa using hargs
 simp only[List.map_cons,List.map_nil] at hz
 generalize den env p=p' at *
 generalize den env q=q' at *
 generalize hv:a.eval x=u at *
 generalize hv':a.eval y=v at *
 cases mn
 ·simp only[Bool.false_eq_true,if_false] at hz ho
  cases h1<;>cases h2<;>simp only[ev] at hz<;>try (cases hz;done)
  rename_i k n hk k' n' hk'
  split at hz<;>cases hz
  rename_i hkk;subst hkk
  refine ⟨_,fun w' _=>?_,cU cs.heap (.int (n:=if n'>n then n' else n) (by split<;>assumption))⟩
  simp[execOp,ho,e1,resolve,invoke,builtin,Builtin.max_,Builtin.max2,hv,hv']
 ·simp only[if_true] at hz ho
  cases h1<;>cases h2<;>simp only[ev] at hz<;>try (cases hz;done)
  rename_i k n hk k' n' hk'
  split at hz<;>cases hz
  rename_i hkk;subst hkk
  refine ⟨_,fun w' _=>?_,cU cs.heap (.int (n:=if n'<n then n' else n) (by split<;>assumption))⟩
  simp[execOp,ho,e1,resolve,invoke,builtin,Builtin.min_,Builtin.min2,hv,hv']
end
end Go.Xt
