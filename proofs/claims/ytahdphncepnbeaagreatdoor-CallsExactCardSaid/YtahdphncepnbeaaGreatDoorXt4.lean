/- Steps towards the statements of this seat; the conditions stand in each theorem. -/
import Derived.Test.YtahdphncepnbeaaGreatDoorXt3
set_option linter.unusedSimpArgs false
set_option linter.unusedVariables false
namespace Go.Xt
open Go.RowKit
section
variable {P:Program}{B:Bas P}{env:List PV}{κ:Kap}{cs:CS}{tm:Nat→Value}{w:World}{a:Act}
theorem sub?_some{α:Type}{l r:List α}{off n:Nat}(h:sub? l off n=some r):off+n≤l.length∧r=(l.drop off).take n:=by
 unfold sub? at h;split at h
 ·cases h;exact ⟨by assumption,rfl⟩
 ·cases h
theorem yn{g:Nat→Value}{n j:Nat}{u:Value}(h:((List.range n).map g)[j]? =some u):j<n∧u=g j:=by
 rw[List.getElem?_map] at h
 obtain ⟨k,h1,h2⟩:=Option.map_eq_some_iff.1 h
 have hj:j<n:=by
  rcases Nat.lt_or_ge j n with h | h
  ·exact h
  ·simp[h] at h1
 rw[List.getElem?_range hj] at h1
 cases h1
 exact ⟨hj,h2.symm⟩
theorem wL{ad:Addr}{n:Nat}{R:Nat→Value→Prop}(h: ∀j,j<n→ ∃u,w.cell? (ad.add j)=some u∧R j u) :
  ∃us:List Value,us.length=n∧(∀j u,us[j]? =some u→w.cell? (ad.add j)=some u)∧ ∀j u,us[j]? =some u→R j u:=by
 let g:Nat→Value:=fun j=>(w.cell? (ad.add j)).getD undef
 have hg: ∀j,j<n→w.cell? (ad.add j)=some (g j)∧R j (g j):=fun j hj=>by
  obtain ⟨u,h1,h2⟩:=h j hj
  have:g j=u:=by simp[g,h1]
  rw[this];exact ⟨h1,h2⟩
 refine ⟨(List.range n).map g,by simp,fun j u hu=>?_,fun j u hu=>?_⟩
 ·obtain ⟨h1,rfl⟩:=yn hu;exact (hg j h1).1
 ·obtain ⟨h1,rfl⟩:=yn hu;exact (hg j h1).2
theorem oB{α:Type}{R:α→Value→Prop}: ∀ {as:List α} {us:List Value},as.length=us.length→(∀(j:Nat) (x:α) (u:Value),as[j]? =some x→us[j]? =some u→R x u)→aw R as us
 | [],[],_,_=>trivial
 | x::as,u::us,hl,h=>⟨h 0 x u rfl rfl,oB (by simpa using hl) fun j y v hy hv=>h (j+1) y v (by simpa using hy) (by simpa using hv)⟩
 | [],_::_,hl,_=>by simp at hl
 | _::_,[],hl,_=>by simp at hl
theorem yY(R:Rel B env κ cs tm w){p:C}{v:Value}{n:Nat}{l:List C}(h:wu cs n p=some l)(hr:aR env κ cs.heap w p v) :
  ∃(ad:Addr) (us:List Value),v=.pointer (some ad)∧us.length=n∧(∀(j:Nat) (u:Value),us[j]? =some u→w.cell? (ad.add j)=some u)∧aw (aR env κ cs.heap w) l us:=by
 cases p with
 | ptr b off =>
  simp only[wu] at h
  split at h
  ·rename_i bl hb
   obtain ⟨h1,rfl⟩:=sub?_some h
   obtain ⟨bl',g,h2,h3,rfl⟩:=hr
   rw[hb] at h2;cases h2
   obtain ⟨g',cells,T,h4,h5,h6⟩:=R.hblk _ _ hb
   rw[h3] at h4;cases h4
   refine ⟨⟨g,off,none⟩,(cells.toList.drop off).take n,rfl,?_,fun j u hu=>?_,(h6.drop off).take n⟩
   ·have:=h6.length;simp at this ⊢;omega
   ·rw[kx,mX h5]
    rw[List.getElem?_take] at hu
    split at hu
    ·rw[List.getElem?_drop] at hu;simpa using hu
    ·cases hu
  ·cases h
 | eptr bo x i off m =>
  simp only[wu] at h
  split at h
  ·rename_i hm
   cases h
   obtain ⟨h1,h2,h3,ad,rfl,h4⟩:=hr
   obtain ⟨us,k1,k2,k3⟩:=wL (w:=w) (ad:=ad) (n:=n) (R:=fun j u=>RP w (Own κ) (den env (.cell x i (off+j))) u) fun j hj=>by
    obtain ⟨_,u,h5,h6⟩:=h4 j (by omega);exact ⟨u,h5,h6⟩
   refine ⟨ad,us,rfl,k1,k2,oB (by simp[k1]) fun j c u hc hu=>?_⟩
   rw[List.getElem?_map] at hc
   obtain ⟨j',h5,rfl⟩:=Option.map_eq_some_iff.1 hc
   have hj:j'=j:=by
    rcases Nat.lt_or_ge j n with h | h
    ·rw[List.getElem?_range h] at h5;simpa using h5.symm
    ·simp[h] at h5
   subst hj
   exact ⟨by simp[Atom.lt,h1,h2],k3 _ u hu⟩
  ·cases h
 | aptr b i off =>
  simp only[wu] at h
  split at h
  ·rename_i es x hb
   split at h
   ·rename_i hm
    cases h
    obtain ⟨h1,es',x',xs,g,k,m,h2,h3,h4,h5,h6,h7,h8,rfl⟩:=hr
    rw[hb] at h2;cases h2
    obtain ⟨k1,k2,xs',k3,k4,k5,k6⟩:=R.hblk _ _ hb
    rw[h4] at k3;cases k3
    rcases k6 with ⟨k6,_⟩ | ⟨g',cells,T,c,k6,k7,k8,k9,k10⟩
    ·rw[h5] at k6;cases k6
    ·rw[h5] at k6;cases k6
     obtain ⟨us,e1,e2,e3⟩:=wL (w:=w) (ad:=⟨g,m.toNat*es+off,none⟩) (n:=n) (R:=fun j u=>RP w (Own κ) (den env (.cell x i (off+j))) u) fun j hj=>by
      obtain ⟨u,h9,h10⟩:=k10 m.toNat (off+j) (by omega) (by omega)
      refine ⟨u,?_,?_⟩
      ·rw[kx,mX k7,Nat.add_assoc];exact h9
      ·simpa[den,h4,h6,PV.cellAt] using h10
     refine ⟨_,us,rfl,e1,e2,oB (by simp[e1]) fun j c u hc hu=>?_⟩
     rw[List.getElem?_map] at hc
     obtain ⟨j',h9,rfl⟩:=Option.map_eq_some_iff.1 hc
     have hj:j'=j:=by
      rcases Nat.lt_or_ge j n with h | h
      ·rw[List.getElem?_range h] at h9;simpa using h9.symm
      ·simp[h] at h9
     subst hj
     exact ⟨by simp[Atom.lt,h1,h3],e3 _ u hu⟩
   ·cases h
  ·cases h
 | _=>simp[wu] at h
theorem ql{t:TypeId}{d:TypeDesc}(h:P.underlying t=some d)(w':World):(isAgg t).run P w'=.ok (aD P t) w':=by
 simp only[isAgg,Sem.run_bind,bj h,Result.andThen_ok,aD,h]
 cases d<;>rfl
theorem Qa(R:Rel B env κ cs tm w)(ha: ∀t,t<cs.nt→a.tmps.getD t undef=tm (cs.fb+t)){o:Oper}{t:TypeId}{x:Operand}(ho:o.op=.load t x){d:TypeDesc}
  (ht:P.underlying t=some d) {p:C} (hx:az cs x=some (.one p)) {l:List C} (hl:wu cs (if aD P t then P.cellsOf t else 1) p=some l) :
  QOk P env κ cs.heap w a.eval o (.val (if aD P t then .agg l else .one (l.headD .junk))):=by
 have hr:aR env κ cs.heap w p (a.eval x):=aj R ha hx
 obtain ⟨ad,us,h1,h2,h3,h4⟩:=yY R hl hr
 by_cases hg:aD P t=true
 ·simp only[hg,if_true] at h2 ⊢
  refine ⟨.agg us.toArray,fun w' E=>?_,us.toArray,rfl,by simpa using h4⟩
  have same: ∀(j:Nat) (u:Value),w.cell? (ad.add j)=some u→w'.cell? (ad.add j)=w.cell? (ad.add j):=fun j u hc =>
   dr (by rw[dp];exact E _ (by have:=cell_lt hc;rwa [dp] at this) (by simp[FW,ho,h1]))
  have:=run_loadCells_list (P:=P) w' ad us fun j u hu=>(same j u (h3 j u hu)).trans (h3 j u hu)
  rw[h2] at this
  simp[execOp,ho,Instr.loadAt,h1,Instr.sureAddr,loadVar,ql ht,hg,ek (mY ht),this]
 ·have hg':aD P t=false:=by simpa using hg
  simp only[hg',Bool.false_eq_true,if_false] at h2 ⊢
  obtain ⟨u,rfl⟩: ∃u,us=[u]:=by
   match us,h2 with
   | [u],_=>exact ⟨u,rfl⟩
  obtain ⟨c,rfl⟩: ∃c,l=[c]:=by
   match l,h4.length with
   | [c],_=>exact ⟨c,rfl⟩
  refine ⟨u,fun w' E=>?_,h4.1⟩
  have hc:=h3 0 u rfl
  have h5:w'.cell? (ad.add 0)=some u:=(dr (by rw[dp];exact E _ (by have:=cell_lt hc;rwa [dp] at this) (by simp[FW,ho,h1]))).trans hc
  have h6:ad.add 0=ad:=by simp[Addr.add]
  rw[h6] at h5
  simp[execOp,ho,Instr.loadAt,h1,Instr.sureAddr,loadVar,ql ht,hg',h5]
theorem wM{t:TypeId}{d:TypeDesc}(h:P.underlying t=some d)(cells:Array Value)(off:Nat)(w':World) :
  (part t cells off).run P w'=if aD P t then .ok (.agg (cells.extract off (off+P.cellsOf t))) w' else (match cells[off]? with | some v=>.ok v w' | none=>.halt (.stuck "part: no such cell") w'):=by
 simp only[part,Sem.run_bind,ql h,Result.andThen_ok]
 by_cases hg:aD P t=true
 ·simp[hg,ek (mY h)]
 ·have hg':aD P t=false:=by simpa using hg
  simp only[hg',Bool.false_eq_true,if_false]
  cases cells[off]? <;>simp
theorem RG(R:Rel B env κ cs tm w)(ha: ∀t,t<cs.nt→a.tmps.getD t undef=tm (cs.fb+t)){o:Oper}{t:TypeId}{x:Operand}{f:Nat}(ho:o.op=.field t x f){fs:Array Field}{fd:Field}
  (ht:P.underlying t=some (.struct fs)) (hf:fs[f]? =some fd) {d:TypeDesc} (hd:P.underlying fd.type=some d) {l l':List C} (hx:az cs x=some (.agg l))
  (hl:sub? l fd.offset (if aD P fd.type then P.cellsOf fd.type else 1)=some l') :
  QOk P env κ cs.heap w a.eval o (.val (if aD P fd.type then .agg l' else .one (l'.headD .junk))):=by
 obtain ⟨vs,h1,h2⟩:bV env κ cs.heap w (.agg l) (a.eval x):=aj R ha hx
 obtain ⟨h3,rfl⟩:=sub?_some hl
 have hlen:=h2.length
 simp only[Array.length_toList] at hlen
 by_cases hg:aD P fd.type=true
 ·simp only[hg,if_true] at h3 ⊢
  refine ⟨.agg (vs.extract fd.offset (fd.offset+P.cellsOf fd.type)),fun w' _=>?_,_,rfl,?_⟩
  ·simp[execOp,ho,Instr.field,bj ht,hf,h1,asAgg,wM hd,hg]
  ·have:=(h2.drop fd.offset).take (P.cellsOf fd.type)
   simpa[List.extract_eq_take_drop,Array.toList_extract] using this
 ·have hg':aD P fd.type=false:=by simpa using hg
  simp only[hg',Bool.false_eq_true,if_false] at h3 ⊢
  have hlt:fd.offset<vs.size:=by omega
  refine ⟨vs[fd.offset],fun w' _=>?_,?_⟩
  ·simp[execOp,ho,Instr.field,bj ht,hf,h1,asAgg,wM hd,hg',hlt]
  ·obtain ⟨u,h5,h6⟩:=h2.get fd.offset (l[fd.offset]'(by omega)) (by simp)
   have h7:u=vs[fd.offset]:=by simpa[hlt] using h5.symm
   subst h7
   have h8:((l.drop fd.offset).take 1).headD C.junk=l[fd.offset]'(by omega):=by
    rw[List.drop_eq_getElem_cons (by omega)];rfl
   rw[h8];exact h6
theorem P9(R:Rel B env κ cs tm w)(ha: ∀t,t<cs.nt→a.tmps.getD t undef=tm (cs.fb+t)){o:Oper}{x:Operand}{i:Nat}(ho:o.op=.extract x i){ps:List (Bool×List C)}{p:Bool×List C}
  (hx:az cs x=some (.tup ps)) (hi:ps[i]? =some p):QOk P env κ cs.heap w a.eval o (.val (Gx p)):=by
 obtain ⟨vs,h1,h2⟩:bV env κ cs.heap w (.tup ps) (a.eval x):=aj R ha hx
 obtain ⟨u,h3,h4⟩:=h2.get i p hi
 have h3':vs[i]? =some u:=by simpa using h3
 refine ⟨u,fun w' _=>?_,?_⟩
 ·simp[execOp,ho,Instr.extract,h1,h3']
 ·obtain ⟨t,l⟩:=p
  cases t with
  | true=>exact h4
  | false=>obtain ⟨c,rfl,h⟩:=h4;exact h
theorem qK(R:Rel B env κ cs tm w)(ha: ∀t,t<cs.nt→a.tmps.getD t undef=tm (cs.fb+t)){o:Oper}{x:Operand}(ho:o.op=.nilCheck x){c:C}
  (hx:az cs x=some (.one c)) (hc:(∃b o,c=.ptr b o)∨(∃b i o,c=.aptr b i o)∨(∃b l i o m,c=.eptr b l i o m)∨(∃K l,c=.fn K l)):QOk P env κ cs.heap w a.eval o (.val (.one c)):=by
 have hr:aR env κ cs.heap w c (a.eval x):=aj R ha hx
 refine ⟨a.eval x,fun w' _=>?_,hr⟩
 rcases hc with ⟨b,off,rfl⟩ | ⟨b,i,off,rfl⟩ | ⟨b,l,i,off,m,rfl⟩ | ⟨K,l,rfl⟩
 ·obtain ⟨_,_,_,_,h⟩:=hr;simp[execOp,ho,h]
 ·obtain ⟨_,_,_,_,_,_,_,_,_,_,_,_,_,_,h⟩:=hr;simp[execOp,ho,h]
 ·obtain ⟨_,_,_,ad,h,_⟩:=hr;simp[execOp,ho,h]
 ·obtain ⟨vs,h,_⟩:=hr;simp[execOp,ho,h]
theorem iL(R:Rel B env κ cs tm w){x:Atom}{b:Bool}(h:yf cs x=some b):den env x=.bool b:=by
 have gen:(cs.known.find? (fun p=>decide (p.1=x))).map (·.2)=some b→den env x=.bool b:=by
  intro h
  obtain ⟨p,h1,h2⟩:=Option.map_eq_some_iff.1 h
  have h3:=List.find?_some h1
  have h4:=List.mem_of_find?_eq_some h1
  simp only[decide_eq_true_eq] at h3
  obtain ⟨p1,p2⟩:=p
  simp only at h2 h3;subst h2 h3
  exact (R.hknown _ _ h4).2
 cases x with
 | c l =>
  cases l with
  | bool b'=>simp only[yf] at h;cases h;rfl
  | _=>exact gen h
 | _=>exact gen h
theorem qL{O:Nat→Prop}{p:PV}{v:Value}{b:Bool}(h:RP w O p v)(hb:p=.bool b):v=.bool b:=by subst hb;cases h;rfl
theorem Ow(R:Rel B env κ cs tm w)(ha: ∀t,t<cs.nt→a.tmps.getD t undef=tm (cs.fb+t)){o:Oper}{c x y:Operand}(ho:o.op=.pick c x y){p:Atom}{b:Bool}{sv:SV}
  (hc:az cs c=some (.one (.at p))) (hb:yf cs p=some b) (hx:az cs (if b then x else y)=some sv):QOk P env κ cs.heap w a.eval o (.val sv):=by
 obtain ⟨_,h1⟩:=nE R (aj R ha hc)
 have h2:=qL h1 (iL R hb)
 refine ⟨a.eval (if b then x else y),fun w' _=>?_,aj R ha hx⟩
 cases b<;>simp[execOp,ho,h2,asBool]
theorem SY(R:Rel B env κ cs tm w)(ha: ∀t,t<cs.nt→a.tmps.getD t undef=tm (cs.fb+t)){o:Oper}{c x y:Operand}(ho:o.op=.pick c x y){p q r:Atom}
  (hc:az cs c=some (.one (.at p))) (hx:az cs x=some (.one (.at q))) (hy:az cs y=some (.one (.at r))) :
  QOk P env κ cs.heap w a.eval o (.em .sel [p,q,r] fun r=>.one (.at r)):=by
 intro z hz
 obtain ⟨_,h1⟩:=nE R (aj R ha hc)
 obtain ⟨_,h2⟩:=nE R (aj R ha hx)
 obtain ⟨_,h3⟩:=nE R (aj R ha hy)
 simp only[List.map_cons,List.map_nil] at hz
 generalize den env p=p' at *
 generalize hv:a.eval c=v at *
 cases h1<;>simp only[ev] at hz<;>try (cases hz;done)
 rename_i b
 cases hz
 cases b
 ·exact ⟨a.eval y,fun w' _=>by simp[execOp,ho,hv,asBool],fI cs.heap (by simpa using h3)⟩
 ·exact ⟨a.eval x,fun w' _=>by simp[execOp,ho,hv,asBool],fI cs.heap (by simpa using h2)⟩
theorem MR{c:C}{x:Atom}{v:Value}(R:Rel B env κ cs tm w)(hl:cs.listOf c=some x)(hr:aR env κ cs.heap w c v) :
  (∃xs A n c',den env x=.list xs∧v=.slice A n c'∧xs.length=n∧n≤c'∧n≤2 ^ 63-1)∨(∀xs,den env x≠.list xs):=by
 obtain ⟨h1,_⟩:=ym R hl hr
 cases hd:den env x with
 | list xs=>rw[hd] at h1;cases h1 with | list f ad hn hc hm=>exact .inl ⟨xs,_,_,_,rfl,rfl,hn,hc,hm⟩
 | _=>exact .inr fun xs h=>by cases h
theorem U4(R:Rel B env κ cs tm w)(ha: ∀t,t<cs.nt→a.tmps.getD t undef=tm (cs.fb+t)){o:Oper}{x:Operand}{args:Array Operand}{ts:Array TypeId}{t e:TypeId}
  (ho:o.op=.call { callee:=.builtin .len,args:=args,argTypes:=ts }) (hargs:args.toList=[x]) (hts:ts.toList=[t]) (ht:P.underlying t=some (.slice e)) {c:C} {la:Atom}
  (hx:az cs x=some (.one c)) (hl:cs.listOf c=some la):QOk P env κ cs.heap w a.eval o (.em .len [la] fun r=>.one (.at r)):=by
 intro p hp
 have hr:aR env κ cs.heap w c (a.eval x):=aj R ha hx
 rcases MR R hl hr with ⟨xs,A,n,c',h1,h2,h3,h4,h5⟩ | h
 ·simp only[List.map_cons,List.map_nil,h1,ev] at hp
  cases hp
  have e1:args= #[x]:=by apply Array.ext';simpa using hargs
  have e2:ts= #[t]:=by apply Array.ext';simpa using hts
  refine ⟨.int .i64 n,fun w' _=>?_,?_⟩
  ·simp[execOp,ho,e1,e2,resolve,invoke,builtin,Builtin.len_,bj ht,h2,goInt]
  ·rw[h3];exact fI cs.heap (.int (by unfold inr IntKind.min IntKind.max IntKind.signed IntKind.bits;simp only[if_true];omega))
 ·simp only[List.map_cons,List.map_nil] at hp
  cases hd:den env la with
  | list xs=>exact absurd hd (h xs)
  | _=>simp[hd,ev] at hp
theorem K8(R:Rel B env κ cs tm w)(ha: ∀t,t<cs.nt→a.tmps.getD t undef=tm (cs.fb+t)){o:Oper}{x y:Operand}{args:Array Operand}{ts:Array TypeId}{mn:Bool}
  (ho:o.op=.call { callee:=.builtin (if mn then .min else .max),args:=args,argTypes:=ts }) (hargs:args.toList=[x,y]) {p q:Atom}
  (hx:az cs x=some (.one (.at p))) (hy:az cs y=some (.one (.at q))):QOk P env κ cs.heap w a.eval o (.em (if mn then .mn else .mx) [p,q] fun r=>.one (.at r)):=by
 intro z hz
 obtain ⟨_,h1⟩:=nE R (aj R ha hx)
 obtain ⟨_,h2⟩:=nE R (aj R ha hy)
 have e1:args= #[x,y]:=by apply Array.ext';simpa using hargs
 simp only[List.map_cons,List.map_nil] at hz
 generalize den env p=p' at *
 generalize den env q=q' at *
 generalize hv:a.eval x=u at *
 generalize hv':a.eval y=v at *
 cases mn
 ·simp only[Bool.false_eq_true,if_false] at hz ho
  cases h1<;>cases h2<;>simp only[ev] at hz<;>try (cases hz;done)
  rename_i k n hk k' n' hk'
  split at hz<;>cases hz
  rename_i hkk;subst hkk
  refine ⟨_,fun w' _=>?_,fI cs.heap (.int (n:=if n'>n then n' else n) (by split<;>assumption))⟩
  simp[execOp,ho,e1,resolve,invoke,builtin,Builtin.max_,Builtin.max2,hv,hv']
 ·simp only[if_true] at hz ho
  cases h1<;>cases h2<;>simp only[ev] at hz<;>try (cases hz;done)
  rename_i k n hk k' n' hk'
  split at hz<;>cases hz
  rename_i hkk;subst hkk
  refine ⟨_,fun w' _=>?_,fI cs.heap (.int (n:=if n'<n then n' else n) (by split<;>assumption))⟩
  simp[execOp,ho,e1,resolve,invoke,builtin,Builtin.min_,Builtin.min2,hv,hv']
end
end Go.Xt
