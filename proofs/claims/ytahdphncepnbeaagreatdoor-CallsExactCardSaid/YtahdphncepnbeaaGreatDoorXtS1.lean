/- Steps towards the statements of this seat; the conditions stand in each theorem. -/
import Derived.OrdersHeld
import Derived.Test.YtahdphncepnbeaaGreatDoorXt15
set_option linter.unusedSimpArgs false
set_option linter.unusedVariables false
namespace Go.Xt
open Go.RowKit
section
variable {P:Program}{ops:Array Oper}{Q:Exit→Act→World→Prop}
theorem Ext.trans{w1 w2 w3:World}(h:Ext w1 w2)(k:Ext w2 w3):Ext w1 w3 :=
 ⟨Nat.le_trans h.siz k.siz,fun g hg=>(k.blk g (Nat.lt_of_lt_of_le hg h.siz)).trans (h.blk g hg)⟩
def Eff(pr:List (Nat×Nat))(i:Nat)(w w':World):Prop:= ∀p∈pr,p.2.testBit i=true→w'.heap[p.1]? =w.heap[p.1]?
def nH(P:Program)(ops:Array Oper)(Q:Exit→Act→World→Prop)(pr:List (Nat×Nat)):Nat→Array Bool→Act→World→Prop
 | 0,listed,a,w=>Region.ready .any ops listed=[]∧Q .normal a w
 | fuel+1,listed,a,w =>
  (Region.ready .any ops listed=[]→Q .normal a w) ∧
  ∀i∈Region.ready .any ops listed,wpOp P ops Q i (fun a' w'=>Eff pr i w w'∧nH P ops Q pr fuel (listed.setIfInBounds i true) a' w') a w
theorem Bh{pr:List (Nat×Nat)}: ∀(fuel:Nat) (listed:Array Bool) (a:Act) (w:World),nH P ops Q pr fuel listed a w→wpAny P .any ops Q fuel listed a w
 | 0,_,_,_,h=>h
 | fuel+1,_,_,_,h=>⟨h.1,fun i hi=>wpOp_mono (fun a' w' h'=>Bh fuel _ a' w' h'.2) (h.2 i hi)⟩
theorem zi{pr pr':List (Nat×Nat)}(hp: ∀p∈pr,p∈pr'): ∀(fuel:Nat) (listed:Array Bool) (a:Act) (w:World),nH P ops Q pr' fuel listed a w→nH P ops Q pr fuel listed a w
 | 0,_,_,_,h=>h
 | fuel+1,_,_,_,h=>⟨h.1,fun i hi=>wpOp_mono (fun a' w' h'=>⟨fun p hm=>h'.1 p (hp p hm),zi hp fuel _ a' w' h'.2⟩) (h.2 i hi)⟩
theorem Km{pr:List (Nat×Nat)}{listed:Array Bool}{a:Act}{w:World}(hr:Region.ready .any ops listed=[])(h:Q .normal a w): ∀fuel,nH P ops Q pr fuel listed a w
 | 0=>⟨hr,h⟩
 | _+1=>⟨fun _=>h,by rw[hr];simp⟩
def n5(n m:Nat):Array Bool:=(Array.range n).map m.testBit
theorem qo(n m k:Nat)(d:Bool):(n5 n m).getD k d=if k<n then m.testBit k else d:=by
 rw[Array.getD_eq_getD_getElem?]
 by_cases h:k<n
 ·simp[n5,h]
 ·simp[n5,h]
theorem OE(m i k:Nat):(Nat.lor m (2 ^ i)).testBit k=(m.testBit k||decide (i=k)):=by
 show (m ||| 2 ^ i).testBit k=_
 rw[Nat.testBit_or,Nat.testBit_two_pow]
theorem Bi(n m i:Nat):(n5 n m).setIfInBounds i true=n5 n (Nat.lor m (2 ^ i)):=by
 refine Array.ext (by simp[n5]) fun k h1 h2=>?_
 have hk:k<n:=by simpa[n5] using h2
 have hk2:k<(n5 n m).size:=by simpa[n5] using hk
 have e1:(n5 n (Nat.lor m (2 ^ i)))[k]=(m.testBit k||decide (i=k)):=by simp[n5,OE,Nat.testBit_two_pow]
 rw[e1,Array.getElem_setIfInBounds hk2]
 by_cases h:i=k
 ·simp[h]
 ·simp[h,n5]
theorem G2(n:Nat):n5 n 0=Array.replicate n false:=by
 refine Array.ext (by simp[n5]) fun k h1 h2=>by simp[n5]
theorem Bj{a m:Nat}:wA a m=true↔ ∀k,a.testBit k=true→m.testBit k=true:=by
 unfold wA
 rw[Nat.beq_eq]
 constructor
 ·intro h k hk
  have:(a &&& m).testBit k=a.testBit k:=congrArg (fun x=>Nat.testBit x k) h
  rw[Nat.testBit_and,hk] at this
  simpa using this
 ·intro h
  refine Nat.eq_of_testBit_eq fun k=>?_
  show (a &&& m).testBit k=_
  rw[Nat.testBit_and]
  cases hk:a.testBit k
  ·rfl
  ·rw[h k hk];rfl
theorem Bk(k:Nat): ∀(l:List Edge),(GC l).testBit k=true↔ ∃e∈l,Region.binds .any e=true∧e.on=k
 | []=>by simp[GC]
 | e::r=>by
  rw[GC]
  cases hb:Region.binds .any e
  ·simp only[Bool.false_eq_true,if_false,Bk k r]
   constructor
   ·rintro ⟨e',h1,h2⟩;exact ⟨e',List.mem_cons_of_mem _ h1,h2⟩
   ·rintro ⟨e',h1,h2⟩
    rcases List.mem_cons.1 h1 with rfl | h1
    ·rw[hb] at h2;cases h2.1
    ·exact ⟨e',h1,h2⟩
  ·simp only[if_true]
   have h0:(Nat.lor (2 ^ e.on) (GC r)).testBit k=(decide (e.on=k)||(GC r).testBit k):=by
    show (2 ^ e.on ||| GC r).testBit k=_
    rw[Nat.testBit_or,Nat.testBit_two_pow]
   rw[h0,Bool.or_eq_true,decide_eq_true_eq,Bk k r]
   constructor
   ·rintro (h | ⟨e',h1,h2⟩)
    ·exact ⟨e,List.mem_cons_self ..,hb,h⟩
    ·exact ⟨e',List.mem_cons_of_mem _ h1,h2⟩
   ·rintro ⟨e',h1,h2⟩
    rcases List.mem_cons.1 h1 with rfl | h1
    ·exact .inl h2.2
    ·exact .inr ⟨e',h1,h2⟩
theorem wZ(o:Oper)(k:Nat):(GD o).testBit k=true↔ ∃e∈o.after,Region.binds .any e=true∧e.on=k:=by
 unfold GD;rw[Bk];simp
def Low(n m:Nat):Prop:= ∀k,m.testBit k=true→k<n
theorem Low.zero(n:Nat):Low n 0:=fun k h=>by simp at h
theorem Low.lor{n m i:Nat}(h:Low n m)(hi:i<n):Low n (Nat.lor m (2 ^ i)):=fun k hk=>by
 rw[OE,Bool.or_eq_true,decide_eq_true_eq] at hk
 rcases hk with hk | hk
 ·exact h k hk
 ·omega
theorem G3(m:Nat): ∀(ds:List Nat) (j:Nat),mu m ds j=((List.range ds.length).filter fun i=> !m.testBit (j+i)&&wA (ds.getD i 0) m).map (j+ ·)
 | [],j=>rfl
 | d::r,j=>by
  rw[mu,G3 m r (j+1),List.length_cons,List.range_succ_eq_map,List.filter_cons,List.filter_map]
  have e:((fun i=> !m.testBit (j+i)&&wA ((d::r).getD i 0) m)∘Nat.succ)=fun i=> !m.testBit (j+1+i)&&wA (r.getD i 0) m:=by
   funext i
   simp only[Function.comp,List.getD_cons_succ]
   rw[show j+i.succ=j+1+i by omega]
  rw[e]
  have e2:(List.map (j+ ·) (List.map Nat.succ (List.filter (fun i=> !m.testBit (j+1+i)&&wA (r.getD i 0) m) (List.range r.length))))=List.map (j+1+ ·) (List.filter (fun i=> !m.testBit (j+1+i)&&wA (r.getD i 0) m) (List.range r.length)):=by
   rw[List.map_map]
   refine List.map_congr_left fun i _=>?_
   simp only[Function.comp];omega
  simp only[Nat.add_zero,List.getD_cons_zero]
  cases hc:(!m.testBit j&&wA d m)
  ·simp only[Bool.false_eq_true,if_false];exact e2.symm
  ·simp only[if_true,List.map_cons,Nat.add_zero];exact congrArg (j:: ·) e2.symm
theorem qp{m:Nat}(hm:Low ops.size m):Region.ready .any ops (n5 ops.size m)=mu m (oA ops) 0:=by
 rw[G3]
 have e0:((0:Nat)+ ·)=id:=by funext x;simp
 rw[e0,List.map_id]
 unfold Region.ready oA
 rw[List.length_map,Array.length_toList]
 refine List.filter_congr fun i hi=>?_
 rw[List.mem_range] at hi
 rw[qo,if_pos hi,Nat.zero_add]
 congr 1
 have e1:ops[i]? =some ops[i]:=by simp[hi]
 have e2:(ops.toList.map GD).getD i 0=GD ops[i]:=by simp[List.getD_eq_getElem?_getD,hi]
 rw[e1,e2]
 simp only[Option.map_some,Option.getD_some]
 rw[Bool.eq_iff_iff,Bj,Array.all_eq_true_iff_forall_mem]
 constructor
 ·intro h k hk
  obtain ⟨e,h1,h2,h3⟩:=(wZ _ _).1 hk
  have:=h e h1
  rw[h2,h3,qo] at this
  simp only[Bool.not_true,Bool.false_or] at this
  split at this
  ·exact this
  ·cases this
 ·intro h e he
  cases hb:Region.binds .any e
  ·rfl
  ·have:=h e.on ((wZ _ _).2 ⟨e,he,hb,rfl⟩)
   rw[qo,if_pos (hm _ this),this];rfl
theorem Bl{oi:Oper}{i m:Nat}: ∀(l:List Oper) (j:Nat),Ol ops oi i m l j=true→ ∀(k:Nat) (o:Oper),l[k]? =some o→(j+k=i∨m.testBit (j+k)=true∨(GD o).testBit i=true∨oi.apart ops o=true)
 | [],_,_,k,o,h=>by simp at h
 | x::r,j,h,k,o,hk=>by
  rw[Ol,Bool.and_eq_true] at h
  cases k with
  | zero =>
   simp at hk;subst hk
   have:=h.1
   simp only[Bool.or_eq_true,Nat.beq_eq] at this
   simpa[or_assoc] using this
  | succ k =>
   have:=Bl r (j+1) h.2 k o (by simpa using hk)
   rwa [show j+1+k=j+(k+1) by omega] at this
theorem OG{i m:Nat}(h:Om ops m i=true):Region.free .any ops (n5 ops.size m) i=true:=by
 unfold Om at h
 unfold Region.free
 split at h
 ·cases h
 ·rename_i oi hoi
  rw[hoi]
  simp only[List.all_eq_true,List.mem_range]
  intro j hj
  have:=Bl _ _ h j ops[j] (by simp[hj])
  rw[Nat.zero_add] at this
  have e1:ops[j]? =some ops[j]:=by simp[hj]
  rw[e1,qo,if_pos hj]
  simp only[Bool.or_eq_true,beq_iff_eq]
  rcases this with h1 | h1 | h1 | h1
  ·exact .inl (.inl h1)
  ·exact .inl (.inr h1)
  ·right;left
   obtain ⟨e,h2,h3,h4⟩:=(wZ _ _).1 h1
   rw[Array.any_eq_true]
   obtain ⟨x,hx,rfl⟩:=Array.mem_iff_getElem.1 h2
   exact ⟨x,hx,by simp[h3,h4]⟩
  ·exact .inr (.inr h1)
theorem x3{C i:Nat}: ∀(ds:List Nat) (j:Nat),uA i C ds j=true→ ∀(k d:Nat),ds[k]? =some d→(j+k=i∨wA d C=false∨C.testBit (j+k)=true)
 | [],_,_,k,d,h=>by simp at h
 | x::r,j,h,k,d,hk=>by
  rw[uA,Bool.and_eq_true] at h
  cases k with
  | zero =>
   simp at hk;subst hk
   have:=h.1
   simp only[Bool.or_eq_true,Nat.beq_eq,Bool.not_eq_true'] at this
   simpa[or_assoc] using this
  | succ k =>
   have:=x3 r (j+1) h.2 k d (by simpa using hk)
   rwa [show j+1+k=j+(k+1) by omega] at this
theorem GT{C i:Nat}(h:uA i C (oA ops) 0=true)(j:Nat)(o:Oper)(hj:ops[j]? =some o)(hne:j≠i)(he: ∀e∈o.after,Region.binds .any e=true→C.testBit e.on=true):C.testBit j=true:=by
 have h1:=x3 _ _ h j (GD o) (by simp[oA,hj])
 rw[Nat.zero_add] at h1
 rcases h1 with h1 | h1 | h1
 ·exact absurd h1 hne
 ·exfalso
  have:wA (GD o) C=true:=Bj.2 fun k hk=>by
   obtain ⟨e,h2,h3,h4⟩:=(wZ _ _).1 hk
   rw[←h4];exact he e h2 h3
  rw[this] at h1;cases h1
 ·exact h1
theorem Qi: ∀(f k m:Nat),Low ops.size m→RB ops f k m=true→Region.lexFrom .any ops f k (n5 ops.size m)=true
 | 0,k,m,hm,h=>by
  rw[Region.lexFrom,qp hm];exact h
 | f+1,k,m,hm,h=>by
  simp only[RB,Bool.and_eq_true,decide_eq_true_eq] at h
  obtain ⟨⟨⟨h1,h2⟩,h3⟩,h4⟩:=h
  rw[Region.lexFrom,qp hm,h1,OG h2,Bi,Qi f (k+1) _ (hm.lor h3) h4];rfl
theorem RQ(h:SU ops=true):Region.lexB .any ops=true:=by
 unfold SU at h
 rw[Bool.and_eq_true] at h
 unfold Region.lexB
 rw[h.1,←G2,Qi _ _ _ (Low.zero _) h.2];rfl
theorem GU{pr:List (Nat×Nat)}{i:Nat}{oi:Oper}{v:Value}{l0:Array Bool}{C:Nat}(hi:ops[i]? =some oi)(hsel: ∀(j:Nat) (o:Oper) cs b,ops[j]? =some o→o.op≠.select cs b)
  (hQ: ∀c a w,Q (.panic c) (a.put oi.dst v) w→Q (.panic c) a w) (hcl:uA i C (oA ops) 0=true) {S:World→Prop} (hst: ∀j w w',C.testBit j=true→Eff pr j w w'→S w→S w') :
  ∀(fuel:Nat) (listed:Array Bool) (a:Act) (w:World),
   (∀j oj,ops[j]? =some oj→j≠i→listed.getD j true=false→(∀e∈oj.after,Region.binds .any e=true→e.on≠i)→oi.apart ops oj=true) →
   i∈Region.ready .any ops listed→(∀k,listed.getD k false=true→C.testBit k=true)→(∀k,l0.getD k false=true→listed.getD k false=true) →
   YieldsIf P ops S oi v a→S w →
   nH P ops Q pr fuel (listed.setIfInBounds i true) (a.put oi.dst v) w→nH P ops Q pr (fuel+1) listed a w:=by
 intro fuel
 induction fuel with
 | zero =>
  intro listed a w _ hr _ _ hy hS H
  refine ⟨fun h=>(by rw[h] at hr;cases hr),fun j hj=>?_⟩
  by_cases hji:j=i
  ·subst hji;exact hy.wpOp hi hS ⟨fun _ _ _=>rfl,H⟩
  ·have:=ready_mono hj hji
   rw[H.1] at this
   cases this
 | succ fuel ih =>
  intro listed a w hfree hr hC h0 hy hS H
  refine ⟨fun h=>(by rw[h] at hr;cases hr),fun j hj=>?_⟩
  by_cases hji:j=i
  ·subst hji;exact hy.wpOp hi hS ⟨fun _ _ _=>rfl,H⟩
  ·have h1:=H.2 j (ready_mono hj hji)
   obtain ⟨hjun,oj,hoj,hall⟩:=mem_ready.1 hj
   have hnot: ∀e∈oj.after,Region.binds .any e=true→e.on≠i:=fun e he hb heq=>by
    have h1:=hall e he hb
    have h0:=(mem_ready.1 hr).1
    rw[heq] at h1
    rcases Nat.lt_or_ge i listed.size with h' | h'
    ·simp[h'] at h0 h1;rw[h0] at h1;cases h1
    ·simp[Array.getElem?_eq_none h'] at h1
   have hjC:C.testBit j=true:=GT hcl j oj hoj hji fun e he hb=>hC _ (hall e he hb)
   have hj0:l0.getD j false=false:=by
    cases hh:l0.getD j false with
    | false=>rfl
    | true =>
     have:=h0 j hh
     rcases Nat.lt_or_ge j listed.size with h' | h'
     ·simp[h'] at hjun this;rw[hjun] at this;cases this
     ·simp[Array.getElem?_eq_none h'] at hjun
   have h2:=wpOp_putIf hoj (hfree j oj hoj hji hjun hnot) (fun cs b=>hsel i oi cs b hi) (fun cs b=>hsel j oj cs b hoj) hQ hy h1
   have hfree': ∀k ok,ops[k]? =some ok→k≠i→(listed.setIfInBounds j true).getD k true=false →
     (∀e∈ok.after,Region.binds .any e=true→e.on≠i)→oi.apart ops ok=true:=fun k ok hk hki hun hno=>by
    refine hfree k ok hk hki ?_ hno
    by_cases hjk:j=k
    ·subst hjk;exact hjun
    ·rw[getD_set_ne true hjk] at hun;exact hun
   refine wpOp_mono (fun a' w' h3=>⟨h3.2.1,ih (listed.setIfInBounds j true) a' w' hfree' (ready_mono hr (Ne.symm hji)) (fun k hk=>?_) (fun k hk=>getD_set_true (h0 k hk)) h3.1 (hst j _ _ hjC h3.2.1 hS) ?_⟩) h2
   ·by_cases hjk:j=k
    ·subst hjk;exact hjC
    ·rw[getD_set_ne false hjk] at hk;exact hC k hk
   ·rw[Array.setIfInBounds_comm _ _ hji]
    exact h3.2.2
def GV(P:Program)(ops:Array Oper)(Q:Exit→Act→World→Prop):Sched→Nat→List (Nat×Nat)→Act→World→Prop
 | .done,_,_,a,w=>Q .normal a w
 | .take i r,m,pr,a,w=> ∃oi v pr' S,ops[i]? =some oi∧(∀p∈pr,p∈pr')∧YieldsIf P ops S oi v a∧S w∧(∀j w1 w2,(uU ops i m).testBit j=true→Eff pr' j w1 w2→S w1→S w2) ∧
   GV P ops Q r (Nat.lor m (2 ^ i)) pr' (a.put oi.dst v) w
 | .alt i r more,m,pr,a,w=>wpOp P ops Q i (fun a' w'=>Eff pr i w w'∧GV P ops Q r (Nat.lor m (2 ^ i)) pr a' w') a w∧GV P ops Q more m pr a w
 | .stop,_,_,_,_=>True
theorem mc{ok:Nat→Bool}(hsel:Region.noSelect ops=true)(hQ: ∀c a w,¬Q (.panic c) a w): ∀(s:Sched) (ch:Bool) (m:Nat) (pr:List (Nat×Nat)) (fuel:Nat) (a:Act) (w:World),Low ops.size m→jC ops ok ch s m=true→GV P ops Q s m pr a w →
  (ch=false→s.deep≤fuel→nH P ops Q pr fuel (n5 ops.size m) a w) ∧
  (s.deep≤fuel+1→ ∀j∈s.ids,wpOp P ops Q j (fun a' w'=>Eff pr j w w'∧nH P ops Q pr fuel ((n5 ops.size m).setIfInBounds j true) a' w') a w)
 | .done,ch,m,pr,fuel,a,w,hm,h,hs=>by
  simp only[jC,Bool.and_eq_true,decide_eq_true_eq] at h
  exact ⟨fun _ _=>Km ((qp hm).trans h.2) hs fuel,fun _ j hj=>by simp[Sched.ids] at hj⟩
 | .stop,ch,m,pr,fuel,a,w,hm,h,hs=>by
  simp only[jC] at h
  exact ⟨fun hc=>(by rw[h] at hc;cases hc),fun _ j hj=>by simp[Sched.ids] at hj⟩
 | .take i r,ch,m,pr,fuel,a,w,hm,h,hs=>by
  refine ⟨fun _ hf=>?_,fun _ j hj=>by simp[Sched.ids] at hj⟩
  obtain ⟨fuel,rfl⟩: ∃n,fuel=n+1:=⟨fuel-1,by simp only[Sched.deep] at hf;omega⟩
  simp only[Sched.deep] at hf
  simp only[jC,Bool.and_eq_true,decide_eq_true_eq] at h
  obtain ⟨⟨⟨⟨⟨_,hi⟩,_⟩,h1⟩,h2⟩,h3⟩:=h
  obtain ⟨oi,v,pr',S,h4,hpr,h5,hSw,hst,h6⟩:=hs
  unfold MN at h2
  simp only[Bool.and_eq_true] at h2
  obtain ⟨⟨k1,k2⟩,k3⟩:=h2
  have ih:=(mc hsel hQ r false (Nat.lor m (2 ^ i)) pr' fuel (a.put oi.dst v) w (hm.lor hi) h3 h6).1 rfl (by omega)
  rw[←Bi] at ih
  refine zi hpr _ _ _ _ ?_
  exact GU (C:=uU ops i m) (l0:=n5 ops.size m) h4 (Region.noSelect_spec hsel) (fun c a w hq=>absurd hq (hQ c _ w)) k2 (S:=S) hst fuel (n5 ops.size m) a w (Region.free_spec h4 (OG k1)) (by rw[qp hm];simpa using h1) (fun k hk=>Bj.1 k3 k (by rw[qo] at hk;split at hk;exact hk;cases hk)) (fun k hk=>hk) h5 hSw ih
 | .alt i r more,ch,m,pr,fuel,a,w,hm,h,hs=>by
  simp only[jC,Bool.and_eq_true,decide_eq_true_eq,Bool.or_eq_true] at h
  obtain ⟨⟨⟨hi,h1⟩,h2⟩,h3⟩:=h
  have one: ∀n,r.deep≤n→(∀j∈more.ids,wpOp P ops Q j (fun a' w'=>Eff pr j w w'∧nH P ops Q pr n ((n5 ops.size m).setIfInBounds j true) a' w') a w) →
    ∀j∈i::more.ids,wpOp P ops Q j (fun a' w'=>Eff pr j w w'∧nH P ops Q pr n ((n5 ops.size m).setIfInBounds j true) a' w') a w:=by
   intro n hn hmr j hj
   rcases List.mem_cons.1 hj with rfl | hj
   ·exact wpOp_mono (fun a' w' h'=>⟨h'.1,by rw[Bi];exact (mc hsel hQ r false _ pr n a' w' (hm.lor hi) h2 h'.2).1 rfl hn⟩) hs.1
   ·exact hmr j hj
  refine ⟨fun hc hf=>?_,fun hf=>?_⟩
  ·subst hc
   simp only[Bool.false_eq_true,false_or,Bool.and_eq_true,decide_eq_true_eq,List.all_eq_true,List.contains_eq_mem] at h1
   simp only[Sched.deep] at hf
   obtain ⟨fuel,rfl⟩: ∃n,fuel=n+1:=⟨fuel-1,by omega⟩
   refine ⟨fun h0=>absurd ((qp hm).symm.trans h0) h1.1,fun j hj=>?_⟩
   exact one fuel (by omega) ((mc hsel hQ more true m pr fuel a w hm h3 hs.2).2 (by omega)) j (h1.2 j (by rw[←qp hm];exact hj))
  ·simp only[Sched.deep] at hf
   exact one fuel (by omega) ((mc hsel hQ more true m pr fuel a w hm h3 hs.2).2 (by omega))
end
end Go.Xt
