/- Steps towards the statements of this seat; the conditions stand in each theorem. -/
import Derived.Test.YtahdphncepnbeaaGreatDoorXt10
set_option linter.unusedSimpArgs false
set_option linter.unusedVariables false
namespace Go.Xt
open Go.RowKit
def ShQ(P:Program)(Q:Nat→Value→Prop):Nat→List TypeId→List Value→Prop
 | _,[],[]=>True
 | i,t::ts,v::vs=>(if aD P t=true then ∃us:Array Value,v=.agg us∧us.size=P.cellsOf t∧ ∀(j:Nat) (u:Value),us[j]? =some u→Q (i+j) u else Q i v) ∧
   ShQ P Q (i+if aD P t then P.cellsOf t else 1) ts vs
 | _,_,_=>False
def jf(P:Program):List TypeId→Nat
 | []=>0
 | t::ts=>(if aD P t then P.cellsOf t else 1)+jf P ts
def Pd:List Value→Value
 | [v]=>v
 | vs=>.tuple vs.toArray
def kB(w:World)(O:Nat→Prop)(es:Nat)(mo:Option Nat)(p:PV)(v:Value):Prop :=
  ∃xs,p=.list xs∧xs.length≤2 ^ 63-1∧(∀i,i<xs.length→(xs.getD i []).length=es) ∧
    ((mo=none∧xs=[]∧ ∃A,v=.slice A 0 0) ∨
     ∃g c cells T,mo=some g∧v=.slice (some ⟨g,0,none⟩) xs.length c∧xs.length≤c∧w.heap[g]? =some (.cells cells T (0,0))∧cells.size=c*es ∧
       ∀i j,i<xs.length→j<es→ ∃u,cells[i*es+j]? =some u∧RP w O (look (xs.getD i []) j) u)
def PV.scalar:PV→Bool
 | .list _=>false
 | .err _ _ _=>false
 | _=>true
def qQ(P:Program)(fn:Func)(own:List Nat)(rs:List PV)(O:Nat→Prop)(mo:Nat→Option Nat)(w':World)(j:Nat)(v:Value):Prop :=
 if j∈own then kB w' (fun g=>O g∨ ∃i,mo i=some g) (uT P fn j) (mo j) (look rs j) v else RP w' (fun g=>O g∨ ∃i,mo i=some g) (look rs j) v
def wT(own:List Nat)(rs:List PV):Prop:= ∀j p,rs[j]? =some p→if j∈own then ∃xs:List (List PV),p=.list xs∧ ∀r∈xs,∀q∈r,q.scalar=true else p.scalar=true
structure PureOK (P:Program) (s:Sig) (f:List PV→Option (List PV)):Prop where
 scal: ∀fn,P.funcs[s.K]? =some fn→fn.resultTypes.toList.all (fe P)=true→ ∀ps rs,f ps=some rs→ ∀p∈rs,p.scalar=true
 flat:s.flat=true→ ∀ps rs,f ps=some rs→wT s.own rs
 call: ∀fn,P.funcs[s.K]? =some fn→ ∀ps rs,f ps=some rs→ ∀(O:Nat→Prop) (w:World) (vs:List Value),(∀g,O g→g<w.heap.size)→Laid P w.heap.size w →
  ps.length=jf P fn.params.toList→ShQ P (fun j v=>RP w O (look ps j) v) 0 fn.params.toList vs →
  Calls P s.K vs.toArray w (fun e w'=> ∃us mo,e=.returned (Pd us)∧Below w.heap.size w w'∧(∀j g,mo j=some g→w.heap.size≤g∧g<w'.heap.size)∧(∀i j g,mo i=some g→mo j=some g→i=j) ∧
   ShQ P (qQ P fn s.own rs O mo w') 0 fn.resultTypes.toList us)
section
variable {P:Program}{B:Bas P}{env env':List PV}{κ κ':Kap}{cs:CS}{tm:Nat→Value}{w w':World}{a:Act}{ρ:Fns}{L:List (T×Nat)}{r:List PV→Prop}
theorem ShQ.imp{Q Q':Nat→Value→Prop}(h: ∀j v,Q j v→Q' j v): ∀ {ts:List TypeId} {vs:List Value} {i:Nat},ShQ P Q i ts vs→ShQ P Q' i ts vs
 | [],[],_,_=>trivial
 | t::ts,v::vs,i,hs=>by
  obtain ⟨h1,h2⟩:=hs
  refine ⟨?_,ShQ.imp h h2⟩
  by_cases e:aD P t=true
  ·rw[if_pos e] at h1 ⊢
   obtain ⟨us,h3,h4,h5⟩:=h1
   exact ⟨us,h3,h4,fun j u hu=>h _ _ (h5 j u hu)⟩
  ·rw[if_neg e] at h1 ⊢
   exact h _ _ h1
 | [],_::_,_,h=>h.elim
 | _::_,[],_,h=>h.elim
theorem ShQ.ex{Q:Nat→Value→Prop}: ∀ {ts:List TypeId} {vs:List Value} {i:Nat},ShQ P Q i ts vs→ ∀j,i≤j→j<i+jf P ts→ ∃v,Q j v
 | [],[],i,_,j,h1,h2=>by simp[jf] at h2;omega
 | t::ts,v::vs,i,hs,j,h1,h2=>by
  obtain ⟨h3,h4⟩:=hs
  simp only[jf] at h2
  by_cases e:aD P t=true
  ·rw[if_pos e] at h2 h3 h4
   obtain ⟨us,h5,h6,h7⟩:=h3
   by_cases hj:j<i+P.cellsOf t
   ·have:j-i<us.size:=by omega
    refine ⟨us[j-i],?_⟩
    have:=h7 (j-i) us[j-i] (by simp[this])
    rwa [show i+(j-i)=j by omega] at this
   ·exact h4.ex j (by omega) (by omega)
  ·rw[if_neg e] at h3
   simp only[if_neg e] at h2 h4
   by_cases hj:j=i
   ·subst hj;exact ⟨v,h3⟩
   ·exact h4.ex j (by omega) (by omega)
 | [],_::_,_,h,_,_,_=>h.elim
 | _::_,[],_,h,_,_,_=>h.elim
theorem qR(P:Program): ∀(ts:List TypeId) (d:Nat),(oz P d ts).2=d+jf P ts
 | [],d=>rfl
 | t::ts,d=>by simp only[oz,jf];rw[qR P ts];omega
theorem N4{α:Type}{R:α→Value→Prop}(f:Nat→α)(n:Nat)(us:List Value)(hn:us.length=n)(h: ∀j u,us[j]? =some u→R (f j) u):aw R ((List.range n).map f) us:=by
 refine oB (by simp[hn]) fun j x u hx hu=>?_
 simp only[List.getElem?_map,Option.map_eq_some_iff] at hx
 obtain ⟨k,hk,rfl⟩:=hx
 rw[List.getElem?_range (by have:=(List.getElem?_eq_some_iff.1 hu).1;omega)] at hk
 cases hk;exact h j u hu
theorem wV{H:List (Nat×Blk)}{Q:Nat→Value→Prop}(φ:C→C)(d0:Nat): ∀(ts:List TypeId) (us:List Value) (i:Nat),ShQ P Q i ts us →
  (∀j v,Q j v→j<i+jf P ts→aR env κ H w (φ (.at (.v (d0+j)))) v)→aw (sR env κ H w) ((oz P (d0+i) ts).1.map fun p=>(p.1,p.2.map φ)) us
 | [],[],_,_,_=>trivial
 | t::ts,v::us,i,hs,h=>by
  obtain ⟨h1,h2⟩:=hs
  simp only[oz,List.map_cons]
  have key:d0+i+(if aD P t=true then P.cellsOf t else 1)=d0+(i+if aD P t=true then P.cellsOf t else 1):=by omega
  refine ⟨?_,?_⟩
  ·by_cases e:aD P t=true
   ·rw[if_pos e] at h1
    obtain ⟨us',rfl,h3,h4⟩:=h1
    simp only[e,if_true]
    refine ⟨us',rfl,?_⟩
    rw[List.map_map]
    refine N4 _ _ _ (by simpa using h3) fun j u hu=>?_
    have hj:j<P.cellsOf t:=by have:=(List.getElem?_eq_some_iff.1 hu).1;simp at this;omega
    have:=h (i+j) u (h4 j u (by simpa using hu)) (by simp[jf,e];omega)
    simpa[Nat.add_assoc] using this
   ·rw[if_neg e] at h1
    simp only[e,if_false,List.range_one,List.map_cons,List.map_nil]
    exact ⟨_,rfl,by simpa using h i v h1 (by simp[jf,e];omega)⟩
  ·rw[key]
   exact wV φ d0 ts us _ h2 fun j v hq hj=>h j v hq (by simp only[jf];omega)
 | [],_::_,_,h,_=>h.elim
 | _::_,[],_,h,_=>h.elim
theorem Kg{H:List (Nat×Blk)}{p:Bool×List C}{v:Value}(h:sR env κ H w p v):bV env κ H w (Gx p) v:=by
 obtain ⟨t,l⟩:=p
 cases t with
 | true=>exact h
 | false=>obtain ⟨c,rfl,h⟩:=h;exact h
theorem uE{H:List (Nat×Blk)}: ∀ {ps:List (Bool×List C)} {us:List Value},aw (sR env κ H w) ps us→bV env κ H w (FU ps) (Pd us)
 | [],[],h=>⟨#[],rfl,trivial⟩
 | [p],[u],h=>Kg h.1
 | p::q::ps,u::v::us,h=>⟨(u::v::us).toArray,rfl,by simpa using h⟩
 | [],_::_,h=>h.elim
 | _::_,[],h=>h.elim
 | [_],_::_::_,h=>h.2.elim
 | _::_::_,[_],h=>h.2.elim
theorem jH{R:PV→Value→Prop}: ∀ {ps:List PV} {us:List Value},aw R ps us→ ∀(j:Nat) (u:Value),us[j]? =some u→R (look ps j) u
 | _::_,_::_,h,0,u,hu=>by simp at hu;subst hu;exact h.1
 | _::_,_::_,h,j+1,u,hu=>by simpa[look] using jH h.2 j u (by simpa using hu)
 | [],[],_,j,u,hu=>by simp at hu
 | [],_::_,h,_,_,_=>h.elim
 | _::_,[],h,_,_,_=>h.elim
theorem jl(pre ps:List PV)(j:Nat):look (pre++ps) (pre.length+j)=look ps j:=by
 induction pre with
 | nil=>simp
 | cons x l ih=>simpa[look,Nat.add_right_comm] using ih
theorem FZ(ps:List PV)(n j:Nat)(h:j<n):look (ps.take n) j=look ps j:=by
 rw[cL,cL,List.getD_eq_getElem?_getD,List.getD_eq_getElem?_getD,List.getElem?_take,if_pos h]
theorem Kh{H:List (Nat×Blk)}{sv:SV}{u:Value}{t:TypeId}(h:bV env κ H w sv u)(ht:sv.isTup=false)(hst:sv.cells.all C.storable=true)(hs:sv.shape=shT P t) :
  if aD P t=true then ∃us:Array Value,u=.agg us∧us.size=P.cellsOf t∧u.cells=us else u.cells= #[u]:=by
 cases sv with
 | one c =>
  simp only[SV.shape,shT] at hs
  split at hs
  ·cases hs
  ·rename_i e
   rw[if_neg e]
   exact (nF h (by simpa[SV.cells] using hst)).1
 | agg l =>
  simp only[SV.shape,shT] at hs
  split at hs
  ·rename_i e
   have hs:=Option.some.inj hs
   rw[if_pos e]
   obtain ⟨us,rfl,h⟩:=h
   have:=h.length
   exact ⟨us,rfl,by rw[←hs,this];simp,by simp[Value.cells]⟩
  ·cases hs
 | tup ps=>simp[SV.isTup] at ht
theorem GP{H:List (Nat×Blk)}{R:PV→Value→Prop}: ∀(args:List SV) (us:List Value) (ts:List TypeId) (ps pre:List PV),aw (bV env κ H w) args us→(∀v∈args,v.isTup=false) →
  (∀v∈args,v.cells.all C.storable=true)→args.map SV.shape=ts.map (shT P)→aw R ps (us.flatMap fun u=>u.cells.toList) →
  ps.length=jf P ts∧ShQ P (fun j v=>R (look (pre++ps) j) v) pre.length ts us
 | [],[],ts,ps,pre,_,_,_,hs,hp=>by
  cases ts with
  | nil=>cases ps with
   | nil=>exact ⟨rfl,trivial⟩
   | cons p ps=>exact hp.elim
  | cons t ts=>simp at hs
 | sv::args,u::us,ts,ps,pre,h,h1,h2,hs,hp=>by
  cases ts with
  | nil=>simp at hs
  | cons t ts =>
   simp only[List.map_cons,List.cons.injEq] at hs
   have hc:=Kh (P:=P) h.1 (h1 sv (by simp)) (h2 sv (by simp)) hs.1
   simp only[List.flatMap_cons] at hp
   have hlen:=hp.length
   simp only[List.length_append,Array.length_toList] at hlen
   have hsz:u.cells.size=if aD P t=true then P.cellsOf t else 1:=by
    split at hc
    ·rename_i e
     obtain ⟨us',_,h4,h5⟩:=hc
     rw[h5,h4,if_pos e]
    ·rename_i e
     rw[hc,if_neg e];rfl
   have p1:aw R (ps.take u.cells.size) u.cells.toList:=by
    have:=hp.take u.cells.size
    rwa [show u.cells.size=u.cells.toList.length by simp,List.take_left] at this
   have p2:aw R (ps.drop u.cells.size) (us.flatMap fun u=>u.cells.toList):=by
    have:=hp.drop u.cells.size
    rwa [show u.cells.size=u.cells.toList.length by simp,List.drop_left] at this
   obtain ⟨k1,k2⟩:=GP args us ts (ps.drop u.cells.size) (pre++ps.take u.cells.size) h.2 (fun v hv=>h1 v (by simp[hv])) (fun v hv=>h2 v (by simp[hv])) hs.2 p2
   have htk:(ps.take u.cells.size).length=u.cells.size:=by simp;omega
   refine ⟨by simp only[jf];simp at k1;omega,?_,?_⟩
   ·split at hc
    ·rename_i e
     rw[if_pos e]
     obtain ⟨us',rfl,h4,h5⟩:=hc
     refine ⟨us',rfl,h4,fun j x hx=>?_⟩
     show R (look (pre++ps) (pre.length+j)) x
     rw[jl]
     rw[←FZ ps us'.size j (Array.getElem?_eq_some_iff.1 hx).1]
     rw[h5] at p1
     exact jH p1 j x (by simpa using hx)
    ·rename_i e
     rw[if_neg e]
     have:=jl pre ps 0
     simp only[Nat.add_zero] at this
     show R (look (pre++ps) pre.length) u
     rw[this]
     rw[hc] at p1
     rw[←FZ ps 1 0 (by omega)]
     exact jH p1 0 u (by simp)
   ·rw[List.append_assoc,List.take_append_drop,List.length_append,htk,hsz] at k2
    exact k2
 | [],_::_,_,_,_,h,_,_,_,_=>h.elim
 | _::_,[],_,_,_,h,_,_,_,_=>h.elim
theorem Qe(R:Rel B env κ cs tm w)(g:Nat)(h:Own κ g):g<w.heap.size:=by
 rcases h with h | ⟨b,h⟩
 ·rw[R.hoth] at h
  exact Nat.lt_of_lt_of_le (R.hob g h) R.hB
 ·exact (R.hκ b g h).2.2
theorem B9(R:Rel B env κ cs tm w){fn:Func}{fl:Bool}{args:List SV}{us:List Value}{as:List Atom}{cs1:CS}(h:wy P fn fl args cs=some (as,cs1))(hr:aw (bV env κ cs.heap w) args us) :
  ∃κ1 O,Rel B env κ1 cs1 tm w∧Same cs cs1∧cs1.d=cs.d∧(∀g,O g→g<w.heap.size)∧((fn.resultTypes.toList.all (fe P)||fl)=true∨O=Own κ1) ∧
   (as.map (den env)).length=jf P fn.params.toList∧ShQ P (fun j v=>RP w O (look (as.map (den env)) j) v) 0 fn.params.toList us:=by
 unfold wy at h
 split at h
 ·rename_i hc
  simp only[Bool.and_eq_true,decide_eq_true_eq,List.all_eq_true,Bool.not_eq_true'] at hc
  obtain ⟨h1,h2⟩:=hc
  have ht: ∀v∈args,v.isTup=false:=fun v hv=>(h1 v hv).1
  have hst: ∀v∈args,v.cells.all C.storable=true:=fun v hv=>by rw[List.all_eq_true];exact (h1 v hv).2
  have hcells:=kA hr ht hst
  split at h
  ·rename_i hsc
   obtain ⟨as',h3,h4⟩:=Option.map_eq_some_iff.1 h
   cases h4
   have h5:=sW R h3 hcells
   have h6:aw (RP w fun _=>False) (as.map (den env)) (us.flatMap fun u=>u.cells.toList):=h5.1.map _ fun x u hx=>hx.2
   obtain ⟨k1,k2⟩:=GP (P:=P) args us fn.params.toList (as.map (den env)) [] hr ht hst h2 h6
   exact ⟨κ,_,R,Same.refl _,rfl,fun g (hg:False)=>hg.elim,.inl hsc,k1,by simpa using k2⟩
  ·obtain ⟨⟨as',cs1',φ⟩,h3,h4⟩:=Option.map_eq_some_iff.1 h
   cases h4
   obtain ⟨κ1,R1,h5,h6,h7,h8,h9⟩:=kz R h3 hcells
   have h6:aw (RP w (Own κ1)) (as'.map (den env)) (us.flatMap fun u=>u.cells.toList):=h5.map _ fun x u hx=>hx.2
   obtain ⟨k1,k2⟩:=GP (P:=P) args us fn.params.toList (as'.map (den env)) [] hr ht hst h2 h6
   exact ⟨κ1,_,R1,h7,h8,Qe R1,.inr rfl,k1,by simpa using k2⟩
 ·cases h
theorem RP.scalar_any{O O':Nat→Prop}{w w':World}{p:PV}{v:Value}(h:RP w O p v)(hs:p.scalar=true):RP w' O' p v:=by
 cases h with
 | int h=>exact .int h
 | bool=>exact .bool
 | str=>exact .str
 | list=>simp[PV.scalar] at hs
 | err=>simp[PV.scalar] at hs
theorem kB.good{O:Nat→Prop}{es:Nat}{mo:Option Nat}{p:PV}{v:Value}(h:kB w O es mo p v):sA p:=by
 obtain ⟨xs,rfl,h,_⟩:=h;exact h
theorem qQ.good{fn:Func}{own:List Nat}{rs:List PV}{O:Nat→Prop}{mo:Nat→Option Nat}{j:Nat}{v:Value}(h:qQ P fn own rs O mo w j v):sA (look rs j):=by
 unfold qQ at h
 split at h
 ·exact h.good
 ·exact h.good
theorem Ba{fn:Func}{own:List Nat}{rs:List PV}{O:Nat→Prop}{mo:Nat→Option Nat}{ts:List TypeId}{us:List Value}(h:ShQ P (qQ P fn own rs O mo w) 0 ts us)(hl:rs.length=jf P ts) :
  ∀p∈rs,sA p:=by
 intro p hp
 obtain ⟨j,hj⟩:=List.mem_iff_getElem?.1 hp
 have hlt:=(List.getElem?_eq_some_iff.1 hj).1
 obtain ⟨v,hv⟩:=h.ex j (Nat.zero_le _) (by omega)
 have:=hv.good
 rwa [fi _ _ _ hj] at this
theorem EvN.call{n:Nat}{K:Nat}{as:List Atom}{m:Nat}{k:T}(h:EvN ρ n (.call K as m k) env L r) :
  ∃n' rs,n=n'+1∧ρ K (as.map (den env))=some rs∧rs.length=m∧((∀p∈rs,sA p)→EvN ρ n' k (env++rs) L r):=by
 cases n with
 | zero=>exact h.elim
 | succ n =>
  simp only[EvN] at h
  split at h
  ·rename_i rs hr;exact ⟨n,rs,rfl,hr,h.1,h.2⟩
  ·exact h.elim
def sC(mo:Nat→Option Nat):List (Nat×Nat)→Kap→Kap
 | [],κ=>κ
 | p::r,κ=>sC mo r (upd κ p.2 (mo p.1))
def qm:List (Nat×Nat)→C→C
 | [],c=>c
 | p::r,c=>qm r (c.drop p.2)
theorem Ki: ∀(l:List Nat) (b:Nat),(MJ l b).map (·.1)=l
 | [],_=>rfl
 | j::r,b=>by simp only[MJ,List.map_cons];rw[Ki r]
theorem Bb{mo:Nat→Option Nat}{b:Nat}: ∀ {l:List (Nat×Nat)} {κ:Kap},b∉l.map (·.2)→sC mo l κ b=κ b
 | [],_,_=>rfl
 | p::r,κ,h=>by
  simp only[List.map_cons,List.mem_cons,not_or] at h
  simp only[sC]
  rw[Bb h.2];simp[upd,h.1]
theorem AB{mo:Nat→Option Nat}{p:Nat×Nat}: ∀ {l:List (Nat×Nat)} {κ:Kap},(l.map (·.2)).Nodup→p∈l→sC mo l κ p.2=mo p.1
 | [],_,_,h=>by cases h
 | q::r,κ,hn,h=>by
  simp only[List.map_cons,List.nodup_cons] at hn
  simp only[sC]
  rcases List.mem_cons.1 h with rfl | h
  ·rw[Bb hn.1];simp[upd]
  ·exact AB hn.2 h
theorem Qf{mo:Nat→Option Nat}: ∀(l:List (Nat×Nat)) (κ:Kap),(sC mo l κ).o=κ.o
 | [],_=>rfl
 | p::r,κ=>(Qf r _).trans rfl
theorem Kj{mo:Nat→Option Nat}{g:Nat}: ∀(l:List (Nat×Nat)) (κ:Kap),Own (sC mo l κ) g→Own κ g∨ ∃i,mo i=some g
 | [],_,h=>.inl h
 | p::r,κ,h=>by
  rcases Kj r _ h with (h | ⟨b',h⟩) | h
  ·exact .inl (.inl h)
  ·simp only[upd] at h
   split at h
   ·exact .inr ⟨_,h⟩
   ·exact .inl (.inr ⟨b',h⟩)
  ·exact .inr h
theorem zc{c:C}: ∀ {l:List (Nat×Nat)},qm l c=.junk∨(qm l c=c∧ ∀b'∈c.allNames,b'∉l.map (·.2))
 | []=>.inr ⟨rfl,by simp⟩
 | p::r=>by
  have hj: ∀l:List (Nat×Nat),qm l .junk=.junk:=fun l=>by
   induction l with
   | nil=>rfl
   | cons p r ih=>exact ih
  simp only[qm]
  rcases C.drop_names (b:=p.2) (c:=c) with e | ⟨e,hn⟩
  ·exact .inl (by rw[e];exact hj r)
  ·rw[e]
   rcases zc (c:=c) (l:=r) with h | ⟨h1,h2⟩
   ·exact .inl h
   ·exact .inr ⟨h1,fun b' hb'=>by simp only[List.map_cons,List.mem_cons,not_or];exact ⟨hn b' hb',h2 b' hb'⟩⟩
theorem SV.map_map(f g:C→C)(sv:SV):(sv.map f).map g=sv.map fun c=>g (f c):=by
 cases sv<;>simp[SV.map]
theorem Blk.map_map(f g:C→C)(b:Blk):(b.map f).map g=b.map fun c=>g (f c):=by
 cases b<;>simp[Blk.map]
theorem nG{fn:Func}{d b:Nat}: ∀ {l:List (Nat×Nat)} {cs:CS},b∉l.map (·.2)→av (dP P fn d l cs).heap b=(av cs.heap b).map (Blk.map (qm l))
 | [],cs,_=>by simp only[dP];cases av cs.heap b<;>simp[qm,Blk.map_id]
 | p::r,cs,h=>by
  simp only[List.map_cons,List.mem_cons,not_or] at h
  simp only[dP]
  rw[nG h.2,fj,if_neg h.1]
  cases av cs.heap b<;>simp[qm,Blk.map_map]
theorem uF{fn:Func}{d:Nat}{p:Nat×Nat}: ∀ {l:List (Nat×Nat)} {cs:CS},(l.map (·.2)).Nodup→p∈l→av (dP P fn d l cs).heap p.2=some (.arr (uT P fn p.1) (.v (d+p.1)))
 | [],_,_,h=>by cases h
 | q::r,cs,hn,h=>by
  simp only[List.map_cons,List.nodup_cons] at hn
  simp only[dP]
  rcases List.mem_cons.1 h with rfl | h
  ·rw[nG hn.1,fj,if_pos rfl];rfl
  ·exact uF hn.2 h
theorem wW{fn:Func}{d t:Nat}: ∀ {l:List (Nat×Nat)} {cs:CS},av (dP P fn d l cs).slots t=(av cs.slots t).map (SV.map (qm l))
 | [],cs=>by simp only[dP];cases av cs.slots t<;>simp[qm,SV.map_id]
 | p::r,cs=>by
  simp only[dP]
  rw[wW,MU,CS.dropB]
  simp only
  rw[CS.map_slots]
  cases av cs.slots t<;>simp[qm,SV.map_map]
theorem t7{fn:Func}{d:Nat}: ∀(l:List (Nat×Nat)) (cs:CS),(dP P fn d l cs).nl=cs.nl∧(dP P fn d l cs).fb=cs.fb∧(dP P fn d l cs).nt=cs.nt∧(dP P fn d l cs).nf=cs.nf∧(dP P fn d l cs).known=cs.known
 | [],_=>⟨rfl,rfl,rfl,rfl,rfl⟩
 | p::r,cs=>t7 r (cs.newB p.2 (.arr (uT P fn p.1) (.v (d+p.1))))
theorem Kk{d j:Nat}: ∀ {l:List (Nat×Nat)},j∉l.map (·.1)→Dg d l (.at (.v (d+j)))=.at (.v (d+j))
 | [],_=>rfl
 | p::r,h=>by
  simp only[List.map_cons,List.mem_cons,not_or] at h
  simp only[Dg]
  rw[if_neg (by simp;exact h.1),Kk h.2]
theorem AC{d:Nat}{p:Nat×Nat}: ∀ {l:List (Nat×Nat)},(l.map (·.1)).Nodup→p∈l→Dg d l (.at (.v (d+p.1)))=.own p.2
 | [],_,h=>by cases h
 | q::r,hn,h=>by
  simp only[List.map_cons,List.nodup_cons] at hn
  simp only[Dg]
  rcases List.mem_cons.1 h with rfl | h
  ·rw[if_pos rfl]
  ·rw[if_neg (by simp;rintro e;exact hn.1 (e▸List.mem_map_of_mem h)),AC hn.2 h]
theorem Rel.replaceL(R:Rel B env κ cs tm w){fn:Func}(l:List (Nat×Nat))(mo:Nat→Option Nat)(rs:List PV)(hn1:(l.map (·.1)).Nodup)(hn:(l.map (·.2)).Nodup)
  (hmo: ∀j g,mo j=some g→w.heap.size≤g∧g<w'.heap.size) (hmi: ∀i j g,mo i=some g→mo j=some g→i=j)
  (hw: ∀g,g<w.heap.size→w'.heap[g]? =w.heap[g]?) (hs:w.heap.size≤w'.heap.size)
  (hb: ∀p∈l,lj (env++rs) (sC mo l κ) (dP P fn cs.d l cs).heap w' p.2 (.arr (uT P fn p.1) (.v (cs.d+p.1)))) :
  Rel B (env++rs) (sC mo l κ) { (dP P fn cs.d l cs) with d:=cs.d+rs.length } tm w':=by
 obtain ⟨r1,r2,r3,r4,r5⟩:=t7 (P:=P) (fn:=fn) (d:=cs.d) l cs
 have hin: ∀ {b g},b∈l.map (·.2)→sC mo l κ b=some g→ ∃p∈l,p.2=b∧mo p.1=some g:=fun {b g} h h1=>by
  obtain ⟨p,hp,rfl⟩:=List.mem_map.1 h
  exact ⟨p,hp,rfl,(AB hn hp).symm.trans h1⟩
 have F:FocS env (env++rs) κ (sC mo l κ) cs.heap (dP P fn cs.d l cs).heap w w' (· ∈l.map (·.2)):={
  pre:=⟨rs,rfl⟩
  kap:=fun b' h=>Bb h
  oth:=Qf _ _
  arr:=fun b' es a h h1=>by rw[nG h,h1];rfl
  box:=fun b' l' h h1=>⟨l'.map (qm l),by rw[nG h,h1];rfl⟩
  blk:=fun g hg _=>hw g hg
  new:=fun b0 g h h1=>by
   obtain ⟨p,_,_,h2⟩:=hin h h1
   exact .inr (hmo _ _ h2).1
  inj:=R.hinj
  siz:=hs }
 refine R.focS (φ:=qm l) F (fun c v h=>?_) (fun b' blk' hne h=>?_) (fun b0 blk' h h1=>?_) (fun t sv h=>?_) (fun b0 g h h1=>?_) (fun b1 b2 g h1 h2 e1 e2=>?_) (by simp[R.henv]) r5 r2 r3 (Nat.le_of_eq r4.symm)
 ·rcases zc (l:=l) (c:=c) with e | ⟨e,hn'⟩
  ·rw[e];trivial
  ·rw[e];exact h.foc F hn'
 ·have h:=(nG (P:=P) (fn:=fn) (d:=cs.d) (cs:=cs) hne).symm.trans h
  obtain ⟨blk0,h1,rfl⟩:=Option.map_eq_some_iff.1 h
  exact ⟨blk0,h1,rfl⟩
 ·obtain ⟨p,hp,rfl⟩:=List.mem_map.1 h
  have h1:=(uF (P:=P) (fn:=fn) (d:=cs.d) (cs:=cs) hn hp).symm.trans h1
  cases h1
  exact hb p hp
 ·have h:=(wW (P:=P) (fn:=fn) (d:=cs.d) (cs:=cs) (l:=l)).symm.trans h
  obtain ⟨sv0,h1,rfl⟩:=Option.map_eq_some_iff.1 h
  exact ⟨sv0,h1,rfl⟩
 ·obtain ⟨p,hp,rfl,h2⟩:=hin h h1
  refine ⟨?_,Nat.le_trans R.hB (hmo _ _ h2).1,(hmo _ _ h2).2⟩
  show (av (dP P fn cs.d l cs).heap p.2).isSome=true
  rw[uF hn hp];rfl
 ·obtain ⟨p,hp,rfl,h3⟩:=hin h1 e1
  obtain ⟨q,hq,rfl,h4⟩:=hin h2 e2
  have e:=hmi _ _ _ h3 h4
  have:Dg 0 l (.at (.v (0+p.1)))=Dg 0 l (.at (.v (0+q.1))):=by rw[e]
  rw[AC hn1 hp,AC hn1 hq] at this
  injection this
theorem Dh(R:Rel B env κ cs tm w)(hlt: ∀g,Own κ g→g<w.heap.size){dst:Option Tmp}{fn:Func}{s:Sig}{f:List PV→Option (List PV)}(hf:P.funcs[s.K]? =some fn)(hP:PureOK P s f)(hρ:ρ s.K=f)
  {as:List Atom} {k:SV→CS→Option T} {T0:T} {n:Nat} (h:wz P dst s.K fn s.own as cs k=some T0) (hev:EvN ρ n T0 env L r)
  {O:Nat→Prop} {us:List Value} (hO: ∀g,O g→g<w.heap.size) (hO':(fn.resultTypes.toList.all (fe P)||s.flat)=true∨O=Own κ)
  (hl:(as.map (den env)).length=jf P fn.params.toList) (hs:ShQ P (fun j v=>RP w O (look (as.map (den env)) j) v) 0 fn.params.toList us) :
  Calls P s.K us.toArray w (fun e w'=> ∃v,e=.returned v∧sB ρ B env cs tm w n L r k v w'∧Below w.heap.size w w'):=by
 unfold wz at h
 cases hown:s.own with
 | nil =>
  rw[hown] at h
  simp only at h
  obtain ⟨T1,h1,rfl⟩:=Option.map_eq_some_iff.1 h
  obtain ⟨n',rs,rfl,h2,h3,h4⟩:=hev.call
  rw[qR] at h3 h1
  have h3':rs.length=jf P fn.resultTypes.toList:=by omega
  rw[hρ] at h2
  refine (hP.call fn hf _ rs h2 O w us hO (R.hgl.up R.hB) hl hs).mono ?_
  rintro e w' ⟨vs,mo,rfl,hB,hmo,hmi,hq⟩
  refine ⟨_,rfl,?_⟩
  have hg:=Ba hq h3'
  have hw: ∀g,g<w.heap.size→w'.heap[g]? =w.heap[g]? :=fun g hg=>hB.block g hg
  have R1:=R.grow rs hw hB.size
  have hcells: ∀j v,qQ P fn s.own rs O mo w' j v→j<0+jf P fn.resultTypes.toList→aR (env++rs) κ cs.heap w' (.at (.v (cs.d+j))) v:=by
   intro j v hq hj
   unfold qQ at hq
   rw[hown,if_neg (by simp)] at hq
   refine ⟨by simp[Atom.lt,R.henv];omega,?_⟩
   have hd:den (env++rs) (.v (cs.d+j))=look rs j:=by rw[←R.henv];exact jl env rs j
   rw[hd]
   rcases hO' with hsc | rfl
   ·have hj':j<rs.length:=by omega
    have e:look rs j=rs[j]:=fi _ _ _ (by simp[hj'])
    rcases Bool.or_eq_true_iff.1 hsc with hsc | hfl
    ·exact hq.scalar_any (hP.scal fn hf hsc _ rs h2 _ (by rw[e];simp))
    ·have:=hP.flat hfl _ rs h2 j (look rs j) (by rw[e];simp[hj'])
     rw[hown,if_neg (by simp)] at this
     exact hq.scalar_any this
   ·exact hq.mono fun g hg hn=>⟨rfl,fun h=>hn (.inl h)⟩
  have hsv:=uE (wV (P:=P) (κ:=κ) (H:=cs.heap) (w:=w') (fun c=>c) cs.d fn.resultTypes.toList vs 0 hq hcells)
  rw[Nat.add_zero] at hsv
  simp only[List.map_id'] at hsv
  exact ⟨⟨rs,κ,_,_,n',T1,h1,Nat.le_succ _,h4 hg,by rw[←h3'];exact R1,hsv,hB.mono R.hB,⟨rfl,rfl,rfl,Nat.le_refl _⟩⟩,hB⟩
 | cons jo js =>
  rw[hown] at h
  simp only at h
  obtain ⟨b,hb,h⟩:=Option.bind_eq_some_iff.1 h
  split at h
  ·rename_i hc
   obtain ⟨T1,h1,rfl⟩:=Option.map_eq_some_iff.1 h
   obtain ⟨n',rs,rfl,h2,h3,h4⟩:=hev.call
   rw[qR] at h3 h1 hc
   have h3':rs.length=jf P fn.resultTypes.toList:=by omega
   obtain ⟨hc,hn1,hn2⟩:=hc
   have hl1:(MJ (jo::js) b).map (·.1)=s.own:=by rw[Ki,hown]
   generalize MJ (jo::js) b=l at *
   have hjl: ∀p∈l,p.1<rs.length∧p.1∈s.own:=fun p hp=>⟨by have:=(hc p hp).2;omega,by rw[←hl1];exact List.mem_map_of_mem hp⟩
   rw[hρ] at h2
   refine (hP.call fn hf _ rs h2 O w us hO (R.hgl.up R.hB) hl hs).mono ?_
   rintro e w' ⟨vs,mo,rfl,hB,hmo,hmi,hq⟩
   refine ⟨_,rfl,?_⟩
   have hg:=Ba hq h3'
   have hw: ∀g,g<w.heap.size→w'.heap[g]? =w.heap[g]? :=fun g hg=>hB.block g hg
   have hsub: ∀g,¬(O g∨ ∃i,mo i=some g)→O=Own κ→ ¬Own (sC mo l κ) g:=by
    rintro g hn rfl h
    exact hn (Kj _ _ h)
   have hnsc: ∀p∈l,∃v,kB w' (fun g=>O g∨ ∃i,mo i=some g) (uT P fn p.1) (mo p.1) (look rs p.1) v:=by
    intro p hp
    obtain ⟨v,hv⟩:=hq.ex p.1 (Nat.zero_le _) (by have:=(hjl p hp).1;omega)
    unfold qQ at hv
    rw[if_pos (hjl p hp).2] at hv
    exact ⟨v,hv⟩
   have hOeq:s.flat=true∨O=Own κ:=by
    rcases hO' with hsc | h
    ·rcases Bool.or_eq_true_iff.1 hsc with hsc | hfl
     ·have:jo∈l.map (·.1):=by rw[hl1,hown];simp
      obtain ⟨p,hp,_⟩:=List.mem_map.1 this
      obtain ⟨v,xs,hx,_⟩:=hnsc p hp
      have hpl:=(hjl p hp).1
      have:=hP.scal fn hf hsc _ rs h2 (look rs p.1) (by
       have:look rs p.1=rs[p.1]:=fi _ _ _ (by simp[hpl])
       rw[this];simp)
      rw[hx] at this;simp[PV.scalar] at this
     ·exact .inl hfl
    ·exact .inr h
   have hflat:s.flat=true→ ∀j,j<rs.length→if j∈s.own then ∃xs:List (List PV),look rs j=.list xs∧ ∀r∈xs,∀q∈r,q.scalar=true else (look rs j).scalar=true:=fun hfl j hj=>by
    have e:look rs j=rs[j]:=fi _ _ _ (by simp[hj])
    exact hP.flat hfl _ rs h2 j (look rs j) (by rw[e];simp[hj])
   have hd: ∀j,den (env++rs) (.v (cs.d+j))=look rs j:=fun j=>by rw[←R.henv];exact jl env rs j
   have hblk: ∀p∈l,lj (env++rs) (sC mo l κ) (dP P fn cs.d l cs).heap w' p.2 (.arr (uT P fn p.1) (.v (cs.d+p.1))):=by
    intro p hp
    obtain ⟨hpl,hpo⟩:=hjl p hp
    obtain ⟨v,xs,hx,hlen,hrow,hv⟩:=hnsc p hp
    have hk:sC mo l κ p.2=mo p.1:=AB hn2 hp
    refine ⟨by simp[Atom.lt,R.henv];omega,(hc p hp).1,xs,by rw[hd,hx],hlen,hrow,?_⟩
    rcases hv with ⟨hv,hx,_⟩ | ⟨g,c,cells,T,hv,_,h5,h6,h7,h8⟩
    ·exact .inl ⟨hk.trans hv,hx⟩
    ·refine .inr ⟨g,cells,T,c,hk.trans hv,h6,h7,h5,fun i j hi hj=>?_⟩
     obtain ⟨u,hu,hr⟩:=h8 i j hi hj
     refine ⟨u,hu,?_⟩
     rcases hOeq with hfl | hOeq
     ·have:=hflat hfl p.1 hpl
      rw[if_pos hpo] at this
      obtain ⟨xs',hx',hsc⟩:=this
      rw[hx] at hx';cases hx'
      have hjr:j<(xs.getD i []).length:=by rw[hrow i hi];exact hj
      refine hr.scalar_any (hsc (xs.getD i []) ?_ _ ?_)
      ·simp[List.getD_eq_getElem?_getD,hi]
      ·rw[fi _ j _ (List.getElem?_eq_getElem hjr)];exact List.getElem_mem hjr
     ·exact hr.mono fun g' _ hn=>⟨rfl,hsub g' hn hOeq⟩
   have R1:=R.replaceL l mo rs hn1 hn2 hmo hmi hw hB.size hblk
   have hcells: ∀j v,qQ P fn s.own rs O mo w' j v→j<0+jf P fn.resultTypes.toList →
     aR (env++rs) (sC mo l κ) (dP P fn cs.d l cs).heap w' (Dg cs.d l (.at (.v (cs.d+j)))) v:=by
    intro j v hq hj
    unfold qQ at hq
    by_cases e:j∈s.own
    ·rw[if_pos e] at hq
     rw[←hl1] at e
     obtain ⟨p,hp,rfl⟩:=List.mem_map.1 e
     rw[AC hn1 hp]
     have hk:sC mo l κ p.2=mo p.1:=AB hn2 hp
     obtain ⟨xs,hx,hlen,hrow,hv⟩:=hq
     refine ⟨uT P fn p.1,.v (cs.d+p.1),xs,uF hn2 hp,by simp[Atom.lt,R.henv];omega,by rw[hd,hx],?_⟩
     rcases hv with ⟨hv,hx,hA⟩ | ⟨g,c,cells,T,hv,h4,h5,h6,h7,h8⟩
     ·exact .inl ⟨hk.trans hv,hx,hA⟩
     ·exact .inr ⟨g,c,cells,T,hk.trans hv,h4,h5,h6,h7⟩
    ·rw[if_neg e] at hq
     rw[Kk (by rw[hl1];exact e)]
     refine ⟨by simp[Atom.lt,R.henv];omega,?_⟩
     rw[hd]
     rcases hOeq with hfl | hOeq
     ·have:=hflat hfl j (by omega)
      rw[if_neg e] at this
      exact hq.scalar_any this
     ·exact hq.mono fun g' _ hn=>⟨rfl,hsub g' hn hOeq⟩
   have hsv:=uE (wV (P:=P) (κ:=sC mo l κ) (H:=(dP P fn cs.d l cs).heap) (w:=w') (Dg cs.d l) cs.d fn.resultTypes.toList vs 0 hq hcells)
   rw[Nat.add_zero] at hsv
   obtain ⟨r1,r2,r3,r4,r5⟩:=t7 (P:=P) (fn:=fn) (d:=cs.d) l cs
   exact ⟨⟨rs,sC mo l κ,_,_,n',T1,h1,Nat.le_succ _,h4 hg,by rw[←h3'];exact R1,hsv,hB.mono R.hB,⟨r2,r3,r1,Nat.le_of_eq r4.symm⟩⟩,hB⟩
  ·cases h
end
end Go.Xt
