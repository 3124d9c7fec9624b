/- Steps towards the statements of this seat; the conditions stand in each theorem. -/
import Derived.Test.YtjolhiejojfkkaaGreatDoorXt10
set_option linter.unusedSimpArgs false
set_option linter.unusedVariables false
namespace Go.Xt
open Go.RowKit
def ShQ(P:Program)(Q:Nat→Value→Prop):Nat→List TypeId→List Value→Prop
 | _,[],[]=>True
 | i,t::ts,v::vs=>(if aG P t=true then ∃us:Array Value,v=.agg us∧us.size=P.cellsOf t∧ ∀(j:Nat) (u:Value),us[j]? =some u→Q (i+j) u else Q i v) ∧
   ShQ P Q (i+if aG P t then P.cellsOf t else 1) ts vs
 | _,_,_=>False
def jD(P:Program):List TypeId→Nat
 | []=>0
 | t::ts=>(if aG P t then P.cellsOf t else 1)+jD P ts
def PF:List Value→Value
 | [v]=>v
 | vs=>.tuple vs.toArray
def pg(w:World)(O:Nat→Prop)(es:Nat)(mo:Option Nat)(p:PV)(v:Value):Prop :=
  ∃xs,p=.list xs∧xs.length≤2 ^ 63-1∧(∀i,i<xs.length→(xs.getD i []).length=es) ∧
    ((mo=none∧xs=[]∧ ∃A,v=.slice A 0 0) ∨
     ∃g c cells T,mo=some g∧v=.slice (some ⟨g,0,none⟩) xs.length c∧xs.length≤c∧w.heap[g]? =some (.cells cells T (0,0))∧cells.size=c*es ∧
       ∀i j,i<xs.length→j<es→ ∃u,cells[i*es+j]? =some u∧RP w O (look (xs.getD i []) j) u)
def PV.scalar:PV→Bool
 | .list _=>false
 | .err _ _ _=>false
 | _=>true
def rA(P:Program)(fn:Func)(own:Option Nat)(rs:List PV)(O:Nat→Prop)(mo:Option Nat)(w':World)(j:Nat)(v:Value):Prop :=
 if own=some j then pg w' (fun g=>O g∨mo=some g) (tD P fn j) mo (look rs j) v else RP w' (fun g=>O g∨mo=some g) (look rs j) v
def xA(own:Option Nat)(rs:List PV):Prop:= ∀j p,rs[j]? =some p→if own=some j then ∃xs:List (List PV),p=.list xs∧ ∀r∈xs,∀q∈r,q.scalar=true else p.scalar=true
structure PureOK (P:Program) (s:Sig) (f:List PV→Option (List PV)):Prop where
 scal: ∀fn,P.funcs[s.K]? =some fn→fn.resultTypes.toList.all (fx P)=true→ ∀ps rs,f ps=some rs→ ∀p∈rs,p.scalar=true
 flat:s.flat=true→ ∀ps rs,f ps=some rs→xA s.own rs
 call: ∀fn,P.funcs[s.K]? =some fn→ ∀ps rs,f ps=some rs→ ∀(O:Nat→Prop) (w:World) (vs:List Value),(∀g,O g→g<w.heap.size)→Laid P w.heap.size w →
  ps.length=jD P fn.params.toList→ShQ P (fun j v=>RP w O (look ps j) v) 0 fn.params.toList vs →
  Calls P s.K vs.toArray w (fun e w'=> ∃us mo,e=.returned (PF us)∧Below w.heap.size w w'∧(∀g,mo=some g→w.heap.size≤g∧g<w'.heap.size) ∧
   ShQ P (rA P fn s.own rs O mo w') 0 fn.resultTypes.toList us)
section
variable {P:Program}{B:Bas P}{env env':List PV}{κ κ':Kap}{cs:CS}{tm:Nat→Value}{w w':World}{a:Act}{ρ:Fns}{L:List (T×Nat)}{r:List PV→Prop}
theorem ShQ.imp{Q Q':Nat→Value→Prop}(h: ∀j v,Q j v→Q' j v): ∀ {ts:List TypeId} {vs:List Value} {i:Nat},ShQ P Q i ts vs→ShQ P Q' i ts vs
 | [],[],_,_=>trivial
 | t::ts,v::vs,i,hs=>by
  obtain ⟨h1,h2⟩:=hs
  refine ⟨?_,ShQ.imp h h2⟩
  by_cases e:aG P t=true
  ·rw[if_pos e] at h1 ⊢
   obtain ⟨us,h3,h4,h5⟩:=h1
   exact ⟨us,h3,h4,fun j u hu=>h _ _ (h5 j u hu)⟩
  ·rw[if_neg e] at h1 ⊢
   exact h _ _ h1
 | [],_::_,_,h=>h.elim
 | _::_,[],_,h=>h.elim
theorem ShQ.ex{Q:Nat→Value→Prop}: ∀ {ts:List TypeId} {vs:List Value} {i:Nat},ShQ P Q i ts vs→ ∀j,i≤j→j<i+jD P ts→ ∃v,Q j v
 | [],[],i,_,j,h1,h2=>by simp[jD] at h2;omega
 | t::ts,v::vs,i,hs,j,h1,h2=>by
  obtain ⟨h3,h4⟩:=hs
  simp only[jD] at h2
  by_cases e:aG P t=true
  ·rw[if_pos e] at h2 h3 h4
   obtain ⟨us,h5,h6,h7⟩:=h3
   by_cases hj:j<i+P.cellsOf t
   ·have:j-i<us.size:=by omega
    refine ⟨us[j-i],?_⟩
    have:=h7 (j-i) us[j-i] (by simp[this])
    rwa [show i+(j-i)=j by omega] at this
   ·exact h4.ex j (by omega) (by omega)
  ·rw[if_neg e] at h3
   simp only[if_neg e] at h2 h4
   by_cases hj:j=i
   ·subst hj;exact ⟨v,h3⟩
   ·exact h4.ex j (by omega) (by omega)
 | [],_::_,_,h,_,_,_=>h.elim
 | _::_,[],_,h,_,_,_=>h.elim
theorem rB(P:Program): ∀(ts:List TypeId) (d:Nat),(pd P d ts).2=d+jD P ts
 | [],d=>rfl
 | t::ts,d=>by simp only[pd,jD];rw[rB P ts];omega
theorem Ny{α:Type}{R:α→Value→Prop}(f:Nat→α)(n:Nat)(us:List Value)(hn:us.length=n)(h: ∀j u,us[j]? =some u→R (f j) u):ay R ((List.range n).map f) us:=by
 refine pf (by simp[hn]) fun j x u hx hu=>?_
 simp only[List.getElem?_map,Option.map_eq_some_iff] at hx
 obtain ⟨k,hk,rfl⟩:=hx
 rw[List.getElem?_range (by have:=(List.getElem?_eq_some_iff.1 hu).1;omega)] at hk
 cases hk;exact h j u hu
theorem xB{H:List (Nat×Blk)}{Q:Nat→Value→Prop}(φ:C→C)(d0:Nat): ∀(ts:List TypeId) (us:List Value) (i:Nat),ShQ P Q i ts us →
  (∀j v,Q j v→j<i+jD P ts→aW env κ H w (φ (.at (.v (d0+j)))) v)→ay (tJ env κ H w) ((pd P (d0+i) ts).1.map fun p=>(p.1,p.2.map φ)) us
 | [],[],_,_,_=>trivial
 | t::ts,v::us,i,hs,h=>by
  obtain ⟨h1,h2⟩:=hs
  simp only[pd,List.map_cons]
  have key:d0+i+(if aG P t=true then P.cellsOf t else 1)=d0+(i+if aG P t=true then P.cellsOf t else 1):=by omega
  refine ⟨?_,?_⟩
  ·by_cases e:aG P t=true
   ·rw[if_pos e] at h1
    obtain ⟨us',rfl,h3,h4⟩:=h1
    simp only[e,if_true]
    refine ⟨us',rfl,?_⟩
    rw[List.map_map]
    refine Ny _ _ _ (by simpa using h3) fun j u hu=>?_
    have hj:j<P.cellsOf t:=by have:=(List.getElem?_eq_some_iff.1 hu).1;simp at this;omega
    have:=h (i+j) u (h4 j u (by simpa using hu)) (by simp[jD,e];omega)
    simpa[Nat.add_assoc] using this
   ·rw[if_neg e] at h1
    simp only[e,if_false,List.range_one,List.map_cons,List.map_nil]
    exact ⟨_,rfl,by simpa using h i v h1 (by simp[jD,e];omega)⟩
  ·rw[key]
   exact xB φ d0 ts us _ h2 fun j v hq hj=>h j v hq (by simp only[jD];omega)
 | [],_::_,_,h,_=>h.elim
 | _::_,[],_,h,_=>h.elim
theorem KM{H:List (Nat×Blk)}{p:Bool×List C}{v:Value}(h:tJ env κ H w p v):cd env κ H w (GW p) v:=by
 obtain ⟨t,l⟩:=p
 cases t with
 | true=>exact h
 | false=>obtain ⟨c,rfl,h⟩:=h;exact h
theorem vk{H:List (Nat×Blk)}: ∀ {ps:List (Bool×List C)} {us:List Value},ay (tJ env κ H w) ps us→cd env κ H w (Gk ps) (PF us)
 | [],[],h=>⟨#[],rfl,trivial⟩
 | [p],[u],h=>KM h.1
 | p::q::ps,u::v::us,h=>⟨(u::v::us).toArray,rfl,by simpa using h⟩
 | [],_::_,h=>h.elim
 | _::_,[],h=>h.elim
 | [_],_::_::_,h=>h.2.elim
 | _::_::_,[_],h=>h.2.elim
theorem kh{R:PV→Value→Prop}: ∀ {ps:List PV} {us:List Value},ay R ps us→ ∀(j:Nat) (u:Value),us[j]? =some u→R (look ps j) u
 | _::_,_::_,h,0,u,hu=>by simp at hu;subst hu;exact h.1
 | _::_,_::_,h,j+1,u,hu=>by simpa[look] using kh h.2 j u (by simpa using hu)
 | [],[],_,j,u,hu=>by simp at hu
 | [],_::_,h,_,_,_=>h.elim
 | _::_,[],h,_,_,_=>h.elim
theorem mS(pre ps:List PV)(j:Nat):look (pre++ps) (pre.length+j)=look ps j:=by
 induction pre with
 | nil=>simp
 | cons x l ih=>simpa[look,Nat.add_right_comm] using ih
theorem Gq(ps:List PV)(n j:Nat)(h:j<n):look (ps.take n) j=look ps j:=by
 rw[db,db,List.getD_eq_getElem?_getD,List.getD_eq_getElem?_getD,List.getElem?_take,if_pos h]
theorem KN{H:List (Nat×Blk)}{sv:SV}{u:Value}{t:TypeId}(h:cd env κ H w sv u)(ht:sv.isTup=false)(hst:sv.cells.all C.storable=true)(hs:sv.shape=shT P t) :
  if aG P t=true then ∃us:Array Value,u=.agg us∧us.size=P.cellsOf t∧u.cells=us else u.cells= #[u]:=by
 cases sv with
 | one c =>
  simp only[SV.shape,shT] at hs
  split at hs
  ·cases hs
  ·rename_i e
   rw[if_neg e]
   exact (oc h (by simpa[SV.cells] using hst)).1
 | agg l =>
  simp only[SV.shape,shT] at hs
  split at hs
  ·rename_i e
   have hs:=Option.some.inj hs
   rw[if_pos e]
   obtain ⟨us,rfl,h⟩:=h
   have:=h.length
   exact ⟨us,rfl,by rw[←hs,this];simp,by simp[Value.cells]⟩
  ·cases hs
 | tup ps=>simp[SV.isTup] at ht
theorem Hf{H:List (Nat×Blk)}{R:PV→Value→Prop}: ∀(args:List SV) (us:List Value) (ts:List TypeId) (ps pre:List PV),ay (cd env κ H w) args us→(∀v∈args,v.isTup=false) →
  (∀v∈args,v.cells.all C.storable=true)→args.map SV.shape=ts.map (shT P)→ay R ps (us.flatMap fun u=>u.cells.toList) →
  ps.length=jD P ts∧ShQ P (fun j v=>R (look (pre++ps) j) v) pre.length ts us
 | [],[],ts,ps,pre,_,_,_,hs,hp=>by
  cases ts with
  | nil=>cases ps with
   | nil=>exact ⟨rfl,trivial⟩
   | cons p ps=>exact hp.elim
  | cons t ts=>simp at hs
 | sv::args,u::us,ts,ps,pre,h,h1,h2,hs,hp=>by
  cases ts with
  | nil=>simp at hs
  | cons t ts =>
   simp only[List.map_cons,List.cons.injEq] at hs
   have hc:=KN (P:=P) h.1 (h1 sv (by simp)) (h2 sv (by simp)) hs.1
   simp only[List.flatMap_cons] at hp
   have hlen:=hp.length
   simp only[List.length_append,Array.length_toList] at hlen
   have hsz:u.cells.size=if aG P t=true then P.cellsOf t else 1:=by
    split at hc
    ·rename_i e
     obtain ⟨us',_,h4,h5⟩:=hc
     rw[h5,h4,if_pos e]
    ·rename_i e
     rw[hc,if_neg e];rfl
   have p1:ay R (ps.take u.cells.size) u.cells.toList:=by
    have:=hp.take u.cells.size
    rwa [show u.cells.size=u.cells.toList.length by simp,List.take_left] at this
   have p2:ay R (ps.drop u.cells.size) (us.flatMap fun u=>u.cells.toList):=by
    have:=hp.drop u.cells.size
    rwa [show u.cells.size=u.cells.toList.length by simp,List.drop_left] at this
   obtain ⟨k1,k2⟩:=Hf args us ts (ps.drop u.cells.size) (pre++ps.take u.cells.size) h.2 (fun v hv=>h1 v (by simp[hv])) (fun v hv=>h2 v (by simp[hv])) hs.2 p2
   have htk:(ps.take u.cells.size).length=u.cells.size:=by simp;omega
   refine ⟨by simp only[jD];simp at k1;omega,?_,?_⟩
   ·split at hc
    ·rename_i e
     rw[if_pos e]
     obtain ⟨us',rfl,h4,h5⟩:=hc
     refine ⟨us',rfl,h4,fun j x hx=>?_⟩
     show R (look (pre++ps) (pre.length+j)) x
     rw[mS]
     rw[←Gq ps us'.size j (Array.getElem?_eq_some_iff.1 hx).1]
     rw[h5] at p1
     exact kh p1 j x (by simpa using hx)
    ·rename_i e
     rw[if_neg e]
     have:=mS pre ps 0
     simp only[Nat.add_zero] at this
     show R (look (pre++ps) pre.length) u
     rw[this]
     rw[hc] at p1
     rw[←Gq ps 1 0 (by omega)]
     exact kh p1 0 u (by simp)
   ·rw[List.append_assoc,List.take_append_drop,List.length_append,htk,hsz] at k2
    exact k2
 | [],_::_,_,_,_,h,_,_,_,_=>h.elim
 | _::_,[],_,_,_,h,_,_,_,_=>h.elim
theorem QJ(R:Rel B env κ cs tm w)(g:Nat)(h:Own κ g):g<w.heap.size:=by
 rcases h with h | ⟨b,h⟩
 ·rw[R.hoth] at h
  exact Nat.lt_of_lt_of_le (R.hob g h) R.hB
 ·exact (R.hκ b g h).2.2
theorem BL(R:Rel B env κ cs tm w){fn:Func}{fl:Bool}{args:List SV}{us:List Value}{as:List Atom}{cs1:CS}(h:xi P fn fl args cs=some (as,cs1))(hr:ay (cd env κ cs.heap w) args us) :
  ∃κ1 O,Rel B env κ1 cs1 tm w∧Same cs cs1∧cs1.d=cs.d∧(∀g,O g→g<w.heap.size)∧((fn.resultTypes.toList.all (fx P)||fl)=true∨O=Own κ1) ∧
   (as.map (den env)).length=jD P fn.params.toList∧ShQ P (fun j v=>RP w O (look (as.map (den env)) j) v) 0 fn.params.toList us:=by
 unfold xi at h
 split at h
 ·rename_i hc
  simp only[Bool.and_eq_true,decide_eq_true_eq,List.all_eq_true,Bool.not_eq_true'] at hc
  obtain ⟨h1,h2⟩:=hc
  have ht: ∀v∈args,v.isTup=false:=fun v hv=>(h1 v hv).1
  have hst: ∀v∈args,v.cells.all C.storable=true:=fun v hv=>by rw[List.all_eq_true];exact (h1 v hv).2
  have hcells:=ld hr ht hst
  split at h
  ·rename_i hsc
   obtain ⟨as',h3,h4⟩:=Option.map_eq_some_iff.1 h
   cases h4
   have h5:=tO R h3 hcells
   have h6:ay (RP w fun _=>False) (as.map (den env)) (us.flatMap fun u=>u.cells.toList):=h5.1.map _ fun x u hx=>hx.2
   obtain ⟨k1,k2⟩:=Hf (P:=P) args us fn.params.toList (as.map (den env)) [] hr ht hst h2 h6
   exact ⟨κ,_,R,Same.refl _,rfl,fun g (hg:False)=>hg.elim,.inl hsc,k1,by simpa using k2⟩
  ·obtain ⟨⟨as',cs1',φ⟩,h3,h4⟩:=Option.map_eq_some_iff.1 h
   cases h4
   obtain ⟨κ1,R1,h5,h6,h7,h8,h9⟩:=lc R h3 hcells
   have h6:ay (RP w (Own κ1)) (as'.map (den env)) (us.flatMap fun u=>u.cells.toList):=h5.map _ fun x u hx=>hx.2
   obtain ⟨k1,k2⟩:=Hf (P:=P) args us fn.params.toList (as'.map (den env)) [] hr ht hst h2 h6
   exact ⟨κ1,_,R1,h7,h8,QJ R1,.inr rfl,k1,by simpa using k2⟩
 ·cases h
theorem RP.scalar_any{O O':Nat→Prop}{w w':World}{p:PV}{v:Value}(h:RP w O p v)(hs:p.scalar=true):RP w' O' p v:=by
 cases h with
 | int h=>exact .int h
 | bool=>exact .bool
 | str=>exact .str
 | list=>simp[PV.scalar] at hs
 | err=>simp[PV.scalar] at hs
theorem pg.good{O:Nat→Prop}{es:Nat}{mo:Option Nat}{p:PV}{v:Value}(h:pg w O es mo p v):th p:=by
 obtain ⟨xs,rfl,h,_⟩:=h;exact h
theorem rA.good{fn:Func}{own:Option Nat}{rs:List PV}{O:Nat→Prop}{mo:Option Nat}{j:Nat}{v:Value}(h:rA P fn own rs O mo w j v):th (look rs j):=by
 unfold rA at h
 split at h
 ·exact h.good
 ·exact h.good
theorem BM{fn:Func}{own:Option Nat}{rs:List PV}{O:Nat→Prop}{mo:Option Nat}{ts:List TypeId}{us:List Value}(h:ShQ P (rA P fn own rs O mo w) 0 ts us)(hl:rs.length=jD P ts) :
  ∀p∈rs,th p:=by
 intro p hp
 obtain ⟨j,hj⟩:=List.mem_iff_getElem?.1 hp
 have hlt:=(List.getElem?_eq_some_iff.1 hj).1
 obtain ⟨v,hv⟩:=h.ex j (Nat.zero_le _) (by omega)
 have:=hv.good
 rwa [gP _ _ _ hj] at this
theorem EvN.call{n:Nat}{K:Nat}{as:List Atom}{m:Nat}{k:T}(h:EvN ρ n (.call K as m k) env L r) :
  ∃n' rs,n=n'+1∧ρ K (as.map (den env))=some rs∧rs.length=m∧((∀p∈rs,th p)→EvN ρ n' k (env++rs) L r):=by
 cases n with
 | zero=>exact h.elim
 | succ n =>
  simp only[EvN] at h
  split at h
  ·rename_i rs hr;exact ⟨n,rs,rfl,hr,h.1,h.2⟩
  ·exact h.elim
theorem DK(R:Rel B env κ cs tm w)(hlt: ∀g,Own κ g→g<w.heap.size){dst:Option Tmp}{fn:Func}{s:Sig}{f:List PV→Option (List PV)}(hf:P.funcs[s.K]? =some fn)(hP:PureOK P s f)(hρ:ρ s.K=f)
  {as:List Atom} {k:SV→CS→Option T} {T0:T} {n:Nat} (h:xj P dst s.K fn s.own as cs k=some T0) (hev:EvN ρ n T0 env L r)
  {O:Nat→Prop} {us:List Value} (hO: ∀g,O g→g<w.heap.size) (hO':(fn.resultTypes.toList.all (fx P)||s.flat)=true∨O=Own κ)
  (hl:(as.map (den env)).length=jD P fn.params.toList) (hs:ShQ P (fun j v=>RP w O (look (as.map (den env)) j) v) 0 fn.params.toList us) :
  Calls P s.K us.toArray w (fun e w'=> ∃v,e=.returned v∧tk ρ B env cs tm w n L r k v w'∧Below w.heap.size w w'):=by
 unfold xj at h
 cases hown:s.own with
 | none =>
  rw[hown] at h
  simp only at h
  obtain ⟨T1,h1,rfl⟩:=Option.map_eq_some_iff.1 h
  obtain ⟨n',rs,rfl,h2,h3,h4⟩:=hev.call
  rw[rB] at h3 h1
  have h3':rs.length=jD P fn.resultTypes.toList:=by omega
  rw[hρ] at h2
  refine (hP.call fn hf _ rs h2 O w us hO (R.hgl.up R.hB) hl hs).mono ?_
  rintro e w' ⟨vs,mo,rfl,hB,hmo,hq⟩
  refine ⟨_,rfl,?_⟩
  have hg:=BM hq h3'
  have hw: ∀g,g<w.heap.size→w'.heap[g]? =w.heap[g]? :=fun g hg=>hB.block g hg
  have R1:=R.grow rs hw hB.size
  have hcells: ∀j v,rA P fn s.own rs O mo w' j v→j<0+jD P fn.resultTypes.toList→aW (env++rs) κ cs.heap w' (.at (.v (cs.d+j))) v:=by
   intro j v hq hj
   unfold rA at hq
   rw[hown,if_neg (by simp)] at hq
   refine ⟨by simp[Atom.lt,R.henv];omega,?_⟩
   have hd:den (env++rs) (.v (cs.d+j))=look rs j:=by rw[←R.henv];exact mS env rs j
   rw[hd]
   rcases hO' with hsc | rfl
   ·have hj':j<rs.length:=by omega
    have e:look rs j=rs[j]:=gP _ _ _ (by simp[hj'])
    rcases Bool.or_eq_true_iff.1 hsc with hsc | hfl
    ·exact hq.scalar_any (hP.scal fn hf hsc _ rs h2 _ (by rw[e];simp))
    ·have:=hP.flat hfl _ rs h2 j (look rs j) (by rw[e];simp[hj'])
     rw[hown,if_neg (by simp)] at this
     exact hq.scalar_any this
   ·exact hq.mono fun g hg hn=>⟨rfl,fun h=>hn (.inl h)⟩
  have hsv:=vk (xB (P:=P) (κ:=κ) (H:=cs.heap) (w:=w') (fun c=>c) cs.d fn.resultTypes.toList vs 0 hq hcells)
  rw[Nat.add_zero] at hsv
  simp only[List.map_id'] at hsv
  exact ⟨⟨rs,κ,_,_,n',T1,h1,Nat.le_succ _,h4 hg,by rw[←h3'];exact R1,hsv,hB.mono R.hB,⟨rfl,rfl,rfl,Nat.le_refl _⟩⟩,hB⟩
 | some jo =>
  rw[hown] at h
  simp only at h
  obtain ⟨b,hb,h⟩:=Option.bind_eq_some_iff.1 h
  split at h
  ·rename_i hc
   obtain ⟨T1,h1,rfl⟩:=Option.map_eq_some_iff.1 h
   obtain ⟨n',rs,rfl,h2,h3,h4⟩:=hev.call
   rw[rB] at h3 h1 hc
   have h3':rs.length=jD P fn.resultTypes.toList:=by omega
   have hjo:jo<rs.length:=by omega
   rw[hρ] at h2
   refine (hP.call fn hf _ rs h2 O w us hO (R.hgl.up R.hB) hl hs).mono ?_
   rintro e w' ⟨vs,mo,rfl,hB,hmo,hq⟩
   refine ⟨_,rfl,?_⟩
   have hg:=BM hq h3'
   have hw: ∀g,g<w.heap.size→w'.heap[g]? =w.heap[g]? :=fun g hg=>hB.block g hg
   have hsub: ∀g,¬(O g∨mo=some g)→O=Own κ→ ¬Own (upd κ b mo) g:=by
    rintro g hn rfl (h | ⟨b',h⟩)
    ·exact hn (.inl (.inl h))
    ·simp only[upd] at h
     split at h
     ·exact hn (.inr h)
     ·exact hn (.inl (.inr ⟨b',h⟩))
   have hnsc: ∃v,pg w' (fun g=>O g∨mo=some g) (tD P fn jo) mo (look rs jo) v:=by
    obtain ⟨v,hv⟩:=hq.ex jo (Nat.zero_le _) (by omega)
    unfold rA at hv
    rw[hown,if_pos rfl] at hv
    exact ⟨v,hv⟩
   have hOeq:s.flat=true∨O=Own κ:=by
    rcases hO' with hsc | h
    ·rcases Bool.or_eq_true_iff.1 hsc with hsc | hfl
     ·obtain ⟨v,xs,hx,_⟩:=hnsc
      have:=hP.scal fn hf hsc _ rs h2 (look rs jo) (by
       have:look rs jo=rs[jo]:=gP _ _ _ (by simp[hjo])
       rw[this];simp)
      rw[hx] at this;simp[PV.scalar] at this
     ·exact .inl hfl
    ·exact .inr h
   have hflat:s.flat=true→ ∀j,j<rs.length→if some jo=some j then ∃xs:List (List PV),look rs j=.list xs∧ ∀r∈xs,∀q∈r,q.scalar=true else (look rs j).scalar=true:=fun hfl j hj=>by
    have e:look rs j=rs[j]:=gP _ _ _ (by simp[hj])
    have:=hP.flat hfl _ rs h2 j (look rs j) (by rw[e];simp[hj])
    rw[hown] at this
    exact this
   have hd: ∀j,den (env++rs) (.v (cs.d+j))=look rs j:=fun j=>by rw[←R.henv];exact mS env rs j
   have hblk:oa (env++rs) (upd κ b mo) (cs.newB b (.arr (tD P fn jo) (.v (cs.d+jo)))).heap w' b ((Blk.arr (tD P fn jo) (.v (cs.d+jo))).map (C.drop b)):=by
    obtain ⟨v,xs,hx,hlen,hrow,hv⟩:=hnsc
    refine ⟨by simp[Atom.lt,R.henv];omega,hc.1,xs,by rw[hd,hx],hlen,hrow,?_⟩
    rcases hv with ⟨rfl,hx,_⟩ | ⟨g,c,cells,T,rfl,_,h5,h6,h7,h8⟩
    ·exact .inl ⟨by simp[upd],hx⟩
    ·refine .inr ⟨g,cells,T,c,by simp[upd],h6,h7,h5,fun i j hi hj=>?_⟩
     obtain ⟨u,hu,hr⟩:=h8 i j hi hj
     refine ⟨u,hu,?_⟩
     rcases hOeq with hfl | hOeq
     ·have:=hflat hfl jo hjo
      rw[if_pos rfl] at this
      obtain ⟨xs',hx',hsc⟩:=this
      rw[hx] at hx';cases hx'
      have hjr:j<(xs.getD i []).length:=by rw[hrow i hi];exact hj
      refine hr.scalar_any (hsc (xs.getD i []) ?_ _ ?_)
      ·simp[List.getD_eq_getElem?_getD,hi]
      ·rw[gP _ j _ (List.getElem?_eq_getElem hjr)];exact List.getElem_mem hjr
     ·exact hr.mono fun g' _ hn=>⟨rfl,hsub g' hn hOeq⟩
   have R1:=R.replace b (.arr (tD P fn jo) (.v (cs.d+jo))) mo rs (fun g hg=>⟨.inr (hmo g hg).1,(hmo g hg).2⟩) (fun g hg _=>hw g hg) hB.size hblk
   have hcells: ∀j v,rA P fn s.own rs O mo w' j v→j<0+jD P fn.resultTypes.toList →
     aW (env++rs) (upd κ b mo) (cs.newB b (.arr (tD P fn jo) (.v (cs.d+jo)))).heap w' (S9 cs.d b jo (.at (.v (cs.d+j)))) v:=by
    intro j v hq hj
    unfold rA at hq
    unfold S9
    by_cases e:j=jo
    ·subst e
     rw[hown,if_pos rfl] at hq
     rw[if_pos rfl]
     obtain ⟨xs,hx,hlen,hrow,hv⟩:=hq
     refine ⟨tD P fn j,.v (cs.d+j),xs,by rw[gV,if_pos rfl];rfl,by simp[Atom.lt,R.henv];omega,by rw[hd,hx],?_⟩
     rcases hv with ⟨rfl,hx,hA⟩ | ⟨g,c,cells,T,rfl,h4,h5,h6,h7,h8⟩
     ·exact .inl ⟨by simp[upd],hx,hA⟩
     ·exact .inr ⟨g,c,cells,T,by simp[upd],h4,h5,h6,h7⟩
    ·rw[hown,if_neg (by simp;exact fun h=>e h.symm)] at hq
     rw[if_neg (by simp;omega)]
     refine ⟨by simp[Atom.lt,R.henv];omega,?_⟩
     rw[hd]
     rcases hOeq with hfl | hOeq
     ·have:=hflat hfl j (by omega)
      rw[if_neg (by simp;exact fun h=>e h.symm)] at this
      exact hq.scalar_any this
     ·exact hq.mono fun g' _ hn=>⟨rfl,hsub g' hn hOeq⟩
   have hsv:=vk (xB (P:=P) (κ:=upd κ b mo) (H:=(cs.newB b (.arr (tD P fn jo) (.v (cs.d+jo)))).heap) (w:=w') (S9 cs.d b jo) cs.d fn.resultTypes.toList vs 0 hq hcells)
   rw[Nat.add_zero] at hsv
   exact ⟨⟨rs,upd κ b mo,_,_,n',T1,h1,Nat.le_succ _,h4 hg,by rw[←h3'];exact R1,hsv,hB.mono R.hB,⟨rfl,rfl,rfl,Nat.le_refl _⟩⟩,hB⟩
  ·cases h
end
end Go.Xt
