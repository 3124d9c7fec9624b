/- Steps towards the statements of this seat; the conditions stand in each theorem. -/
import Derived.Test.YtahdphncepnbeaaGreatDoorXt19
set_option linter.unusedSimpArgs false
set_option linter.unusedVariables false
namespace Go.Xt
open Go.RowKit Go.ChangeShapes Go.WideShapes
section
variable {P:Program}{w:World}{H:Type}{enc:TypeId×Value→H}{sp:Nat→Bool}{held:Bool}
theorem Pj{base n:Nat}{t:TypeId}{v:Value}{ts:List Ty}(hv:Value.okWide P w .any base t v)(ht:kD P n t=some ts) :
  if aD P t=true then ∃us:Array Value,v=.agg us∧us.size=P.cellsOf t∧v.cells=us else v.cells= #[v]:=by
 cases n with
 | zero=>simp[kD] at ht
 | succ n =>
  simp only[kD] at ht
  split at ht
  ·rename_i k hu
   obtain ⟨m,rfl⟩:=okWide_int hu hv
   simp[aD,hu,Value.cells]
  ·rename_i hu
   obtain ⟨m,rfl⟩:=okWide_bool hu hv
   simp[aD,hu,Value.cells]
  ·rename_i hu
   obtain ⟨m,rfl⟩:=okWide_string hu hv
   simp[aD,hu,Value.cells]
  ·rename_i e hu
   obtain ⟨a,l,c,rfl⟩:=okWide_slice hu hv
   simp[aD,hu,Value.cells]
  ·rename_i fs hu
   simp only[Value.okWide,hu] at hv
   obtain ⟨us,rfl,h2,_⟩:=hv
   simp[aD,hu,Value.cells,h2]
  ·rename_i m e hu
   simp only[Value.okWide,hu] at hv
   obtain ⟨us,rfl,h2,_⟩:=hv
   simp[aD,hu,Value.cells,h2]
  ·cases ht
theorem Kv{base:Nat}: ∀(ts:List TypeId) (vs:List Value) (ds:List (DataW H)) (p:List MemPlace) (tys:List Ty) (pre:List PV),DataW.TrodAll enc P w 0 sp held ts vs ds p→Bn P ts=some tys →
  (∀(j:Nat) t v,ts[j]? =some t→vs[j]? =some v→Value.okWide P w .any base t v)→(∀k∈DataW.weightsEach P ts ds,k≤reachBytes) →
  ∃ps,aw Has tys ps∧ps.length=jf P ts∧ShQ P (fun j v=>RP w (fun _=>False) (look (pre++ps) j) v) pre.length ts vs
 | [],vs,ds,p,tys,pre,h,ht,_,_=>by
  obtain ⟨rfl,rfl,rfl⟩:=trodAll_nil h
  simp only[Bn] at ht;cases ht
  exact ⟨[],trivial,rfl,trivial⟩
 | t::ts,vs,ds,p,tys,pre,h,ht,hv,hwt=>by
  obtain ⟨v,vs1,d,ds1,a,b,rfl,rfl,rfl,⟨fuel,h1⟩,h2⟩:=trodAll_cons h
  simp only[Bn] at ht
  obtain ⟨l,h3,h4⟩:=Option.bind_eq_some_iff.1 ht
  obtain ⟨l',h5,rfl⟩:=Option.map_eq_some_iff.1 h4
  simp only[DataW.weightsEach,List.mem_append] at hwt
  obtain ⟨ps,p1,p2⟩:=read fuel h1 h3 (fun k hk=>hwt k (.inl hk))
  obtain ⟨qs,q1,q2,q3⟩:=Kv ts vs1 ds1 b l' (pre++ps) h2 h5 (fun j t v h6 h7=>hv (j+1) t v (by simpa using h6) (by simpa using h7)) (fun k hk=>hwt k (.inr hk))
  have hs:=Pj (hv 0 t v rfl rfl) h3
  have hl:=p2.length
  simp only[Array.length_toList] at hl
  have hsz:ps.length=if aD P t=true then P.cellsOf t else 1:=by
   split at hs
   ·rename_i e;obtain ⟨us,_,h8,h9⟩:=hs;rw[hl,h9,h8,if_pos e]
   ·rename_i e;rw[hl,hs,if_neg e];rfl
  refine ⟨ps++qs,p1.append q1,by simp[jf,hsz,q2],?_,?_⟩
  ·split at hs
   ·rename_i e
    rw[if_pos e]
    obtain ⟨us,rfl,h8,h9⟩:=hs
    refine ⟨us,rfl,h8,fun j u hu=>?_⟩
    show RP w _ (look (pre++(ps++qs)) (pre.length+j)) u
    rw[jl]
    rw[h9] at p2
    have hj:=(Array.getElem?_eq_some_iff.1 hu).1
    have:=jH p2 j u (by simpa using hu)
    rwa [←sS ps qs j (by rw[hl,h9];exact hj)] at this
   ·rename_i e
    rw[if_neg e]
    show RP w _ (look (pre++(ps++qs)) pre.length) v
    have:=jl pre (ps++qs) 0
    rw[Nat.add_zero] at this
    rw[this]
    rw[hs] at p2
    have:=jH p2 0 v (by simp)
    rwa [←sS ps qs 0 (by rw[hl,hs];simp)] at this
  ·rw[List.append_assoc,List.length_append,hsz] at q3
   exact q3
theorem va{W W':World}{sp':Nat→Bool}(hl:laidOutB P=true): ∀(ts:List TypeId) (vs:List Value) (ds:List (DataW H)) (p:List MemPlace),(∀t∈ts,P.readableRec t=true∧t<P.types.size) →
  DataW.TrodAll enc P W 0 (fun _=>true) true ts vs ds p→(∀x∈p,W.sameAt W' x)→(∀x∈p,sp' x.block=true)→DataW.TrodAll enc P W' 0 sp' true ts vs ds p
 | [],vs,ds,p,_,h,_,_=>by
  obtain ⟨rfl,rfl,rfl⟩:=trodAll_nil h
  rfl
 | t::ts,vs,ds,p,ht,h,hs,hp=>by
  obtain ⟨v,vs1,d,ds1,a,b,rfl,rfl,rfl,h1,h2⟩:=trodAll_cons h
  obtain ⟨r1,r2⟩:=ht t (by simp)
  exact ⟨a,b,WideElems.Trod_stays hl r1 r2 h1 (fun x hx=>hs x (by simp[hx])) (fun x hx=>hp x (by simp[hx])),
   va hl ts vs1 ds1 b (fun t ht'=>ht t (by simp[ht'])) h2 (fun x hx=>hs x (by simp[hx])) (fun x hx=>hp x (by simp[hx])),rfl⟩
theorem Nc{f:Func}{s:ChangeSpec}{apart fresh handsOn again:Bool}{W W':World}{args:Array Value}{v:Value}{ds gs:List (DataW H)}{before:List MemPlace}
  (hl:laidOutB P=true) (hr: ∀t∈f.params.toList,P.readableRec t=true∧t<P.types.size) (hvars:s.vars=[]) (hargs:(s.fn H (ds++gs)).args=ds) (hvs:(s.fn H (ds++gs)).vars=[])
  (hW:DataW.Whole enc P f.params.toList s.vars apart W args.toList ds gs before) (hB:Below W.heap.size W W')
  (hres: ∀(b:Nat) (sp:Nat→Bool) (hd:Bool),DataW.TrodAll enc P W' b sp hd f.resultTypes.toList (v.resultList f.resultTypes.size) (s.fn H (ds++gs)).results [])
  (hok: ∀(j:Nat) (t:TypeId) (r:Value),f.resultTypes[j]? =some t→(v.resultList f.resultTypes.size)[j]? =some r→Value.okWide P W' .any 0 t r) :
  s.post enc P f apart fresh handsOn again W args v W':=by
 have hlt: ∀p∈before,p.block<W.heap.size:=fun p hp=>hW.lt p hp
 have hold: ∀p∈before,(fun b=>decide (b<W.heap.size)) p.block=true:=fun p hp=>by simpa using hW.lt p hp
 have hW0:=hW
 obtain ⟨pa,pv,hA,hV,hpq,hz,hn⟩:=hW
 rw[hvars] at hV
 have hpv:pv=[]:=by
  cases gs with
  | nil=>exact hV
  | cons g gs=>exact hV.elim
 subst hpv
 rw[List.append_nil] at hpq
 subst hpq
 have ha: ∀sp:Nat→Bool,(∀p∈before,sp p.block=true)→DataW.TrodAll enc P W' 0 sp true f.params.toList args.toList (s.fn H (ds++gs)).args before:=fun sp hsp=>by
  rw[hargs]
  exact va hl _ _ _ _ hr hA (fun x hx=>hB.same (hlt x hx)) hsp
 have hv: ∀sp:Nat→Bool,DataW.TrodVars enc P W' sp s.vars (s.fn H (ds++gs)).vars []:=fun sp=>by rw[hvars,hvs];rfl
 refine ⟨ds,gs,before,[],before,[],hW0,hres _ _ _,ha _ hold,hv _,hB.frame _,fun _=>?_⟩
 refine ⟨hok,_,_,([]++before)++[],⟨[]++before,[],trodAll_append (ha _ (fun _ _=>rfl)) (hres _ _ _),hv _,rfl,?_,?_⟩,?_⟩
 ·intro b off hp
  have hp':MemPlace.cell b off∈before:=by simpa using hp
  rw[hB.frozen (hlt _ hp')]
  exact hz b off hp'
 ·intro ha
  have:=hn ha
  simpa using this
 ·intro p hp _
  simpa using hp
theorem TY{K:Nat}{fn:Func}{f:List PV→Option (List PV)}{tb:TypeId}{tys:List Ty}{s:ChangeSpec}{apart fresh handsOn again:Bool}(hP:PureOK P { K:=K } f)(hf:P.funcs[K]? =some fn)(hres:fn.resultTypes= #[tb])(hb:P.underlying tb=some .bool)
  (ht:Bn P fn.params.toList=some tys) (hlaw: ∀ps,aw Has tys ps→f ps=some [.bool true]) (hl:laidOutB P=true) (hr: ∀t∈fn.params.toList,P.readableRec t=true∧t<P.types.size)
  (hvars:s.vars=[]) {W:World} {args:Array Value} {ds gs:List (DataW H)} {before:List MemPlace} (hgl:Laid P W.heap.size W) (hs:s.fn H (ds++gs)={ results:=[.lit (.bool true)],args:=ds,vars:=[] })
  (hW:DataW.Whole enc P fn.params.toList s.vars apart W args.toList ds gs before) {base:Nat} (hval: ∀(j:Nat) t v,fn.params[j]? =some t→args[j]? =some v→Value.okWide P W .any base t v) (hwt: ∀k∈DataW.weightsEach P fn.params.toList ds,k≤reachBytes) :
  Calls P K args W fun e W'=> ∃v,e=.returned v∧s.post enc P fn apart fresh handsOn again W args v W':=by
 obtain ⟨pa,pv,hA,_⟩:=id hW
 obtain ⟨ps,h1,h2,h3⟩:=Kv (base:=base) fn.params.toList args.toList ds pa tys [] hA ht (fun j t v h4 h5=>hval j t v (by simpa using h4) (by simpa using h5)) hwt
 have h3':ShQ P (fun j v=>RP W (fun _=>False) (look ps j) v) 0 fn.params.toList args.toList:=by simpa using h3
 have hc:=hP.call fn hf ps _ (hlaw ps h1) (fun _=>False) W args.toList (fun g h=>h.elim) hgl h2 h3'
 have hagg:aD P tb=false:=by simp[aD,hb]
 have ea:args.toList.toArray=args:=by simp
 rw[ea] at hc
 refine Calls.mono hc ?_
 rintro e W' ⟨us,mo,rfl,hB,_,_,hq⟩
 rw[hres] at hq
 have hv:us=[.bool true]:=by
  match us,hq with
  | [u],⟨q1,_⟩ =>
   rw[if_neg (by simp[hagg])] at q1
   unfold qQ at q1
   rw[if_neg (by simp)] at q1
   have:=RP.val_eq q1 rfl
   rw[this];rfl
 subst hv
 refine ⟨.bool true,rfl,Nc hl hr hvars (by rw[hs]) (by rw[hs]) hW hB ?_ ?_⟩
 ·intro b sp hd
  rw[hs,hres]
  exact trodAll_mk1 ⟨1,by simp[DataW.trod,hb,Value.cells]⟩
 ·intro j t r h4 h5
  rw[hres] at h4 h5
  cases j with
  | zero =>
   simp at h4;subst h4
   simp[Value.resultList] at h5;subst h5
   simp[Value.okWide,hb,Cell.okWide,Cell.ok]
  | succ j=>simp at h4
end
end Go.Xt
