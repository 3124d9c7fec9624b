/- Steps towards the statements of this seat; the conditions stand in each theorem. -/
import Derived.Test.YtahdphncepnbeaaGreatDoorXt17
set_option linter.unusedSimpArgs false
set_option linter.unusedVariables false
namespace Go.Xt
open Go.RowKit
section
variable {P:Program}{tab:List Sig}{hs:aa}{inl:Code→CS→lf→Option T}{B:Bas P}{env env':List PV}{κ κ':Kap}{cs:CS}{tm:Nat→Value}{w w':World}{a:Act}{ρ:Fns}{L:List (T×Nat)}{r:List PV→Prop}
theorem v8(P:Program): ∀(ts:List TypeId) (i d:Nat),qJ P i d ts=(jk 0 i ((oz P d ts).1.map Gx),(oz P d ts).2)
 | [],i,d=>rfl
 | t::ts,i,d=>by
  simp only[qJ,oz,List.map_cons,jk,Nat.zero_add]
  rw[v8 P ts]
theorem ShQ.len{Q:Nat→Value→Prop}: ∀ {ts:List TypeId} {us:List Value} {i:Nat},ShQ P Q i ts us→us.length=ts.length
 | [],[],_,_=>rfl
 | t::ts,u::us,_,h=>by simp[ShQ.len h.2]
 | [],_::_,_,h=>h.elim
 | _::_,[],_,h=>h.elim
def zj:List (Bool×List C)→List Value→List Value
 | (true,_)::ps,.agg vs::us=>vs.toList++zj ps us
 | (false,_)::ps,v::us=>v::zj ps us
 | _,_=>[]
theorem yr{H:List (Nat×Blk)}: ∀ {ps:List (Bool×List C)} {us:List Value},aw (sR env κ H w) ps us→aw (aR env κ H w) (ps.flatMap (·.2)) (zj ps us)
 | [],[],_=>trivial
 | (true,cs)::ps,u::us,h=>by
  obtain ⟨⟨vs,rfl,h1⟩,h2⟩:=h
  simp only[zj,List.flatMap_cons]
  exact h1.append (yr h2)
 | (false,cs)::ps,u::us,h=>by
  obtain ⟨⟨c,rfl,h1⟩,h2⟩:=h
  simp only[zj,List.flatMap_cons,List.singleton_append]
  exact ⟨h1,yr h2⟩
 | [],_::_,h=>h.elim
 | _::_,[],h=>h.elim
theorem x5{H:List (Nat×Blk)}{Q:Nat→Value→Prop}: ∀ {ts:List TypeId} {ps:List (Bool×List C)} {us:List Value} {i:Nat},nD P ts ps=true→aw (sR env κ H w) ps us →
  (∀(j:Nat) (u:Value),(zj ps us)[j]? =some u→Q (i+j) u)→ShQ P Q i ts us
 | [],[],[],_,_,_,_=>trivial
 | [],[],_::_,_,_,h,_=>h.elim
 | [],_::_,_,_,h,_,_=>by simp[nD] at h
 | _::_,[],_,_,h,_,_=>by simp[nD] at h
 | _::_,_::_,[],_,_,h,_=>h.elim
 | t::ts,(b,l)::ps,u::us,i,hs,h,hq=>by
  simp only[nD,Bool.and_eq_true,decide_eq_true_eq] at hs
  obtain ⟨⟨h1,h2⟩,h3⟩:=hs
  cases b with
  | true =>
   obtain ⟨⟨vs,rfl,h4⟩,h5⟩:=h
   have hl:=h4.length
   rw[←h1] at h2
   simp only[if_true] at h2
   simp only[Array.length_toList] at hl
   simp only[zj] at hq
   refine ⟨?_,?_⟩
   ·rw[if_pos h1.symm]
    refine ⟨vs,rfl,by omega,fun j u hu=>hq j u ?_⟩
    have:=(Array.getElem?_eq_some_iff.1 hu).1
    rw[List.getElem?_append_left (by simpa using this)]
    simpa using hu
   ·rw[if_pos h1.symm]
    refine x5 h3 h5 fun j u hu=>?_
    have:=hq (vs.size+j) u (by rw[List.getElem?_append_right (by simp)];simpa using hu)
    rwa [show i+P.cellsOf t+j=i+(vs.size+j) by omega]
  | false =>
   obtain ⟨⟨c,rfl,h4⟩,h5⟩:=h
   simp only[zj] at hq
   refine ⟨?_,?_⟩
   ·rw[if_neg (by rw[←h1];simp)]
    exact hq 0 u rfl
   ·rw[if_neg (by rw[←h1];simp)]
    refine x5 h3 h5 fun j u hu=>?_
    have:=hq (j+1) u (by simpa using hu)
    rwa [show i+1+j=i+(j+1) by omega]
theorem Nb(R:Rel B env κ cs tm w){b es:Nat}{x:Atom}{v:Value}(hb:av cs.heap b=some (.arr es x))(h:aR env κ cs.heap w (.own b) v) :
  kB w (Own κ) es (κ b) (den env x) v:=by
 obtain ⟨es1,x1,xs,h1,h2,h3,h4⟩:=h
 rw[hb] at h1;cases h1
 obtain ⟨_,k1,xs',k2,k3,k4,k5⟩:=R.hblk b _ hb
 rw[h3] at k2;cases k2
 refine ⟨xs,h3,k3,k4,?_⟩
 rcases h4 with ⟨m1,m2,m3⟩ | ⟨g,c,cells,T,m1,m2,m3,m4,m5⟩
 ·exact .inl ⟨m1,m2,m3⟩
 ·rcases k5 with ⟨q1,_⟩ | ⟨g',cells',T',c',q1,q2,q3,q4,q5⟩
  ·rw[q1] at m1;cases m1
  ·rw[m1] at q1;cases q1
   rw[m4] at q2;cases q2
   exact .inr ⟨g,c,cells,T,m1,m2,m3,m4,m5,q5⟩
theorem kB.mono{O O':Nat→Prop}{es:Nat}{mo:Option Nat}{p:PV}{v:Value}(hO: ∀g,O' g→O g)(h:kB w O es mo p v):kB w O' es mo p v:=by
 obtain ⟨xs,h1,h2,h3,h4⟩:=h
 refine ⟨xs,h1,h2,h3,h4.imp_right ?_⟩
 rintro ⟨g,c,cells,T,m1,m2,m3,m4,m5,m6⟩
 refine ⟨g,c,cells,T,m1,m2,m3,m4,m5,fun i j hi hj=>?_⟩
 obtain ⟨u,hu,hr⟩:=m6 i j hi hj
 exact ⟨u,hu,hr.mono fun g _ hn=>⟨rfl,fun h=>hn (hO g h)⟩⟩
def Kt(κ:Kap):Option C→Option Nat
 | some (.own b)=>κ b
 | _=>none
theorem aw.notOwn{own:List Nat}{R:C→Value→Prop}: ∀ {l:List C} {us:List Value} (j:Nat),aw R l us→ ∃us',aw R (notOwn own j l) us'
 | [],_,_,_=>⟨[],trivial⟩
 | _::_,[],_,h=>h.elim
 | c::l,u::us,j,h=>by
  obtain ⟨us',h1⟩:=aw.notOwn (own:=own) (j+1) h.2
  simp only[Go.Xt.notOwn]
  split
  ·exact ⟨us',h1⟩
  ·exact ⟨u::us',h.1,h1⟩
theorem yt{own:List Nat}{b:Nat}: ∀ {l:List C} {j i:Nat},l[i]? =some (.own b)→j+i∈own→b∈so own j l
 | [],_,_,h,_=>by simp at h
 | c::l,j,0,h,ho=>by
  simp only[List.getElem?_cons_zero,Option.some.injEq] at h
  subst h
  simp only[so]
  rw[if_pos (show j∈own from ho)];simp
 | c::l,j,i+1,h,ho=>by
  have ih:=yt (l:=l) (j:=j+1) (i:=i) (by simpa using h) (by rwa [show j+1+i=j+(i+1) by omega])
  cases c<;>simp only[so]<;>first | exact ih | (split<;>simp[ih])
theorem G5{own:List Nat}{b:Nat}: ∀ {l:List C} {j i i':Nat},(so own j l).Nodup→l[i]? =some (.own b)→l[i']? =some (.own b)→j+i∈own→j+i'∈own→i=i'
 | [],_,_,_,_,h,_,_,_=>by simp at h
 | c::l,j,0,0,_,_,_,_,_=>rfl
 | c::l,j,i+1,i'+1,hn,h,h',ho,ho'=>by
  have hn':(so own (j+1) l).Nodup:=by
   cases c<;>simp only[so] at hn<;>first | exact hn | (split at hn<;>first | exact (List.nodup_cons.1 hn).2 | exact hn)
  exact congrArg (· +1) (G5 hn' (by simpa using h) (by simpa using h') (by rwa [show j+1+i=j+(i+1) by omega]) (by rwa [show j+1+i'=j+(i'+1) by omega]))
 | c::l,j,0,i'+1,hn,h,h',ho,ho'=>by
  simp only[List.getElem?_cons_zero,Option.some.injEq] at h
  subst h
  simp only[so] at hn
  rw[if_pos (show j∈own from ho)] at hn
  exact absurd (yt (by simpa using h') (by rwa [show j+1+i'=j+(i'+1) by omega])) (List.nodup_cons.1 hn).1
 | c::l,j,i+1,0,hn,h,h',ho,ho'=>by
  simp only[List.getElem?_cons_zero,Option.some.injEq] at h'
  subst h'
  simp only[so] at hn
  rw[if_pos (show j∈own from ho')] at hn
  exact absurd (yt (by simpa using h) (by rwa [show j+1+i=j+(i+1) by omega])) (List.nodup_cons.1 hn).1
theorem x6(R:Rel B env κ cs tm w){es:Nat→Nat}{own:List Nat}: ∀(l:List C) (j:Nat) (us:List Value) (as:List Atom),yi es own j l cs=some as→aw (aR env κ cs.heap w) l us →
  as.length=l.length∧ ∀(i:Nat) (u:Value),us[i]? =some u→if j+i∈own then kB w (Own κ) (es (j+i)) (Kt κ l[i]?) (look (as.map (den env)) i) u else RP w (Own κ) (look (as.map (den env)) i) u
 | [],j,[],as,h,_=>by
  simp only[yi] at h;cases h
  exact ⟨rfl,fun i u hu=>by simp at hu⟩
 | [],_,_::_,_,_,h=>h.elim
 | _::_,_,[],_,_,h=>h.elim
 | c::l,j,u::us,as,h,hr=>by
  have step: ∀(x:Atom) (as':List Atom),yi es own (j+1) l cs=some as' →
    (if j∈own then kB w (Own κ) (es j) (Kt κ (some c)) (den env x) u else RP w (Own κ) (den env x) u) →
    (x::as').length=(c::l).length∧ ∀(i:Nat) (v:Value),(u::us)[i]? =some v→if j+i∈own then kB w (Own κ) (es (j+i)) (Kt κ (c::l)[i]?) (look ((x::as').map (den env)) i) v else RP w (Own κ) (look ((x::as').map (den env)) i) v:=by
   intro x as' h1 h2
   obtain ⟨k1,k2⟩:=x6 R l (j+1) us as' h1 hr.2
   refine ⟨by simp[k1],fun i v hv=>?_⟩
   cases i with
   | zero =>
    simp only[List.getElem?_cons_zero,Option.some.injEq] at hv
    subst hv
    simpa[look] using h2
   | succ i =>
    have:=k2 i v (by simpa using hv)
    simp only[List.getElem?_cons_succ,List.map_cons,look]
    rwa [show j+(i+1)=j+1+i by omega]
  simp only[yi] at h
  obtain ⟨x,h1,h2⟩:=Option.bind_eq_some_iff.1 h
  obtain ⟨as',h3,rfl⟩:=Option.map_eq_some_iff.1 h2
  refine step x as' h3 ?_
  unfold Ou at h1
  split at h1
  ·rename_i b hj
   simp only[decide_eq_true_eq] at hj
   split at h1
   ·rename_i es' x' hb
    split at h1
    ·rename_i he
     subst he
     cases h1
     rw[if_pos hj]
     exact Nb R hb hr.1
    ·cases h1
   ·cases h1
  ·rename_i hj
   simp only[decide_eq_true_eq] at hj
   cases h1
   rw[if_pos hj]
   obtain ⟨A,hA⟩:=hr.1
   exact ⟨[],rfl,by simp,fun i hi=>absurd hi (by simp),.inl ⟨rfl,rfl,A,hA⟩⟩
  ·rename_i hj
   simp only[decide_eq_false_iff_not] at hj
   cases h1
   rw[if_neg hj]
   exact hr.1.2
  ·rename_i hj
   simp only[decide_eq_false_iff_not] at hj
   cases h1
   rw[if_neg hj]
   obtain ⟨A,hA⟩:=hr.1
   rw[hA];exact RP.nil
  ·cases h1
theorem GX(X:Ctx P tab ρ){fuel:Nat}{s:Sig}{t:T}{f:List PV→Option (List PV)}(h:GJ P tab hs fuel s=some t)
  (hscal: ∀fn,P.funcs[s.K]? =some fn→fn.resultTypes.toList.all (fe P)=true→ ∀ps rs,f ps=some rs→ ∀p∈rs,p.scalar=true)
  (hflat:s.flat=true→ ∀ps rs,f ps=some rs→wT s.own rs)
  (hev: ∀ps rs,f ps=some rs→(∀p∈ps,sA p)→ ∃n,EvN ρ n t ps [] (· =rs)):PureOK P s f where
 scal:=hscal
 flat:=hflat
 call:=by
  intro fn hf ps rs hps O w vs hO hgl hlen hq
  unfold GJ at h
  rw[hf] at h
  simp only at h
  split at h
  ·cases h
  ·rename_i body hb
   split at h
   ·rename_i hle
    rw[v8] at h
    simp only at h
    have hgood: ∀p∈ps,sA p:=by
     intro p hp
     obtain ⟨j,hj⟩:=List.mem_iff_getElem?.1 hp
     obtain ⟨v,hv⟩:=hq.ex j (Nat.zero_le _) (by have:=(List.getElem?_eq_some_iff.1 hj).1;omega)
     have:=hv.good
     rwa [fi _ _ _ hj] at this
    obtain ⟨n,hn⟩:=hev ps rs hps hgood
    have hvl:vs.length=fn.params.toList.length:=hq.len
    have hvl':vs.length=fn.params.size:=by simpa using hvl
    have hrel:aw (sR ps ⟨fun _=>none,O⟩ [] w) (oz P 0 fn.params.toList).1 vs:=by
     have:=wV (P:=P) (env:=ps) (κ:=⟨fun _=>none,O⟩) (H:=[]) (w:=w) (fun c=>c) 0 fn.params.toList vs 0 hq (fun j v hv hj=>by
      refine ⟨by simp[Atom.lt];omega,?_⟩
      show RP w _ (look ps (0+j)) v
      rw[Nat.zero_add]
      exact hv.mono fun g _ hn=>⟨rfl,fun h=>hn (by rcases h with h | ⟨_,h⟩;exact h;cases h)⟩)
     simpa using this
    have hsv:aw (bV ps ⟨fun _=>none,O⟩ [] w) ((oz P 0 fn.params.toList).1.map Gx) vs:=hrel.map Gx fun p v h=>Kg h
    have hsl:=hsv.length
    have R0:Rel ⟨w.heap.size,O⟩ ps ⟨fun _=>none,O⟩ { slots:=jk 0 0 ((oz P 0 fn.params.toList).1.map Gx),heap:=[],known:=[],d:=(oz P 0 fn.params.toList).2,nl:=0,fb:=0,nt:=fn.ntmps,nf:=fn.ntmps+1 }
      (fun x=>(vs.toArray++Array.replicate (fn.ntmps-vs.toArray.size) undef).getD x undef) w:={
     henv:=by simp only;rw[qR];omega
     hslot:=fun t sv h=>by
      obtain ⟨j,rfl,hj⟩:=oU _ _ _ _ _ h
      obtain ⟨u,hu,hru⟩:=hsv.get j sv hj
      have hjl:=(List.getElem?_eq_some_iff.1 hu).1
      refine ⟨?_,by simp only;omega⟩
      have e:(vs.toArray++Array.replicate (fn.ntmps-vs.toArray.size) undef).getD (0+(0+j)) undef=u:=by
       rw[Array.getD_eq_getD_getElem?,Array.getElem?_append_left (by simp;omega)]
       simp[hu]
      rw[e];exact hru
     hblk:=fun b blk h=>by simp[av] at h
     hκ:=fun b g h=>by cases h
     hinj:=fun b b' g h=>by cases h
     hknown:=fun a b h=>by cases h
     hB:=Nat.le_refl _
     hoth:=rfl
     hob:=hO
     hgl:=hgl
     hnf:=by simp only;omega }
    refine calls_of_wp hf hb (wp_mono (Kr X fuel body h hn R0 ⟨by simp;omega,rfl,fun t ht=>by simp only;rw[Nat.zero_add]⟩ rfl) ?_)
    rintro ex' a' w' ⟨ex,rfl,l,κ',cs',tm',n',T',l2,h1,h2,h3,h4,h5,h6,h7,h8,h9⟩
    have fin:(∃qs,fh P cs' fn.results.toList=some qs∧(if nD P fn.resultTypes.toList qs=true then (wG P fn s.own (qs.flatMap (·.2)) cs').map T.ret else none)=some T') →
      a'.defers=[]∧ ∃v,(results fn a'.tmps).run P w'=.ok v w'∧ ∃us,∃mo:Nat→Option Nat,Ending.returned v=.returned (Pd us)∧Below w.heap.size w w'∧(∀j g,mo j=some g→w.heap.size≤g∧g<w'.heap.size)∧(∀i j g,mo i=some g→mo j=some g→i=j)∧ShQ P (qQ P fn s.own rs O mo w') 0 fn.resultTypes.toList us:=by
     rintro ⟨qs,k1,k2⟩
     obtain ⟨us,k3,k4⟩:=tc h4 h5 k1
     split at k2
     ·rename_i hsh
      obtain ⟨as,k5,rfl⟩:=Option.map_eq_some_iff.1 k2
      have k6:=h3.ret
      have k7:=yr k3
      have hoth:κ'.o=O:=h4.hoth
      cases hown:s.own with
      | nil =>
       rw[hown] at k5
       simp only[wG] at k5
       obtain ⟨⟨as',cs1,φ⟩,m1,m2⟩:=Option.map_eq_some_iff.1 k5
       cases m2
       obtain ⟨κ1,m3,m4,_⟩:=kz h4 m1 k7
       refine ⟨h5.dfr,_,k4,us,fun _=>none,rfl,h7,fun _ g hg=>(by cases hg),fun _ _ g hg=>(by cases hg),x5 hsh k3 fun j u hu=>?_⟩
       unfold qQ
       rw[if_neg (by simp)]
       have:=jH (R:=RP w' (Own κ1)) (ps:=as'.map (den (ps++l))) (m4.map _ fun x u hx=>hx.2) j u hu
       rw[k6] at this
       rw[Nat.zero_add]
       refine this.mono fun g _ hn=>⟨rfl,?_⟩
       rintro (ho | hk)
       ·exact hn (.inl (by rw[m3.hoth];exact ho))
       ·obtain ⟨_,hk⟩:=hk;cases hk
      | cons jo js =>
       rw[hown] at k5
       simp only[wG] at k5
       obtain ⟨⟨as',cs1,φ⟩,n1,k5⟩:=Option.bind_eq_some_iff.1 k5
       obtain ⟨us1,k8⟩:=aw.notOwn (own:=jo::js) 0 k7
       obtain ⟨κ1,h4,_,n2,_,_,n3⟩:=kz h4 n1 k8
       have k7:=k7.map φ n2
       have hoth:κ1.o=O:=h4.hoth
       split at k5
       ·rename_i hnd
        obtain ⟨m1,m2⟩:=x6 h4 _ _ _ _ k5 k7
        have hmo: ∀ {c:Option C} {g:Nat},Kt κ1 c=some g→ ∃b,c=some (.own b)∧κ1 b=some g:=fun {c g} h=>by
         unfold Kt at h
         split at h
         ·exact ⟨_,rfl,h⟩
         ·cases h
        have hmj: ∀ {j g:Nat},(if j∈jo::js then Kt κ1 ((qs.flatMap (·.2)).map φ)[j]? else none)=some g→j∈jo::js∧ ∃b,((qs.flatMap (·.2)).map φ)[j]? =some (.own b)∧κ1 b=some g:=fun {j g} h=>by
         split at h
         ·rename_i hj;exact ⟨hj,hmo h⟩
         ·cases h
        have hO': ∀g,(O g∨ ∃i,(if i∈jo::js then Kt κ1 ((qs.flatMap (·.2)).map φ)[i]? else none)=some g)→Own κ1 g:=by
         rintro g (h | ⟨i,h⟩)
         ·exact .inl (by rw[hoth];exact h)
         ·obtain ⟨_,b,_,h⟩:=hmj h
          exact .inr ⟨b,h⟩
        refine ⟨h5.dfr,_,k4,us,fun j=>if j∈jo::js then Kt κ1 ((qs.flatMap (·.2)).map φ)[j]? else none,rfl,h7,fun j g hg=>?_,fun i j g hi hj=>?_,x5 hsh k3 fun j u hu=>?_⟩
        ·obtain ⟨_,b,_,h⟩:=hmj hg
         exact (h4.hκ _ g h).2
        ·obtain ⟨hi1,b,hi2,hi3⟩:=hmj hi
         obtain ⟨hj1,b',hj2,hj3⟩:=hmj hj
         cases h4.hinj _ _ _ hi3 hj3
         exact G5 (j:=0) hnd hi2 hj2 (by rwa [Nat.zero_add]) (by rwa [Nat.zero_add])
        ·have:=m2 j u hu
         rw[k6] at this
         unfold qQ
         simp only[Nat.zero_add] at this ⊢
         by_cases e:j∈jo::js
         ·rw[if_pos e] at this
          rw[if_pos e,if_pos e]
          exact this.mono hO'
         ·rw[if_neg e] at this
          rw[if_neg e]
          exact this.mono fun g _ hn=>⟨rfl,fun h=>hn (hO' g h)⟩
       ·cases k5
     ·cases k2
    cases ex with
    | exit id=>simp at h1
    | normal=>exact fin (Option.bind_eq_some_iff.1 h1)
    | ret=>exact fin (Option.bind_eq_some_iff.1 h1)
   ·cases h
end
end Go.Xt
