/- Steps towards the statements of this seat; the conditions stand in each theorem. -/
import Derived.Test.YtjolhiejojfkkaaGreatDoorXt17
set_option linter.unusedSimpArgs false
set_option linter.unusedVariables false
namespace Go.Xt
open Go.RowKit
section
variable {P:Program}{tab:List Sig}{hs:ae}{inl:Code→CS→nB→Option T}{B:Bas P}{env env':List PV}{κ κ':Kap}{cs:CS}{tm:Nat→Value}{w w':World}{a:Act}{ρ:Fns}{L:List (T×Nat)}{r:List PV→Prop}
theorem vJ(P:Program): ∀(ts:List TypeId) (i d:Nat),rp P i d ts=(jJ 0 i ((pd P d ts).1.map GW),(pd P d ts).2)
 | [],i,d=>rfl
 | t::ts,i,d=>by
  simp only[rp,pd,List.map_cons,jJ,Nat.zero_add]
  rw[vJ P ts]
theorem ShQ.len{Q:Nat→Value→Prop}: ∀ {ts:List TypeId} {us:List Value} {i:Nat},ShQ P Q i ts us→us.length=ts.length
 | [],[],_,_=>rfl
 | t::ts,u::us,_,h=>by simp[ShQ.len h.2]
 | [],_::_,_,h=>h.elim
 | _::_,[],_,h=>h.elim
def zZ:List (Bool×List C)→List Value→List Value
 | (true,_)::ps,.agg vs::us=>vs.toList++zZ ps us
 | (false,_)::ps,v::us=>v::zZ ps us
 | _,_=>[]
theorem zg{H:List (Nat×Blk)}: ∀ {ps:List (Bool×List C)} {us:List Value},ay (tJ env κ H w) ps us→ay (aW env κ H w) (ps.flatMap (·.2)) (zZ ps us)
 | [],[],_=>trivial
 | (true,cs)::ps,u::us,h=>by
  obtain ⟨⟨vs,rfl,h1⟩,h2⟩:=h
  simp only[zZ,List.flatMap_cons]
  exact h1.append (zg h2)
 | (false,cs)::ps,u::us,h=>by
  obtain ⟨⟨c,rfl,h1⟩,h2⟩:=h
  simp only[zZ,List.flatMap_cons,List.singleton_append]
  exact ⟨h1,zg h2⟩
 | [],_::_,h=>h.elim
 | _::_,[],h=>h.elim
theorem xH{H:List (Nat×Blk)}{Q:Nat→Value→Prop}: ∀ {ts:List TypeId} {ps:List (Bool×List C)} {us:List Value} {i:Nat},o9 P ts ps=true→ay (tJ env κ H w) ps us →
  (∀(j:Nat) (u:Value),(zZ ps us)[j]? =some u→Q (i+j) u)→ShQ P Q i ts us
 | [],[],[],_,_,_,_=>trivial
 | [],[],_::_,_,_,h,_=>h.elim
 | [],_::_,_,_,h,_,_=>by simp[o9] at h
 | _::_,[],_,_,h,_,_=>by simp[o9] at h
 | _::_,_::_,[],_,_,h,_=>h.elim
 | t::ts,(b,l)::ps,u::us,i,hs,h,hq=>by
  simp only[o9,Bool.and_eq_true,decide_eq_true_eq] at hs
  obtain ⟨⟨h1,h2⟩,h3⟩:=hs
  cases b with
  | true =>
   obtain ⟨⟨vs,rfl,h4⟩,h5⟩:=h
   have hl:=h4.length
   rw[←h1] at h2
   simp only[if_true] at h2
   simp only[Array.length_toList] at hl
   simp only[zZ] at hq
   refine ⟨?_,?_⟩
   ·rw[if_pos h1.symm]
    refine ⟨vs,rfl,by omega,fun j u hu=>hq j u ?_⟩
    have:=(Array.getElem?_eq_some_iff.1 hu).1
    rw[List.getElem?_append_left (by simpa using this)]
    simpa using hu
   ·rw[if_pos h1.symm]
    refine xH h3 h5 fun j u hu=>?_
    have:=hq (vs.size+j) u (by rw[List.getElem?_append_right (by simp)];simpa using hu)
    rwa [show i+P.cellsOf t+j=i+(vs.size+j) by omega]
  | false =>
   obtain ⟨⟨c,rfl,h4⟩,h5⟩:=h
   simp only[zZ] at hq
   refine ⟨?_,?_⟩
   ·rw[if_neg (by rw[←h1];simp)]
    exact hq 0 u rfl
   ·rw[if_neg (by rw[←h1];simp)]
    refine xH h3 h5 fun j u hu=>?_
    have:=hq (j+1) u (by simpa using hu)
    rwa [show i+1+j=i+(j+1) by omega]
theorem NF(R:Rel B env κ cs tm w){b es:Nat}{x:Atom}{v:Value}(hb:aD cs.heap b=some (.arr es x))(h:aW env κ cs.heap w (.own b) v) :
  pg w (fun g=>B.o g∨κ b=some g) es (κ b) (den env x) v:=by
 obtain ⟨es1,x1,xs,h1,h2,h3,h4⟩:=h
 rw[hb] at h1;cases h1
 obtain ⟨_,k1,xs',k2,k3,k4,k5⟩:=R.hblk b _ hb
 rw[h3] at k2;cases k2
 refine ⟨xs,h3,k3,k4,?_⟩
 rcases h4 with ⟨m1,m2,m3⟩ | ⟨g,c,cells,T,m1,m2,m3,m4,m5⟩
 ·exact .inl ⟨m1,m2,m3⟩
 ·rcases k5 with ⟨q1,_⟩ | ⟨g',cells',T',c',q1,q2,q3,q4,q5⟩
  ·rw[q1] at m1;cases m1
  ·rw[m1] at q1;cases q1
   rw[m4] at q2;cases q2
   refine .inr ⟨g,c,cells,T,m1,m2,m3,m4,m5,fun i j hi hj=>?_⟩
   obtain ⟨u,hu,hr⟩:=q5 i j hi hj
   refine ⟨u,hu,hr.mono fun g' _ hn=>⟨rfl,?_⟩⟩
   rintro (ho | hk)
   ·exact hn (.inl (by rw[R.hoth];exact ho))
   ·exact hn (.inr ⟨b,hk⟩)
def Hn(κ:Kap):Option C→Option Nat
 | some (.own b)=>κ b
 | _=>none
theorem ay.eraseIdx{α β:Type}{R:α→β→Prop}: ∀(j:Nat) {l:List α} {us:List β},ay R l us→ay R (l.eraseIdx j) (us.eraseIdx j)
 | _,[],[],h=>by simpa using h
 | _,[],_::_,h=>h.elim
 | _,_::_,[],h=>h.elim
 | 0,_::_,_::_,h=>by simpa using h.2
 | j+1,_::_,_::_,h=>by
  simp only[List.eraseIdx_cons_succ]
  exact ⟨h.1,ay.eraseIdx j h.2⟩
theorem xI(R:Rel B env κ cs tm w){es own:Nat}: ∀(l:List C) (j:Nat) (us:List Value) (as:List Atom),yX es own j l cs=some as→ay (aW env κ cs.heap w) l us →
  as.length=l.length∧ ∀(i:Nat) (u:Value),us[i]? =some u→if j+i=own then pg w (fun g=>B.o g∨Hn κ l[i]? =some g) es (Hn κ l[i]?) (look (as.map (den env)) i) u else RP w (Own κ) (look (as.map (den env)) i) u
 | [],j,[],as,h,_=>by
  simp only[yX] at h;cases h
  exact ⟨rfl,fun i u hu=>by simp at hu⟩
 | [],_,_::_,_,_,h=>h.elim
 | _::_,_,[],_,_,h=>h.elim
 | c::l,j,u::us,as,h,hr=>by
  have step: ∀(x:Atom) (as':List Atom),yX es own (j+1) l cs=some as' →
    (if j=own then pg w (fun g=>B.o g∨Hn κ (some c)=some g) es (Hn κ (some c)) (den env x) u else RP w (Own κ) (den env x) u) →
    (x::as').length=(c::l).length∧ ∀(i:Nat) (v:Value),(u::us)[i]? =some v→if j+i=own then pg w (fun g=>B.o g∨Hn κ (c::l)[i]? =some g) es (Hn κ (c::l)[i]?) (look ((x::as').map (den env)) i) v else RP w (Own κ) (look ((x::as').map (den env)) i) v:=by
   intro x as' h1 h2
   obtain ⟨k1,k2⟩:=xI R l (j+1) us as' h1 hr.2
   refine ⟨by simp[k1],fun i v hv=>?_⟩
   cases i with
   | zero =>
    simp only[List.getElem?_cons_zero,Option.some.injEq] at hv
    subst hv
    simpa[look] using h2
   | succ i =>
    have:=k2 i v (by simpa using hv)
    simp only[List.getElem?_cons_succ,List.map_cons,look]
    rwa [show j+(i+1)=j+1+i by omega]
  simp only[yX] at h
  obtain ⟨x,h1,h2⟩:=Option.bind_eq_some_iff.1 h
  obtain ⟨as',h3,rfl⟩:=Option.map_eq_some_iff.1 h2
  refine step x as' h3 ?_
  unfold P0 at h1
  split at h1
  ·rename_i b hj
   simp only[decide_eq_true_eq] at hj
   split at h1
   ·rename_i es' x' hb
    split at h1
    ·rename_i he
     subst he
     cases h1
     rw[if_pos hj]
     exact NF R hb hr.1
    ·cases h1
   ·cases h1
  ·rename_i hj
   simp only[decide_eq_true_eq] at hj
   cases h1
   rw[if_pos hj]
   obtain ⟨A,hA⟩:=hr.1
   exact ⟨[],rfl,by simp,fun i hi=>absurd hi (by simp),.inl ⟨rfl,rfl,A,hA⟩⟩
  ·rename_i hj
   simp only[decide_eq_false_iff_not] at hj
   cases h1
   rw[if_neg hj]
   exact hr.1.2
  ·rename_i hj
   simp only[decide_eq_false_iff_not] at hj
   cases h1
   rw[if_neg hj]
   obtain ⟨A,hA⟩:=hr.1
   rw[hA];exact RP.nil
  ·cases h1
theorem Ho(X:Ctx P tab ρ){fuel:Nat}{s:Sig}{t:T}{f:List PV→Option (List PV)}(h:H9 P tab hs fuel s=some t)
  (hscal: ∀fn,P.funcs[s.K]? =some fn→fn.resultTypes.toList.all (fx P)=true→ ∀ps rs,f ps=some rs→ ∀p∈rs,p.scalar=true)
  (hflat:s.flat=true→ ∀ps rs,f ps=some rs→xA s.own rs)
  (hev: ∀ps rs,f ps=some rs→(∀p∈ps,th p)→ ∃n,EvN ρ n t ps [] (· =rs)):PureOK P s f where
 scal:=hscal
 flat:=hflat
 call:=by
  intro fn hf ps rs hps O w vs hO hgl hlen hq
  unfold H9 at h
  rw[hf] at h
  simp only at h
  split at h
  ·cases h
  ·rename_i body hb
   split at h
   ·rename_i hle
    rw[vJ] at h
    simp only at h
    have hgood: ∀p∈ps,th p:=by
     intro p hp
     obtain ⟨j,hj⟩:=List.mem_iff_getElem?.1 hp
     obtain ⟨v,hv⟩:=hq.ex j (Nat.zero_le _) (by have:=(List.getElem?_eq_some_iff.1 hj).1;omega)
     have:=hv.good
     rwa [gP _ _ _ hj] at this
    obtain ⟨n,hn⟩:=hev ps rs hps hgood
    have hvl:vs.length=fn.params.toList.length:=hq.len
    have hvl':vs.length=fn.params.size:=by simpa using hvl
    have hrel:ay (tJ ps ⟨fun _=>none,O⟩ [] w) (pd P 0 fn.params.toList).1 vs:=by
     have:=xB (P:=P) (env:=ps) (κ:=⟨fun _=>none,O⟩) (H:=[]) (w:=w) (fun c=>c) 0 fn.params.toList vs 0 hq (fun j v hv hj=>by
      refine ⟨by simp[Atom.lt];omega,?_⟩
      show RP w _ (look ps (0+j)) v
      rw[Nat.zero_add]
      exact hv.mono fun g _ hn=>⟨rfl,fun h=>hn (by rcases h with h | ⟨_,h⟩;exact h;cases h)⟩)
     simpa using this
    have hsv:ay (cd ps ⟨fun _=>none,O⟩ [] w) ((pd P 0 fn.params.toList).1.map GW) vs:=hrel.map GW fun p v h=>KM h
    have hsl:=hsv.length
    have R0:Rel ⟨w.heap.size,O⟩ ps ⟨fun _=>none,O⟩ { slots:=jJ 0 0 ((pd P 0 fn.params.toList).1.map GW),heap:=[],known:=[],d:=(pd P 0 fn.params.toList).2,nl:=0,fb:=0,nt:=fn.ntmps,nf:=fn.ntmps+1 }
      (fun x=>(vs.toArray++Array.replicate (fn.ntmps-vs.toArray.size) undef).getD x undef) w:={
     henv:=by simp only;rw[rB];omega
     hslot:=fun t sv h=>by
      obtain ⟨j,rfl,hj⟩:=pF _ _ _ _ _ h
      obtain ⟨u,hu,hru⟩:=hsv.get j sv hj
      have hjl:=(List.getElem?_eq_some_iff.1 hu).1
      refine ⟨?_,by simp only;omega⟩
      have e:(vs.toArray++Array.replicate (fn.ntmps-vs.toArray.size) undef).getD (0+(0+j)) undef=u:=by
       rw[Array.getD_eq_getD_getElem?,Array.getElem?_append_left (by simp;omega)]
       simp[hu]
      rw[e];exact hru
     hblk:=fun b blk h=>by simp[aD] at h
     hκ:=fun b g h=>by cases h
     hinj:=fun b b' g h=>by cases h
     hknown:=fun a b h=>by cases h
     hB:=Nat.le_refl _
     hoth:=rfl
     hob:=hO
     hgl:=hgl
     hnf:=by simp only;omega }
    refine calls_of_wp hf hb (wp_mono (KS X fuel body h hn R0 ⟨by simp;omega,rfl,fun t ht=>by simp only;rw[Nat.zero_add]⟩ rfl) ?_)
    rintro ex' a' w' ⟨ex,rfl,l,κ',cs',tm',n',T',l2,h1,h2,h3,h4,h5,h6,h7,h8,h9⟩
    have fin:(∃qs,fA P cs' fn.results.toList=some qs∧(if o9 P fn.resultTypes.toList qs=true then (xp P fn s.own (qs.flatMap (·.2)) cs').map T.ret else none)=some T') →
      a'.defers=[]∧ ∃v,(results fn a'.tmps).run P w'=.ok v w'∧ ∃us mo,Ending.returned v=.returned (PF us)∧Below w.heap.size w w'∧(∀g,mo=some g→w.heap.size≤g∧g<w'.heap.size)∧ShQ P (rA P fn s.own rs O mo w') 0 fn.resultTypes.toList us:=by
     rintro ⟨qs,k1,k2⟩
     obtain ⟨us,k3,k4⟩:=tU h4 h5 k1
     split at k2
     ·rename_i hsh
      obtain ⟨as,k5,rfl⟩:=Option.map_eq_some_iff.1 k2
      have k6:=h3.ret
      have k7:=zg k3
      have hoth:κ'.o=O:=h4.hoth
      cases hown:s.own with
      | none =>
       rw[hown] at k5
       simp only[xp] at k5
       obtain ⟨⟨as',cs1,φ⟩,m1,m2⟩:=Option.map_eq_some_iff.1 k5
       cases m2
       obtain ⟨κ1,m3,m4,_⟩:=lc h4 m1 k7
       refine ⟨h5.dfr,_,k4,us,none,rfl,h7,fun g hg=>(by cases hg),xH hsh k3 fun j u hu=>?_⟩
       unfold rA
       rw[if_neg (by simp)]
       have:=kh (R:=RP w' (Own κ1)) (ps:=as'.map (den (ps++l))) (m4.map _ fun x u hx=>hx.2) j u hu
       rw[k6] at this
       rw[Nat.zero_add]
       refine this.mono fun g _ hn=>⟨rfl,?_⟩
       rintro (ho | hk)
       ·exact hn (.inl (by rw[m3.hoth];exact ho))
       ·cases hk
      | some jo =>
       rw[hown] at k5
       simp only[xp] at k5
       obtain ⟨⟨as',cs1,φ⟩,n1,k5⟩:=Option.bind_eq_some_iff.1 k5
       obtain ⟨κ1,h4,_,n2,_,_,n3⟩:=lc h4 n1 (ay.eraseIdx jo k7)
       have k7:=k7.map φ n2
       have hoth:κ1.o=O:=h4.hoth
       obtain ⟨m1,m2⟩:=xI h4 _ _ _ _ k5 k7
       refine ⟨h5.dfr,_,k4,us,Hn κ1 ((qs.flatMap (·.2)).map φ)[jo]?,rfl,h7,fun g hg=>?_,xH hsh k3 fun j u hu=>?_⟩
       ·unfold Hn at hg
        split at hg
        ·have:=h4.hκ _ g hg
         exact this.2
        ·cases hg
       ·have:=m2 j u hu
        rw[k6] at this
        unfold rA
        simp only[Nat.zero_add] at this ⊢
        by_cases e:j=jo
        ·subst e
         rw[if_pos rfl] at this ⊢
         exact this
        ·rw[if_neg e] at this
         rw[if_neg (by simp;exact fun h=>e h.symm)]
         refine this.mono fun g _ hn=>⟨rfl,?_⟩
         rintro (ho | hk)
         ·exact hn (.inl (by rw[hoth];exact ho))
         ·unfold Hn at hk
          split at hk
          ·exact hn (.inr ⟨_,hk⟩)
          ·cases hk
     ·cases k2
    cases ex with
    | exit id=>simp at h1
    | normal=>exact fin (Option.bind_eq_some_iff.1 h1)
    | ret=>exact fin (Option.bind_eq_some_iff.1 h1)
   ·cases h
end
end Go.Xt
