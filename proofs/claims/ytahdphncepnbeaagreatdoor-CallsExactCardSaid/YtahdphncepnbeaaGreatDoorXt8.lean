/- Steps towards the statements of this seat; the conditions stand in each theorem. -/
import Derived.Test.YtahdphncepnbeaaGreatDoorXt7
set_option linter.unusedSimpArgs false
set_option linter.unusedVariables false
namespace Go.Xt
open Go.RowKit
section
variable {P:Program}{B:Bas P}{env env':List PV}{κ κ':Kap}{cs:CS}{tm:Nat→Value}{w w':World}{a:Act}
theorem C.freeze_other{b es:Nat}{x:Atom}{c:C}(h: ∀b'∈c.allNames,b'≠b):c.freeze b es x=c:=by
 cases c with
 | own b'=>have:=h b' (by simp[C.allNames]);simp[C.freeze,this]
 | bor b' a=>have:=h b' (by simp[C.allNames]);simp[C.freeze,this]
 | ptr b' o=>have:=h b' (by simp[C.allNames]);simp[C.freeze,this]
 | aptr b' i o=>have:=h b' (by simp[C.allNames]);simp[C.freeze,this]
 | eptr bo l i o m =>
  cases bo with
  | none=>simp[C.freeze]
  | some b'=>have:=h b' (by simp[C.allNames]);simp[C.freeze,this]
 | fn K caps =>
  have:caps.any (Cap.has b)=false:=by
   rw[List.any_eq_false]
   intro c hc hb
   cases c<;>simp[Cap.has] at hb
   subst hb
   exact h _ (by simp only[C.allNames,List.mem_flatMap];exact ⟨_,hc,by simp[Cap.names]⟩) rfl
  simp[C.freeze,this]
 | _=>rfl
theorem wR(b g:Nat):Own (upd κ b none) g↔yj κ b g:=by
 constructor
 ·rintro (ho | ⟨b',h⟩)
  ·exact .inl ho
  ·by_cases e:b'=b
   ·simp[upd,e] at h
   ·exact .inr ⟨b',e,by simpa[upd,e] using h⟩
 ·rintro (ho | ⟨b',e,h⟩)
  ·exact .inl ho
  ·exact .inr ⟨b',by simpa[upd,e] using h⟩
theorem Kc{b g:Nat}(h:yj κ b g):Own κ g:=by
 rcases h with ho | ⟨b',_,h⟩
 ·exact .inl ho
 ·exact .inr ⟨b',h⟩
theorem Foc.freeze(R:Rel B env κ cs tm w){b es:Nat}{x:Atom}(hb:av cs.heap b=some (.arr es x)):Foc env env κ (upd κ b none) cs.heap (cs.freezeB b).heap w w (some b) where
 pre:=⟨[],by simp⟩
 kap:=fun b' h=>by have e:b'≠b:=fun e=>h (congrArg some e);simp[upd,e]
 oth:=rfl
 arr:=fun b' es a h1 h2=>by
  have e:b'≠b:=fun e=>h1 (congrArg some e)
  simp only[CS.freezeB,hb]
  rw[gF,if_neg e,CS.map_heap,h2];rfl
 box:=fun b' l h1 h2=>by
  have e:b'≠b:=fun e=>h1 (congrArg some e)
  refine ⟨l.map (C.freeze b es x),?_⟩
  simp only[CS.freezeB,hb]
  rw[gF,if_neg e,CS.map_heap,h2];rfl
 blk:=fun _ _ _=>rfl
 new:=fun b0 g h h1=>by cases h;simp[upd] at h1
 inj:=R.hinj
 siz:=Nat.le_refl _
theorem aR.freeze(R:Rel B env κ cs tm w){b es:Nat}{x:Atom}(hb:av cs.heap b=some (.arr es x)){c:C}{v:Value}(h:aR env κ cs.heap w c v) :
  aR env (upd κ b none) (cs.freezeB b).heap w (c.freeze b es x) v:=by
 have F:=Foc.freeze R hb
 have weaken: ∀ {p:PV} {u:Value},RP w (Own κ) p u→RP w (Own (upd κ b none)) p u:=fun hr=>hr.mono F.own
 have plainOf: ∀ {p:PV} {u:Value},RL w (Own κ) (yj κ b) p u→RP w (Own (upd κ b none)) p u:=fun hr =>
  (hr.mono (O2:=Own (upd κ b none)) (O2':=Own (upd κ b none)) F.own (fun g _ hg=>⟨rfl,fun h=>hg ((wR b g).1 h)⟩)).plain
 by_cases hn: ∀b'∈c.allNames,b'≠b
 ·rw[C.freeze_other hn];exact h.foc F fun b' hb' hh=>hn b' hb' (Option.some.inj hh)
 ·cases c with
  | own b' =>
   have e:b'=b:=by simpa[C.allNames] using hn
   subst e
   obtain ⟨h1,h2⟩:=yl R hb h
   simp only[C.freeze,if_true]
   exact ⟨h2,plainOf h1⟩
  | bor b' y =>
   have e:b'=b:=by simpa[C.allNames] using hn
   subst e
   simp only[C.freeze,if_true]
   exact ⟨h.1,plainOf h.2.2⟩
  | ptr b' o =>
   have e:b'=b:=by simpa[C.allNames] using hn
   subst e
   simp[C.freeze,aR]
  | aptr b' i off =>
   have e:b'=b:=by simpa[C.allNames] using hn
   subst e
   simp only[C.freeze,if_true]
   obtain ⟨h1,es',x',xs,g,k,m,h2,h3,h4,h5,h6,h7,h8,rfl⟩:=h
   rw[hb] at h2;cases h2
   obtain ⟨k1,k2,xs',k3,k4,k5,k6⟩:=R.hblk _ _ hb
   rw[h4] at k3;cases k3
   rcases k6 with ⟨k6,_⟩ | ⟨g',cells,T,c,k6,k7,k8,k9,k10⟩
   ·rw[h5] at k6;cases k6
   ·rw[h5] at k6;cases k6
    refine ⟨h3,h1,(fun b'' hb''=>by cases hb''),_,rfl,fun j hj=>⟨?_,?_⟩⟩
    ·intro ho
     rcases (wR b' _).1 ho with ho | ⟨b'',e,hb''⟩
     ·have h8:=R.hob _ (R.hoth▸ho)
      have h9:=(R.hκ _ _ h5).2.1
      exact absurd h8 (Nat.not_lt.2 h9)
     ·exact e (R.hinj _ _ _ hb'' h5)
    ·obtain ⟨u,h9,h10⟩:=k10 m.toNat (off+j) (by omega) hj
     refine ⟨u,?_,?_⟩
     ·rw[kx,mX k7,Nat.add_assoc];exact h9
     ·have:RP w (Own κ) (den env (.cell x i (off+j))) u:=by simpa[den,h4,h6,PV.cellAt] using h10
      exact weaken this
  | eptr bo l i o m =>
   cases bo with
   | none=>exact absurd (fun b' hb'=>by simp[C.allNames] at hb') hn
   | some b' =>
    have e:b'=b:=by simpa[C.allNames] using hn
    subst e
    simp only[C.freeze,if_true]
    obtain ⟨h1,h2,h3,ad,rfl,h4⟩:=h
    refine ⟨h1,h2,(fun b'' hb''=>by cases hb''),ad,rfl,fun j hj=>?_⟩
    obtain ⟨h5,u,h6,h7⟩:=h4 j hj
    exact ⟨fun ho=>h5 ((wR b' _).1 ho),u,h6,weaken h7⟩
  | fn K caps =>
   have:caps.any (Cap.has b)=true:=by
    by_cases hany:caps.any (Cap.has b)=true
    ·exact hany
    ·exfalso;apply hn
     intro b' hb' e;subst e
     apply hany
     simp only[C.allNames,List.mem_flatMap] at hb'
     obtain ⟨c,hc,hb'⟩:=hb'
     rw[List.any_eq_true]
     refine ⟨c,hc,?_⟩
     cases c<;>simp_all[Cap.names,Cap.has]
   simp[C.freeze,this,aR]
  | _=>exact absurd (fun b' hb'=>by simp[C.allNames] at hb') hn
theorem Rel.freeze(R:Rel B env κ cs tm w){b es:Nat}{x:Atom}(hb:av cs.heap b=some (.arr es x)):Rel B env (upd κ b none) (cs.freezeB b) tm w:=by
 refine R.foc (φ:=C.freeze b es x) (Foc.freeze R hb) (fun c v h=>h.freeze R hb) (fun b' blk' hne h=>?_) (fun b0 blk h h1=>?_) (fun t sv h=>?_) (fun b0 g h h1=>?_)
  (by simp[CS.freezeB,hb,R.henv,CS.map]) (by simp[CS.freezeB,hb,CS.map]) (by simp[CS.freezeB,hb,CS.map]) (by simp[CS.freezeB,hb,CS.map]) (by simp[CS.freezeB,hb,CS.map])
 ·have e:b'≠b:=fun e=>hne (congrArg some e)
  simp only[CS.freezeB,hb] at h
  rw[gF,if_neg e,CS.map_heap] at h
  obtain ⟨blk,h1,rfl⟩:=Option.map_eq_some_iff.1 h
  exact ⟨blk,h1,rfl⟩
 ·cases h
  simp only[CS.freezeB,hb] at h1
  rw[gF,if_pos rfl] at h1;cases h1
 ·simp only[CS.freezeB,hb] at h
  rw[CS.map_slots] at h
  obtain ⟨sv0,h1,rfl⟩:=Option.map_eq_some_iff.1 h
  exact ⟨sv0,h1,rfl⟩
 ·cases h;simp[upd] at h1
structure Same (cs cs':CS):Prop where
 fb:cs'.fb=cs.fb
 nt:cs'.nt=cs.nt
 nl:cs'.nl=cs.nl
 nf:cs.nf≤cs'.nf
theorem Same.refl(cs:CS):Same cs cs:=⟨rfl,rfl,rfl,Nat.le_refl _⟩
theorem Same.trans{a b c:CS}(h:Same a b)(k:Same b c):Same a c:=⟨k.fb.trans h.fb,k.nt.trans h.nt,k.nl.trans h.nl,Nat.le_trans h.nf k.nf⟩
theorem iM(cs:CS)(b:Nat):Same cs (cs.freezeB b)∧(cs.freezeB b).d=cs.d:=by
 unfold CS.freezeB
 split<;>exact ⟨⟨rfl,rfl,rfl,Nat.le_refl _⟩,rfl⟩
theorem Kd(R:Rel B env κ cs tm w){c:C}{x:Atom}{cs':CS}{φ:C→C}{v:Value}(h:cs.plain c=some (x,cs',φ))(hr:aR env κ cs.heap w c v) :
  ∃κ',Rel B env κ' cs' tm w∧x.lt env.length=true∧RP w (Own κ') (den env x) v∧(∀c v,aR env κ cs.heap w c v→aR env κ' cs'.heap w (φ c) v)∧Same cs cs'∧cs'.d=cs.d ∧
   (∀g,Own κ' g→Own κ g):=by
 cases c with
 | «at» y=>simp only[CS.plain] at h;cases h;exact ⟨κ,R,hr.1,hr.2,fun _ _ h=>h,Same.refl _,rfl,fun _ h=>h⟩
 | nil0=>simp only[CS.plain] at h;cases h;obtain ⟨A,rfl⟩:=hr;exact ⟨κ,R,rfl,RP.nil,fun _ _ h=>h,Same.refl _,rfl,fun _ h=>h⟩
 | own b =>
  simp only[CS.plain] at h
  split at h
  ·rename_i es y hb
   cases h
   have h1:=hr.freeze R hb
   simp only[C.freeze,if_true] at h1
   exact ⟨_,R.freeze hb,h1.1,h1.2,fun c v h=>h.freeze R hb,(iM _ _).1,(iM _ _).2,fun g h=>Kc ((wR b g).1 h)⟩
  ·cases h
 | bor b y =>
  simp only[CS.plain] at h
  split at h
  ·rename_i es z hb
   cases h
   have h1:=hr.freeze R hb
   simp only[C.freeze,if_true] at h1
   exact ⟨_,R.freeze hb,h1.1,h1.2,fun c v h=>h.freeze R hb,(iM _ _).1,(iM _ _).2,fun g h=>Kc ((wR b g).1 h)⟩
  ·cases h
 | _=>simp[CS.plain] at h
theorem uW: ∀(n:Nat) {κ:Kap} {cs:CS} {l:List C} {as:List Atom} {cs':CS} {φ:C→C} {us:List Value},Rel B env κ cs tm w→wt n cs l=some (as,cs',φ)→aw (aR env κ cs.heap w) l us →
  ∃κ',Rel B env κ' cs' tm w∧aw (fun x u=>Atom.lt env.length x=true∧RP w (Own κ') (den env x) u) as us∧(∀c v,aR env κ cs.heap w c v→aR env κ' cs'.heap w (φ c) v)∧Same cs cs'∧cs'.d=cs.d ∧
   (∀g,Own κ' g→Own κ g)
 | n,κ,cs,[],as,cs',φ,us,R,h,hr=>by
  have h':some (([]:List Atom),cs,fun (c:C)=>c)=some (as,cs',φ):=by cases n<;>exact h
  cases h'
  cases us with
  | nil=>exact ⟨κ,R,trivial,fun _ _ h=>h,Same.refl _,rfl,fun _ h=>h⟩
  | cons u us=>exact hr.elim
 | 0,κ,cs,c::l,as,cs',φ,us,R,h,hr=>by simp[wt] at h
 | n+1,κ,cs,c::l,as,cs',φ,us,R,h,hr=>by
  simp only[wt] at h
  obtain ⟨⟨x,cs1,φ1⟩,h1,h2⟩:=Option.bind_eq_some_iff.1 h
  obtain ⟨⟨ys,cs2,φ2⟩,h3,h4⟩:=Option.map_eq_some_iff.1 h2
  cases h4
  cases us with
  | nil=>exact hr.elim
  | cons u us =>
   obtain ⟨κ1,R1,k1,k2,k3,k4,k5,k6⟩:=Kd R h1 hr.1
   obtain ⟨κ2,R2,l1,l2,l3,l4,l5⟩:=uW n R1 h3 (hr.2.map φ1 k3)
   exact ⟨κ2,R2,⟨⟨k1,k2.mono fun g _ hg=>⟨rfl,fun h=>hg (l5 g h)⟩⟩,l1⟩,fun c v h=>l2 _ _ (k3 _ _ h),k4.trans l3,l4.trans k5,fun g h=>k6 g (l5 g h)⟩
theorem kz(R:Rel B env κ cs tm w){l:List C}{as:List Atom}{cs':CS}{φ:C→C}{us:List Value}(h:cs.plains l=some (as,cs',φ))(hr:aw (aR env κ cs.heap w) l us) :
  ∃κ',Rel B env κ' cs' tm w∧aw (fun x u=>Atom.lt env.length x=true∧RP w (Own κ') (den env x) u) as us∧(∀c v,aR env κ cs.heap w c v→aR env κ' cs'.heap w (φ c) v)∧Same cs cs'∧cs'.d=cs.d ∧
   (∀g,Own κ' g→Own κ g):=uW _ R h hr
end
end Go.Xt
