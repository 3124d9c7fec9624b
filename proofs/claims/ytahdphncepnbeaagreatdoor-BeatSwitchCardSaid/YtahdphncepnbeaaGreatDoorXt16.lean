/- Steps towards the statements of this seat; the conditions stand in each theorem. -/
import Derived.Test.YtahdphncepnbeaaGreatDoorXt15
set_option linter.unusedSimpArgs false
set_option linter.unusedVariables false
namespace Go.Xt
open Go.RowKit
section
variable {P:Program}{B:Bas P}{env env0 env':List PV}{κ κ':Kap}{cs:CS}{tm:Nat→Value}{w w':World}{a:Act}{ρ:Fns}{L:List (T×Nat)}{r:List PV→Prop}
theorem lQ: ∀(bs:List Nat) {κ:Kap} {cs:CS},Rel B env κ cs tm w→ ∃κ',Rel B env κ' (gf bs cs) tm w∧Same cs (gf bs cs)∧(gf bs cs).d=cs.d
 | [],κ,cs,R=>⟨κ,R,Same.refl _,rfl⟩
 | b::bs,κ,cs,R=>by
  simp only[gf]
  have h1: ∃κ1,Rel B env κ1 (cs.freezeB b) tm w:=by
   cases hb:ae cs.heap b with
   | none=>exact ⟨κ,by simpa[CS.freezeB,hb] using R⟩
   | some blk =>
    cases blk with
    | box l=>exact ⟨κ,by simpa[CS.freezeB,hb] using R⟩
    | arr es x=>exact ⟨_,R.freeze hb⟩
  obtain ⟨κ1,R1⟩:=h1
  obtain ⟨κ2,R2,h2,h3⟩:=lQ bs R1
  exact ⟨κ2,R2,(dV cs b).1.trans h2,h3.trans (dV cs b).2⟩
theorem iA{α β:Type}(f:Nat→α→β)(t:Nat): ∀l:List (Nat×α),ae (l.map fun p=>(p.1,f p.1 p.2)) t=(ae l t).map (f t)
 | []=>rfl
 | (k,v)::r=>by
  simp only[List.map_cons,ae]
  split
  ·rename_i e;subst e;rfl
  ·exact iA f t r
theorem pB{α:Type}{t:Nat}{x:α}: ∀ {l:List (Nat×α)},ae l t=some x→(t,x)∈l
 | [],h=>by simp[ae] at h
 | (k,v)::r,h=>by
  simp only[ae] at h
  split at h
  ·rename_i e;subst e;cases h;simp
  ·exact List.mem_cons_of_mem _ (pB h)
theorem Fi(R:Rel B env κ cs tm w){tmp:CS}{b es:Nat}(hb:ae cs.heap b=none):Foc env env κ κ cs.heap (nR tmp b es cs).heap w w none where
 pre:=⟨[],by simp⟩
 kap:=fun _ _=>rfl
 oth:=rfl
 arr:=fun b' es' a' _ h=>by
  simp only[nR,ae]
  have e:b≠b':=by rintro rfl;rw[hb] at h;cases h
  rw[if_neg e,iA,h]
  simp only[Option.map_some,vP]
  split
  ·rename_i h1;cases h1
  ·rfl
 box:=fun b' l _ h=>by
  simp only[nR,ae]
  have e:b≠b':=by rintro rfl;rw[hb] at h;cases h
  rw[if_neg e,iA,h]
  simp only[Option.map_some,vP]
  split
  ·rename_i h1;cases h1;exact ⟨_,rfl⟩
  ·exact ⟨_,rfl⟩
 blk:=fun _ _ _=>rfl
 new:=fun b0 g h=>by cases h
 inj:=R.hinj
 siz:=Nat.le_refl _
theorem kL{H':List (Nat×Blk)}{b:Nat}(h1: ∀c v,az env κ cs.heap w c v→az env κ H' w c v)(h2: ∀A,az env κ H' w (.own b) (.slice A 0 0)): ∀(ts l:List C) {vs:List Value},af (az env κ cs.heap w) l vs→af (az env κ H' w) (vO b ts l) vs
 | [],l,vs,h=>by cases l<;>exact h.imp h1
 | t::ts,[],vs,h=>by cases t<;>exact h.imp h1
 | t::ts,c::l,[],h=>h.elim
 | t::ts,c::l,v::vs,h=>by
  have ih:=kL h1 h2 ts l h.2
  cases t with
  | own b' =>
   cases c with
   | nil0 =>
    simp only[vO]
    refine ⟨?_,ih⟩
    split
    ·obtain ⟨A,hA⟩:=h.1
     subst hA
     exact h2 A
    ·exact h1 _ _ h.1
   | _=>exact ⟨h1 _ _ h.1,ih⟩
  | _=>exact ⟨h1 _ _ h.1,ih⟩
theorem Bz(R:Rel B env κ cs tm w){tmp:CS}{b es:Nat}(hb:ae cs.heap b=none)(hes:0<es):Rel B env κ (nR tmp b es cs) tm w:=by
 have F:=Fi R (tmp:=tmp) (es:=es) hb
 have hκ:κ b=none:=by
  cases hk:κ b with
  | none=>rfl
  | some g=>have:=(R.hκ b g hk).1;rw[hb] at this;cases this
 have h1: ∀c v,az env κ cs.heap w c v→az env κ (nR tmp b es cs).heap w c v:=fun c v h=>h.foc F fun _ _=>by simp
 have hnew:ae (nR tmp b es cs).heap b=some (.arr es (.c .nil)):=by simp[nR,ae]
 have h2: ∀A,az env κ (nR tmp b es cs).heap w (.own b) (.slice A 0 0):=fun A=>⟨es,.c .nil,[],hnew,rfl,rfl,.inl ⟨hκ,rfl,A,rfl⟩⟩
 exact {
  henv:=R.henv
  hslot:=fun t sv h=>by
   simp only[nR] at h
   rw[iA] at h
   obtain ⟨sv0,h3,rfl⟩:=Option.map_eq_some_iff.1 h
   obtain ⟨h4,h5⟩:=R.hslot t sv0 h3
   refine ⟨?_,h5⟩
   have same:aZ env κ (nR tmp b es cs).heap w sv0 (tm t):=by
    have:=h4.map (φ:=fun c=>c) (κ':=κ) (env':=env) (w':=w) h1
    rwa [SV.map_id] at this
   simp only[CD]
   split
   ·rename_i p hp
    cases p with
    | one c0 =>
     cases sv0 with
     | one c =>
      have h6:az env κ cs.heap w c (tm t):=h4
      have h7:=kL (b:=b) h1 h2 [c0] [c] (vs:=[tm t]) ⟨h6,trivial⟩
      simp only[SV.ownAs]
      have e: ∃x,vO b [c0] [c]=[x]:=by
       have:=h7.length
       match vO b [c0] [c],this with
       | [x],_=>exact ⟨x,rfl⟩
      obtain ⟨x,hx⟩:=e
      rw[hx] at h7 ⊢
      exact h7.1
     | _=>exact same
    | agg ts =>
     cases sv0 with
     | agg l =>
      obtain ⟨vs,h6,h7⟩:=h4
      exact ⟨vs,h6,kL h1 h2 ts l h7⟩
     | _=>exact same
    | tup ps=>cases sv0<;>exact same
   ·exact same
  hblk:=fun b' blk h=>by
   by_cases e:b'=b
   ·subst e
    rw[hnew] at h;cases h
    exact ⟨rfl,hes,[],rfl,by simp,fun i hi=>absurd hi (by simp),.inl ⟨hκ,rfl⟩⟩
   ·have h0:=h
    simp only[nR,ae] at h
    rw[if_neg (fun e'=>e e'.symm),iA] at h
    obtain ⟨blk0,h3,rfl⟩:=Option.map_eq_some_iff.1 h
    have h4:=R.hblk b' blk0 h3
    have same:gh env κ (nR tmp b es cs).heap w b' blk0:=by
     have:=h4.foc (b':=b') (φ:=fun c=>c) F (by simp) h1
     rwa [Blk.map_id] at this
    simp only[vP]
    split
    ·rename_i ts l hp
     obtain ⟨g,cells,T,h5,h6,h7⟩:=h4
     exact ⟨g,cells,T,h5,h6,kL h1 h2 ts l h7⟩
    ·exact same
  hκ:=fun b' g h=>by
   obtain ⟨h3,h4⟩:=R.hκ b' g h
   refine ⟨?_,h4⟩
   simp only[nR,ae]
   split
   ·rfl
   ·rw[iA,Option.isSome_map];exact h3
  hinj:=R.hinj
  hknown:=R.hknown
  hB:=R.hB
  hoth:=R.hoth
  hob:=R.hob
  hgl:=R.hgl
  hnf:=R.hnf }
theorem Dl(tmp:CS)(b es:Nat)(cs:CS):Same cs (nR tmp b es cs)∧(nR tmp b es cs).d=cs.d:=⟨⟨rfl,rfl,rfl,Nat.le_refl _⟩,rfl⟩
theorem ic(tmp:CS): ∀(bs:List Nat) {cs:CS},Rel B env κ cs tm w→Rel B env κ (mg tmp bs cs) tm w∧Same cs (mg tmp bs cs)∧(mg tmp bs cs).d=cs.d
 | [],cs,R=>⟨R,Same.refl _,rfl⟩
 | b::bs,cs,R=>by
  simp only[mg]
  split
  ·rename_i es x h1 h2
   split
   ·rename_i hes
    obtain ⟨h3,h4,h5⟩:=ic tmp bs (Bz R (tmp:=tmp) h1 hes)
    exact ⟨h3,(Dl tmp b es cs).1.trans h4,h5⟩
   ·exact ic tmp bs R
  ·exact ic tmp bs R
theorem kM(x y n:Nat):swN x y (swN x y n)=n:=by
 unfold swN
 by_cases h1:n=x
 ·subst h1;by_cases h2:y=n<;>simp[h2]
 ·by_cases h2:n=y
  ·subst h2;simp[h1]
  ·simp[h1,h2]
theorem wi{x y a b:Nat}(h:swN x y a=swN x y b):a=b:=by rw[←kM x y a,h,kM]
def Kap.sw(x y:Nat)(κ:Kap):Kap:={ κ with m:=fun n=>κ (swN x y n) }
theorem qX(x y b:Nat):(κ.sw x y) (swN x y b)=κ b:=by show κ (swN x y (swN x y b))=κ b;rw[kM]
theorem oz(x y:Nat):Own (κ.sw x y)=Own κ:=by
 funext g
 refine propext ⟨fun h=>h.imp id fun ⟨b,hb⟩=>⟨swN x y b,hb⟩,fun h=>h.imp id fun ⟨b,hb⟩=>⟨swN x y b,(qX x y b).trans hb⟩⟩
theorem CU(x y b:Nat):ql (κ.sw x y) (swN x y b)=ql κ b:=by
 funext g
 refine propext ⟨fun h=>h.imp id fun ⟨b',hn,hb⟩=>⟨swN x y b',fun e=>hn (by rw[←e,kM]),hb⟩,fun h=>h.imp id fun ⟨b',hn,hb⟩=>⟨swN x y b',fun e=>hn (wi e),(qX x y b').trans hb⟩⟩
theorem CV{α β:Type}(x y:Nat)(f:α→β)(t:Nat): ∀l:List (Nat×α),ae (l.map fun p=>(swN x y p.1,f p.2)) (swN x y t)=(ae l t).map f
 | []=>rfl
 | (k,v)::r=>by
  simp only[List.map_cons,ae]
  by_cases h:k=t
  ·subst h;simp
  ·rw[if_neg (fun e=>h (wi e)),if_neg h];exact CV x y f t r
section
variable {H:List (Nat×Blk)}
def swH(x y:Nat)(H:List (Nat×Blk)):List (Nat×Blk):=H.map fun p=>(swN x y p.1,p.2.map (C.sw x y))
theorem wj(x y b:Nat):ae (swH x y H) (swN x y b)=(ae H b).map (Blk.map (C.sw x y)):=CV x y _ b H
theorem rL{x y b es:Nat}{a:Atom}(h:ae H b=some (.arr es a)):ae (swH x y H) (swN x y b)=some (.arr es a):=by rw[wj,h];rfl
theorem CW{x y b:Nat}{l:List C}(h:ae H b=some (.box l)): ∃l',ae (swH x y H) (swN x y b)=some (.box l'):=by rw[wj,h];exact ⟨_,rfl⟩
theorem Cap.sw_rel{x y:Nat}{c:Cap}{v:Value}(h:gg env κ H w c v):gg env (κ.sw x y) (swH x y H) w (c.sw x y) v:=by
 cases c with
 | «at» a=>exact ⟨h.1,by rw[oz];exact h.2⟩
 | ptr b off =>
  obtain ⟨cs,g,h1,h2,h3⟩:=h
  obtain ⟨l',h4⟩:=CW (x:=x) (y:=y) h1
  exact ⟨l',g,h4,(qX x y b).trans h2,h3⟩
 | agg as =>
  obtain ⟨vs,h1,h2⟩:=h
  refine ⟨vs,h1,?_⟩
  rw[oz];exact h2
theorem af.mapL{α β γ:Type}{R:α→β→Prop}{S:γ→β→Prop}{f:α→γ}(hf: ∀a b,R a b→S (f a) b): ∀ {l:List α} {m:List β},af R l m→af S (l.map f) m
 | [],[],_=>trivial
 | _::_,_::_,h=>⟨hf _ _ h.1,af.mapL hf h.2⟩
 | [],_::_,h=>h.elim
 | _::_,[],h=>h.elim
theorem C.sw_rel{x y:Nat}{c:C}{v:Value}(h:az env κ H w c v):az env (κ.sw x y) (swH x y H) w (c.sw x y) v:=by
 cases c with
 | «at» a=>exact ⟨h.1,by rw[oz];exact h.2⟩
 | nil0=>exact h
 | own b =>
  obtain ⟨es,a,xs,h1,h2,h3,h4⟩:=h
  refine ⟨es,a,xs,rL h1,h2,h3,?_⟩
  rw[qX];exact h4
 | bor b a =>
  obtain ⟨h1,⟨es,a',h2⟩,h3⟩:=h
  refine ⟨h1,⟨es,a',rL h2⟩,?_⟩
  rw[oz,CU];exact h3
 | ptr b off =>
  obtain ⟨cs,g,h1,h2,h3⟩:=h
  obtain ⟨l',h4⟩:=CW (x:=x) (y:=y) h1
  exact ⟨l',g,h4,(qX x y b).trans h2,h3⟩
 | aptr b i off =>
  obtain ⟨h0,es,a,xs,g,k,m,h1,h2,h3,h4,h5⟩:=h
  exact ⟨h0,es,a,xs,g,k,m,rL h1,h2,h3,(qX x y b).trans h4,h5⟩
 | eptr bo l i off m =>
  obtain ⟨h1,h2,h3,ad,h4,h5⟩:=h
  refine ⟨h1,h2,fun b hb=>?_,ad,h4,fun j hj=>?_⟩
  ·cases bo with
   | none=>cases hb
   | some b0 =>
    cases hb
    obtain ⟨es,a',h6⟩:=h3 b0 rfl
    exact ⟨es,a',rL h6⟩
  ·obtain ⟨h6,u,h7,h8⟩:=h5 j hj
   refine ⟨?_,u,h7,by rw[oz];exact h8⟩
   cases bo with
   | none=>show ¬Own _ _;rw[oz];exact h6
   | some b0=>show ¬ql _ (swN x y b0) _;rw[CU];exact h6
 | fn K caps =>
  obtain ⟨vs,h1,h2⟩:=h
  exact ⟨vs,h1,af.mapL (f:=Cap.sw x y) (fun _ _=>Cap.sw_rel) h2⟩
 | undef=>exact h
 | junk=>exact h
theorem Blk.sw_rel{x y b:Nat}{k:Blk}(h:gh env κ H w b k):gh env (κ.sw x y) (swH x y H) w (swN x y b) (k.map (C.sw x y)):=by
 cases k with
 | box l =>
  obtain ⟨g,cells,T,h1,h2,h3⟩:=h
  exact ⟨g,cells,T,(qX x y b).trans h1,h2,af.mapL (f:=C.sw x y) (fun _ _=>C.sw_rel) h3⟩
 | arr es a =>
  obtain ⟨h1,h2,xs,h3,h4,h5,h6⟩:=h
  refine ⟨h1,h2,xs,h3,h4,h5,?_⟩
  rw[qX,oz];exact h6
end
theorem Eb(R:Rel B env κ cs tm w)(x y:Nat):Rel B env (κ.sw x y) (cs.sw x y) tm w where
 henv:=R.henv
 hslot:=fun t sv h=>by
  simp only[CS.sw] at h
  rw[pk] at h
  obtain ⟨sv0,h3,rfl⟩:=Option.map_eq_some_iff.1 h
  obtain ⟨h4,h5⟩:=R.hslot t sv0 h3
  exact ⟨h4.map (φ:=C.sw x y) fun c v h=>C.sw_rel h,h5⟩
 hblk:=fun b blk h=>by
  have h0:ae (swH x y cs.heap) (swN x y (swN x y b))=some blk:=by rw[kM];exact h
  rw[wj] at h0
  obtain ⟨blk0,h3,rfl⟩:=Option.map_eq_some_iff.1 h0
  have:=Blk.sw_rel (x:=x) (y:=y) (R.hblk _ _ h3)
  rwa [kM] at this
 hκ:=fun b g h=>by
  obtain ⟨h1,h2⟩:=R.hκ _ g h
  refine ⟨?_,h2⟩
  have h3:=wj (H:=cs.heap) x y (swN x y b)
  rw[kM] at h3
  show (ae (swH x y cs.heap) b).isSome=true
  rw[h3,Option.isSome_map];exact h1
 hinj:=fun b b' g h h'=>wi (R.hinj _ _ g h h')
 hknown:=R.hknown
 hB:=R.hB
 hoth:=R.hoth
 hob:=R.hob
 hgl:=R.hgl
 hnf:=R.hnf
theorem qY: ∀(ps:List (Nat×Nat)) {κ:Kap} {cs:CS},Rel B env κ cs tm w→ ∃κ',Rel B env κ' (va ps cs) tm w∧Same cs (va ps cs)∧(va ps cs).d=cs.d
 | [],κ,cs,R=>⟨κ,R,Same.refl _,rfl⟩
 | p::ps,κ,cs,R=>by
  obtain ⟨κ2,R2,h2,h3⟩:=qY ps (Eb R p.1 p.2)
  exact ⟨κ2,R2,Same.trans (b:=cs.sw p.1 p.2) ⟨rfl,rfl,rfl,Nat.le_refl _⟩ h2,h3⟩
theorem jA: ∀(bs:List Nat) {κ:Kap} {cs:CS},Rel B env κ cs tm w→ ∃κ',Rel B env κ' (kz bs cs) tm w∧Same cs (kz bs cs)∧(kz bs cs).d=cs.d
 | [],κ,cs,R=>⟨κ,R,Same.refl _,rfl⟩
 | b::bs,κ,cs,R=>by
  simp only[kz]
  split
  ·exact jA bs R
  ·obtain ⟨κ2,R2,h2,h3⟩:=jA bs (R.drop b)
   exact ⟨κ2,R2,Same.trans (b:=cs.dropB b) ⟨rfl,rfl,rfl,Nat.le_refl _⟩ h2,h3⟩
theorem Dm(R:Rel B env κ cs tm w)(tmp:CS): ∃κ',Rel B env κ' (fit tmp cs) tm w∧Same cs (fit tmp cs)∧(fit tmp cs).d=cs.d:=by
 unfold fit
 obtain ⟨κ1,R1,h1,h2⟩:=lQ ((jx tmp cs).flatMap fun p=>iI p.1 p.2) R
 dsimp only
 generalize gf ((jx tmp cs).flatMap fun p=>iI p.1 p.2) cs=cs0 at R1 h1 h2 ⊢
 obtain ⟨κ2,R2,h3,h4⟩:=qY (apart [] ((jx tmp cs0).flatMap fun p=>E1 p.1 p.2)) R1
 generalize va (apart [] ((jx tmp cs0).flatMap fun p=>E1 p.1 p.2)) cs0=cs1 at R2 h3 h4 ⊢
 generalize ((jx tmp cs1).flatMap fun p=>CC p.1 p.2)=ns
 obtain ⟨κ3,R3,h7,h8⟩:=jA ns R2
 obtain ⟨R4,h5,h6⟩:=ic tmp ns R3
 exact ⟨κ3,R4,((h1.trans h3).trans h7).trans h5,h6.trans (h8.trans (h4.trans h2))⟩
theorem qt(c:C):c.names=c.allNames:=by
 cases c with
 | eptr bo l i o m=>cases bo<;>rfl
 | fn K caps =>
  simp only[C.names,C.allNames]
  induction caps with
  | nil=>rfl
  | cons c caps ih=>cases c<;>simp[Cap.names,ih]
 | _=>rfl
theorem fD{as:List Atom}{t x:Atom}{l:List PV}(h:mh env0.length as t x=true):t.lt (env0++as.map (den (env0++l))).length=true∧den (env0++as.map (den (env0++l))) t=den (env0++l) x:=by
 simp only[mh,Bool.or_eq_true,Bool.and_eq_true,decide_eq_true_eq] at h
 rcases h with ⟨rfl,h⟩ | h
 ·exact ⟨Atom.lt_mono (by simp) h,by rw[co _ _ _ h,co _ _ _ h]⟩
 ·cases t with
  | v i =>
   simp only[Bool.and_eq_true,decide_eq_true_eq] at h
   obtain ⟨h1,h2⟩:=h
   have h3:=(List.getElem?_eq_some_iff.1 h2).1
   refine ⟨by simp[Atom.lt];omega,?_⟩
   show look _ i=_
   obtain ⟨j,rfl⟩: ∃j,i=env0.length+j:=⟨i-env0.length,by omega⟩
   rw[eC]
   exact cI _ _ _ (by rw[List.getElem?_map,show env0.length+j-env0.length=j by omega] at *;rw[h2];rfl)
  | _=>simp at h
def Kap.only(κ:Kap)(H:List (Nat×Blk)):Kap:={ κ with m:=fun b=>if (ae H b).isSome then κ b else none }
theorem sj{H:List (Nat×Blk)}{g:Nat}(h:Own (κ.only H) g):Own κ g:=by
 rcases h with h | ⟨b,h⟩
 ·exact .inl h
 ·simp only[Kap.only] at h
  split at h
  ·exact .inr ⟨b,h⟩
  ·cases h
theorem vg{H:List (Nat×Blk)}{b g:Nat}(h:ql (κ.only H) b g):ql κ b g:=by
 rcases h with h | ⟨b',hne,h⟩
 ·exact .inl h
 ·simp only[Kap.only] at h
  split at h
  ·exact .inr ⟨b',hne,h⟩
  ·cases h
theorem RP.only{H:List (Nat×Blk)}{p:PV}{v:Value}(h:RP w (Own κ) p v):RP w (Own (κ.only H)) p v:=h.mono fun g _ hn=>⟨rfl,fun h=>hn (sj h)⟩
theorem nN{H':List (Nat×Blk)}{b:Nat}(h:(ae H' b).isSome=true):(κ.only H') b=κ b:=by simp[Kap.only,h]
theorem oA{as:List Atom}{l:List PV}{t:Atom}(h:t.lt env0.length=true):t.lt (env0++as.map (den (env0++l))).length=true∧den (env0++as.map (den (env0++l))) t=den (env0++l) t :=
 ⟨Atom.lt_mono (by simp) h,by rw[co _ _ _ h,co _ _ _ h]⟩
section
variable {as:List Atom}{l:List PV}{H H':List (Nat×Blk)}(hH: ∀b blk',ae H' b=some blk'→ ∃blk,ae H b=some blk∧hR env0.length as blk' blk=true)
include hH
theorem rM{b es:Nat}{x:Atom}(h:(ae H' b).isSome=true)(hb:ae H b=some (.arr es x)) :
  ∃t,ae H' b=some (.arr es t)∧t.lt (env0++as.map (den (env0++l))).length=true∧den (env0++as.map (den (env0++l))) t=den (env0++l) x:=by
 obtain ⟨blk',h1⟩:=Option.isSome_iff_exists.1 h
 obtain ⟨blk,h2,h3⟩:=hH b blk' h1
 rw[hb] at h2;cases h2
 cases blk' with
 | box cs=>simp[hR] at h3
 | arr es' t =>
  simp only[hR,Bool.and_eq_true,decide_eq_true_eq] at h3
  obtain ⟨rfl,h3⟩:=h3
  exact ⟨t,h1,fD h3⟩
theorem CX{b:Nat}{cs:List C}(h:(ae H' b).isSome=true)(hb:ae H b=some (.box cs)): ∃cs',ae H' b=some (.box cs'):=by
 obtain ⟨blk',h1⟩:=Option.isSome_iff_exists.1 h
 obtain ⟨blk,h2,h3⟩:=hH b blk' h1
 rw[hb] at h2;cases h2
 cases blk' with
 | box cs=>exact ⟨cs,h1⟩
 | arr es' t=>simp[hR] at h3
theorem Ge{c:Cap}{v:Value}(hlt:c.lt env0.length=true)(hn: ∀b∈c.names,(ae H' b).isSome=true)(h:gg (env0++l) κ H w c v):gg (env0++as.map (den (env0++l))) (κ.only H') H' w c v:=by
 cases c with
 | «at» x =>
  obtain ⟨h1,h2⟩:=h
  obtain ⟨k1,k2⟩:=oA (l:=l) (t:=x) hlt
  exact ⟨k1,by rw[k2];exact h2.only⟩
 | ptr b off =>
  obtain ⟨cs,g,h1,h2,h3⟩:=h
  have hb:=hn b (by simp[Cap.names])
  obtain ⟨cs',h1'⟩:=CX hH hb h1
  exact ⟨cs',g,h1',by rw[nN hb];exact h2,h3⟩
 | agg xs =>
  obtain ⟨vs,rfl,h⟩:=h
  refine ⟨vs,rfl,h.impMem fun x u hx ⟨h1,h2⟩=>?_⟩
  simp only[Cap.lt,List.all_eq_true] at hlt
  obtain ⟨k1,k2⟩:=oA (l:=l) (t:=x) (hlt x hx)
  exact ⟨k1,by rw[k2];exact h2.only⟩
theorem sk{t c:C}{v:Value}(h:CF env0.length as t c=true)(hn: ∀b∈t.allNames,(ae H' b).isSome=true)(hr:az (env0++l) κ H w c v):az (env0++as.map (den (env0++l))) (κ.only H') H' w t v:=by
 simp only[CF,Bool.or_eq_true,Bool.and_eq_true,decide_eq_true_eq] at h
 rcases h with (rfl | ⟨rfl,hlt⟩) | h
 ·trivial
 ·cases t with
  | «at» x =>
   obtain ⟨h1,h2⟩:=hr
   obtain ⟨k1,k2⟩:=oA (l:=l) (t:=x) hlt
   exact ⟨k1,by rw[k2];exact h2.only⟩
  | nil0=>exact hr
  | own b =>
   have hb:=hn b (by simp[C.allNames])
   obtain ⟨es,x,xs,h1,h2,h3,h4⟩:=hr
   obtain ⟨t,k1,k2,k3⟩:=rM hH (l:=l) hb h1
   refine ⟨es,t,xs,k1,k2,k3.trans h3,?_⟩
   rw[nN hb]
   exact h4
  | bor b x =>
   have hb:=hn b (by simp[C.allNames])
   obtain ⟨h1,⟨es,x',h2⟩,h3⟩:=hr
   obtain ⟨t,k1,k2,k3⟩:=rM hH (l:=l) hb h2
   obtain ⟨k4,k5⟩:=oA (l:=l) (t:=x) hlt
   refine ⟨k4,⟨es,t,k1⟩,?_⟩
   rw[k5]
   exact h3.mono (fun g _ hn=>⟨rfl,fun h=>hn (sj h)⟩) (fun g _ hn=>⟨rfl,fun h=>hn (vg h)⟩)
  | ptr b off =>
   have hb:=hn b (by simp[C.allNames])
   obtain ⟨cs,g,h1,h2,h3⟩:=hr
   obtain ⟨cs',h1'⟩:=CX hH hb h1
   exact ⟨cs',g,h1',by rw[nN hb];exact h2,h3⟩
  | aptr b i off =>
   have hb:=hn b (by simp[C.allNames])
   obtain ⟨h0,es,x,xs,g,k,m,h1,h2,h3,h4,h5,h6⟩:=hr
   obtain ⟨t,k1,k2,k3⟩:=rM hH (l:=l) hb h1
   obtain ⟨k4,k5⟩:=oA (l:=l) (t:=i) hlt
   exact ⟨k4,es,t,xs,g,k,m,k1,k2,k3.trans h3,by rw[nN hb];exact h4,k5.trans h5,h6⟩
  | eptr bo li i off m =>
   simp only[C.lt,Bool.and_eq_true] at hlt
   obtain ⟨h1,h2,h3,ad,rfl,h4⟩:=hr
   obtain ⟨k1,k2⟩:=oA (l:=l) (t:=li) hlt.1
   obtain ⟨k3,k4⟩:=oA (l:=l) (t:=i) hlt.2
   refine ⟨k1,k3,fun b hb=>?_,ad,rfl,fun j hj=>?_⟩
   ·subst hb
    obtain ⟨es,x',h⟩:=h3 b rfl
    obtain ⟨t,q1,q2,q3⟩:=rM hH (l:=l) (hn b (by simp[C.allNames])) h
    exact ⟨es,t,q1⟩
   ·obtain ⟨h5,u,h6,h7⟩:=h4 j hj
    refine ⟨fun hx=>h5 ?_,u,h6,?_⟩
    ·cases bo with
     | none=>exact sj hx
     | some b=>exact vg hx
    ·have hd:den (env0++as.map (den (env0++l))) (.cell li i (off+j))=den (env0++l) (.cell li i (off+j)):=by simp only[den,k2,k4]
     rw[hd];exact h7.only
  | fn K caps =>
   obtain ⟨vs,rfl,h⟩:=hr
   simp only[C.lt,List.all_eq_true] at hlt
   refine ⟨vs,rfl,h.impMem fun c v hc hr=>Ge hH (hlt c hc) (fun b hb=>hn b ?_) hr⟩
   simp only[C.allNames,List.mem_flatMap];exact ⟨c,hc,hb⟩
  | undef=>exact hr
  | junk=>trivial
 ·cases t with
  | «at» t =>
   cases c with
   | «at» x =>
    obtain ⟨h1,h2⟩:=hr
    obtain ⟨k1,k2⟩:=fD (l:=l) h
    exact ⟨k1,by rw[k2];exact h2.only⟩
   | nil0 =>
    obtain ⟨A,rfl⟩:=hr
    obtain ⟨k1,k2⟩:=fD (l:=l) h
    exact ⟨k1,by rw[k2];exact RP.nil⟩
   | _=>simp at h
  | _=>simp at h
theorem kN: ∀ {ts cs:List C} {vs:List Value},ov env0.length as ts cs=true→(∀c∈ts,∀b∈c.allNames,(ae H' b).isSome=true)→af (az (env0++l) κ H w) cs vs →
  af (az (env0++as.map (den (env0++l))) (κ.only H') H' w) ts vs
 | [],[],[],_,_,_=>trivial
 | t::ts,c::cs,v::vs,h,hn,hr=>by
  simp only[ov,Bool.and_eq_true] at h
  exact ⟨sk hH h.1 (hn t (by simp)) hr.1,kN h.2 (fun c hc=>hn c (by simp[hc])) hr.2⟩
 | [],_::_,_,h,_,_=>by simp[ov] at h
 | _::_,[],_,h,_,_=>by simp[ov] at h
 | [],[],_::_,_,_,h=>h.elim
 | _::_,_::_,[],_,_,h=>h.elim
end
theorem gz{l:List PV}(R:Rel B (env0++l) κ cs tm w){tmp:CS}{as:List Atom}(h:nG env0.length tmp cs=some as) :
  ∃κ',Rel B (env0++as.map (den (env0++l))) κ' tmp tm w∧tmp.fb=cs.fb∧tmp.nt=cs.nt∧tmp.d=env0.length+as.length:=by
 unfold nG at h
 simp only at h
 split at h
 ·rename_i hf
  cases h
  obtain ⟨κ1,R1,hS,hd⟩:=Dm R tmp
  generalize (fit tmp cs)=cs1 at *
  generalize (List.map (fun j=>(ae (G0 env0.length tmp cs1) (env0.length+j)).getD (.c .nil)) (List.range (tmp.d-env0.length)))=as at *
  simp only[H5,Bool.and_eq_true,decide_eq_true_eq,List.all_eq_true] at hf
  obtain ⟨⟨⟨⟨⟨⟨⟨⟨f1,f2⟩,f3⟩,f4⟩,f5⟩,f6⟩,f7⟩,f8⟩,f9⟩:=hf
  have hH: ∀b blk',ae tmp.heap b=some blk'→ ∃blk,ae cs1.heap b=some blk∧hR env0.length as blk' blk=true:=by
   intro b blk' hb
   have:=f2 (b,blk') (pB hb)
   simp only at this
   split at this
   ·rename_i blk h;exact ⟨blk,h,this⟩
   ·cases this
  simp only[CG,Bool.and_eq_true,List.all_eq_true] at f7
  obtain ⟨n1,n2⟩:=f7
  refine ⟨κ1.only tmp.heap,?_,f4.trans hS.fb,f5.trans hS.nt,f3⟩
  exact {
   henv:=by simp[f3]
   hslot:=fun t sv h=>by
    have hm:=pB h
    refine ⟨?_,f8 _ hm⟩
    have h1:=f1 _ hm
    simp only at h1
    split at h1
    ·rename_i sv' hs
     have h2:=(R1.hslot t sv' hs).1
     have hn:=n1 _ hm
     simp only at hn
     cases sv with
     | one t =>
      cases sv' with
      | one c =>
       exact sk hH h1 (fun b hb=>hn t (by simp[SV.allCells]) b (by rw[qt];exact hb)) h2
      | _=>simp[vQ] at h1
     | agg ts =>
      cases sv' with
      | agg l' =>
       obtain ⟨vs,h3,h4⟩:=h2
       exact ⟨vs,h3,kN hH h1 (fun c hc b hb=>hn c (by simpa[SV.allCells] using hc) b (by rw[qt];exact hb)) h4⟩
      | _=>simp[vQ] at h1
     | tup ps=>simp[vQ] at h1
    ·cases h1
   hblk:=fun b blk' hb=>by
    obtain ⟨blk,h1,h2⟩:=hH b blk' hb
    have h3:=R1.hblk b blk h1
    have hsome:(ae tmp.heap b).isSome=true:=by rw[hb];rfl
    have hn:=n2 _ (pB hb)
    cases blk' with
    | box ts =>
     cases blk with
     | box l' =>
      obtain ⟨g,cells,T,h4,h5,h6⟩:=h3
      refine ⟨g,cells,T,by rw[nN hsome];exact h4,h5,kN hH h2 (fun c hc b' hb'=>?_) h6⟩
      simp only[List.all_eq_true] at hn
      exact hn c hc b' (by rw[qt];exact hb')
     | arr es x=>simp[hR] at h2
    | arr es t =>
     cases blk with
     | box l'=>simp[hR] at h2
     | arr es' x =>
      simp only[hR,Bool.and_eq_true,decide_eq_true_eq] at h2
      obtain ⟨rfl,h2⟩:=h2
      obtain ⟨k1,k2⟩:=fD (l:=l) h2
      obtain ⟨h4,h5,xs,h6,h7,h8,h9⟩:=h3
      refine ⟨k1,h5,xs,k2.trans h6,h7,h8,?_⟩
      rw[nN hsome]
      rcases h9 with h9 | ⟨g,cells,T,c,m1,m2,m3,m4,m5⟩
      ·exact .inl h9
      ·refine .inr ⟨g,cells,T,c,m1,m2,m3,m4,fun i j hi hj=>?_⟩
       obtain ⟨u,hu,hru⟩:=m5 i j hi hj
       exact ⟨u,hu,hru.only⟩
   hκ:=fun b g h=>by
    simp only[Kap.only] at h
    split at h
    ·rename_i hs
     obtain ⟨_,h2,h3⟩:=R1.hκ b g h
     exact ⟨hs,h2,h3⟩
    ·cases h
   hinj:=fun b b' g h h'=>by
    simp only[Kap.only] at h h'
    split at h
    ·split at h'
     ·exact R1.hinj b b' g h h'
     ·cases h'
    ·cases h
   hknown:=fun x b h=>by rw[f6] at h;cases h
   hB:=R1.hB
   hoth:=R1.hoth
   hob:=R1.hob
   hgl:=R1.hgl
   hnf:=f9 }
 ·cases h
end
end Go.Xt
