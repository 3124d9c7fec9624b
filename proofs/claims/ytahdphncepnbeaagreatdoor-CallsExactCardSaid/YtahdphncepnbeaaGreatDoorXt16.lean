/- Steps towards the statements of this seat; the conditions stand in each theorem. -/
import Derived.Test.YtahdphncepnbeaaGreatDoorXt15
set_option linter.unusedSimpArgs false
set_option linter.unusedVariables false
namespace Go.Xt
open Go.RowKit
section
variable {P:Program}{B:Bas P}{env env0 env':List PV}{κ κ':Kap}{cs:CS}{tm:Nat→Value}{w w':World}{a:Act}{ρ:Fns}{L:List (T×Nat)}{r:List PV→Prop}
theorem sq: ∀(bs:List Nat) {κ:Kap} {cs:CS},Rel B env κ cs tm w→ ∃κ',Rel B env κ' (lg bs cs) tm w∧Same cs (lg bs cs)∧(lg bs cs).d=cs.d
 | [],κ,cs,R=>⟨κ,R,Same.refl _,rfl⟩
 | b::bs,κ,cs,R=>by
  simp only[lg]
  have h1: ∃κ1,Rel B env κ1 (cs.freezeB b) tm w:=by
   cases hb:av cs.heap b with
   | none=>exact ⟨κ,by simpa[CS.freezeB,hb] using R⟩
   | some blk =>
    cases blk with
    | box l=>exact ⟨κ,by simpa[CS.freezeB,hb] using R⟩
    | arr es x=>exact ⟨_,R.freeze hb⟩
  obtain ⟨κ1,R1⟩:=h1
  obtain ⟨κ2,R2,h2,h3⟩:=sq bs R1
  exact ⟨κ2,R2,(iM cs b).1.trans h2,h3.trans (iM cs b).2⟩
theorem nu{α β:Type}(f:Nat→α→β)(t:Nat): ∀l:List (Nat×α),av (l.map fun p=>(p.1,f p.1 p.2)) t=(av l t).map (f t)
 | []=>rfl
 | (k,v)::r=>by
  simp only[List.map_cons,av]
  split
  ·rename_i e;subst e;rfl
  ·exact nu f t r
theorem wY{α:Type}{t:Nat}{x:α}: ∀ {l:List (Nat×α)},av l t=some x→(t,x)∈l
 | [],h=>by simp[av] at h
 | (k,v)::r,h=>by
  simp only[av] at h
  split at h
  ·rename_i e;subst e;cases h;simp
  ·exact List.mem_cons_of_mem _ (wY h)
theorem RO(R:Rel B env κ cs tm w){tmp:CS}{b es:Nat}(hb:av cs.heap b=none):Foc env env κ κ cs.heap (uM tmp b es cs).heap w w none where
 pre:=⟨[],by simp⟩
 kap:=fun _ _=>rfl
 oth:=rfl
 arr:=fun b' es' a' _ h=>by
  simp only[uM,av]
  have e:b≠b':=by rintro rfl;rw[hb] at h;cases h
  rw[if_neg e,nu,h]
  simp only[Option.map_some,GA]
  split
  ·rename_i h1;cases h1
  ·rfl
 box:=fun b' l _ h=>by
  simp only[uM,av]
  have e:b≠b':=by rintro rfl;rw[hb] at h;cases h
  rw[if_neg e,nu,h]
  simp only[Option.map_some,GA]
  split
  ·rename_i h1;cases h1;exact ⟨_,rfl⟩
  ·exact ⟨_,rfl⟩
 blk:=fun _ _ _=>rfl
 new:=fun b0 g h=>by cases h
 inj:=R.hinj
 siz:=Nat.le_refl _
theorem qU{H':List (Nat×Blk)}{b:Nat}(h1: ∀c v,aR env κ cs.heap w c v→aR env κ H' w c v)(h2: ∀A,aR env κ H' w (.own b) (.slice A 0 0)): ∀(ts l:List C) {vs:List Value},aw (aR env κ cs.heap w) l vs→aw (aR env κ H' w) (Gz b ts l) vs
 | [],l,vs,h=>by cases l<;>exact h.imp h1
 | t::ts,[],vs,h=>by cases t<;>exact h.imp h1
 | t::ts,c::l,[],h=>h.elim
 | t::ts,c::l,v::vs,h=>by
  have ih:=qU h1 h2 ts l h.2
  cases t with
  | own b' =>
   cases c with
   | nil0 =>
    simp only[Gz]
    refine ⟨?_,ih⟩
    split
    ·obtain ⟨A,hA⟩:=h.1
     subst hA
     exact h2 A
    ·exact h1 _ _ h.1
   | _=>exact ⟨h1 _ _ h.1,ih⟩
  | _=>exact ⟨h1 _ _ h.1,ih⟩
theorem N6(R:Rel B env κ cs tm w){tmp:CS}{b es:Nat}(hb:av cs.heap b=none)(hes:0<es):Rel B env κ (uM tmp b es cs) tm w:=by
 have F:=RO R (tmp:=tmp) (es:=es) hb
 have hκ:κ b=none:=by
  cases hk:κ b with
  | none=>rfl
  | some g=>have:=(R.hκ b g hk).1;rw[hb] at this;cases this
 have h1: ∀c v,aR env κ cs.heap w c v→aR env κ (uM tmp b es cs).heap w c v:=fun c v h=>h.foc F fun _ _=>by simp
 have hnew:av (uM tmp b es cs).heap b=some (.arr es (.c .nil)):=by simp[uM,av]
 have h2: ∀A,aR env κ (uM tmp b es cs).heap w (.own b) (.slice A 0 0):=fun A=>⟨es,.c .nil,[],hnew,rfl,rfl,.inl ⟨hκ,rfl,A,rfl⟩⟩
 exact {
  henv:=R.henv
  hslot:=fun t sv h=>by
   simp only[uM] at h
   rw[nu] at h
   obtain ⟨sv0,h3,rfl⟩:=Option.map_eq_some_iff.1 h
   obtain ⟨h4,h5⟩:=R.hslot t sv0 h3
   refine ⟨?_,h5⟩
   have same:bV env κ (uM tmp b es cs).heap w sv0 (tm t):=by
    have:=h4.map (φ:=fun c=>c) (κ':=κ) (env':=env) (w':=w) h1
    rwa [SV.map_id] at this
   simp only[Oi]
   split
   ·rename_i p hp
    cases p with
    | one c0 =>
     cases sv0 with
     | one c =>
      have h6:aR env κ cs.heap w c (tm t):=h4
      have h7:=qU (b:=b) h1 h2 [c0] [c] (vs:=[tm t]) ⟨h6,trivial⟩
      simp only[SV.ownAs]
      have e: ∃x,Gz b [c0] [c]=[x]:=by
       have:=h7.length
       match Gz b [c0] [c],this with
       | [x],_=>exact ⟨x,rfl⟩
      obtain ⟨x,hx⟩:=e
      rw[hx] at h7 ⊢
      exact h7.1
     | _=>exact same
    | agg ts =>
     cases sv0 with
     | agg l =>
      obtain ⟨vs,h6,h7⟩:=h4
      exact ⟨vs,h6,qU h1 h2 ts l h7⟩
     | _=>exact same
    | tup ps=>cases sv0<;>exact same
   ·exact same
  hblk:=fun b' blk h=>by
   by_cases e:b'=b
   ·subst e
    rw[hnew] at h;cases h
    exact ⟨rfl,hes,[],rfl,by simp,fun i hi=>absurd hi (by simp),.inl ⟨hκ,rfl⟩⟩
   ·have h0:=h
    simp only[uM,av] at h
    rw[if_neg (fun e'=>e e'.symm),nu] at h
    obtain ⟨blk0,h3,rfl⟩:=Option.map_eq_some_iff.1 h
    have h4:=R.hblk b' blk0 h3
    have same:lj env κ (uM tmp b es cs).heap w b' blk0:=by
     have:=h4.foc (b':=b') (φ:=fun c=>c) F (by simp) h1
     rwa [Blk.map_id] at this
    simp only[GA]
    split
    ·rename_i ts l hp
     obtain ⟨g,cells,T,h5,h6,h7⟩:=h4
     exact ⟨g,cells,T,h5,h6,qU h1 h2 ts l h7⟩
    ·exact same
  hκ:=fun b' g h=>by
   obtain ⟨h3,h4⟩:=R.hκ b' g h
   refine ⟨?_,h4⟩
   simp only[uM,av]
   split
   ·rfl
   ·rw[nu,Option.isSome_map];exact h3
  hinj:=R.hinj
  hknown:=R.hknown
  hB:=R.hB
  hoth:=R.hoth
  hob:=R.hob
  hgl:=R.hgl
  hnf:=R.hnf }
theorem Pg(tmp:CS)(b es:Nat)(cs:CS):Same cs (uM tmp b es cs)∧(uM tmp b es cs).d=cs.d:=⟨⟨rfl,rfl,rfl,Nat.le_refl _⟩,rfl⟩
theorem mZ(tmp:CS): ∀(bs:List Nat) {cs:CS},Rel B env κ cs tm w→Rel B env κ (sN tmp bs cs) tm w∧Same cs (sN tmp bs cs)∧(sN tmp bs cs).d=cs.d
 | [],cs,R=>⟨R,Same.refl _,rfl⟩
 | b::bs,cs,R=>by
  simp only[sN]
  split
  ·rename_i es x h1 h2
   split
   ·rename_i hes
    obtain ⟨h3,h4,h5⟩:=mZ tmp bs (N6 R (tmp:=tmp) h1 hes)
    exact ⟨h3,(Pg tmp b es cs).1.trans h4,h5⟩
   ·exact mZ tmp bs R
  ·exact mZ tmp bs R
theorem qV(x y n:Nat):swN x y (swN x y n)=n:=by
 unfold swN
 by_cases h1:n=x
 ·subst h1;by_cases h2:y=n<;>simp[h2]
 ·by_cases h2:n=y
  ·subst h2;simp[h1]
  ·simp[h1,h2]
theorem GR{x y a b:Nat}(h:swN x y a=swN x y b):a=b:=by rw[←qV x y a,h,qV]
def Kap.sw(x y:Nat)(κ:Kap):Kap:={ κ with m:=fun n=>κ (swN x y n) }
theorem zg(x y b:Nat):(κ.sw x y) (swN x y b)=κ b:=by show κ (swN x y (swN x y b))=κ b;rw[qV]
theorem vK(x y:Nat):Own (κ.sw x y)=Own κ:=by
 funext g
 refine propext ⟨fun h=>h.imp id fun ⟨b,hb⟩=>⟨swN x y b,hb⟩,fun h=>h.imp id fun ⟨b,hb⟩=>⟨swN x y b,(zg x y b).trans hb⟩⟩
theorem OA(x y b:Nat):yj (κ.sw x y) (swN x y b)=yj κ b:=by
 funext g
 refine propext ⟨fun h=>h.imp id fun ⟨b',hn,hb⟩=>⟨swN x y b',fun e=>hn (by rw[←e,qV]),hb⟩,fun h=>h.imp id fun ⟨b',hn,hb⟩=>⟨swN x y b',fun e=>hn (GR e),(zg x y b').trans hb⟩⟩
theorem OB{α β:Type}(x y:Nat)(f:α→β)(t:Nat): ∀l:List (Nat×α),av (l.map fun p=>(swN x y p.1,f p.2)) (swN x y t)=(av l t).map f
 | []=>rfl
 | (k,v)::r=>by
  simp only[List.map_cons,av]
  by_cases h:k=t
  ·subst h;simp
  ·rw[if_neg (fun e=>h (GR e)),if_neg h];exact OB x y f t r
section
variable {H:List (Nat×Blk)}
def swH(x y:Nat)(H:List (Nat×Blk)):List (Nat×Blk):=H.map fun p=>(swN x y p.1,p.2.map (C.sw x y))
theorem GS(x y b:Nat):av (swH x y H) (swN x y b)=(av H b).map (Blk.map (C.sw x y)):=OB x y _ b H
theorem AD{x y b es:Nat}{a:Atom}(h:av H b=some (.arr es a)):av (swH x y H) (swN x y b)=some (.arr es a):=by rw[GS,h];rfl
theorem OC{x y b:Nat}{l:List C}(h:av H b=some (.box l)): ∃l',av (swH x y H) (swN x y b)=some (.box l'):=by rw[GS,h];exact ⟨_,rfl⟩
theorem Cap.sw_rel{x y:Nat}{c:Cap}{v:Value}(h:lh env κ H w c v):lh env (κ.sw x y) (swH x y H) w (c.sw x y) v:=by
 cases c with
 | «at» a=>exact ⟨h.1,by rw[vK];exact h.2⟩
 | ptr b off =>
  obtain ⟨cs,g,h1,h2,h3⟩:=h
  obtain ⟨l',h4⟩:=OC (x:=x) (y:=y) h1
  exact ⟨l',g,h4,(zg x y b).trans h2,h3⟩
 | agg as =>
  obtain ⟨vs,h1,h2⟩:=h
  refine ⟨vs,h1,?_⟩
  rw[vK];exact h2
theorem aw.mapL{α β γ:Type}{R:α→β→Prop}{S:γ→β→Prop}{f:α→γ}(hf: ∀a b,R a b→S (f a) b): ∀ {l:List α} {m:List β},aw R l m→aw S (l.map f) m
 | [],[],_=>trivial
 | _::_,_::_,h=>⟨hf _ _ h.1,aw.mapL hf h.2⟩
 | [],_::_,h=>h.elim
 | _::_,[],h=>h.elim
theorem C.sw_rel{x y:Nat}{c:C}{v:Value}(h:aR env κ H w c v):aR env (κ.sw x y) (swH x y H) w (c.sw x y) v:=by
 cases c with
 | «at» a=>exact ⟨h.1,by rw[vK];exact h.2⟩
 | nil0=>exact h
 | own b =>
  obtain ⟨es,a,xs,h1,h2,h3,h4⟩:=h
  refine ⟨es,a,xs,AD h1,h2,h3,?_⟩
  rw[zg];exact h4
 | bor b a =>
  obtain ⟨h1,⟨es,a',h2⟩,h3⟩:=h
  refine ⟨h1,⟨es,a',AD h2⟩,?_⟩
  rw[vK,OA];exact h3
 | ptr b off =>
  obtain ⟨cs,g,h1,h2,h3⟩:=h
  obtain ⟨l',h4⟩:=OC (x:=x) (y:=y) h1
  exact ⟨l',g,h4,(zg x y b).trans h2,h3⟩
 | aptr b i off =>
  obtain ⟨h0,es,a,xs,g,k,m,h1,h2,h3,h4,h5⟩:=h
  exact ⟨h0,es,a,xs,g,k,m,AD h1,h2,h3,(zg x y b).trans h4,h5⟩
 | eptr bo l i off m =>
  obtain ⟨h1,h2,h3,ad,h4,h5⟩:=h
  refine ⟨h1,h2,fun b hb=>?_,ad,h4,fun j hj=>?_⟩
  ·cases bo with
   | none=>cases hb
   | some b0 =>
    cases hb
    obtain ⟨es,a',h6⟩:=h3 b0 rfl
    exact ⟨es,a',AD h6⟩
  ·obtain ⟨h6,u,h7,h8⟩:=h5 j hj
   refine ⟨?_,u,h7,by rw[vK];exact h8⟩
   cases bo with
   | none=>show ¬Own _ _;rw[vK];exact h6
   | some b0=>show ¬yj _ (swN x y b0) _;rw[OA];exact h6
 | fn K caps =>
  obtain ⟨vs,h1,h2⟩:=h
  exact ⟨vs,h1,aw.mapL (f:=Cap.sw x y) (fun _ _=>Cap.sw_rel) h2⟩
 | undef=>exact h
 | junk=>exact h
theorem Blk.sw_rel{x y b:Nat}{k:Blk}(h:lj env κ H w b k):lj env (κ.sw x y) (swH x y H) w (swN x y b) (k.map (C.sw x y)):=by
 cases k with
 | box l =>
  obtain ⟨g,cells,T,h1,h2,h3⟩:=h
  exact ⟨g,cells,T,(zg x y b).trans h1,h2,aw.mapL (f:=C.sw x y) (fun _ _=>C.sw_rel) h3⟩
 | arr es a =>
  obtain ⟨h1,h2,xs,h3,h4,h5,h6⟩:=h
  refine ⟨h1,h2,xs,h3,h4,h5,?_⟩
  rw[zg,vK];exact h6
end
theorem Qh(R:Rel B env κ cs tm w)(x y:Nat):Rel B env (κ.sw x y) (cs.sw x y) tm w where
 henv:=R.henv
 hslot:=fun t sv h=>by
  simp only[CS.sw] at h
  rw[wI] at h
  obtain ⟨sv0,h3,rfl⟩:=Option.map_eq_some_iff.1 h
  obtain ⟨h4,h5⟩:=R.hslot t sv0 h3
  exact ⟨h4.map (φ:=C.sw x y) fun c v h=>C.sw_rel h,h5⟩
 hblk:=fun b blk h=>by
  have h0:av (swH x y cs.heap) (swN x y (swN x y b))=some blk:=by rw[qV];exact h
  rw[GS] at h0
  obtain ⟨blk0,h3,rfl⟩:=Option.map_eq_some_iff.1 h0
  have:=Blk.sw_rel (x:=x) (y:=y) (R.hblk _ _ h3)
  rwa [qV] at this
 hκ:=fun b g h=>by
  obtain ⟨h1,h2⟩:=R.hκ _ g h
  refine ⟨?_,h2⟩
  have h3:=GS (H:=cs.heap) x y (swN x y b)
  rw[qV] at h3
  show (av (swH x y cs.heap) b).isSome=true
  rw[h3,Option.isSome_map];exact h1
 hinj:=fun b b' g h h'=>GR (R.hinj _ _ g h h')
 hknown:=R.hknown
 hB:=R.hB
 hoth:=R.hoth
 hob:=R.hob
 hgl:=R.hgl
 hnf:=R.hnf
theorem zh: ∀(ps:List (Nat×Nat)) {κ:Kap} {cs:CS},Rel B env κ cs tm w→ ∃κ',Rel B env κ' (FV ps cs) tm w∧Same cs (FV ps cs)∧(FV ps cs).d=cs.d
 | [],κ,cs,R=>⟨κ,R,Same.refl _,rfl⟩
 | p::ps,κ,cs,R=>by
  obtain ⟨κ2,R2,h2,h3⟩:=zh ps (Qh R p.1 p.2)
  exact ⟨κ2,R2,Same.trans (b:=cs.sw p.1 p.2) ⟨rfl,rfl,rfl,Nat.le_refl _⟩ h2,h3⟩
theorem oV: ∀(bs:List Nat) {κ:Kap} {cs:CS},Rel B env κ cs tm w→ ∃κ',Rel B env κ' (qH bs cs) tm w∧Same cs (qH bs cs)∧(qH bs cs).d=cs.d
 | [],κ,cs,R=>⟨κ,R,Same.refl _,rfl⟩
 | b::bs,κ,cs,R=>by
  simp only[qH]
  split
  ·exact oV bs R
  ·obtain ⟨κ2,R2,h2,h3⟩:=oV bs (R.drop b)
   exact ⟨κ2,R2,Same.trans (b:=cs.dropB b) ⟨rfl,rfl,rfl,Nat.le_refl _⟩ h2,h3⟩
theorem Ph(R:Rel B env κ cs tm w)(tmp:CS): ∃κ',Rel B env κ' (fit tmp cs) tm w∧Same cs (fit tmp cs)∧(fit tmp cs).d=cs.d:=by
 unfold fit
 obtain ⟨κ1,R1,h1,h2⟩:=sq ((oS tmp cs).flatMap fun p=>nC p.1 p.2) R
 dsimp only
 generalize lg ((oS tmp cs).flatMap fun p=>nC p.1 p.2) cs=cs0 at R1 h1 h2 ⊢
 obtain ⟨κ2,R2,h3,h4⟩:=zh (apart [] ((oS tmp cs0).flatMap fun p=>Q7 p.1 p.2)) R1
 generalize FV (apart [] ((oS tmp cs0).flatMap fun p=>Q7 p.1 p.2)) cs0=cs1 at R2 h3 h4 ⊢
 generalize ((oS tmp cs1).flatMap fun p=>Oh p.1 p.2)=ns
 obtain ⟨κ3,R3,h7,h8⟩:=oV ns R2
 obtain ⟨R4,h5,h6⟩:=mZ tmp ns R3
 exact ⟨κ3,R4,((h1.trans h3).trans h7).trans h5,h6.trans (h8.trans (h4.trans h2))⟩
theorem yq(c:C):c.names=c.allNames:=by
 cases c with
 | eptr bo l i o m=>cases bo<;>rfl
 | fn K caps =>
  simp only[C.names,C.allNames]
  induction caps with
  | nil=>rfl
  | cons c caps ih=>cases c<;>simp[Cap.names,ih]
 | _=>rfl
theorem kC{as:List Atom}{t x:Atom}{l:List PV}(h:sO env0.length as t x=true):t.lt (env0++as.map (den (env0++l))).length=true∧den (env0++as.map (den (env0++l))) t=den (env0++l) x:=by
 simp only[sO,Bool.or_eq_true,Bool.and_eq_true,decide_eq_true_eq] at h
 rcases h with ⟨rfl,h⟩ | h
 ·exact ⟨Atom.lt_mono (by simp) h,by rw[ej _ _ _ h,ej _ _ _ h]⟩
 ·cases t with
  | v i =>
   simp only[Bool.and_eq_true,decide_eq_true_eq] at h
   obtain ⟨h1,h2⟩:=h
   have h3:=(List.getElem?_eq_some_iff.1 h2).1
   refine ⟨by simp[Atom.lt];omega,?_⟩
   show look _ i=_
   obtain ⟨j,rfl⟩: ∃j,i=env0.length+j:=⟨i-env0.length,by omega⟩
   rw[jl]
   exact fi _ _ _ (by rw[List.getElem?_map,show env0.length+j-env0.length=j by omega] at *;rw[h2];rfl)
  | _=>simp at h
def Kap.only(κ:Kap)(H:List (Nat×Blk)):Kap:={ κ with m:=fun b=>if (av H b).isSome then κ b else none }
theorem Bf{H:List (Nat×Blk)}{g:Nat}(h:Own (κ.only H) g):Own κ g:=by
 rcases h with h | ⟨b,h⟩
 ·exact .inl h
 ·simp only[Kap.only] at h
  split at h
  ·exact .inr ⟨b,h⟩
  ·cases h
theorem G1{H:List (Nat×Blk)}{b g:Nat}(h:yj (κ.only H) b g):yj κ b g:=by
 rcases h with h | ⟨b',hne,h⟩
 ·exact .inl h
 ·simp only[Kap.only] at h
  split at h
  ·exact .inr ⟨b',hne,h⟩
  ·cases h
theorem RP.only{H:List (Nat×Blk)}{p:PV}{v:Value}(h:RP w (Own κ) p v):RP w (Own (κ.only H)) p v:=h.mono fun g _ hn=>⟨rfl,fun h=>hn (Bf h)⟩
theorem uG{H':List (Nat×Blk)}{b:Nat}(h:(av H' b).isSome=true):(κ.only H') b=κ b:=by simp[Kap.only,h]
theorem vL{as:List Atom}{l:List PV}{t:Atom}(h:t.lt env0.length=true):t.lt (env0++as.map (den (env0++l))).length=true∧den (env0++as.map (den (env0++l))) t=den (env0++l) t :=
 ⟨Atom.lt_mono (by simp) h,by rw[ej _ _ _ h,ej _ _ _ h]⟩
section
variable {as:List Atom}{l:List PV}{H H':List (Nat×Blk)}(hH: ∀b blk',av H' b=some blk'→ ∃blk,av H b=some blk∧mW env0.length as blk' blk=true)
include hH
theorem AE{b es:Nat}{x:Atom}(h:(av H' b).isSome=true)(hb:av H b=some (.arr es x)) :
  ∃t,av H' b=some (.arr es t)∧t.lt (env0++as.map (den (env0++l))).length=true∧den (env0++as.map (den (env0++l))) t=den (env0++l) x:=by
 obtain ⟨blk',h1⟩:=Option.isSome_iff_exists.1 h
 obtain ⟨blk,h2,h3⟩:=hH b blk' h1
 rw[hb] at h2;cases h2
 cases blk' with
 | box cs=>simp[mW] at h3
 | arr es' t =>
  simp only[mW,Bool.and_eq_true,decide_eq_true_eq] at h3
  obtain ⟨rfl,h3⟩:=h3
  exact ⟨t,h1,kC h3⟩
theorem OD{b:Nat}{cs:List C}(h:(av H' b).isSome=true)(hb:av H b=some (.box cs)): ∃cs',av H' b=some (.box cs'):=by
 obtain ⟨blk',h1⟩:=Option.isSome_iff_exists.1 h
 obtain ⟨blk,h2,h3⟩:=hH b blk' h1
 rw[hb] at h2;cases h2
 cases blk' with
 | box cs=>exact ⟨cs,h1⟩
 | arr es' t=>simp[mW] at h3
theorem T6{c:Cap}{v:Value}(hlt:c.lt env0.length=true)(hn: ∀b∈c.names,(av H' b).isSome=true)(h:lh (env0++l) κ H w c v):lh (env0++as.map (den (env0++l))) (κ.only H') H' w c v:=by
 cases c with
 | «at» x =>
  obtain ⟨h1,h2⟩:=h
  obtain ⟨k1,k2⟩:=vL (l:=l) (t:=x) hlt
  exact ⟨k1,by rw[k2];exact h2.only⟩
 | ptr b off =>
  obtain ⟨cs,g,h1,h2,h3⟩:=h
  have hb:=hn b (by simp[Cap.names])
  obtain ⟨cs',h1'⟩:=OD hH hb h1
  exact ⟨cs',g,h1',by rw[uG hb];exact h2,h3⟩
 | agg xs =>
  obtain ⟨vs,rfl,h⟩:=h
  refine ⟨vs,rfl,h.impMem fun x u hx ⟨h1,h2⟩=>?_⟩
  simp only[Cap.lt,List.all_eq_true] at hlt
  obtain ⟨k1,k2⟩:=vL (l:=l) (t:=x) (hlt x hx)
  exact ⟨k1,by rw[k2];exact h2.only⟩
theorem Bg{t c:C}{v:Value}(h:Oj env0.length as t c=true)(hn: ∀b∈t.allNames,(av H' b).isSome=true)(hr:aR (env0++l) κ H w c v):aR (env0++as.map (den (env0++l))) (κ.only H') H' w t v:=by
 simp only[Oj,Bool.or_eq_true,Bool.and_eq_true,decide_eq_true_eq] at h
 rcases h with (rfl | ⟨rfl,hlt⟩) | h
 ·trivial
 ·cases t with
  | «at» x =>
   obtain ⟨h1,h2⟩:=hr
   obtain ⟨k1,k2⟩:=vL (l:=l) (t:=x) hlt
   exact ⟨k1,by rw[k2];exact h2.only⟩
  | nil0=>exact hr
  | own b =>
   have hb:=hn b (by simp[C.allNames])
   obtain ⟨es,x,xs,h1,h2,h3,h4⟩:=hr
   obtain ⟨t,k1,k2,k3⟩:=AE hH (l:=l) hb h1
   refine ⟨es,t,xs,k1,k2,k3.trans h3,?_⟩
   rw[uG hb]
   exact h4
  | bor b x =>
   have hb:=hn b (by simp[C.allNames])
   obtain ⟨h1,⟨es,x',h2⟩,h3⟩:=hr
   obtain ⟨t,k1,k2,k3⟩:=AE hH (l:=l) hb h2
   obtain ⟨k4,k5⟩:=vL (l:=l) (t:=x) hlt
   refine ⟨k4,⟨es,t,k1⟩,?_⟩
   rw[k5]
   exact h3.mono (fun g _ hn=>⟨rfl,fun h=>hn (Bf h)⟩) (fun g _ hn=>⟨rfl,fun h=>hn (G1 h)⟩)
  | ptr b off =>
   have hb:=hn b (by simp[C.allNames])
   obtain ⟨cs,g,h1,h2,h3⟩:=hr
   obtain ⟨cs',h1'⟩:=OD hH hb h1
   exact ⟨cs',g,h1',by rw[uG hb];exact h2,h3⟩
  | aptr b i off =>
   have hb:=hn b (by simp[C.allNames])
   obtain ⟨h0,es,x,xs,g,k,m,h1,h2,h3,h4,h5,h6⟩:=hr
   obtain ⟨t,k1,k2,k3⟩:=AE hH (l:=l) hb h1
   obtain ⟨k4,k5⟩:=vL (l:=l) (t:=i) hlt
   exact ⟨k4,es,t,xs,g,k,m,k1,k2,k3.trans h3,by rw[uG hb];exact h4,k5.trans h5,h6⟩
  | eptr bo li i off m =>
   simp only[C.lt,Bool.and_eq_true] at hlt
   obtain ⟨h1,h2,h3,ad,rfl,h4⟩:=hr
   obtain ⟨k1,k2⟩:=vL (l:=l) (t:=li) hlt.1
   obtain ⟨k3,k4⟩:=vL (l:=l) (t:=i) hlt.2
   refine ⟨k1,k3,fun b hb=>?_,ad,rfl,fun j hj=>?_⟩
   ·subst hb
    obtain ⟨es,x',h⟩:=h3 b rfl
    obtain ⟨t,q1,q2,q3⟩:=AE hH (l:=l) (hn b (by simp[C.allNames])) h
    exact ⟨es,t,q1⟩
   ·obtain ⟨h5,u,h6,h7⟩:=h4 j hj
    refine ⟨fun hx=>h5 ?_,u,h6,?_⟩
    ·cases bo with
     | none=>exact Bf hx
     | some b=>exact G1 hx
    ·have hd:den (env0++as.map (den (env0++l))) (.cell li i (off+j))=den (env0++l) (.cell li i (off+j)):=by simp only[den,k2,k4]
     rw[hd];exact h7.only
  | fn K caps =>
   obtain ⟨vs,rfl,h⟩:=hr
   simp only[C.lt,List.all_eq_true] at hlt
   refine ⟨vs,rfl,h.impMem fun c v hc hr=>T6 hH (hlt c hc) (fun b hb=>hn b ?_) hr⟩
   simp only[C.allNames,List.mem_flatMap];exact ⟨c,hc,hb⟩
  | undef=>exact hr
  | junk=>trivial
 ·cases t with
  | «at» t =>
   cases c with
   | «at» x =>
    obtain ⟨h1,h2⟩:=hr
    obtain ⟨k1,k2⟩:=kC (l:=l) h
    exact ⟨k1,by rw[k2];exact h2.only⟩
   | nil0 =>
    obtain ⟨A,rfl⟩:=hr
    obtain ⟨k1,k2⟩:=kC (l:=l) h
    exact ⟨k1,by rw[k2];exact RP.nil⟩
   | _=>simp at h
  | _=>simp at h
theorem qW: ∀ {ts cs:List C} {vs:List Value},vG env0.length as ts cs=true→(∀c∈ts,∀b∈c.allNames,(av H' b).isSome=true)→aw (aR (env0++l) κ H w) cs vs →
  aw (aR (env0++as.map (den (env0++l))) (κ.only H') H' w) ts vs
 | [],[],[],_,_,_=>trivial
 | t::ts,c::cs,v::vs,h,hn,hr=>by
  simp only[vG,Bool.and_eq_true] at h
  exact ⟨Bg hH h.1 (hn t (by simp)) hr.1,qW h.2 (fun c hc=>hn c (by simp[hc])) hr.2⟩
 | [],_::_,_,h,_,_=>by simp[vG] at h
 | _::_,[],_,h,_,_=>by simp[vG] at h
 | [],[],_::_,_,_,h=>h.elim
 | _::_,_::_,[],_,_,h=>h.elim
end
theorem lQ{l:List PV}(R:Rel B (env0++l) κ cs tm w){tmp:CS}{as:List Atom}(h:uz env0.length tmp cs=some as) :
  ∃κ',Rel B (env0++as.map (den (env0++l))) κ' tmp tm w∧tmp.fb=cs.fb∧tmp.nt=cs.nt∧tmp.d=env0.length+as.length:=by
 unfold uz at h
 simp only at h
 split at h
 ·rename_i hf
  cases h
  obtain ⟨κ1,R1,hS,hd⟩:=Ph R tmp
  generalize (fit tmp cs)=cs1 at *
  generalize (List.map (fun j=>(av (SN env0.length tmp cs1) (env0.length+j)).getD (.c .nil)) (List.range (tmp.d-env0.length)))=as at *
  simp only[U2,Bool.and_eq_true,decide_eq_true_eq,List.all_eq_true] at hf
  obtain ⟨⟨⟨⟨⟨⟨⟨⟨f1,f2⟩,f3⟩,f4⟩,f5⟩,f6⟩,f7⟩,f8⟩,f9⟩:=hf
  have hH: ∀b blk',av tmp.heap b=some blk'→ ∃blk,av cs1.heap b=some blk∧mW env0.length as blk' blk=true:=by
   intro b blk' hb
   have:=f2 (b,blk') (wY hb)
   simp only at this
   split at this
   ·rename_i blk h;exact ⟨blk,h,this⟩
   ·cases this
  simp only[Ok,Bool.and_eq_true,List.all_eq_true] at f7
  obtain ⟨n1,n2⟩:=f7
  refine ⟨κ1.only tmp.heap,?_,f4.trans hS.fb,f5.trans hS.nt,f3⟩
  exact {
   henv:=by simp[f3]
   hslot:=fun t sv h=>by
    have hm:=wY h
    refine ⟨?_,f8 _ hm⟩
    have h1:=f1 _ hm
    simp only at h1
    split at h1
    ·rename_i sv' hs
     have h2:=(R1.hslot t sv' hs).1
     have hn:=n1 _ hm
     simp only at hn
     cases sv with
     | one t =>
      cases sv' with
      | one c =>
       exact Bg hH h1 (fun b hb=>hn t (by simp[SV.allCells]) b (by rw[yq];exact hb)) h2
      | _=>simp[GB] at h1
     | agg ts =>
      cases sv' with
      | agg l' =>
       obtain ⟨vs,h3,h4⟩:=h2
       exact ⟨vs,h3,qW hH h1 (fun c hc b hb=>hn c (by simpa[SV.allCells] using hc) b (by rw[yq];exact hb)) h4⟩
      | _=>simp[GB] at h1
     | tup ps=>simp[GB] at h1
    ·cases h1
   hblk:=fun b blk' hb=>by
    obtain ⟨blk,h1,h2⟩:=hH b blk' hb
    have h3:=R1.hblk b blk h1
    have hsome:(av tmp.heap b).isSome=true:=by rw[hb];rfl
    have hn:=n2 _ (wY hb)
    cases blk' with
    | box ts =>
     cases blk with
     | box l' =>
      obtain ⟨g,cells,T,h4,h5,h6⟩:=h3
      refine ⟨g,cells,T,by rw[uG hsome];exact h4,h5,qW hH h2 (fun c hc b' hb'=>?_) h6⟩
      simp only[List.all_eq_true] at hn
      exact hn c hc b' (by rw[yq];exact hb')
     | arr es x=>simp[mW] at h2
    | arr es t =>
     cases blk with
     | box l'=>simp[mW] at h2
     | arr es' x =>
      simp only[mW,Bool.and_eq_true,decide_eq_true_eq] at h2
      obtain ⟨rfl,h2⟩:=h2
      obtain ⟨k1,k2⟩:=kC (l:=l) h2
      obtain ⟨h4,h5,xs,h6,h7,h8,h9⟩:=h3
      refine ⟨k1,h5,xs,k2.trans h6,h7,h8,?_⟩
      rw[uG hsome]
      rcases h9 with h9 | ⟨g,cells,T,c,m1,m2,m3,m4,m5⟩
      ·exact .inl h9
      ·refine .inr ⟨g,cells,T,c,m1,m2,m3,m4,fun i j hi hj=>?_⟩
       obtain ⟨u,hu,hru⟩:=m5 i j hi hj
       exact ⟨u,hu,hru.only⟩
   hκ:=fun b g h=>by
    simp only[Kap.only] at h
    split at h
    ·rename_i hs
     obtain ⟨_,h2,h3⟩:=R1.hκ b g h
     exact ⟨hs,h2,h3⟩
    ·cases h
   hinj:=fun b b' g h h'=>by
    simp only[Kap.only] at h h'
    split at h
    ·split at h'
     ·exact R1.hinj b b' g h h'
     ·cases h'
    ·cases h
   hknown:=fun x b h=>by rw[f6] at h;cases h
   hB:=R1.hB
   hoth:=R1.hoth
   hob:=R1.hob
   hgl:=R1.hgl
   hnf:=f9 }
 ·cases h
end
end Go.Xt
