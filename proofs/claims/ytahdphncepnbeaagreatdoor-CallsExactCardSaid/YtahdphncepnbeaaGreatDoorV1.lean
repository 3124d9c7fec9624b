/- Steps towards the statements of this seat; the conditions stand in each theorem. -/
import Derived.Test.YtahdphncepnbeaaGreatDoorXt20
set_option linter.unusedSimpArgs false
set_option linter.unusedVariables false
namespace Go.Xt
@[reducible] def x7:Nat→Type
 | 0=>Prop
 | n+1=>PV→x7 n
def cur:(n:Nat)→(List PV→Prop)→x7 n
 | 0,f=>f []
 | n+1,f=>fun x=>cur n fun l=>f (x::l)
def app:(n:Nat)→x7 n→List PV→Prop
 | 0,f,_=>f
 | n+1,f,x::l=>app n (f x) l
 | _+1,_,[]=>False
def OP(o:POp)(as:List PV)(k:PV→Prop):Prop:= ∃v,ev o as=some v∧k v
def ITE(c:PV)(a b:Prop):Prop:= ∃x,c=.bool x∧(x=true→a)∧(x=false→b)
def CALL(ρ:Fns)(K:Nat)(as:List PV)(m:Nat)(k:x7 m):Prop:= ∃rs,ρ K as=some rs∧rs.length=m∧app m k rs
def SUB(m:Nat)(B:(List PV→Prop)→Prop)(k:x7 m):Prop :=
 (∃rs,rs.length=m∧B (· =rs)∧app m k rs)∨B (fun rs=>rs.length=m∧app m k rs)
def ax(m:Nat)(init:List PV)(B:(List PV→Prop)→x7 m):Prop :=
 ∃(α:Type) (enc:α→List PV) (J:α→Prop) (μ:α→Nat) (a0:α),init=enc a0∧J a0 ∧
  ∀a,J a→(enc a).length=m∧app m (B fun vs=> ∃a',vs=enc a'∧J a'∧μ a'<μ a) (enc a)
def Bp(l:PV)(neg:Bool)(k:PV→Prop):Prop:= ∃xs,l=.list xs∧ ∀b:Bool,(b=true→xs=[])→k (.bool (if neg then !b else b))
theorem x8: ∀(n:Nat) (f:List PV→Prop) (l:List PV),l.length=n→app n (cur n f) l=f l
 | 0,f,[],_=>rfl
 | n+1,f,x::l,h=>x8 n (fun l=>f (x::l)) l (by simpa using h)
 | 0,_,_::_,h=>by simp at h
 | n+1,_,[],h=>by simp at h
def atL:List (List PV→Prop)→Nat→List PV→Prop
 | [],_,_=>False
 | N::_,0,vs=>N vs
 | _::r,n+1,vs=>atL r n vs
theorem Qk: ∀ {Ks:List (List PV→Prop)} {l:Nat} {vs:List PV},atL Ks l vs→ ∃N,Ks[l]? =some N∧N vs
 | [],_,_,h=>h.elim
 | N::_,0,vs,h=>⟨N,rfl,h⟩
 | _::r,n+1,vs,h=>by simpa using Qk (Ks:=r) h
def W(ρ:Fns):T→List PV→List (List PV→Prop)→(List PV→Prop)→Prop
 | .ret as,env,_,Q=>Q (as.map (den env))
 | .op o as k,env,Ks,Q=>OP o (as.map (den env)) fun v=>W ρ k (env++[v]) Ks Q
 | .ite c t e,env,Ks,Q=>ITE (den env c) (W ρ t env Ks Q) (W ρ e env Ks Q)
 | .call K as m k,env,Ks,Q=>CALL ρ K (as.map (den env)) m (cur m fun rs=>W ρ k (env++rs) Ks Q)
 | .loop as b,env,Ks,Q=>ax as.length (as.map (den env)) fun N=>cur as.length fun vs=>W ρ b (env++vs) (Ks++[N]) Q
 | .next l as,env,Ks,_=>atL Ks l (as.map (den env))
 | .sub t m k,env,Ks,Q=>SUB m (fun R=>W ρ t env [] R) (cur m fun rs=>W ρ k (env++rs) Ks Q)
 | .nilq a neg k,env,Ks,Q=>Bp (den env a) neg fun v=>W ρ k (env++[v]) Ks Q
 | .alt t u,env,Ks,Q=>W ρ t env Ks Q∧W ρ u env Ks Q
 | .stop _,_,_,_=>False
theorem EvN.mono(ρ:Fns): ∀(n:Nat) {m:Nat} {t:T} {env:List PV} {L:List (T×Nat)} {Q Q':List PV→Prop},n≤m→(∀r,Q r→Q' r)→EvN ρ n t env L Q→EvN ρ m t env L Q'
 | 0,_,_,_,_,_,_,_,_,h=>h.elim
 | n+1,0,_,_,_,_,_,hm,_,_=>by omega
 | n+1,m+1,t,env,L,Q,Q',hm,hQ,h=>by
  have ih:=fun {t env L Q Q'}=>@EvN.mono ρ n m t env L Q Q' (by omega)
  cases t with
  | ret as=>exact hQ _ h
  | op o as k =>
   simp only[EvN] at h ⊢
   split at h
   ·rename_i v hv;exact ih hQ h
   ·exact h.elim
  | ite c t e =>
   simp only[EvN] at h ⊢
   split at h
   ·exact ih hQ h
   ·exact ih hQ h
   ·exact h.elim
  | call K as q k =>
   simp only[EvN] at h ⊢
   split at h
   ·exact ⟨h.1,fun hg=>ih hQ (h.2 hg)⟩
   ·exact h.elim
  | loop as b=>exact ih hQ h
  | next l as =>
   simp only[EvN] at h ⊢
   split at h
   ·exact ih hQ h
   ·exact h.elim
  | sub t q k=>exact ih (fun rs h=>⟨h.1,ih hQ h.2⟩) h
  | nilq x neg k =>
   simp only[EvN] at h ⊢
   split at h
   ·exact fun b hb=>ih hQ (h b hb)
   ·exact h.elim
  | alt t u=>exact ⟨ih hQ h.1,ih hQ h.2⟩
  | stop cs=>exact h.elim
theorem EvN.cont(ρ:Fns): ∀(n:Nat) {t:T} {env:List PV} {L:List (T×Nat)} {P:Nat→List PV→Prop},(∀i j r,i≤j→P i r→P j r)→EvN ρ n t env L (fun r=> ∃j,P j r)→ ∃j,EvN ρ n t env L (P j)
 | 0,_,_,_,_,_,h=>h.elim
 | n+1,t,env,L,P,hP,h=>by
  have ih:=fun {t env L P}=>@EvN.cont ρ n t env L P
  cases t with
  | ret as=>exact h
  | op o as k =>
   simp only[EvN] at h ⊢
   split at h
   ·rename_i v hv;exact ih hP h
   ·exact h.elim
  | ite c t e =>
   simp only[EvN] at h ⊢
   split at h
   ·exact ih hP h
   ·exact ih hP h
   ·exact h.elim
  | call K as q k =>
   simp only[EvN] at h ⊢
   split at h
   ·rename_i rs hr
    by_cases hg: ∀p∈rs,sA p
    ·obtain ⟨j,hj⟩:=ih hP (h.2 hg)
     exact ⟨j,h.1,fun _=>hj⟩
    ·exact ⟨0,h.1,fun hh=>absurd hh hg⟩
   ·exact h.elim
  | loop as b=>exact ih hP h
  | next l as =>
   simp only[EvN] at h ⊢
   split at h
   ·exact ih hP h
   ·exact h.elim
  | sub t q k =>
   simp only[EvN] at h ⊢
   have h1:EvN ρ n t env [] (fun rs=> ∃j,rs.length=q∧EvN ρ n k (env++rs) L (P j)) :=
    EvN.mono ρ n (Nat.le_refl _) (fun rs hr=>by obtain ⟨j,hj⟩:=ih hP hr.2;exact ⟨j,hr.1,hj⟩) h
   exact ih (P:=fun j rs=>rs.length=q∧EvN ρ n k (env++rs) L (P j)) (fun i j rs hij hr=>⟨hr.1,EvN.mono ρ n (Nat.le_refl _) (fun r h=>hP i j r hij h) hr.2⟩) h1
  | nilq x neg k =>
   simp only[EvN] at h ⊢
   split at h
   ·rename_i xs hx
    by_cases hxs:xs=[]
    ·obtain ⟨i,hi⟩:=ih hP (h true (fun _=>hxs))
     obtain ⟨j,hj⟩:=ih hP (h false (fun h=>by cases h))
     refine ⟨i+j,fun b hb=>?_⟩
     cases b with
     | true=>exact EvN.mono ρ n (Nat.le_refl _) (fun r hr=>hP i (i+j) r (by omega) hr) hi
     | false=>exact EvN.mono ρ n (Nat.le_refl _) (fun r hr=>hP j (i+j) r (by omega) hr) hj
    ·obtain ⟨j,hj⟩:=ih hP (h false (fun h=>by cases h))
     refine ⟨j,fun b hb=>?_⟩
     cases b with
     | true=>exact absurd (hb rfl) hxs
     | false=>exact hj
   ·exact h.elim
  | alt t u =>
   obtain ⟨i,hi⟩:=ih hP h.1
   obtain ⟨j,hj⟩:=ih hP h.2
   exact ⟨i+j,EvN.mono ρ n (Nat.le_refl _) (fun r hr=>hP i (i+j) r (by omega) hr) hi,EvN.mono ρ n (Nat.le_refl _) (fun r hr=>hP j (i+j) r (by omega) hr) hj⟩
  | stop cs=>exact h.elim
def OI(ρ:Fns)(env:List PV)(Ks:List (List PV→Prop))(L:List (T×Nat))(Q:List PV→Prop):Prop :=
 Ks.length=L.length∧ ∀(l:Nat) (Kp:List PV→Prop),Ks[l]? =some Kp→ ∃b m,L[l]? =some (b,m)∧m≤env.length∧ ∀vs,Kp vs→ ∃n,EvN ρ n b (env.take m++vs) (L.take (l+1)) Q
theorem OI.grow{ρ:Fns}{env:List PV}{Ks:List (List PV→Prop)}{L:List (T×Nat)}{Q:List PV→Prop}(h:OI ρ env Ks L Q)(l:List PV):OI ρ (env++l) Ks L Q:=by
 refine ⟨h.1,fun i Kp hi=>?_⟩
 obtain ⟨b,m,h1,h2,h3⟩:=h.2 i Kp hi
 refine ⟨b,m,h1,by simp;omega,fun vs hv=>?_⟩
 rw[List.take_append_of_le_length h2]
 exact h3 vs hv
theorem W.sound(ρ:Fns): ∀(t:T) (env:List PV) (Ks:List (List PV→Prop)) (L:List (T×Nat)) (Q:List PV→Prop),W ρ t env Ks Q→OI ρ env Ks L Q→ ∃n,EvN ρ n t env L Q
 | .ret as,env,Ks,L,Q,h,_=>⟨1,h⟩
 | .op o as k,env,Ks,L,Q,h,H=>by
  obtain ⟨v,h1,h2⟩:=h
  obtain ⟨n,h4⟩:=W.sound ρ k _ Ks L Q h2 (H.grow [v])
  exact ⟨n+1,by simp only[EvN,h1];exact h4⟩
 | .ite c t e,env,Ks,L,Q,h,H=>by
  obtain ⟨b,h1,h2,h3⟩:=h
  cases b with
  | true =>
   obtain ⟨n,h5⟩:=W.sound ρ t _ Ks L Q (h2 rfl) H
   exact ⟨n+1,by simp only[EvN,h1,K1];exact h5⟩
  | false =>
   obtain ⟨n,h5⟩:=W.sound ρ e _ Ks L Q (h3 rfl) H
   exact ⟨n+1,by simp only[EvN,h1,K1];exact h5⟩
 | .call K as m k,env,Ks,L,Q,h,H=>by
  obtain ⟨rs,h1,h2,h3⟩:=h
  rw[x8 m _ rs h2] at h3
  obtain ⟨n,h5⟩:=W.sound ρ k _ Ks L Q h3 (H.grow rs)
  exact ⟨n+1,by simp only[EvN,h1];exact ⟨h2,fun _=>h5⟩⟩
 | .loop as b,env,Ks,L,Q,h,H=>by
  obtain ⟨α,enc,J,μ,a0,h1,h2,h3⟩:=h
  have key: ∀(k:Nat) (a:α),μ a=k→J a→ ∃n,EvN ρ n b (env++enc a) (L++[(b,env.length)]) Q:=by
   intro k
   induction k using Nat.strongRecOn with
   | _ k ih =>
    intro a ha hI
    obtain ⟨hl0,h4⟩:=h3 a hI
    rw[x8 as.length _ _ hl0] at h4
    refine W.sound ρ b _ _ _ Q h4 ⟨by simp[H.1],fun l Kp hl=>?_⟩
    by_cases e:l<Ks.length
    ·rw[List.getElem?_append_left e] at hl
     obtain ⟨b',m,q1,q2,q3⟩:=H.2 l Kp hl
     have hlL:l<L.length:=by rw[←H.1];exact e
     refine ⟨b',m,by rw[List.getElem?_append_left hlL];exact q1,by simp;omega,fun vs hv=>?_⟩
     rw[List.take_append_of_le_length q2,List.take_append_of_le_length (by omega)]
     exact q3 vs hv
    ·have hle:Ks.length≤l:=by omega
     rw[List.getElem?_append_right hle] at hl
     have e0:l=Ks.length:=by
      rcases Nat.eq_zero_or_pos (l-Ks.length) with h0 | h0
      ·omega
      ·rw[List.getElem?_eq_none (by simp;omega)] at hl;cases hl
     subst e0
     simp at hl
     subst hl
     refine ⟨b,env.length,by rw[H.1,List.getElem?_append_right (Nat.le_refl _)];simp,by simp,fun vs hv=>?_⟩
     obtain ⟨a',rfl,hI',hlt⟩:=hv
     have ht:(env++enc a).take env.length=env:=by simp
     have hL:(L++[(b,env.length)]).take (Ks.length+1)=L++[(b,env.length)]:=by rw[H.1];exact List.take_of_length_le (by simp)
     rw[ht,hL]
     exact ih (μ a') (by omega) a' rfl hI'
  obtain ⟨n,h5⟩:=key _ a0 rfl h2
  exact ⟨n+1,by simp only[EvN];rw[h1];exact h5⟩
 | .next l as,env,Ks,L,Q,h,H=>by
  obtain ⟨Kp,h1,h2⟩:=Qk h
  obtain ⟨b,m,q1,q2,q3⟩:=H.2 l Kp h1
  obtain ⟨n,h4⟩:=q3 _ h2
  exact ⟨n+1,by simp only[EvN,q1];exact h4⟩
 | .sub t m k,env,Ks,L,Q,h,H=>by
  have h:SUB m (fun R=>W ρ t env [] R) (cur m fun rs=>W ρ k (env++rs) Ks Q):=h
  unfold SUB at h
  have h3: ∃n1,EvN ρ n1 t env [] (fun rs=> ∃j,rs.length=m∧EvN ρ j k (env++rs) L Q):=by
   rcases h with ⟨rs,h1,h2,h3⟩ | h
   ·obtain ⟨n1,h4⟩:=W.sound ρ t env [] [] _ h2 ⟨rfl,fun l Kp hl=>by simp at hl⟩
    rw[x8 m _ rs h1] at h3
    obtain ⟨j,hj⟩:=W.sound ρ k _ Ks L Q h3 (H.grow rs)
    exact ⟨n1,EvN.mono ρ n1 (Nat.le_refl _) (fun r hr=>by subst hr;exact ⟨j,h1,hj⟩) h4⟩
   ·obtain ⟨n1,h4⟩:=W.sound ρ t env [] [] _ h ⟨rfl,fun l Kp hl=>by simp at hl⟩
    refine ⟨n1,EvN.mono ρ n1 (Nat.le_refl _) (fun rs hr=>?_) h4⟩
    obtain ⟨h1,h3⟩:=hr
    rw[x8 m _ rs h1] at h3
    obtain ⟨j,hj⟩:=W.sound ρ k _ Ks L Q h3 (H.grow rs)
    exact ⟨j,h1,hj⟩
  obtain ⟨n1,h4⟩:=h3
  obtain ⟨j,h5⟩:=EvN.cont ρ n1 (P:=fun j rs=>rs.length=m∧EvN ρ j k (env++rs) L Q) (fun i j rs hij hr=>⟨hr.1,EvN.mono ρ i hij (fun _ h=>h) hr.2⟩) h4
  exact ⟨n1+j+1,EvN.mono ρ n1 (m:=n1+j) (by omega) (fun rs hr=>⟨hr.1,EvN.mono ρ j (by omega) (fun _ h=>h) hr.2⟩) h5⟩
 | .nilq x neg k,env,Ks,L,Q,h,H=>by
  obtain ⟨xs,h1,h2⟩:=h
  by_cases hxs:xs=[]
  ·obtain ⟨i,hi⟩:=W.sound ρ k _ Ks L Q (h2 true (fun _=>hxs)) (H.grow [_])
   obtain ⟨j,hj⟩:=W.sound ρ k _ Ks L Q (h2 false (fun h=>by cases h)) (H.grow [_])
   refine ⟨i+j+1,?_⟩
   simp only[EvN,h1]
   intro b hb
   cases b with
   | true=>exact EvN.mono ρ i (by omega) (fun r hr=>hr) hi
   | false=>exact EvN.mono ρ j (by omega) (fun r hr=>hr) hj
  ·obtain ⟨j,hj⟩:=W.sound ρ k _ Ks L Q (h2 false (fun h=>by cases h)) (H.grow [_])
   refine ⟨j+1,?_⟩
   simp only[EvN,h1]
   intro b hb
   cases b with
   | true=>exact absurd (hb rfl) hxs
   | false=>exact hj
 | .alt t u,env,Ks,L,Q,h,H=>by
  obtain ⟨i,hi⟩:=W.sound ρ t env Ks L Q h.1 H
  obtain ⟨j,hj⟩:=W.sound ρ u env Ks L Q h.2 H
  exact ⟨i+j+1,EvN.mono ρ i (by omega) (fun _ h=>h) hi,EvN.mono ρ j (by omega) (fun _ h=>h) hj⟩
 | .stop _,_,_,_,_,h,_=>h.elim
open Classical in
noncomputable def qq{α:Type}(pre:α→Prop)(g h:α→List PV)(ps:List PV):Option (List PV) :=
 if e: ∃a,pre a∧g a=ps then some (h e.choose) else none
theorem lR{α:Type}{pre:α→Prop}{g h:α→List PV}(hg: ∀a b,g a=g b→a=b){a:α}(hp:pre a):qq pre g h (g a)=some (h a):=by
 unfold qq
 have e: ∃b,pre b∧g b=g a:=⟨a,hp,rfl⟩
 rw[dif_pos e]
 rw[hg _ _ e.choose_spec.2]
theorem gC{α:Type}{pre:α→Prop}{g h:α→List PV}{ps rs:List PV}(hf:qq pre g h ps=some rs): ∃a,pre a∧ps=g a∧rs=h a:=by
 unfold qq at hf
 split at hf
 ·rename_i e
  cases hf
  exact ⟨_,e.choose_spec.1,e.choose_spec.2.symm,rfl⟩
 ·cases hf
def ag:List PV→Prop
 | []=>True
 | p::r=>sA p∧ag r
theorem ag.of: ∀ {l:List PV},(∀p∈l,sA p)→ag l
 | [],_=>trivial
 | p::r,h=>⟨h p (by simp),ag.of fun q hq=>h q (by simp[hq])⟩
theorem PureOK.of_e{P:Program}{tab:List Sig}{hs:aa}{ρ:Fns}(X:Ctx P tab ρ){fuel:Nat}{s:Sig}{α γ:Type}{pre:α→Prop}{g h:α→List PV}{F:T→γ}{S:γ}
  (hscal:(∀a,∀p∈h a,p.scalar=true)∨((P.funcs[s.K]?).map fun fn=>fn.resultTypes.toList.all (fe P))=some false)
  (hflat:s.flat=false∨ ∀a,wT s.own (h a))
  (he:(GJ P tab hs fuel s).map F=some S)
  (hW: ∀t,F t=S→ ∀a,pre a→ag (g a)→W ρ t (g a) [] (· =h a)):PureOK P s (qq pre g h):=by
 obtain ⟨t,ht,hF⟩:=Option.map_eq_some_iff.1 he
 refine GX X ht ?_ (fun hfl ps rs hps=>?_) ?_
 ·intro fn hf hall ps rs hps p hp
  obtain ⟨a,_,_,rfl⟩:=gC hps
  rcases hscal with h1 | h1
  ·exact h1 a p hp
  ·rw[hf] at h1;simp only[Option.map_some,Option.some.injEq] at h1;rw[hall] at h1;cases h1
 ·obtain ⟨a,_,_,rfl⟩:=gC hps
  rcases hflat with h1 | h1
  ·rw[h1] at hfl;cases hfl
  ·exact h1 a
 ·intro ps rs hps hg
  obtain ⟨a,hp,rfl,rfl⟩:=gC hps
  exact W.sound ρ t _ [] [] _ (hW t hF a hp (ag.of hg)) ⟨rfl,fun l Kp hl=>by simp at hl⟩
theorem G7: ∀ {tab:List Sig} {K:Nat} {s:Sig},sM tab K=some s→s∈tab∧s.K=K∧s.ip=none
 | [],_,_,h=>by simp[sM] at h
 | x::r,K,s,h=>by
  simp only[sM] at h
  split at h
  ·rename_i hc;cases h;exact ⟨by simp,hc.1,hc.2⟩
  ·obtain ⟨h1,h2⟩:=G7 h
   exact ⟨by simp[h1],h2⟩
theorem Kw: ∀ {tab:List Sig} {K:Nat} {fin:Bool},AL tab K=some fin→ ∃s∈tab,s.K=K∧s.ip=some fin∧K2 tab K= !s.own.isEmpty
 | [],_,_,h=>by simp[AL] at h
 | x::r,K,fin,h=>by
  simp only[AL] at h
  simp only[K2]
  split at h
  ·rename_i hc;exact ⟨x,by simp,hc.1,h,by rw[if_pos hc]⟩
  ·rename_i hc
   obtain ⟨s,h1,h2,h3,h4⟩:=Kw h
   exact ⟨s,by simp[h1],h2,h3,by rw[if_neg hc];exact h4⟩
def bZ(P:Program)(s:Sig)(f:List PV→Option (List PV)):Prop :=
 match s.ip with
 | none=>PureOK P s f
 | some fin=>if (!s.own.isEmpty)=true then G0 P s.K f else zJ P s.K fin f
theorem Ctx.of{P:Program}{tab:List Sig}{ρ:Fns} (ab:(P.funcs.toList.all fun fn=> !(fn.name == "runtime.NumGoroutine"))=true) (aq:P.follows .mixedOrders=true) (h: ∀s∈tab,bZ P s (ρ s.K)):Ctx P tab ρ where
 name:=fun K fn hf=>by
  have:=List.all_eq_true.1 ab fn (by rw[←Array.getElem?_toList] at hf;exact List.mem_of_getElem? hf)
  simpa using this
 mixed:=aq
 ip:=fun K fin hs=>by
  obtain ⟨s,h1,h2,h3,h4⟩:=Kw hs
  subst h2
  have:=h s h1
  unfold bZ at this
  rw[h3] at this
  dsimp only at this
  rw[h4]
  cases ho:(!s.own.isEmpty) with
  | true=>rw[ho,if_pos rfl] at this;exact ⟨fun h=>(by cases h),fun _=>this⟩
  | false =>
   rw[ho,if_neg (by simp)] at this
   exact ⟨fun _=>this,fun hf=>by subst hf;exact this.nil⟩
 tab:=fun K s hs=>by
  obtain ⟨h1,h2,h3⟩:=G7 hs
  subst h2
  have:=h s h1
  unfold bZ at this
  rw[h3] at this
  exact ⟨rfl,this⟩
end Go.Xt
