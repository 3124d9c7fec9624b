/- Steps towards the statements of this seat; the conditions stand in each theorem. -/
import Derived.Tactics
import Derived.Test.YtahdphncepnbeaaGreatDoorXtI
set_option linter.unusedSimpArgs false
set_option linter.unusedVariables false
namespace Go.Xt
open Go.RowKit
structure ActOk (a:Act) (cs:CS) (tm:Nat→Value):Prop where
 siz:a.tmps.size=cs.nt
 dfr:a.defers=[]
 tmp: ∀t,t<cs.nt→a.tmps.getD t undef=tm (cs.fb+t)
def Ex.of:Ex→Exit
 | .normal=>.normal
 | .exit id=>.exit id
 | .ret=>.ret
structure Fr (cs cs':CS):Prop where
 fb:cs'.fb=cs.fb
 nt:cs'.nt=cs.nt
 nf:cs.nf≤cs'.nf
theorem Fr.refl(cs:CS):Fr cs cs:=⟨rfl,rfl,Nat.le_refl _⟩
theorem Fr.trans{a b c:CS}(h:Fr a b)(k:Fr b c):Fr a c:=⟨k.fb.trans h.fb,k.nt.trans h.nt,Nat.le_trans h.nf k.nf⟩
def qn{P:Program}(ρ:Fns)(B:Bas P)(env:List PV)(cs:CS)(tm:Nat→Value)(w:World)(n:Nat)(L:List (T×Nat))(r:List PV→Prop)(k:SV→CS→Option T)(v:Value)(w':World):Prop :=
 ∃l κ' cs' sv n' T' l2,k sv cs'=some T'∧n'≤n∧EvN ρ n' T' (env++l) (L++l2) r∧Rel B (env++l) κ' cs' tm w'∧bV (env++l) κ' cs'.heap w' sv v∧Below B w w'∧Fr cs cs'∧(L++l2).length=cs'.nl
def jd{P:Program}(ρ:Fns)(B:Bas P)(env:List PV)(cs:CS)(tm:Nat→Value)(w:World)(n:Nat)(L:List (T×Nat))(r:List PV→Prop)(k:CS→Option T)(a':Act)(w':World):Prop :=
 ∃l κ' cs' tm' n' T' l2,k cs'=some T'∧n'≤n∧EvN ρ n' T' (env++l) (L++l2) r∧Rel B (env++l) κ' cs' tm' w'∧ActOk a' cs' tm'∧(∀x,x<cs.fb→tm' x=tm x)∧Below B w w'∧Fr cs cs'∧(L++l2).length=cs'.nl
def dt(P:Program)(ρ:Fns)(f:CS→lf→Option T)(c:Code):Prop :=
 ∀ {B:Bas P} {env:List PV} {κ:Kap} {cs:CS} {tm:Nat→Value} {w:World} {a:Act} {L:List (T×Nat)} {r:List PV→Prop} {n:Nat} {k:lf} {T0:T},f cs k=some T0→EvN ρ n T0 env L r→Rel B env κ cs tm w→ActOk a cs tm→L.length=cs.nl →
  c.wp P (fun ex' a' w'=> ∃ex:Ex,ex'=ex.of∧jd ρ B env cs tm w n L r (k ex) a' w') a w
structure Ctx (P:Program) (tab:List Sig) (ρ:Fns):Prop where
 name: ∀(K:Nat) fn,P.funcs[K]? =some fn→(fn.name == "runtime.NumGoroutine")=false
 mixed:P.follows .mixedOrders=true
 ip: ∀(K:Nat) fin,AL tab K=some fin→(K2 tab K=false→zJ P K fin (ρ K))∧(fin=true→G0 P K (ρ K))
 tab: ∀(K:Nat) s,sM tab K=some s→s.K=K∧PureOK P s (ρ K)
section
variable {P:Program}{tab:List Sig}{inl:Code→CS→lf→Option T}{B:Bas P}{env env':List PV}{κ κ':Kap}{cs:CS}{tm:Nat→Value}{w w':World}{a:Act}{ρ:Fns}{L:List (T×Nat)}{r:List PV→Prop}
theorem sB.toV{n:Nat}{k:SV→CS→Option T}{v:Value}(hL:L.length=cs.nl)(h:sB ρ B env cs tm w n L r k v w'):qn ρ B env cs tm w n L r k v w':=by
 obtain ⟨l,κ',cs',sv,n',T',h1,h2,h3,h4,h5,h6,h7⟩:=h
 exact ⟨l,κ',cs',sv,n',T',[],h1,h2,by simpa using h3,h4,h5,h6,⟨h7.fb,h7.nt,h7.nf⟩,by simpa[h7.nl] using hL⟩
theorem Rel.put(R:Rel B env κ cs tm w)(A:ActOk a cs tm){dst:Option Tmp}(hd:gZ cs dst=true){sv:SV}{v:Value}(h:bV env κ cs.heap w sv v) :
  ∃tm',Rel B env κ (cs.put dst sv) tm' w∧ActOk (a.put dst v) (cs.put dst sv) tm'∧(∀x,x<cs.fb→tm' x=tm x):=by
 cases dst with
 | none=>exact ⟨tm,R,A,fun _ _=>rfl⟩
 | some d =>
  simp only[gZ,decide_eq_true_eq] at hd
  refine ⟨fun x=>if x=cs.fb+d then v else tm x,?_,?_,fun x hx=>if_neg (by omega)⟩
  ·exact {
    henv:=R.henv
    hslot:=fun t sv' h'=>by
     simp only[CS.put] at h'
     rw[yk] at h'
     split at h'
     ·rename_i e
      cases h'
      subst e
      simp only[if_true]
      exact ⟨h,Nat.lt_of_lt_of_le (Nat.add_lt_add_left hd _) R.hnf⟩
     ·rename_i e
      simp only[if_neg e]
      exact R.hslot t sv' h'
    hblk:=R.hblk
    hκ:=R.hκ
    hinj:=R.hinj
    hknown:=R.hknown
    hB:=R.hB
    hoth:=R.hoth
    hob:=R.hob
    hgl:=R.hgl
    hnf:=R.hnf }
  ·refine ⟨by simp[Act.put,CS.put,A.siz],A.dfr,fun t ht=>?_⟩
   simp only[Act.put,CS.put,Array.getD_eq_getD_getElem?,Array.getElem?_setIfInBounds]
   simp only[CS.put] at ht
   by_cases e:d=t
   ·subst e
    simp[A.siz,ht]
   ·have h1:=A.tmp t ht
    rw[Array.getD_eq_getD_getElem?] at h1
    have h2:cs.fb+t≠cs.fb+d:=fun h=>e (Nat.add_left_cancel h).symm
    rw[if_neg e,h1]
    exact (if_neg h2).symm
theorem Rel.known(R:Rel B env κ cs tm w){x:Atom}{b:Bool}(hx:x.lt cs.d=true)(hd:den env x=.bool b):Rel B env κ { cs with known:=(x,b)::cs.known } tm w :=
  { henv:=R.henv,hslot:=R.hslot,hblk:=R.hblk,hκ:=R.hκ,hinj:=R.hinj,hB:=R.hB,hoth:=R.hoth,hob:=R.hob,hgl:=R.hgl,hnf:=R.hnf
    hknown:=fun y c h=>by
      simp only[List.mem_cons,Prod.mk.injEq] at h
      rcases h with ⟨rfl,rfl⟩ | h
      · exact ⟨hx,hd⟩
      · exact R.hknown y c h }
theorem Bc{p:PV}{b:Bool}(h:K1 p=some b):p=.bool b:=by
 cases p<;>simp[K1] at h;subst h;rfl
theorem EvN.ite{n:Nat}{c:Atom}{t e:T}(h:EvN ρ n (.ite c t e) env L r): ∃n' b,n=n'+1∧den env c=.bool b∧EvN ρ n' (if b then t else e) env L r:=by
 cases n with
 | zero=>exact h.elim
 | succ n =>
  simp only[EvN] at h
  split at h
  ·rename_i hb;exact ⟨n,true,rfl,Bc hb,by simpa using h⟩
  ·rename_i hb;exact ⟨n,false,rfl,Bc hb,by simpa using h⟩
  ·exact h.elim
theorem jd.mono{n n':Nat}{k:CS→Option T}{cs1:CS}{tm1:Nat→Value}{w1:World}{l l2}{a':Act}(h:jd ρ B (env++l) cs1 tm1 w1 n' (L++l2) r k a' w')(hn:n'≤n)(hf:Fr cs cs1)
  (ht: ∀x,x<cs.fb→tm1 x=tm x) (hB:Below B w w1):jd ρ B env cs tm w n L r k a' w':=by
 obtain ⟨l',κ',cs',tm',n2,T',l2',h1,h2,h3,h4,h5,h6,h7,h8,h9⟩:=h
 refine ⟨l++l',κ',cs',tm',n2,T',l2++l2',h1,Nat.le_trans h2 hn,by simpa using h3,by simpa using h4,h5,fun x hx=>?_,hB.trans h7,hf.trans h8,by simpa using h9⟩
 rw[h6 x (by have:=hf.fb;omega),ht x hx]
theorem qS(R:Rel B env κ cs tm w)(A:ActOk a cs tm)(f:ResultVar→Sem Value)(hf: ∀u,f (.tmp u)=pure (a.tmps.getD u undef))(hc: ∀x t,f (.cell x t)=(do loadVar t (←asAddr (a.tmps.getD x undef)))) :
  ∀(rvs:List ResultVar) (ps:List (Bool×List C)),fh P cs rvs=some ps→ ∃us:List Value,aw (sR env κ cs.heap w) ps us∧(rvs.mapM f).run P w=.ok us w
 | [],ps,h=>by simp only[fh] at h;cases h;exact ⟨[],trivial,rfl⟩
 | .tmp t::rvs,ps,h=>by
  simp only[fh] at h
  obtain ⟨sv,h1,h2⟩:=Option.bind_eq_some_iff.1 h
  have hv:=aj R A.tmp h1
  have key: ∀(p:Bool×List C) (ps':List (Bool×List C)),fh P cs rvs=some ps'→sR env κ cs.heap w p (a.eval (.tmp t)) →
    ∃us:List Value,aw (sR env κ cs.heap w) (p::ps') us∧((ResultVar.tmp t::rvs).mapM f).run P w=.ok us w:=by
   intro p ps' h3 h4
   obtain ⟨us,h5,h6⟩:=qS R A f hf hc rvs ps' h3
   refine ⟨a.tmps.getD t undef::us,⟨h4,h5⟩,?_⟩
   rw[List.mapM_cons]
   simp only[hf,Sem.run_bind,Sem.run_pure,Result.andThen_ok,h6]
  split at h2
  ·obtain ⟨ps',h3,rfl⟩:=Option.map_eq_some_iff.1 h2
   exact key _ _ h3 ⟨_,rfl,hv⟩
  ·obtain ⟨ps',h3,rfl⟩:=Option.map_eq_some_iff.1 h2
   exact key _ _ h3 hv
  ·cases h2
 | .cell t ty::rvs,ps,h=>by
  simp only[fh] at h
  obtain ⟨sv,h1,h2⟩:=Option.bind_eq_some_iff.1 h
  have hv:=aj R A.tmp h1
  split at h2
  ·split at h2
   ·rename_i p hu
    obtain ⟨d,hd⟩:=Option.isSome_iff_exists.1 hu
    obtain ⟨l,h3,h4⟩:=Option.bind_eq_some_iff.1 h2
    obtain ⟨ps',h5,rfl⟩:=Option.map_eq_some_iff.1 h4
    obtain ⟨us,h6,h7⟩:=qS R A f hf hc rvs ps' h5
    have hv':aR env κ cs.heap w p (a.tmps.getD t undef):=hv
    obtain ⟨ad,vs,k1,k2,k3,k4⟩:=yY R h3 hv'
    have key: ∀u,sR env κ cs.heap w (aD P ty,l) u→(loadVar ty ad).run P w=.ok u w →
      ∃us:List Value,aw (sR env κ cs.heap w) ((aD P ty,l)::ps') us∧((ResultVar.cell t ty::rvs).mapM f).run P w=.ok us w:=by
     intro u hp hl
     refine ⟨u::us,⟨hp,h6⟩,?_⟩
     rw[List.mapM_cons]
     simp only[hc,Sem.run_bind,k1,asAddr,Sem.run_pure,Result.andThen_ok,hl,h7]
    by_cases hg:aD P ty=true
    ·rw[if_pos hg] at k2
     refine key (.agg vs.toArray) (by rw[hg];exact ⟨vs.toArray,rfl,by simpa using k4⟩) ?_
     have:=run_loadCells_list (P:=P) w ad vs k3
     rw[k2] at this
     simp[loadVar,ql hd,hg,ek (mY hd),this]
    ·have hg':aD P ty=false:=by simpa using hg
     rw[if_neg hg] at k2
     obtain ⟨u,rfl⟩: ∃u,vs=[u]:=by
      match vs,k2 with
      | [u],_=>exact ⟨u,rfl⟩
     obtain ⟨c,rfl⟩: ∃c,l=[c]:=by
      match l,k4.length with
      | [c],_=>exact ⟨c,rfl⟩
     refine key u (by rw[hg'];exact ⟨c,rfl,k4.1⟩) ?_
     have k5:=k3 0 u rfl
     have k6:ad.add 0=ad:=by simp[Addr.add]
     rw[k6] at k5
     simp[loadVar,ql hd,hg',k5]
   ·cases h2
  ·cases h2
theorem tc(R:Rel B env κ cs tm w)(A:ActOk a cs tm){fn:Func}{ps:List (Bool×List C)}(h:fh P cs fn.results.toList=some ps) :
  ∃us:List Value,aw (sR env κ cs.heap w) ps us∧(results fn a.tmps).run P w=.ok (Pd us) w:=by
 have key: ∀f:ResultVar→Sem Value,(∀u,f (.tmp u)=pure (a.tmps.getD u undef))→(∀x t,f (.cell x t)=(do loadVar t (←asAddr (a.tmps.getD x undef)))) →
   ∃us:List Value,aw (sR env κ cs.heap w) ps us∧(fn.results.mapM f).run P w=.ok us.toArray w:=by
  intro f hf hc
  obtain ⟨us,h1,h2⟩:=qS R A f hf hc _ _ h
  refine ⟨us,h1,?_⟩
  rw[show fn.results=fn.results.toList.toArray by simp,List.mapM_toArray]
  simp only[Sem.run_map,h2]
  rfl
 unfold results
 obtain ⟨us,h1,h2⟩:=key (fun | .tmp t=>pure (a.tmps.getD t undef) | .cell x t=>do loadVar t (←asAddr (a.tmps.getD x undef))) (fun _=>rfl) (fun _ _=>rfl)
 refine ⟨us,h1,?_⟩
 simp only[Sem.run_bind]
 erw [h2]
 simp only[Result.andThen_ok,Sem.run_pure]
 match us with
 | []=>rfl
 | [u]=>rfl
 | u::v::us=>simp[Pd]
end
end Go.Xt
