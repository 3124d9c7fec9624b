/- Steps towards the statements of this seat; the conditions stand in each theorem. -/
import Derived.Deep.Quiet
import Derived.Test.YtahdphncepnbeaaGreatDoorXt13
set_option linter.unusedSimpArgs false
set_option linter.unusedVariables false
namespace Go.Xt
open Go.RowKit
section
variable {P:Program}{tab:List Sig}{inl:Code→CS→lf→Option T}{B:Bas P}{env env':List PV}{κ κ':Kap}{cs:CS}{tm:Nat→Value}{w w':World}{a:Act}{ρ:Fns}{L:List (T×Nat)}{r:List PV→Prop}
def asB:Value→Option Bool
 | .bool b=>some b
 | _=>none
theorem ll(ops:List Oper)(tmps:Array Value)(j:Nat)(d:Tmp)(v:Value)(hj:(ops[j]?).bind (·.dst)=some d)(hv:tmps.getD d undef=v)(hd:d<tmps.size) :
  yielded ops.toArray tmps j=asB v:=by
 have:tmps[d]? =some v:=by
  rw[Array.getD_eq_getD_getElem?] at hv
  rw[Array.getElem?_eq_getElem hd] at hv ⊢
  simpa using hv
 simp only[yielded,List.getElem?_toArray,hj,Option.bind_some,this]
 cases v<;>rfl
theorem uX(X:Ctx P tab ρ)(hI: ∀c,dt P ρ (inl c) c)(ops:List Oper){Q:Exit→Act→World→Prop}{k:CS→Option T}: ∀(rest:List Oper) {env:List PV} {κ:Kap} {cs:CS} {tm:Nat→Value} {w:World} {a:Act} {L:List (T×Nat)} {n:Nat} {T0:T},
  ci P tab inl ops rest cs k=some T0→EvN ρ n T0 env L r→Rel B env κ cs tm w→ActOk a cs tm→L.length=cs.nl →
  (∀a' w',jd ρ B env cs tm w n L r k a' w'→Q .normal a' w')→wpList P ops.toArray Q rest a w
 | [],env,κ,cs,tm,w,a,L,n,T0,h,hev,R,A,hL,hQ=>by
  simp only[ci] at h
  exact hQ a w ⟨[],κ,cs,tm,n,T0,[],h,Nat.le_refl _,by simpa using hev,by simpa using R,A,fun _ _=>rfl,Below.refl _ _,Fr.refl _,by simpa using hL⟩
 | o::rest,env,κ,cs,tm,w,a,L,n,T0,h,hev,R,A,hL,hQ=>by
  have ih:=@uX X hI ops Q k rest
  simp only[ci] at h
  split at h
  ·cases h
  ·rename_i hdst
   have hdst':gZ cs o.dst=true:=by simpa using hdst
   have run: ∀ {cs1:CS} {n1:Nat} {T1:T},Fr cs cs1→cs1.nl=cs.nl→gZ cs1 o.dst=true→n1≤n→je P tab inl o cs1 (fun v cs2=>ci P tab inl ops rest (cs2.put o.dst v) k)=some T1→EvN ρ n1 T1 env L r→Rel B env κ cs1 tm w→ActOk a cs1 tm →
     o.wp P a w (wpList P ops.toArray Q rest) Q:=by
    intro cs1 n1 T1 hF1 hnl hd1 hn1 h1 hev1 R1 A1
    refine wX X hI R1 A1 (by rw[hnl];exact hL) h1 hev1 ?_
    rintro v w' ⟨l,κ',cs',sv,n',T',l2,k1,k2,k3,k4,k5,k6,k7,k8⟩ - -
    have A2:ActOk a cs' tm:=⟨by rw[A1.siz,k7.nt],A1.dfr,fun t ht=>by rw[A1.tmp t (by rw[←k7.nt];exact ht),k7.fb]⟩
    obtain ⟨tm',k9,k10,k11⟩:=k4.put A2 (dst:=o.dst) (by cases hd:o.dst with
     | none=>rfl
     | some d=>rw[hd] at hd1;simp only[gZ,decide_eq_true_eq] at hd1 ⊢;rw[k7.nt];exact hd1) k5
    have hput:Fr cs' (cs'.put o.dst sv):=by cases o.dst<;>exact ⟨rfl,rfl,Nat.le_refl _⟩
    refine ih k1 k3 k9 k10 (by rw[k8];cases o.dst<;>rfl) fun a' w2 hg=>hQ a' w2 ?_
    exact hg.mono (Nat.le_trans k2 hn1) ((hF1.trans k7).trans hput) (fun x hx=>k11 x (by rw[k7.fb,hF1.fb];exact hx)) k6
   have skip: ∀ {cs1:CS} {n1:Nat} {T1:T},Fr cs cs1→cs1.nl=cs.nl→gZ cs1 o.dst=true→n1≤n→ci P tab inl ops rest (cs1.put o.dst (.one .undef)) k=some T1→EvN ρ n1 T1 env L r→Rel B env κ cs1 tm w→ActOk a cs1 tm →
     wpList P ops.toArray Q rest (a.put o.dst undef) w:=by
    intro cs1 n1 T1 hF1 hnl hd1 hn1 h1 hev1 R1 A1
    obtain ⟨tm',k9,k10,k11⟩:=R1.put A1 (dst:=o.dst) hd1 (sv:=.one .undef) (v:=undef) rfl
    have hput:Fr cs1 (cs1.put o.dst (.one .undef)):=by cases o.dst<;>exact ⟨rfl,rfl,Nat.le_refl _⟩
    refine ih h1 hev1 k9 k10 (by rw[hL,←hnl];cases o.dst<;>rfl) fun a' w2 hg=>hQ a' w2 ?_
    have hg':jd ρ B (env++[]) (cs1.put o.dst (.one .undef)) tm' w n1 (L++[]) r k a' w2:=by simpa using hg
    exact hg'.mono hn1 (hF1.trans hput) (fun x hx=>k11 x (by rw[hF1.fb];exact hx)) (Below.refl _ _)
   unfold wpList
   split at h
   ·rename_i hgu
    rw[if_pos (by simp[Region.wanted,hgu])]
    exact .inl (run (Fr.refl _) rfl hdst' (Nat.le_refl _) h hev R A)
   ·rename_i j want hgu
    split at h
    ·cases h
    ·rename_i d hd
     split at h
     ·rename_i x hx
      have hx':d<cs.nt∧bV env κ cs.heap w (.one (.at x)) (a.tmps.getD d undef):=by
       refine ⟨?_,aj R A.tmp hx⟩
       simp only[az] at hx
       split at hx
       ·assumption
       ·cases hx
      obtain ⟨hdl,hxl,hxr⟩:=hx'
      have both: ∀ {b:Bool} {cs1:CS} {n1:Nat} {T1:T},den env x=.bool b→Fr cs cs1→cs1.nl=cs.nl→n1≤n→(if b=want then je P tab inl o cs1 fun v cs1=>ci P tab inl ops rest (cs1.put o.dst v) k
        else ci P tab inl ops rest (cs1.put o.dst (.one .undef)) k)=some T1→EvN ρ n1 T1 env L r→Rel B env κ cs1 tm w→ActOk a cs1 tm →
        if Region.wanted o (yielded ops.toArray a.tmps)=true then o.wp P a w (wpList P ops.toArray Q rest) Q∨o.asks P a w∧LetsOut Q else wpList P ops.toArray Q rest (a.put o.dst undef) w:=by
       intro b cs1 n1 T1 hb hF1 hnl hn1 h1 hev1 R1 A1
       have hv:a.tmps.getD d undef=.bool b:=qL hxr hb
       have hy:=ll ops a.tmps j d _ hd hv (by rw[A.siz];exact hdl)
       have hd1:gZ cs1 o.dst=true:=by cases hd:o.dst with
        | none=>rfl
        | some d=>rw[hd] at hdst';simp only[gZ,decide_eq_true_eq] at hdst' ⊢;rw[hF1.nt];exact hdst'
       simp only[Region.wanted,hgu,hy,asB]
       by_cases e:b=want
       ·rw[if_pos e] at h1
        rw[if_pos (by simp[e])]
        exact .inl (run hF1 hnl hd1 hn1 h1 hev1 R1 A1)
       ·rw[if_neg e] at h1
        rw[if_neg (by simp[e])]
        exact skip hF1 hnl hd1 hn1 h1 hev1 R1 A1
      split at h
      ·rename_i b hk
       exact both (iL R hk) (Fr.refl _) rfl (Nat.le_refl _) h hev R A
      ·obtain ⟨t,h1,h2⟩:=Option.bind_eq_some_iff.1 h
       obtain ⟨e,h3,h4⟩:=Option.bind_eq_some_iff.1 h2
       cases h4
       obtain ⟨n',b,rfl,h5,h6⟩:=hev.ite
       have Rk:=R.known (by rw[←R.henv];exact hxl) h5
       have Ak:ActOk a { cs with known:=(x,b)::cs.known } tm:=⟨A.siz,A.dfr,A.tmp⟩
       cases b with
       | true=>exact both (cs1:={ cs with known:=(x,true)::cs.known }) h5 ⟨rfl,rfl,Nat.le_refl _⟩ rfl (Nat.le_succ _) h1 h6 Rk Ak
       | false=>exact both (cs1:={ cs with known:=(x,false)::cs.known }) h5 ⟨rfl,rfl,Nat.le_refl _⟩ rfl (Nat.le_succ _) h3 h6 Rk Ak
     ·rename_i hx
      have hv:=aj R A.tmp hx
      have hdl:d<cs.nt:=by
       simp only[az] at hx
       split at hx
       ·assumption
       ·cases hx
      have hv':a.tmps.getD d undef=undef:=hv
      have hy:=ll ops a.tmps j d _ hd hv' (by rw[A.siz];exact hdl)
      simp only[Region.wanted,hgu,hy,asB]
      rw[if_neg (by simp[undef,asB])]
      exact skip (Fr.refl _) rfl hdst' (Nat.le_refl _) h hev R A
     ·cases h
end
end Go.Xt
