/- Steps towards the statements of this seat; the conditions stand in each theorem. -/
import Derived.Test.YtahdphncepnbeaaGreatDoorXtS1
set_option linter.unusedSimpArgs false
set_option linter.unusedVariables false
namespace Go.Xt
open Go.RowKit
section
variable {P:Program}{tab:List Sig}{inl:Code→CS→lf→Option T}{B:Bas P}{env env':List PV}{κ κ':Kap}{cs:CS}{tm:Nat→Value}{w w':World}{a:Act}{ρ:Fns}{L:List (T×Nat)}{r:List PV→Prop}
theorem Dj(R:Rel B env κ cs tm w)(A:ActOk a cs tm)(hL:L.length=cs.nl){o:Oper}(hqo:AP P o=true){k:SV→CS→Option T}{T0:T}{n:Nat}
  (h:je P tab inl o cs k=some T0) (hev:EvN ρ n T0 env L r) :
  ∃v,(∀w1,ky a.eval o w w1→(execOp a.eval o).run P w1=.ok (.value v) w1)∧qn ρ B env cs tm w n L r k v w:=by
 unfold je at h
 unfold AP at hqo
 split at h
 ·rename_i f args ats ho
  rw[ho] at hqo
  simp at hqo
 ·rename_i x args ats hne ho
  rw[ho] at hqo
  simp at hqo
 ·rename_i op ho1 ho2
  split at h
  ·rename_i sv hA
   obtain ⟨v,h1,h2⟩:=nr R A.tmp hA
   exact ⟨v,h1,sB.toV hL ⟨[],κ,cs,sv,n,T0,h,Nat.le_refl _,by simpa using hev,by simpa using R,by simpa using h2,Below.refl _ _,Same.refl _⟩⟩
  ·rename_i pop as f hA
   obtain ⟨t',h1,rfl⟩:=lk h
   obtain ⟨m,p,rfl,h2,h3⟩:=hev.op
   obtain ⟨v,h4,h5⟩:=nr R A.tmp hA p h2
   rw[R.henv] at h5
   exact ⟨v,h4,sB.toV hL ⟨[p],κ,_,_,m,t',h1,Nat.le_succ _,h3,R.grow [p] (fun _ _=>rfl) (Nat.le_refl _),h5,Below.refl _ _,⟨rfl,rfl,rfl,Nat.le_refl _⟩⟩⟩
  ·exfalso
   unfold AM at h
   generalize o.op=op at *
   cases op with
   | store=>simp at hqo
   | alloc=>simp at hqo
   | box=>simp at hqo
   | buildSlice=>simp at hqo
   | makeSlice=>simp at hqo
   | panic=>simp at hqo
   | nilCheck x =>
    simp only at h
    split at h
    ·cases h
     cases n<;>exact hev.elim
    ·cases h
   | binOp op t x y u =>
    simp only[Option.isNone_iff_eq_none] at hqo
    split at h
    all_goals first
     | (cases h;done)
     | (rename_i heq;cases heq;done)
     | skip
    rename_i heq
    cases heq
    rw[hqo] at h
    split at h
    ·rename_i h3;cases h3
    ·cases h
   | call c =>
    obtain ⟨callee,args,ats⟩:=c
    cases callee with
    | builtin b=>cases b<;>simp_all
    | value x=>simp at h
    | invoke=>simp at h
   | _=>simp at h
def G4(tab:List Sig)(o:Oper)(a:Act)(w w':World):Prop:=w'=w∨((yX tab o=true→Below w.heap.size w w')∧uN o a w w'∧w.heap.size≤w'.heap.size)
theorem qn.below{n:Nat}{k:SV→CS→Option T}{v:Value}(h:qn ρ B env cs tm w n L r k v w'):Below B w w':=by
 obtain ⟨l,κ',cs',sv,n',T',l2,k1,k2,k3,k4,k5,k6,k7,k8⟩:=h
 exact k6
theorem uY(X:Ctx P tab ρ)(hI: ∀c,dt P ρ (inl c) c)(ops:Array Oper){Q:Exit→Act→World→Prop}{S:Act→World→Prop}{k:CS→Option T}{i:Nat}{b:Bool}(hi:i<ops.size)(hqb:b=true→AP P (ops.getD i default)=true){n:Nat}{T0:T}
  (h:ci P tab inl ops.toList [ops.getD i default] cs k=some T0) (hev:EvN ρ n T0 env L r) (R:Rel B env κ cs tm w) (A:ActOk a cs tm) (hL:L.length=cs.nl)
  (hQ: ∀v w',jd ρ B env cs tm w n L r k (a.put (ops.getD i default).dst v) w'→S (a.put (ops.getD i default).dst v) w') :
  if b then ∃oi v,ops[i]? =some oi∧YieldsIf P ops (fun w1=>ky a.eval (ops.getD i default) w w1) oi v a∧S (a.put oi.dst v) w
  else wpOp P ops Q i (fun a' w'=>((∃v,a'=a.put (ops.getD i default).dst v)∧G4 tab (ops.getD i default) a w w')∧S a' w') a w:=by
  have hoi:ops[i]? =some (ops.getD i default):=by simp[hi]
  generalize ho:ops.getD i default=o at *
  simp only[ci] at h
  split at h
  ·cases h
  ·rename_i hdst
   have hdst':gZ cs o.dst=true:=by simpa using hdst
   have after: ∀ {cs1:CS} {n1:Nat} {v:Value} {w2:World},Fr cs cs1→cs1.nl=cs.nl→gZ cs1 o.dst=true→n1≤n→ActOk a cs1 tm →
     qn ρ B env cs1 tm w n1 L r (fun v cs2=>k (cs2.put o.dst v)) v w2→S (a.put o.dst v) w2:=by
    rintro cs1 n1 v w2 hF1 hnl hd1 hn1 A1 ⟨l,κ',cs',sv,n',T',l2,k1,k2,k3,k4,k5,k6,k7,k8⟩
    have A2:ActOk a cs' tm:=⟨by rw[A1.siz,k7.nt],A1.dfr,fun t ht=>by rw[A1.tmp t (by rw[←k7.nt];exact ht),k7.fb]⟩
    obtain ⟨tm',k9,k10,k11⟩:=k4.put A2 (dst:=o.dst) (by cases hd:o.dst with
     | none=>rfl
     | some d=>rw[hd] at hd1;simp only[gZ,decide_eq_true_eq] at hd1 ⊢;rw[k7.nt];exact hd1) k5
    have hput:Fr cs' (cs'.put o.dst sv):=by cases o.dst<;>exact ⟨rfl,rfl,Nat.le_refl _⟩
    refine hQ _ _ ?_
    exact ⟨l,κ',cs'.put o.dst sv,tm',n',T',l2,k1,Nat.le_trans k2 hn1,k3,k9,k10,fun x hx=>k11 x (by rw[k7.fb,hF1.fb];exact hx),k6,(hF1.trans k7).trans hput,by rw[k8];cases o.dst<;>rfl⟩
   have runT: ∀ {cs1:CS} {n1:Nat} {T1:T},b=true→Region.wanted o (yielded ops a.tmps)=true→Fr cs cs1→cs1.nl=cs.nl→gZ cs1 o.dst=true→n1≤n→je P tab inl o cs1 (fun v cs2=>k (cs2.put o.dst v))=some T1→EvN ρ n1 T1 env L r→Rel B env κ cs1 tm w→ActOk a cs1 tm →
     ∃oi v,ops[i]? =some oi∧YieldsIf P ops (fun w1=>ky a.eval o w w1) oi v a∧S (a.put oi.dst v) w:=by
    intro cs1 n1 T1 hb hw hF1 hnl hd1 hn1 h1 hev1 R1 A1
    obtain ⟨v,h2,h3⟩:=Dj R1 A1 (by rw[hnl];exact hL) (hqb hb) h1 hev1
    exact ⟨o,v,hoi,.inl ⟨hw,fun w1 hS=>h2 w1 hS⟩,after hF1 hnl hd1 hn1 A1 h3⟩
   have runF: ∀ {cs1:CS} {n1:Nat} {T1:T},b=false→Region.wanted o (yielded ops a.tmps)=true→Fr cs cs1→cs1.nl=cs.nl→gZ cs1 o.dst=true→n1≤n→je P tab inl o cs1 (fun v cs2=>k (cs2.put o.dst v))=some T1→EvN ρ n1 T1 env L r→Rel B env κ cs1 tm w→ActOk a cs1 tm →
     wpOp P ops Q i (fun a' w'=>((∃v,a'=a.put o.dst v)∧G4 tab o a w w')∧S a' w') a w:=by
    intro cs1 n1 T1 hb hw hF1 hnl hd1 hn1 h1 hev1 R1 A1
    unfold wpOp
    rw[hoi]
    simp only[hw,if_true]
    exact .inl (wX X hI R1 A1 (by rw[hnl];exact hL) h1 hev1 fun v w2 hg hB hW=>⟨⟨⟨v,rfl⟩,.inr ⟨hB,hW,hg.below.size⟩⟩,after hF1 hnl hd1 hn1 A1 hg⟩)
   have run: ∀ {cs1:CS} {n1:Nat} {T1:T},Region.wanted o (yielded ops a.tmps)=true→Fr cs cs1→cs1.nl=cs.nl→gZ cs1 o.dst=true→n1≤n→je P tab inl o cs1 (fun v cs2=>k (cs2.put o.dst v))=some T1→EvN ρ n1 T1 env L r→Rel B env κ cs1 tm w→ActOk a cs1 tm →
     (if b=true then ∃oi v,ops[i]? =some oi∧YieldsIf P ops (fun w1=>ky a.eval o w w1) oi v a∧S (a.put oi.dst v) w else wpOp P ops Q i (fun a' w'=>((∃v,a'=a.put o.dst v)∧G4 tab o a w w')∧S a' w') a w):=by
    intro cs1 n1 T1 hw hF1 hnl hd1 hn1 h1 hev1 R1 A1
    by_cases hb:b=true
    ·rw[if_pos hb];exact runT hb hw hF1 hnl hd1 hn1 h1 hev1 R1 A1
    ·rw[if_neg hb];exact runF (by simpa using hb) hw hF1 hnl hd1 hn1 h1 hev1 R1 A1
   have skip: ∀ {cs1:CS} {n1:Nat} {T1:T},Region.wanted o (yielded ops a.tmps)=false→Fr cs cs1→cs1.nl=cs.nl→gZ cs1 o.dst=true→n1≤n→k (cs1.put o.dst (.one .undef))=some T1→EvN ρ n1 T1 env L r→Rel B env κ cs1 tm w→ActOk a cs1 tm →
     (if b=true then ∃oi v,ops[i]? =some oi∧YieldsIf P ops (fun w1=>ky a.eval o w w1) oi v a∧S (a.put oi.dst v) w else wpOp P ops Q i (fun a' w'=>((∃v,a'=a.put o.dst v)∧G4 tab o a w w')∧S a' w') a w):=by
    intro cs1 n1 T1 hw hF1 hnl hd1 hn1 h1 hev1 R1 A1
    obtain ⟨tm',k9,k10,k11⟩:=R1.put A1 (dst:=o.dst) hd1 (sv:=.one .undef) (v:=undef) rfl
    have hput:Fr cs1 (cs1.put o.dst (.one .undef)):=by cases o.dst<;>exact ⟨rfl,rfl,Nat.le_refl _⟩
    have hrest:S (a.put o.dst undef) w:=by
     refine hQ _ _ ?_
     exact ⟨[],κ,cs1.put o.dst (.one .undef),tm',n1,T1,[],h1,hn1,by simpa using hev1,by simpa using k9,k10,fun x hx=>k11 x (by rw[hF1.fb];exact hx),Below.refl _ _,hF1.trans hput,by rw[List.append_nil,hL,←hnl];cases o.dst<;>rfl⟩
    by_cases hb:b=true
    ·rw[if_pos hb];exact ⟨o,undef,hoi,.inr ⟨hw,rfl⟩,hrest⟩
    ·rw[if_neg hb]
     unfold wpOp
     rw[hoi]
     simp only[hw,Bool.false_eq_true,if_false]
     exact ⟨⟨⟨undef,rfl⟩,.inl rfl⟩,hrest⟩
   split at h
   ·rename_i hgu
    exact run (by simp[Region.wanted,hgu]) (Fr.refl _) rfl hdst' (Nat.le_refl _) h hev R A
   ·rename_i j want hgu
    split at h
    ·cases h
    ·rename_i d hd
     have toA:ops.toList.toArray=ops:=by simp
     split at h
     ·rename_i x hx
      have hx':d<cs.nt∧bV env κ cs.heap w (.one (.at x)) (a.tmps.getD d undef):=by
       refine ⟨?_,aj R A.tmp hx⟩
       simp only[az] at hx
       split at hx
       ·assumption
       ·cases hx
      obtain ⟨hdl,hxl,hxr⟩:=hx'
      have both: ∀ {b':Bool} {cs1:CS} {n1:Nat} {T1:T},den env x=.bool b'→Fr cs cs1→cs1.nl=cs.nl→n1≤n→(if b'=want then je P tab inl o cs1 fun v cs1=>k (cs1.put o.dst v)
        else k (cs1.put o.dst (.one .undef)))=some T1→EvN ρ n1 T1 env L r→Rel B env κ cs1 tm w→ActOk a cs1 tm →
        (if b=true then ∃oi v,ops[i]? =some oi∧YieldsIf P ops (fun w1=>ky a.eval o w w1) oi v a∧S (a.put oi.dst v) w else wpOp P ops Q i (fun a' w'=>((∃v,a'=a.put o.dst v)∧G4 tab o a w w')∧S a' w') a w):=by
       intro b' cs1 n1 T1 hb hF1 hnl hn1 h1 hev1 R1 A1
       have hv:a.tmps.getD d undef=.bool b':=qL hxr hb
       have hy:=ll ops.toList a.tmps j d _ hd hv (by rw[A.siz];exact hdl)
       rw[toA] at hy
       have hd1:gZ cs1 o.dst=true:=by cases hd:o.dst with
        | none=>rfl
        | some d=>rw[hd] at hdst';simp only[gZ,decide_eq_true_eq] at hdst' ⊢;rw[hF1.nt];exact hdst'
       by_cases e:b'=want
       ·rw[if_pos e] at h1
        exact run (by simp[Region.wanted,hgu,hy,asB,e]) hF1 hnl hd1 hn1 h1 hev1 R1 A1
       ·rw[if_neg e] at h1
        exact skip (by simp[Region.wanted,hgu,hy,asB,e]) hF1 hnl hd1 hn1 h1 hev1 R1 A1
      split at h
      ·rename_i b' hk
       exact both (iL R hk) (Fr.refl _) rfl (Nat.le_refl _) h hev R A
      ·obtain ⟨t,h1,h2⟩:=Option.bind_eq_some_iff.1 h
       obtain ⟨e,h3,h4⟩:=Option.bind_eq_some_iff.1 h2
       cases h4
       obtain ⟨n',b',rfl,h5,h6⟩:=hev.ite
       have Rk:=R.known (by rw[←R.henv];exact hxl) h5
       have Ak:ActOk a { cs with known:=(x,b')::cs.known } tm:=⟨A.siz,A.dfr,A.tmp⟩
       cases b' with
       | true=>exact both (cs1:={ cs with known:=(x,true)::cs.known }) h5 ⟨rfl,rfl,Nat.le_refl _⟩ rfl (Nat.le_succ _) h1 h6 Rk Ak
       | false=>exact both (cs1:={ cs with known:=(x,false)::cs.known }) h5 ⟨rfl,rfl,Nat.le_refl _⟩ rfl (Nat.le_succ _) h3 h6 Rk Ak
     ·rename_i hx
      have hv:=aj R A.tmp hx
      have hdl:d<cs.nt:=by
       simp only[az] at hx
       split at hx
       ·assumption
       ·cases hx
      have hv':a.tmps.getD d undef=undef:=hv
      have hy:=ll ops.toList a.tmps j d _ hd hv' (by rw[A.siz];exact hdl)
      rw[toA] at hy
      exact skip (by simp[Region.wanted,hgu,hy,asB,undef]) (Fr.refl _) rfl hdst' (Nat.le_refl _) h hev R A
     ·cases h
def N7(a:Act)(w:World)(pt:List (Tmp×Nat))(pr:List (Nat×Nat)):Prop :=
 ∀p∈pr,∃q∈pt,q.2=p.2∧p.1<w.heap.size∧ ∃ad:Addr,a.tmps.getD q.1 undef=.pointer (some ad)∧ad.block=p.1
theorem Qj{a:Act}{dst:Option Tmp}{v:Value}{t:Tmp}(h:dst≠some t):(a.put dst v).tmps.getD t undef=a.tmps.getD t undef:=by
 cases dst with
 | none=>rfl
 | some d =>
  have:d≠t:=fun e=>h (by rw[e])
  simp only[Act.put,Array.getD_eq_getD_getElem?]
  rw[Array.getElem?_setIfInBounds_ne this]
theorem N7.put{pt pr}(h:N7 a w pt pr){dst:Option Tmp}(hd:pt.all (fun p=>decide (dst≠some p.1))=true)(v:Value)(hs:w.heap.size≤w'.heap.size):N7 (a.put dst v) w' pt pr:=by
 intro p hp
 obtain ⟨q,h1,h2,h3,ad,h4,h5⟩:=h p hp
 have:=List.all_eq_true.1 hd q h1
 exact ⟨q,h1,h2,by omega,ad,by rw[Qj (by simpa using this)];exact h4,h5⟩
theorem GW(R:Rel B env κ cs tm w)(A:ActOk a cs tm){x:Operand}{bo:Option Nat}(h:AO cs x=some bo){ad:Addr}(hv:a.eval x=.pointer (some ad)) :
  (∀b,bo≠some b→κ b≠some ad.block):=by
 unfold AO at h
 split at h
 ·rename_i b off hx
  cases h
  obtain ⟨_,g,_,h2,h3⟩:=aj R A.tmp hx
  rw[hv] at h3;cases h3
  intro b' hb hk
  exact hb (by rw[R.hinj _ _ _ h2 hk])
 ·rename_i b i off hx
  cases h
  obtain ⟨_,es,_,_,g,kk,m,_,_,_,h2,_,_,_,h3⟩:=aj R A.tmp hx
  rw[hv] at h3;cases h3
  intro b' hb hk
  exact hb (by rw[R.hinj _ _ _ h2 hk])
 ·rename_i bo' l i off m hx
  split at h
  ·rename_i hlt
   cases h
   obtain ⟨_,_,_,ad',h3,h4⟩:=aj R A.tmp hx
   rw[hv] at h3;cases h3
   have h5:=(h4 0 (by omega)).1
   intro b' hb hk
   cases bo with
   | none=>exact h5 (.inr ⟨b',hk⟩)
   | some b=>exact h5 (.inr ⟨b',fun e=>hb (by rw[e]),hk⟩)
  ·cases h
 ·cases h
theorem N8(R:Rel B env κ cs tm w)(A:ActOk a cs tm){x:Operand}{b:Nat}(h:MO cs x=some b){ad:Addr}(hv:a.eval x=.pointer (some ad)):κ b=some ad.block:=by
 unfold MO at h
 split at h
 ·rename_i b off hx
  cases h
  obtain ⟨_,g,_,h2,h3⟩:=aj R A.tmp hx
  rw[hv] at h3;cases h3
  exact h2
 ·rename_i b i off hx
  cases h
  obtain ⟨_,es,_,_,g,kk,m,_,_,_,h2,_,_,_,h3⟩:=aj R A.tmp hx
  rw[hv] at h3;cases h3
  exact h2
 ·cases h
theorem Pi(R:Rel B env κ cs tm w)(A:ActOk a cs tm){pt pr}(hp:N7 a w pt pr){i:Nat}{o:Oper}(h:GF tab pt cs i o=true)(he:G4 tab o a w w'):Eff pr i w w':=by
 intro p hm hC
 rcases he with rfl | ⟨h1,h2,h3⟩
 ·rfl
 ·obtain ⟨q,k1,k2,k3,ad,k4,k5⟩:=hp p hm
  have h4:=List.all_eq_true.1 h q k1
  simp only[Bool.and_eq_true,Bool.or_eq_true,Bool.not_eq_true',k2,hC,Bool.true_eq_false,false_or,Bool.false_eq_true] at h4
  rcases h4.2 with h5 | h5
  ·exact (h1 h5).block p.1 k3
  ·split at h5
   ·rename_i t y x ho
    obtain ⟨ad2,k6,k7⟩:=h2 _ _ _ ho
    unfold On at h5
    split at h5
    ·rename_i r b hr hb
     simp only[decide_eq_true_eq] at h5
     have q1:=N8 R A hb k6
     have q2:=GW R A hr (show a.eval (.tmp q.1)=_ from k4) b h5
     refine k7 p.1 fun e=>q2 ?_
     rw[q1,←e,k5]
    ·cases h5
   ·cases h5
theorem md(X:Ctx P tab ρ)(hI: ∀c,dt P ρ (inl c) c)(ops:Array Oper){Q:Exit→Act→World→Prop}{k:CS→Option T}{ok:Nat→Bool}(hok:ok=fun i=>AP P (ops.getD i default)): ∀(s:Sched) (ch:Bool) (listed:Nat) (pt:List (Tmp×Nat)) (pr:List (Nat×Nat)) {env:List PV} {κ:Kap} {cs:CS} {tm:Nat→Value} {w:World} {a:Act} {L:List (T×Nat)} {n:Nat} {T0:T},
  jC ops ok ch s listed=true→N7 a w pt pr→AR P tab inl ops s listed pt cs k=some T0→EvN ρ n T0 env L r→Rel B env κ cs tm w→ActOk a cs tm→L.length=cs.nl →
  (∀a' w',jd ρ B env cs tm w n L r k a' w'→Q .normal a' w')→GV P ops Q s listed pr a w
 | .done,ch,listed,pt,pr,env,κ,cs,tm,w,a,L,n,T0,_,_,h,hev,R,A,hL,hQ =>
  hQ a w ⟨[],κ,cs,tm,n,T0,[],h,Nat.le_refl _,by simpa using hev,by simpa using R,A,fun _ _=>rfl,Below.refl _ _,Fr.refl _,by simpa using hL⟩
 | .stop,ch,listed,pt,pr,env,κ,cs,tm,w,a,L,n,T0,_,_,h,hev,R,A,hL,hQ=>trivial
 | .take i s,ch,listed,pt,pr,env,κ,cs,tm,w,a,L,n,T0,hs,hp,h,hev,R,A,hL,hQ=>by
  simp only[jC,Bool.and_eq_true,decide_eq_true_eq] at hs
  obtain ⟨⟨⟨⟨⟨_,h0⟩,h1⟩,_⟩,_⟩,h3⟩:=hs
  unfold AR at h
  by_cases hc:GH ops listed pt i=true
  ·rw[if_pos hc] at h
   unfold GH at hc
   simp only[Bool.or_eq_true,Bool.and_eq_true,Bool.not_eq_true'] at hc
   obtain ⟨hc1,hc2⟩:=hc
   generalize hpt:GG ops listed pt i=pt' at h hc2
   unfold GG at hpt
   have hprot: ∃(pr':List (Nat×Nat)) (S:World→Prop),(∀p∈pr,p∈pr')∧N7 a w pt' pr'∧S w∧(∀j w1 w2,(uU ops i listed).testBit j=true→Eff pr' j w1 w2→S w1→S w2)∧(∀w1,S w1→ky a.eval (ops.getD i default) w w1):=by
    have weak:N7 a w pt' pr:=by
     intro p hm
     obtain ⟨q,k1,k2⟩:=hp p hm
     refine ⟨q,?_,k2⟩
     rw[←hpt]
     split
     ·exact List.mem_cons_of_mem _ k1
     ·exact k1
    by_cases hg: ∃g,g<w.heap.size∧FW a.eval (ops.getD i default)=some g
    ·obtain ⟨g,hg1,hg2⟩:=hg
     refine ⟨(g,uU ops i listed)::pr,fun w1=>w1.heap[g]? =w.heap[g]?,fun p hm=>by simp[hm],?_,rfl,fun j w1 w2 hj he h1=>(he (g,uU ops i listed) (List.mem_cons_self ..) hj).trans h1,fun w1 h1 g' _ hg'=>?_⟩
     ·intro p hm
      rcases List.mem_cons.1 hm with rfl | hm
      ·have hld:ML (ops.getD i default)=true:=by
        unfold FW at hg2
        unfold ML
        split at hg2
        ·rename_i ho;rw[ho]
        ·cases hg2
       rw[hld] at hc1
       cases hl:Oo (ops.getD i default) with
       | none=>rw[hl] at hc1;simp at hc1
       | some t =>
        rw[hl] at hpt
        refine ⟨(t,uU ops i listed),by rw[←hpt];simp,rfl,hg1,?_⟩
        unfold Oo at hl
        split at hl
        ·rename_i ho
         cases hl
         unfold FW at hg2
         rw[ho] at hg2
         simp only at hg2
         split at hg2
         ·rename_i ad had
          cases hg2
          exact ⟨ad,had,rfl⟩
         ·cases hg2
        ·cases hl
      ·exact weak p hm
     ·rw[hg2] at hg';cases hg';exact h1
    ·exact ⟨pr,fun _=>True,fun _ h=>h,weak,trivial,fun _ _ _ _ _ h=>h,fun w1 _ g h2 h3=>absurd ⟨g,h2,h3⟩ hg⟩
   obtain ⟨pr',S,q1,q2,q3,q4,q5⟩:=hprot
   have:=uY X hI ops (Q:=Q) (S:=fun a' w'=>w'=w→GV P ops Q s (Nat.lor listed (2 ^ i)) pr' a' w') (b:=true) h0 (fun _=>by rw[hok] at h1;exact h1) h hev R A hL (by
    rintro v w' ⟨l,κ',cs',tm',n',T',l2,k1,k2,k3,k4,k5,k6,k7,k8,k9⟩ rfl
    exact md X hI ops hok s false _ pt' pr' h3 (q2.put hc2 v (Nat.le_refl _)) k1 k3 k4 k5 k9 fun a2 w2 hg=>hQ a2 w2 (hg.mono k2 k8 k6 k7))
   rw[if_pos rfl] at this
   obtain ⟨oi,v,j1,j2,j3⟩:=this
   refine ⟨oi,v,pr',S,j1,q1,?_,q3,q4,j3 rfl⟩
   exact j2.imp (fun hh=>⟨hh.1,fun w1 hS=>hh.2 w1 (q5 w1 hS)⟩) id
  ·rw[if_neg hc] at h;cases h
 | .alt i s more,ch,listed,pt,pr,env,κ,cs,tm,w,a,L,n,T0,hs,hp,h,hev,R,A,hL,hQ=>by
  simp only[jC,Bool.and_eq_true,decide_eq_true_eq] at hs
  obtain ⟨⟨⟨h0,_⟩,h2⟩,h3⟩:=hs
  unfold AR at h
  by_cases hk:GF tab pt cs i (ops.getD i default)=true
  ·rw[if_pos hk] at h
   have hds:pt.all (fun p=>decide ((ops.getD i default).dst≠some p.1))=true:=by
    rw[List.all_eq_true];intro p hm
    have:=List.all_eq_true.1 hk p hm
    simp only[Bool.and_eq_true] at this
    exact this.1
   obtain ⟨t,h4,h5⟩:=Option.bind_eq_some_iff.1 h
   have one: ∀ {n'},n'≤n→EvN ρ n' t env L r→wpOp P ops Q i (fun a' w'=>Eff pr i w w'∧GV P ops Q s (Nat.lor listed (2 ^ i)) pr a' w') a w:=by
    intro n' hn ht
    have:=uY X hI ops (Q:=Q) (S:=fun a' w'=>(∃v,a'=a.put (ops.getD i default).dst v)→w.heap.size≤w'.heap.size→GV P ops Q s (Nat.lor listed (2 ^ i)) pr a' w') (b:=false) h0 (fun h=>by cases h) h4 ht R A hL (by
     rintro v w' ⟨l,κ',cs',tm',n2,T',l2,k1,k2,k3,k4,k5,k6,k7,k8,k9⟩-hsz
     exact md X hI ops hok s false _ pt pr h2 (hp.put hds v hsz) k1 k3 k4 k5 k9 fun a2 w2 hg=>hQ a2 w2 (hg.mono (Nat.le_trans k2 hn) k8 k6 k7))
    rw[if_neg (by simp)] at this
    refine wpOp_mono ?_ this
    rintro a' w' ⟨⟨m1,m2⟩,m3⟩
    refine ⟨Pi R A hp hk m2,m3 m1 ?_⟩
    rcases m2 with rfl | m2
    ·exact Nat.le_refl _
    ·exact m2.2.2
   have weak: ∀ {n':Nat} {a':Act} {w':World},n'≤n→jd ρ B env cs tm w n' L r k a' w'→jd ρ B env cs tm w n L r k a' w':=by
    rintro n' a' w' hn ⟨l,κ',cs',tm',n2,T',l2,k1,k2,k3⟩
    exact ⟨l,κ',cs',tm',n2,T',l2,k1,Nat.le_trans k2 hn,k3⟩
   split at h5
   ·rename_i hst
    cases h5
    refine ⟨one (Nat.le_refl _) hev,?_⟩
    cases more<;>simp_all[Sched.isStop,GV]
   ·rename_i hst
    obtain ⟨u,h6,h7⟩:=Option.map_eq_some_iff.1 h5
    split at h7
    ·rename_i e
     subst h7;subst e
     exact ⟨one (Nat.le_refl _) hev,md X hI ops hok more true listed pt pr h3 hp h6 hev R A hL hQ⟩
    ·subst h7
     cases n with
     | zero=>exact hev.elim
     | succ n =>
      simp only[EvN] at hev
      exact ⟨one (Nat.le_succ _) hev.1,md X hI ops hok more true listed pt pr h3 hp h6 hev.2 R A hL fun a' w' hg=>hQ a' w' (weak (Nat.le_succ _) hg)⟩
  ·rw[if_neg hk] at h;cases h
end
end Go.Xt
