/- Steps towards the statements of this seat; the conditions stand in each theorem. -/
import Derived.Test.YtahdphncepnbeaaGreatDoorXt14
set_option linter.unusedSimpArgs false
set_option linter.unusedVariables false
namespace Go.Xt
open Go.RowKit
def PV.val:PV→Value
 | .int k n=>.int k n
 | .bool b=>.bool b
 | .str s=>.string s
 | .list _=>undef
 | .err _ _ _=>undef
section
variable {P:Program}{tab:List Sig}{inl:Code→CS→lf→Option T}{B:Bas P}{env env':List PV}{κ κ':Kap}{cs:CS}{tm:Nat→Value}{w w':World}{a:Act}{ρ:Fns}{L:List (T×Nat)}{r:List PV→Prop}
theorem RP.val_eq{O:Nat→Prop}{p:PV}{v:Value}(h:RP w O p v)(hs:p.scalar=true):v=p.val:=by
 cases h with
 | list=>simp[PV.scalar] at hs
 | err=>simp[PV.scalar] at hs
 | _=>rfl
theorem zf{t:TypeId}(h:fe P t=true):aD P t=false:=by
 simp only[fe] at h
 simp only[aD]
 split at h<;>simp_all
theorem Be{Q:Nat→Value→Prop}(val:Nat→Value): ∀ {ts:List TypeId} {us:List Value} {i:Nat},ShQ P Q i ts us→ts.all (fe P)=true→(∀j v,Q j v→j<i+jf P ts→v=val j) →
  us=(List.range' i ts.length).map val
 | [],[],_,_,_,_=>rfl
 | t::ts,u::us,i,h,hs,hv=>by
  simp only[List.all_cons,Bool.and_eq_true] at hs
  have hg:=zf hs.1
  obtain ⟨h1,h2⟩:=h
  rw[if_neg (by simp[hg])] at h1 h2
  simp only[List.length_cons,List.range'_succ,List.map_cons]
  rw[hv i u h1 (by simp[jf,hg];omega),←Be val h2 hs.2 fun j v hq hj=>hv j v hq (by simp[jf,hg];omega)]
 | [],_::_,_,h,_,_=>h.elim
 | _::_,[],_,h,_,_=>h.elim
theorem N5(X:Ctx P tab ρ)(R:Rel B env κ cs tm w)(hL:L.length=cs.nl){dst:Option Tmp}{K:Nat}{args:List SV}{us:List Value}{k:SV→CS→Option T}{T0:T}{n:Nat}{fn:Func}{s:Sig}
  (hf:P.funcs[K]? =some fn) (hip:AL tab K=none) (hsg:sM tab K=some s) (hsc:fn.resultTypes.toList.all (fe P)=true)
  (h:nB P tab inl dst K args cs k=some T0) (hev:EvN ρ n T0 env L r) (hr:aw (bV env κ cs.heap w) args us) :
  fn.body.isNone=false∧ ∃v,qn ρ B env cs tm w n L r k v w∧ ∀w1,Below w.heap.size w w1→Calls P K us.toArray w1 (fun e w2=>e=.returned v∧Below w.heap.size w w2):=by
 unfold nB at h
 rw[hf] at h
 simp only at h
 split at h
 ·cases h
 ·rename_i body hb
  refine ⟨by rw[hb];rfl,?_⟩
  rw[hip] at h
  simp only at h
  rw[hsg] at h
  simp only at h
  obtain ⟨hK,hP⟩:=X.tab K s hsg
  subst hK
  obtain ⟨⟨as,cs1⟩,h1,h2⟩:=Option.bind_eq_some_iff.1 h
  unfold wy at h1
  split at h1
  ·rename_i hc
   simp only[Bool.and_eq_true,decide_eq_true_eq,List.all_eq_true,Bool.not_eq_true'] at hc
   obtain ⟨c1,c2⟩:=hc
   have ht: ∀v∈args,v.isTup=false:=fun v hv=>(c1 v hv).1
   have hst: ∀v∈args,v.cells.all C.storable=true:=fun v hv=>by rw[List.all_eq_true];exact (c1 v hv).2
   have hcells:=kA hr ht hst
   rw[if_pos (by rw[Bool.or_eq_true_iff];exact .inl (by simpa using hsc))] at h1
   obtain ⟨as',h3,h4⟩:=Option.map_eq_some_iff.1 h1
   cases h4
   have h5:=sW R h3 hcells
   have h6:aw (RP w fun _=>False) (as.map (den env)) (us.flatMap fun u=>u.cells.toList):=h5.1.map _ fun x u hx=>hx.2
   obtain ⟨k1,k2⟩:=GP (P:=P) args us fn.params.toList (as.map (den env)) [] hr ht hst c2 h6
   have k2':ShQ P (fun j v=>RP w (fun _=>False) (look (as.map (den env)) j) v) 0 fn.params.toList us:=by simpa using k2
   have main: ∀(rs:List PV),ρ s.K (as.map (den env))=some rs→rs.length=jf P fn.resultTypes.toList→ ∀(w1:World),Below w.heap.size w w1 →
     Calls P s.K us.toArray w1 (fun e w2=>(e=.returned (Pd ((List.range' 0 fn.resultTypes.toList.length).map fun j=>(look rs j).val))∧Below w.heap.size w w2) ∧
      (∀p∈rs,sA p)∧s.own=[]∧ShQ P (fun j v=>RP w (Own κ) (look rs j) v) 0 fn.resultTypes.toList ((List.range' 0 fn.resultTypes.toList.length).map fun j=>(look rs j).val)):=by
    intro rs hrs hlen w1 hB1
    have k3:ShQ P (fun j v=>RP w1 (fun _=>False) (look (as.map (den env)) j) v) 0 fn.params.toList us :=
     k2'.imp fun j v hq=>hq.mono fun g hg _=>⟨hB1.block g hg,fun h=>h⟩
    refine (hP.call fn hf _ rs hrs (fun _=>False) w1 us (fun g h=>h.elim) (R.hgl.below R.hB hB1) k1 k3).mono ?_
    rintro e w2 ⟨vs,mo,rfl,hB2,hmo,hmi,hq⟩
    have hsca: ∀j,j<rs.length→(look rs j).scalar=true:=fun j hj=>hP.scal fn hf hsc _ rs hrs _ (by
     have:look rs j=rs[j]:=fi _ _ _ (by simp[hj])
     rw[this];simp)
    have hown':s.own=[]:=by
     cases ho:s.own with
     | nil=>rfl
     | cons jo js =>
      exfalso
      unfold wz at h2
      rw[ho] at h2
      simp only at h2
      obtain ⟨b,hb,h2⟩:=Option.bind_eq_some_iff.1 h2
      split at h2
      ·rename_i hc
       rw[qR] at hc
       have hj:=(hc.1 (jo,b) (by simp[MJ])).2
       simp only at hj
       obtain ⟨v,hv⟩:=hq.ex jo (Nat.zero_le _) (by omega)
       unfold qQ at hv
       rw[if_pos (by rw[ho];simp)] at hv
       obtain ⟨xs,hx,_⟩:=hv
       have:=hsca jo (by omega)
       rw[hx] at this;simp[PV.scalar] at this
      ·cases h2
    have hrp: ∀j v,qQ P fn s.own rs (fun _=>False) mo w2 j v→j<0+jf P fn.resultTypes.toList→RP w (Own κ) (look rs j) v∧v=(look rs j).val:=by
     intro j v hq hj
     unfold qQ at hq
     rw[hown',if_neg (by simp)] at hq
     have:=hsca j (by omega)
     exact ⟨hq.scalar_any this,hq.val_eq this⟩
    have hus:=Be (fun j=>(look rs j).val) hq hsc fun j v hq hj=>(hrp j v hq hj).2
    have hw2:Below w.heap.size w w2:=hB1.trans (hB2.mono hB1.size)
    refine ⟨⟨by rw[←hus],hw2⟩,Ba hq hlen,hown',?_⟩
    rw[←hus]
    have: ∀(ts:List TypeId) (i:Nat) (us:List Value),ShQ P (qQ P fn s.own rs (fun _=>False) mo w2) i ts us→(∀j v,qQ P fn s.own rs (fun _=>False) mo w2 j v→j<i+jf P ts→RP w (Own κ) (look rs j) v) →
      ts.all (fe P)=true→ShQ P (fun j v=>RP w (Own κ) (look rs j) v) i ts us:=by
     intro ts
     induction ts with
     | nil=>intro i us h _ _;cases us with
      | nil=>trivial
      | cons u us=>exact h.elim
     | cons t ts ih =>
      intro i us h hh hs
      cases us with
      | nil=>exact h.elim
      | cons u us =>
       simp only[List.all_cons,Bool.and_eq_true] at hs
       have hg:=zf hs.1
       obtain ⟨m1,m2⟩:=h
       rw[if_neg (by simp[hg])] at m1 m2
       refine ⟨?_,?_⟩
       ·rw[if_neg (by simp[hg])]
        exact hh i u m1 (by simp[jf,hg];omega)
       ·rw[if_neg (by simp[hg])]
        exact ih _ _ m2 (fun j v hq hj=>hh j v hq (by simp[jf,hg];omega)) hs.2
    exact this _ _ _ hq (fun j v hq hj=>(hrp j v hq hj).1) hsc
   have hev': ∃n' rs T1,n=n'+1∧ρ s.K (as.map (den env))=some rs∧rs.length=jf P fn.resultTypes.toList∧((∀p∈rs,sA p)→EvN ρ n' T1 (env++rs) L r) ∧
     (s.own=[]→k (FU (oz P cs.d fn.resultTypes.toList).1) { cs with d:=cs.d+jf P fn.resultTypes.toList }=some T1):=by
    unfold wz at h2
    cases ho:s.own with
    | nil =>
     rw[ho] at h2
     simp only at h2
     obtain ⟨T1,m1,rfl⟩:=Option.map_eq_some_iff.1 h2
     obtain ⟨n',rs,rfl,m2,m3,m4⟩:=hev.call
     rw[qR] at m3 m1
     exact ⟨n',rs,T1,rfl,m2,by omega,m4,fun _=>m1⟩
    | cons jo js =>
     rw[ho] at h2
     simp only at h2
     obtain ⟨b,hb,h2⟩:=Option.bind_eq_some_iff.1 h2
     split at h2
     ·obtain ⟨T1,m1,rfl⟩:=Option.map_eq_some_iff.1 h2
      obtain ⟨n',rs,rfl,m2,m3,m4⟩:=hev.call
      rw[qR] at m3
      exact ⟨n',rs,T1,rfl,m2,by omega,m4,fun h=>by cases h⟩
     ·cases h2
   obtain ⟨n',rs,T1,rfl,m2,m3,m4,m5⟩:=hev'
   refine ⟨_,?_,fun w1 hB1=>(main rs m2 m3 w1 hB1).mono fun e w2 h=>h.1⟩
   obtain ⟨_,_,_,hfacts,_⟩:=main rs m2 m3 w (Below.refl _ _) []
   obtain ⟨_,hgood,hown,hq⟩:=hfacts
   have R1:=R.grow rs (fun _ _=>rfl) (Nat.le_refl _)
   have hcells: ∀j v,RP w (Own κ) (look rs j) v→j<0+jf P fn.resultTypes.toList→aR (env++rs) κ cs.heap w (.at (.v (cs.d+j))) v:=by
    intro j v hq hj
    refine ⟨by simp[Atom.lt,R.henv];omega,?_⟩
    have hd:den (env++rs) (.v (cs.d+j))=look rs j:=by rw[←R.henv];exact jl env rs j
    rw[hd];exact hq
   have hsv:=uE (wV (P:=P) (κ:=κ) (H:=cs.heap) (w:=w) (fun c=>c) cs.d fn.resultTypes.toList _ 0 hq hcells)
   rw[Nat.add_zero] at hsv
   simp only[List.map_id'] at hsv
   exact ⟨rs,κ,_,_,n',T1,[],m5 hown,Nat.le_succ _,by simpa using m4 hgood,by rw[←m3];exact R1,hsv,Below.refl _ _,⟨rfl,rfl,Nat.le_refl _⟩,by simpa using hL⟩
  ·cases h1
theorem Di(X:Ctx P tab ρ)(R:Rel B env κ cs tm w)(A:ActOk a cs tm)(hL:L.length=cs.nl){o:Oper}(hqo:Az P tab o=true){k:SV→CS→Option T}{T0:T}{n:Nat}
  (h:je P tab inl o cs k=some T0) (hev:EvN ρ n T0 env L r) {next:Act→Prop} (hn: ∀v,qn ρ B env cs tm w n L r k v w→next (a.put o.dst v)) :
  o.quiet P a (fun w1=>Below w.heap.size w w1) next:=by
 unfold je at h
 unfold Az at hqo
 split at h
 ·rename_i f args ats ho
  rw[ho] at hqo
  simp only[Bool.and_eq_true,Option.isNone_iff_eq_none] at hqo
  obtain ⟨⟨hip,hqs⟩,hqo⟩:=hqo
  obtain ⟨s,hs⟩:=Option.isSome_iff_exists.1 hqs
  have hsc: ∃fn,P.funcs[f]? =some fn∧fn.resultTypes.toList.all (fe P)=true:=by
   cases hf:P.funcs[f]? with
   | none=>rw[hf] at hqo;simp at hqo
   | some fn=>rw[hf] at hqo;exact ⟨fn,rfl,by simpa using hqo⟩
  obtain ⟨fn,hf,hsc⟩:=hsc
  obtain ⟨svs,h1,h2⟩:=Option.bind_eq_some_iff.1 h
  have h3:=iK R A.tmp h1
  obtain ⟨hb,v,h4,h5⟩:=N5 X R hL hf hip hs hsc h2 hev h3
  refine ⟨v,fun w1 hB1=>?_,hn v h4⟩
  unfold Oper.quietAt
  rw[Kl (x:=.func f) (vs:= #[]) ho rfl hf (X.name f fn hf) hb]
  refine ⟨rfl,?_⟩
  have e:args.map a.eval++ #[]=(args.toList.map a.eval).toArray:=Array.toList_inj.1 (by simp)
  rw[e]
  exact h5 w1 hB1
 ·rename_i x args ats hne ho
  rw[ho] at hqo
  simp only at hqo
  split at hqo<;>simp_all
 ·rename_i op ho1 ho2
  split at h
  ·rename_i sv hA
   obtain ⟨v,h1,h2⟩:=nr R A.tmp hA
   refine ⟨v,fun w1 hB1=>?_,hn v (sB.toV hL ⟨[],κ,cs,sv,n,T0,h,Nat.le_refl _,by simpa using hev,by simpa using R,by simpa using h2,Below.refl _ _,Same.refl _⟩)⟩
   unfold Oper.quietAt
   rw[h1 w1 fun g hg _=>hB1.block g hg]
   exact ⟨rfl,rfl⟩
  ·rename_i pop as f hA
   obtain ⟨t',h1,rfl⟩:=lk h
   obtain ⟨m,p,rfl,h2,h3⟩:=hev.op
   obtain ⟨v,h4,h5⟩:=nr R A.tmp hA p h2
   rw[R.henv] at h5
   refine ⟨v,fun w1 hB1=>?_,hn v (sB.toV hL ⟨[p],κ,_,_,m,t',h1,Nat.le_succ _,h3,R.grow [p] (fun _ _=>rfl) (Nat.le_refl _),h5,Below.refl _ _,⟨rfl,rfl,rfl,Nat.le_refl _⟩⟩)⟩
   unfold Oper.quietAt
   rw[h4 w1 fun g hg _=>hB1.block g hg]
   exact ⟨rfl,rfl⟩
  ·exfalso
   unfold AM at h
   generalize o.op=op at *
   cases op with
   | store=>simp at hqo
   | alloc=>simp at hqo
   | box=>simp at hqo
   | buildSlice=>simp at hqo
   | makeSlice=>simp at hqo
   | panic=>simp at hqo
   | nilCheck x =>
    simp only at h
    split at h
    ·cases h
     cases n<;>exact hev.elim
    ·cases h
   | binOp op t x y u =>
    simp only[Option.isNone_iff_eq_none] at hqo
    split at h
    all_goals first
     | (cases h;done)
     | (rename_i heq;cases heq;done)
     | skip
    rename_i heq
    cases heq
    rw[hqo] at h
    split at h
    ·rename_i h3;cases h3
    ·cases h
   | call c =>
    obtain ⟨callee,args,ats⟩:=c
    cases callee with
    | builtin b=>cases b<;>simp_all
    | value x=>cases x<;>simp_all
    | invoke=>simp_all
   | _=>simp at h
theorem tf(X:Ctx P tab ρ)(ops:List Oper){K:Act→Prop}{k:CS→Option T}: ∀(rest:List Oper) {env:List PV} {κ:Kap} {cs:CS} {tm:Nat→Value} {a:Act} {L:List (T×Nat)} {n:Nat} {T0:T},rest.all (Az P tab)=true →
  ci P tab inl ops rest cs k=some T0→EvN ρ n T0 env L r→Rel B env κ cs tm w→ActOk a cs tm→L.length=cs.nl →
  (∀a',jd ρ B env cs tm w n L r k a' w→K a')→wpQuiet P ops.toArray (fun w1=>Below w.heap.size w w1) K rest a
 | [],env,κ,cs,tm,a,L,n,T0,hq,h,hev,R,A,hL,hQ=>by
  simp only[ci] at h
  exact hQ a ⟨[],κ,cs,tm,n,T0,[],h,Nat.le_refl _,by simpa using hev,by simpa using R,A,fun _ _=>rfl,Below.refl _ _,Fr.refl _,by simpa using hL⟩
 | o::rest,env,κ,cs,tm,a,L,n,T0,hq,h,hev,R,A,hL,hQ=>by
  simp only[List.all_cons,Bool.and_eq_true] at hq
  obtain ⟨hqo,hq⟩:=hq
  have ih:=fun {env κ cs tm a L n T0}=>@tf X ops K k rest env κ cs tm a L n T0 hq
  simp only[ci] at h
  split at h
  ·cases h
  ·rename_i hdst
   have hdst':gZ cs o.dst=true:=by simpa using hdst
   have run: ∀ {cs1:CS} {n1:Nat} {T1:T},Fr cs cs1→cs1.nl=cs.nl→gZ cs1 o.dst=true→n1≤n→je P tab inl o cs1 (fun v cs2=>ci P tab inl ops rest (cs2.put o.dst v) k)=some T1→EvN ρ n1 T1 env L r→Rel B env κ cs1 tm w→ActOk a cs1 tm →
     o.quiet P a (fun w1=>Below w.heap.size w w1) (wpQuiet P ops.toArray (fun w1=>Below w.heap.size w w1) K rest):=by
    intro cs1 n1 T1 hF1 hnl hd1 hn1 h1 hev1 R1 A1
    refine Di X R1 A1 (by rw[hnl];exact hL) hqo h1 hev1 ?_
    rintro v ⟨l,κ',cs',sv,n',T',l2,k1,k2,k3,k4,k5,k6,k7,k8⟩
    have A2:ActOk a cs' tm:=⟨by rw[A1.siz,k7.nt],A1.dfr,fun t ht=>by rw[A1.tmp t (by rw[←k7.nt];exact ht),k7.fb]⟩
    obtain ⟨tm',k9,k10,k11⟩:=k4.put A2 (dst:=o.dst) (by cases hd:o.dst with
     | none=>rfl
     | some d=>rw[hd] at hd1;simp only[gZ,decide_eq_true_eq] at hd1 ⊢;rw[k7.nt];exact hd1) k5
    have hput:Fr cs' (cs'.put o.dst sv):=by cases o.dst<;>exact ⟨rfl,rfl,Nat.le_refl _⟩
    refine ih k1 k3 k9 k10 (by rw[k8];cases o.dst<;>rfl) fun a' hg=>hQ a' ?_
    exact hg.mono (Nat.le_trans k2 hn1) ((hF1.trans k7).trans hput) (fun x hx=>k11 x (by rw[k7.fb,hF1.fb];exact hx)) k6
   have skip: ∀ {cs1:CS} {n1:Nat} {T1:T},Fr cs cs1→cs1.nl=cs.nl→gZ cs1 o.dst=true→n1≤n→ci P tab inl ops rest (cs1.put o.dst (.one .undef)) k=some T1→EvN ρ n1 T1 env L r→Rel B env κ cs1 tm w→ActOk a cs1 tm →
     wpQuiet P ops.toArray (fun w1=>Below w.heap.size w w1) K rest (a.put o.dst undef):=by
    intro cs1 n1 T1 hF1 hnl hd1 hn1 h1 hev1 R1 A1
    obtain ⟨tm',k9,k10,k11⟩:=R1.put A1 (dst:=o.dst) hd1 (sv:=.one .undef) (v:=undef) rfl
    have hput:Fr cs1 (cs1.put o.dst (.one .undef)):=by cases o.dst<;>exact ⟨rfl,rfl,Nat.le_refl _⟩
    refine ih h1 hev1 k9 k10 (by rw[hL,←hnl];cases o.dst<;>rfl) fun a' hg=>hQ a' ?_
    have hg':jd ρ B (env++[]) (cs1.put o.dst (.one .undef)) tm' w n1 (L++[]) r k a' w:=by simpa using hg
    exact hg'.mono hn1 (hF1.trans hput) (fun x hx=>k11 x (by rw[hF1.fb];exact hx)) (Below.refl _ _)
   unfold wpQuiet
   split at h
   ·rename_i hgu
    rw[if_pos (by simp[Region.wanted,hgu])]
    exact run (Fr.refl _) rfl hdst' (Nat.le_refl _) h hev R A
   ·rename_i j want hgu
    split at h
    ·cases h
    ·rename_i d hd
     split at h
     ·rename_i x hx
      have hx':d<cs.nt∧bV env κ cs.heap w (.one (.at x)) (a.tmps.getD d undef):=by
       refine ⟨?_,aj R A.tmp hx⟩
       simp only[az] at hx
       split at hx
       ·assumption
       ·cases hx
      obtain ⟨hdl,hxl,hxr⟩:=hx'
      have both: ∀ {b:Bool} {cs1:CS} {n1:Nat} {T1:T},den env x=.bool b→Fr cs cs1→cs1.nl=cs.nl→n1≤n→(if b=want then je P tab inl o cs1 fun v cs1=>ci P tab inl ops rest (cs1.put o.dst v) k
        else ci P tab inl ops rest (cs1.put o.dst (.one .undef)) k)=some T1→EvN ρ n1 T1 env L r→Rel B env κ cs1 tm w→ActOk a cs1 tm →
        if Region.wanted o (yielded ops.toArray a.tmps)=true then o.quiet P a (fun w1=>Below w.heap.size w w1) (wpQuiet P ops.toArray (fun w1=>Below w.heap.size w w1) K rest) else wpQuiet P ops.toArray (fun w1=>Below w.heap.size w w1) K rest (a.put o.dst undef):=by
       intro b cs1 n1 T1 hb hF1 hnl hn1 h1 hev1 R1 A1
       have hv:a.tmps.getD d undef=.bool b:=qL hxr hb
       have hy:=ll ops a.tmps j d _ hd hv (by rw[A.siz];exact hdl)
       have hd1:gZ cs1 o.dst=true:=by cases hd:o.dst with
        | none=>rfl
        | some d=>rw[hd] at hdst';simp only[gZ,decide_eq_true_eq] at hdst' ⊢;rw[hF1.nt];exact hdst'
       simp only[Region.wanted,hgu,hy,asB]
       by_cases e:b=want
       ·rw[if_pos e] at h1
        rw[if_pos (by simp[e])]
        exact run hF1 hnl hd1 hn1 h1 hev1 R1 A1
       ·rw[if_neg e] at h1
        rw[if_neg (by simp[e])]
        exact skip hF1 hnl hd1 hn1 h1 hev1 R1 A1
      split at h
      ·rename_i b hk
       exact both (iL R hk) (Fr.refl _) rfl (Nat.le_refl _) h hev R A
      ·obtain ⟨t,h1,h2⟩:=Option.bind_eq_some_iff.1 h
       obtain ⟨e,h3,h4⟩:=Option.bind_eq_some_iff.1 h2
       cases h4
       obtain ⟨n',b,rfl,h5,h6⟩:=hev.ite
       have Rk:=R.known (by rw[←R.henv];exact hxl) h5
       have Ak:ActOk a { cs with known:=(x,b)::cs.known } tm:=⟨A.siz,A.dfr,A.tmp⟩
       cases b with
       | true=>exact both (cs1:={ cs with known:=(x,true)::cs.known }) h5 ⟨rfl,rfl,Nat.le_refl _⟩ rfl (Nat.le_succ _) h1 h6 Rk Ak
       | false=>exact both (cs1:={ cs with known:=(x,false)::cs.known }) h5 ⟨rfl,rfl,Nat.le_refl _⟩ rfl (Nat.le_succ _) h3 h6 Rk Ak
     ·rename_i hx
      have hv:=aj R A.tmp hx
      have hdl:d<cs.nt:=by
       simp only[az] at hx
       split at hx
       ·assumption
       ·cases hx
      have hv':a.tmps.getD d undef=undef:=hv
      have hy:=ll ops a.tmps j d _ hd hv' (by rw[A.siz];exact hdl)
      simp only[Region.wanted,hgu,hy,asB]
      rw[if_neg (by simp[undef,asB])]
      exact skip (Fr.refl _) rfl hdst' (Nat.le_refl _) h hev R A
     ·cases h
end
end Go.Xt
