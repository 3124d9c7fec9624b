/- Steps towards the statements of this seat; the conditions stand in each theorem. -/
import Derived.Test.YtahdphncepnbeaaGreatDoorXt12
set_option linter.unusedSimpArgs false
set_option linter.unusedVariables false
namespace Go.Xt
open Go.RowKit
section
variable {P:Program}{tab:List Sig}{inl:Code→CS→lf→Option T}{B:Bas P}{env env':List PV}{κ κ':Kap}{cs:CS}{tm:Nat→Value}{w w':World}{a:Act}{ρ:Fns}{L:List (T×Nat)}{r:List PV→Prop}
theorem zd{α:Type}(t:Nat): ∀l m:List (Nat×α),av (l++m) t=match av l t with | some x=>some x | none=>av m t
 | [],m=>rfl
 | (k,v)::l,m=>by
  simp only[List.cons_append,av]
  split
  ·rfl
  ·exact zd t l m
theorem oU(fb:Nat): ∀(args:List SV) (i t:Nat) (sv:SV),av (jk fb i args) t=some sv→ ∃j,t=fb+(i+j)∧args[j]? =some sv
 | [],i,t,sv,h=>by simp[jk,av] at h
 | v::args,i,t,sv,h=>by
  simp only[jk,av] at h
  split at h
  ·rename_i e;cases h;exact ⟨0,by omega,rfl⟩
  ·obtain ⟨j,h1,h2⟩:=oU fb args (i+1) t sv h
   exact ⟨j+1,by omega,by simpa using h2⟩
theorem oC{α:Type}(q:Nat→Bool)(t:Nat): ∀(l:List (Nat×α)) (x:α),av (l.filter fun p=>q p.1) t=some x→q t=true∧av l t=some x
 | [],x,h=>by simp[av] at h
 | (k,v)::l,x,h=>by
  simp only[List.filter_cons] at h
  split at h
  ·rename_i hq
   simp only[av] at h ⊢
   split at h
   ·rename_i e;subst e;exact ⟨hq,by rw[if_pos rfl];exact h⟩
   ·rename_i e
    rw[if_neg e]
    exact oC q t l x h
  ·rename_i hq
   obtain ⟨h1,h2⟩:=oC q t l x h
   simp only[av]
   by_cases e:k=t
   ·subst e;exact absurd h1 hq
   ·rw[if_neg e];exact ⟨h1,h2⟩
theorem Pe(R:Rel B env κ cs tm w){args:List SV}{us:List Value}(hr:aw (bV env κ cs.heap w) args us){nt:Nat}(hle:args.length≤nt) :
  ∃tm1,Rel B env κ { cs with slots:=jk cs.nf 0 args++cs.slots,fb:=cs.nf,nt:=nt,nf:=cs.nf+nt+1 } tm1 w ∧
   ActOk { tmps:=us.toArray++Array.replicate (nt-us.toArray.size) undef,defers:=[] } { cs with slots:=jk cs.nf 0 args++cs.slots,fb:=cs.nf,nt:=nt,nf:=cs.nf+nt+1 } tm1 ∧
   ∀x,x<cs.nf→tm1 x=tm x:=by
 have hlen:=hr.length
 refine ⟨fun x=>if x<cs.nf then tm x else (us.toArray++Array.replicate (nt-us.toArray.size) undef).getD (x-cs.nf) undef,?_,?_,fun x hx=>if_pos hx⟩
 ·exact {
   henv:=R.henv
   hslot:=fun t sv h=>by
    simp only at h
    rw[zd] at h
    split at h
    ·rename_i x hx
     cases h
     obtain ⟨j,rfl,hj⟩:=oU _ _ _ _ _ hx
     obtain ⟨u,hu,hru⟩:=hr.get j sv hj
     have hjl:=(List.getElem?_eq_some_iff.1 hj).1
     refine ⟨?_,by simp only;omega⟩
     rw[if_neg (by omega)]
     have:cs.nf+(0+j)-cs.nf=j:=by omega
     rw[this]
     have e:(us.toArray++Array.replicate (nt-us.toArray.size) undef).getD j undef=u:=by
      rw[Array.getD_eq_getD_getElem?,Array.getElem?_append_left (by simp;omega)]
      simp[hu]
     rw[e];exact hru
    ·obtain ⟨h1,h2⟩:=R.hslot t sv h
     rw[if_pos h2]
     exact ⟨h1,by simp only;omega⟩
   hblk:=R.hblk
   hκ:=R.hκ
   hinj:=R.hinj
   hknown:=R.hknown
   hB:=R.hB
   hoth:=R.hoth
   hob:=R.hob
   hgl:=R.hgl
   hnf:=by simp only;omega }
 ·refine ⟨by simp;omega,rfl,fun t ht=>?_⟩
  rw[if_neg (by simp only;omega)]
  simp only
  rw[Nat.add_sub_cancel_left]
theorem Pf{cs2:CS}{tm2:Nat→Value}(R:Rel B env κ cs2 tm2 w){fb nt nf:Nat}(h1:fb+nt≤nf)(h2:nf≤cs2.nf)(ht: ∀x,x<nf→tm2 x=tm x) :
    Rel B env κ { cs2 with slots:=cs2.slots.filter (fun p=>decide (p.1<nf)),fb:=fb,nt:=nt } tm w :=
  { henv:=R.henv
    hslot:=fun t sv h=>by
      obtain ⟨h3,h4⟩:=oC (fun t=>decide (t<nf)) t cs2.slots sv h
      have h5:t<nf:=by simpa using h3
      obtain ⟨h6,h7⟩:=R.hslot t sv h4
      rw[ht t h5] at h6
      exact ⟨h6,h7⟩
    hblk:=R.hblk
    hκ:=R.hκ
    hinj:=R.hinj
    hknown:=R.hknown
    hB:=R.hB
    hoth:=R.hoth
    hob:=R.hob
    hgl:=R.hgl
    hnf:=by simp only;omega }
theorem qn.of_args{n:Nat}{k:SV→CS→Option T}{v:Value}{cs1:CS}(h:qn ρ B env cs1 tm w n L r k v w')(hf:Fr cs cs1):qn ρ B env cs tm w n L r k v w':=by
 obtain ⟨l,κ',cs',sv,n',T',l2,h1,h2,h3,h4,h5,h6,h7,h8⟩:=h
 exact ⟨l,κ',cs',sv,n',T',l2,h1,h2,h3,h4,h5,h6,hf.trans h7,h8⟩
theorem Bd(X:Ctx P tab ρ)(hI: ∀c,dt P ρ (inl c) c)(R:Rel B env κ cs tm w)(hL:L.length=cs.nl){dst:Option Tmp}{K:Nat}{args:List SV}{us:List Value}{k:SV→CS→Option T}{T0:T}{n:Nat}
  (h:nB P tab inl dst K args cs k=some T0) (hev:EvN ρ n T0 env L r) (hr:aw (bV env κ cs.heap w) args us) :
  ∃fn,P.funcs[K]? =some fn∧fn.body.isNone=false∧Calls P K us.toArray w (fun e w'=> ∃v,e=.returned v∧qn ρ B env cs tm w n L r k v w'∧(((AL tab K).isNone&&(sM tab K).isSome)=true→Below w.heap.size w w')):=by
 unfold nB at h
 split at h
 ·cases h
 ·rename_i fn hf
  split at h
  ·cases h
  ·rename_i body hb
   refine ⟨fn,hf,by rw[hb];rfl,?_⟩
   split at h
   ·rename_i fin hip
    refine (GQ R (X.ip K fin hip).1 (X.ip K fin hip).2 h hev hr).mono ?_
    rintro e w' ⟨v,rfl,hg⟩
    exact ⟨v,rfl,hg.toV hL,fun hh=>by rw[hip] at hh;simp at hh⟩
   split at h
   ·rename_i s hs
    obtain ⟨hK,hP⟩:=X.tab K s hs
    subst hK
    obtain ⟨⟨as,cs1⟩,h1,h2⟩:=Option.bind_eq_some_iff.1 h
    obtain ⟨κ1,O,R1,hS,hd,hO,hO',hl,hq⟩:=B9 R h1 hr
    refine (Dh R1 (Qe R1) hf hP rfl h2 hev hO hO' hl hq).mono ?_
    rintro e w' ⟨v,rfl,hg,hBw⟩
    exact ⟨v,rfl,(hg.toV (by rw[hS.nl];exact hL)).of_args ⟨hS.fb,hS.nt,hS.nf⟩,fun _=>hBw⟩
   ·rename_i hnone
    split at h
    ·rename_i hle
     obtain ⟨tm1,R1,A1,ht1⟩:=Pe R hr hle
     refine calls_of_wp hf hb (wp_mono (hI body h hev R1 A1 hL) ?_)
     rintro ex' a' w' ⟨ex,rfl,l,κ',cs2,tm2,n',T',l2,h1,h2,h3,h4,h5,h6,h7,h8,h9⟩
     have fin:(∃ps,fh P cs2 fn.results.toList=some ps∧k (FU ps) { cs2 with slots:=cs2.slots.filter (fun p=>decide (p.1<cs.nf)),fb:=cs.fb,nt:=cs.nt }=some T') →
       a'.defers=[]∧ ∃v,(results fn a'.tmps).run P w'=.ok v w'∧ ∃v_1,Ending.returned v=.returned v_1∧qn ρ B env cs tm w n L r k v_1 w'∧(((AL tab K).isNone&&(sM tab K).isSome)=true→Below w.heap.size w w'):=by
      rintro ⟨ps,k1,k2⟩
      obtain ⟨vs,k3,k4⟩:=tc h4 h5 k1
      have hnf:cs.nf≤cs2.nf:=by have:=h8.nf;simp only at this;omega
      exact ⟨h5.dfr,_,k4,_,rfl,⟨l,κ',_,_,n',T',l2,k2,h2,h3,Pf h4 R.hnf hnf (fun x hx=>by rw[h6 x hx,ht1 x hx]),uE k3,h7,⟨rfl,rfl,hnf⟩,h9⟩,fun hh=>by rw[hnone] at hh;simp at hh⟩
     cases ex with
     | exit id=>simp at h1
     | normal=>exact fin (Option.bind_eq_some_iff.1 h1)
     | ret=>exact fin (Option.bind_eq_some_iff.1 h1)
    ·cases h
theorem Kl{o:Oper}{x:Operand}{f:FuncId}{fn:Func}{args:Array Operand}{ats:Array TypeId}{vs:Array Value}{ρ':Operand→Value}(hop:o.op=.call { callee:=.value x,args,argTypes:=ats })
  (hx:ρ' x=.func (.func f) #[] vs) (hf:P.funcs[f]? =some fn) (ab:(fn.name == "runtime.NumGoroutine")=false) (hb:fn.body.isNone=false):(execOp ρ' o).run P w=.ok (.enter f (args.map ρ'++vs)) w:=by
 have h1: ¬fn.name= "runtime.NumGoroutine" :=by simpa using ab
 have h2: ¬fn.body=none:=by cases hx:fn.body<;>simp_all
 unfold execOp
 simp[hop,resolve,Deferred.ofValue,invoke,callFunc,hf,h1,h2,hx]
theorem T5{H:List (Nat×Blk)}{c:Cap}{v:Value}(h:lh env κ H w c v):bV env κ H w (SM c) v:=by
 cases c with
 | «at» a=>exact h
 | ptr b o=>exact h
 | agg as =>
  obtain ⟨vs,rfl,h⟩:=h
  exact ⟨vs,rfl,h.map C.at fun _ _ h=>h⟩
theorem RN{o:Oper}{k:SV→CS→Option T}{T0:T}(h:AM P o cs k=some T0)(hg:yX tab o=true):Q4 o.op=true:=by
 unfold AM at h
 unfold yX at hg
 generalize o.op=op at *
 cases op with
 | store=>simp at hg
 | panic=>simp at hg
 | nilCheck=>rfl
 | alloc=>rfl
 | box=>rfl
 | buildSlice=>rfl
 | makeSlice=>rfl
 | binOp=>rfl
 | call c =>
  obtain ⟨callee,args,ats⟩:=c
  cases callee with
  | builtin b=>cases b<;>simp_all
  | value x=>simp at h
  | invoke=>simp at h
 | _=>simp at h
theorem ze{o:Oper}{cs:CS}{q:QR}(h:opA P o.op cs=some q)(t:TypeId)(x y:Operand):o.op≠.store t x y:=by
 intro ho;rw[ho] at h;simp[opA] at h
theorem wX(X:Ctx P tab ρ)(hI: ∀c,dt P ρ (inl c) c)(R:Rel B env κ cs tm w)(A:ActOk a cs tm)(hL:L.length=cs.nl){o:Oper}{k:SV→CS→Option T}{T0:T}{n:Nat}
  (h:je P tab inl o cs k=some T0) (hev:EvN ρ n T0 env L r) {next:Act→World→Prop} {Q:Exit→Act→World→Prop} (hn: ∀v w',qn ρ B env cs tm w n L r k v w'→(yX tab o=true→Below w.heap.size w w')→uN o a w w'→next (a.put o.dst v) w') :
  o.wp P a w next Q:=by
 have call: ∀(x:Operand) (f:Nat) (args:Array Operand) (ats:Array TypeId) (vs:Array Value) (svs cvs:List SV),o.op=.call { callee:=.value x,args,argTypes:=ats }→a.eval x=.func (.func f) #[] vs →
   cd cs args.toList=some svs→aw (bV env κ cs.heap w) cvs vs.toList→nB P tab inl o.dst f (svs++cvs) cs k=some T0→o.wp P a w next Q:=by
  intro x f args ats vs svs cvs ho hx hs hc hk
  have h1:=iK R A.tmp hs
  obtain ⟨fn,h2,h3,h4⟩:=Bd X hI R hL hk hev (h1.append hc)
  unfold Oper.wp
  rw[Kl ho hx h2 (X.name f fn h2) h3,Oper.upon_enter]
  have e:args.map a.eval++vs=(args.toList.map a.eval++vs.toList).toArray:=by simp
  rw[e]
  refine h4.mono ?_
  rintro e w' ⟨v,rfl,hg,hBw⟩
  refine hn v w' hg (fun hh=>hBw ?_) (uN.no (by simp[ho]))
  unfold yX at hh
  rw[ho] at hh
  simp only at hh
  split at hh
  all_goals first
   | (rename_i heq;cases heq;done)
   | (cases hh;done)
   | skip
  rename_i heq
  cases heq
  simp only[Act.eval,Value.func.injEq,Fn.func.injEq] at hx
  rw[←hx.1]
  exact hh
 unfold je at h
 split at h
 ·rename_i f args ats ho
  obtain ⟨svs,h1,h2⟩:=Option.bind_eq_some_iff.1 h
  exact call (.func f) f args ats #[] svs [] ho rfl h1 trivial (by simpa using h2)
 ·rename_i x args ats hne ho
  split at h
  ·rename_i f caps hx
   obtain ⟨svs,h1,h2⟩:=Option.bind_eq_some_iff.1 h
   have hv:=aj R A.tmp hx
   obtain ⟨vs,h3,h4⟩:=hv
   exact call x f args ats vs svs _ ho h3 h1 (h4.map _ fun _ _ h=>T5 h) h2
  ·cases h
 ·rename_i op ho1 ho2
  have hq: ∀v w',((execOp a.eval o).run P w=.ok (.value v) w'∨(execOp a.eval o).run P w=.ok .skip w'∧v=undef)→sB ρ B env cs tm w n L r k v w'→(yX tab o=true→Below w.heap.size w w')→uN o a w w'→o.wp P a w next Q:=by
   intro v w' hrun hg hBw hWr
   unfold Oper.wp
   rcases hrun with hrun | ⟨hrun,rfl⟩
   ·rw[hrun];exact hn v w' (hg.toV hL) hBw hWr
   ·rw[hrun];exact hn _ w' (hg.toV hL) hBw hWr
  split at h
  ·rename_i sv hA
   obtain ⟨v,h1,h2⟩:=nr R A.tmp hA
   exact hq v w (.inl (h1 w (ky.refl _ _ _))) ⟨[],κ,cs,sv,n,T0,h,Nat.le_refl _,by simpa using hev,by simpa using R,by simpa using h2,Below.refl _ _,Same.refl _⟩ (fun _=>Below.refl _ _) (fun _ _ _ ho=>absurd ho (ze hA _ _ _))
  ·rename_i pop as f hA
   obtain ⟨t',h1,rfl⟩:=lk h
   obtain ⟨m,p,rfl,h2,h3⟩:=hev.op
   obtain ⟨v,h4,h5⟩:=nr R A.tmp hA p h2
   rw[R.henv] at h5
   exact hq v w (.inl (h4 w (ky.refl _ _ _))) ⟨[p],κ,_,_,m,t',h1,Nat.le_succ _,h3,R.grow [p] (fun _ _=>rfl) (Nat.le_refl _),h5,Below.refl _ _,⟨rfl,rfl,rfl,Nat.le_refl _⟩⟩ (fun _=>Below.refl _ _) (fun _ _ _ ho=>absurd ho (ze hA _ _ _))
  ·obtain ⟨v,w',h1,h2,h3,h4⟩:=Kf R A.tmp h hev
   exact hq v w' h1 h2 (fun hh=>h3 (RN h hh)) h4
end
end Go.Xt
