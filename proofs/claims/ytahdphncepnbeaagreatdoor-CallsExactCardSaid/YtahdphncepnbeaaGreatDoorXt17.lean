/- Steps towards the statements of this seat; the conditions stand in each theorem. -/
import Derived.Test.YtahdphncepnbeaaGreatDoorXt16
import Derived.Test.YtahdphncepnbeaaGreatDoorXtS2
set_option linter.unusedSimpArgs false
set_option linter.unusedVariables false
namespace Go.Xt
open Go.RowKit
def Kn(P:Program)(c:Code)(Q:Exit→Act→World→Prop)(a:Act)(w:World):Prop :=
 ∀(b:Frame) (k:List Item) (cs:List Frame),∃e a' w',Q e a' w'∧Arrives P (lone (b.at a (.code c::.inLoop c::k)) cs w) b k cs e a' w'
theorem Kn.wp{P:Program}{c:Code}{Q:Exit→Act→World→Prop}{a:Act}{w:World}(h:Kn P c Q a w):(Code.loop c).wp P Q a w:=fun b k cs =>
 let ⟨e,a',w',hq,harr⟩:=h b k cs
 ⟨e,a',w',hq,.of_steps (.one step_loop) harr⟩
theorem N9{P:Program}{c:Code}{Q:Exit→Act→World→Prop}{a:Act}{w:World}(h:c.wp P (Exit.then (Kn P c Q) Q) a w):Kn P c Q a w:=by
 intro b k cs
 obtain ⟨e,a₁,w₁,hq,harr⟩:=h b (.inLoop c::k) cs
 cases e with
 | normal =>
  obtain ⟨e₂,a₂,w₂,hq₂,harr₂⟩:=hq b k cs
  exact ⟨e₂,a₂,w₂,hq₂,.of_steps (Steps.trans harr (.one step_inLoop)) harr₂⟩
 | exit id=>exact ⟨_,a₁,w₁,hq,.pass (x:=.inLoop c) rfl (fun _ _=>.inl (by simp)) harr⟩
 | goto l=>exact ⟨_,a₁,w₁,hq,.pass (x:=.inLoop c) rfl (fun _ _=>.inl (by simp)) harr⟩
 | ret=>exact ⟨_,a₁,w₁,hq,.pass (x:=.inLoop c) rfl (fun _ _=>.inl (by simp)) harr⟩
 | panic ch=>exact ⟨_,a₁,w₁,hq,.pass (x:=.inLoop c) rfl (fun _ _=>.inl (by simp)) harr⟩
 | outgrown=>exact ⟨_,a₁,w₁,hq,.pass (x:=.inLoop c) rfl (fun _ _=>.inl (by simp)) harr⟩
def jI(P:Program)(ρ:Fns)(f:CS→(CS→Option T)→Option T)(c:Code):Prop :=
 ∀ {B:Bas P} {env:List PV} {κ:Kap} {cs:CS} {tm:Nat→Value} {w:World} {a:Act} {L:List (T×Nat)} {r:List PV→Prop} {n:Nat} {k:CS→Option T} {T0:T},f cs k=some T0→EvN ρ n T0 env L r→Rel B env κ cs tm w→ActOk a cs tm→L.length=cs.nl →
  c.wp P (fun ex' a' w'=>ex'=.normal∧jd ρ B env cs tm w n L r k a' w') a w
section
variable {P:Program}{tab:List Sig}{hs:aa}{inl:Code→CS→lf→Option T}{B:Bas P}{env env0 env':List PV}{κ κ':Kap}{cs:CS}{tm:Nat→Value}{w w':World}{a:Act}{ρ:Fns}{L:List (T×Nat)}{r:List PV→Prop}
theorem EvN.sub{n:Nat}{t:T}{m:Nat}{k:T}(h:EvN ρ n (.sub t m k) env L r): ∃n',n=n'+1∧EvN ρ n' t env [] fun rs=>rs.length=m∧EvN ρ n' k (env++rs) L r:=by
 cases n with
 | zero=>exact h.elim
 | succ n=>exact ⟨n,rfl,by simpa only[EvN] using h⟩
theorem EvN.ret{n:Nat}{as:List Atom}(h:EvN ρ n (.ret as) env L r):r (as.map (den env)):=by
 cases n with
 | zero=>exact h.elim
 | succ n=>simpa only[EvN] using h
theorem EvN.loop{n:Nat}{as:List Atom}{b:T}(h:EvN ρ n (.loop as b) env L r): ∃n',n=n'+1∧EvN ρ n' b (env++as.map (den env)) (L++[(b,env.length)]) r:=by
 cases n with
 | zero=>exact h.elim
 | succ n=>exact ⟨n,rfl,by simpa only[EvN] using h⟩
theorem EvN.next{n l:Nat}{as:List Atom}(h:EvN ρ n (.next l as) env L r): ∃n' b m,n=n'+1∧L[l]? =some (b,m)∧EvN ρ n' b (env.take m++as.map (den env)) (L.take (l+1)) r:=by
 cases n with
 | zero=>exact h.elim
 | succ n =>
  simp only[EvN] at h
  split at h
  ·rename_i b m hl;exact ⟨n,b,m,rfl,hl,h⟩
  ·exact h.elim
theorem Rel.nl(R:Rel B env κ cs tm w)(x:Nat):Rel B env κ { cs with nl:=x } tm w :=
  { henv:=R.henv,hslot:=R.hslot,hblk:=R.hblk,hκ:=R.hκ,hinj:=R.hinj,hB:=R.hB,hoth:=R.hoth,hob:=R.hob,hgl:=R.hgl,hnf:=R.hnf,hknown:=R.hknown }
theorem Rel.clean(R:Rel B env κ cs tm w)(q:Nat→Bool):Rel B env κ { cs with slots:=cs.slots.filter fun p=>q p.1 } tm w :=
  { henv:=R.henv,hblk:=R.hblk,hκ:=R.hκ,hinj:=R.hinj,hB:=R.hB,hoth:=R.hoth,hob:=R.hob,hgl:=R.hgl,hnf:=R.hnf,hknown:=R.hknown
    hslot:=fun t sv h=>R.hslot t sv (oC q t cs.slots sv h).2 }
theorem uZ{f:CS→(CS→Option T)→Option T}{c:Code}(hf:jI P ρ f c)(dead:List Nat){B:Bas P}{env:List PV}{κ:Kap}{cs:CS}{tm:Nat→Value}{w:World}{a:Act}{L:List (T×Nat)}{r:List PV→Prop}{n:Nat}{k:CS→Option T}{T0 kt:T}{tmp:CS}
  (h1:k tmp=some kt) (h2:wE tmp f dead cs kt=some T0) (hev:EvN ρ n T0 env L r) (R:Rel B env κ cs tm w) (A:ActOk a cs tm) (hL:L.length=cs.nl) :
  c.wp P (fun ex' a' w'=>ex'=.normal∧jd ρ B env cs tm w n L r k a' w') a w:=by
 unfold wE at h2
 split at h2
 ·rename_i hc
  obtain ⟨t,h3,rfl⟩:=Option.map_eq_some_iff.1 h2
  obtain ⟨n',rfl,h4⟩:=hev.sub
  refine wp_mono (hf (cs:={ cs with nl:=0 }) h3 h4 (R.nl 0) ⟨A.siz,A.dfr,A.tmp⟩ rfl) ?_
  rintro ex' a' w' ⟨rfl,l',κ',cs',tm',n2,T',l2,k1,k2,k3,k4,k5,k6,k7,k8,k9⟩
  refine ⟨rfl,?_⟩
  obtain ⟨as,q1,rfl⟩:=Option.map_eq_some_iff.1 k1
  obtain ⟨h5,h6⟩:=k3.ret
  have R2:=k4.clean (fun t=> !(dead.contains t))
  rw[←R.henv] at q1
  obtain ⟨κ2,q3,q4,q5,q6⟩:=lQ R2 q1
  refine ⟨_,κ2,tmp,tm',n',kt,[],h1,Nat.le_succ _,by simpa using h6,q3,⟨by rw[k5.siz,q5],k5.dfr,fun t ht=>?_⟩,k6,k7,⟨q4.trans k8.fb,q5.trans k8.nt,hc.1⟩,by simpa[hc.2] using hL⟩
  rw[q4]
  exact k5.tmp t (by rw[←q5];exact ht)
 ·cases h2
theorem v7{hs:aa}{id:Nat}{f:CS→(CS→Option T)→Option T}{c:Code}(hf:jI P ρ f c)(dead:List Nat):jI P ρ (uB hs id f dead) c:=by
 intro B env κ cs tm w a L r n k T0 h hev R A hL
 unfold uB at h
 split at h
 ·exact hf h hev R A hL
 ·obtain ⟨kt,h1,h2⟩:=Option.bind_eq_some_iff.1 h
  exact uZ hf dead h1 h2 hev R A hL
 ·obtain ⟨tmp,_,h0⟩:=Option.bind_eq_some_iff.1 h
  obtain ⟨kt,h1,h2⟩:=Option.bind_eq_some_iff.1 h0
  split at h2
  ·exact hf h2 hev R A hL
  ·exact uZ hf dead h1 h2 hev R A hL
theorem OH(env l m:List PV)(b:PV){d:Nat}(hd:d=env.length+l.length):look (env++(l++b::m)) d=b:=by
 rw[hd,jl,ii]
theorem Ko(env l m:List PV)(b:PV){d p:Nat}(hd:d=env.length+l.length)(hp:m.length=p):((List.range p).map fun j=>look (env++(l++b::m)) (d+(j+1)))=m:=by
 refine List.ext_getElem (by simp[hp]) fun i h1 h2=>?_
 rw[List.getElem_map,List.getElem_range]
 have e:env++(l++b::m)=(env++l++[b])++m:=by simp
 have e2:d+(i+1)=(env++l++[b]).length+i:=by simp[hd];omega
 rw[e,e2,jl]
 exact fi m i _ (List.getElem?_eq_getElem h2)
theorem Bm{f:CS→lf→Option T}{c:Code}{tmp:CS}{p:Nat}(hf:dt P ρ f c):dt P ρ (wF tmp p f) c:=by
 intro B env κ cs tm w a L r n k T0 h hev R A hL
 unfold wF at h
 split at h
 ·rename_i hc
  obtain ⟨t,h3,h4⟩:=Option.bind_eq_some_iff.1 h
  obtain ⟨kt,h5,rfl⟩:=Option.map_eq_some_iff.1 h4
  obtain ⟨n',rfl,h6⟩:=hev.sub
  refine wp_mono (hf (cs:={ cs with nl:=0 }) h3 h6 (R.nl 0) ⟨A.siz,A.dfr,A.tmp⟩ rfl) ?_
  rintro ex' a' w' ⟨ex,rfl,l',κ',cs',tm',n2,T',l2,k1,k2,k3,k4,k5,k6,k7,k8,k9⟩
  refine ⟨ex,rfl,?_⟩
  have henv:=R.henv
  have out: ∀e:Ex,(match k e { cs' with nl:=cs.nl } with
    | some (.ret as)=>if as.length=p then some (T.ret (List.replicate (tmp.d-cs.d) (.c .nil)++.c (.bool false)::as)) else none
    | _=>none)=some T'→jd ρ B env cs tm w (n'+1) L r (k e) a' w':=by
   intro e k1
   split at k1
   ·rename_i as hk
    split at k1
    ·rename_i hp
     cases k1
     obtain ⟨h7,h8⟩:=k3.ret
     obtain ⟨n3,b,rfl,hb,h9⟩:=h8.ite
     simp only[List.map_append,List.map_cons] at hb h9
     have hd:tmp.d=env.length+((List.replicate (tmp.d-cs.d) (Atom.c .nil)).map (den (env++l'))).length:=by simp;omega
     have hb1:den (env++l') (.c (.bool false))=.bool b:=by
      rw[←hb]
      exact (OH _ _ _ _ hd).symm
     have hb2:b=false:=by simpa[den,Lit.pv] using hb1.symm
     subst hb2
     have h10:=h9.ret
     rw[List.map_map] at h10
     have h11:=Ko env ((List.replicate (tmp.d-cs.d) (Atom.c .nil)).map (den (env++l'))) (as.map (den (env++l'))) (den (env++l') (.c (.bool false))) hd (by simpa using hp)
     have h12:r (as.map (den (env++l'))):=by
      rw[←h11];exact h10
     exact ⟨l',κ',{ cs' with nl:=cs.nl },tm',n3+1+1,.ret as,[],hk,Nat.le_refl _,by simpa only[EvN] using h12,k4.nl _,⟨k5.siz,k5.dfr,k5.tmp⟩,k6,k7,⟨k8.fb,k8.nt,k8.nf⟩,by simpa using hL⟩
    ·cases k1
   ·cases k1
  cases ex with
  | normal =>
   obtain ⟨as,q1,rfl⟩:=Option.map_eq_some_iff.1 k1
   obtain ⟨h7,h8⟩:=k3.ret
   rw[←R.henv] at q1
   obtain ⟨κ2,q3,q4,q5,q6⟩:=lQ k4 q1
   obtain ⟨n3,b,rfl,hb,h9⟩:=h8.ite
   simp only[List.map_append,List.map_cons] at hb h9
   have hd:tmp.d=env.length+(as.map (den (env++l'))).length:=by simpa using q6
   have hb1:den (env++l') (.c (.bool true))=.bool b:=by
    rw[←hb]
    exact (OH _ _ _ _ hd).symm
   have hb2:b=true:=by simpa[den,Lit.pv] using hb1.symm
   subst hb2
   have G:=q3.grow (den (env++l') (.c (.bool true))::(List.replicate p (Atom.c .nil)).map (den (env++l'))) (w':=w') (fun _ _=>rfl) (Nat.le_refl _)
   simp only[List.length_cons,List.length_map,List.length_replicate,List.append_assoc] at G
   refine ⟨_,κ2,{ tmp with d:=tmp.d+(p+1) },tm',n3,kt,[],h5,by omega,by simpa using h9,by simpa using G,⟨by rw[k5.siz,q5],k5.dfr,fun t ht=>?_⟩,k6,k7,⟨q4.trans k8.fb,q5.trans k8.nt,hc.1⟩,by simpa[hc.2] using hL⟩
   show _=tm' (tmp.fb+t)
   rw[q4]
   exact k5.tmp t (by rw[←q5];exact ht)
  | exit id=>exact out _ k1
  | ret=>exact out _ k1
 ·cases h
theorem jI.toC{f:CS→(CS→Option T)→Option T}{c:Code}(hf:jI P ρ f c):dt P ρ (fun cs k=>f cs (k .normal)) c:=by
 intro B env κ cs tm w a L r n k T0 h hev R A hL
 refine wp_mono (hf h hev R A hL) ?_
 rintro ex' a' w' ⟨rfl,hg⟩
 exact ⟨.normal,rfl,hg⟩
theorem x4(X:Ctx P tab ρ)(hI: ∀c,dt P ρ (inl c) c)(id:Nat)(ops:Array Oper)(draw:Bool){cs0:CS}{ord:Ord}(hd:GI P tab ops draw cs0=some ord) :
  jI P ρ (K6 P tab inl ops ord) (.region id ops draw):=by
 intro B env κ cs tm w a L r n k T0 h hev R A hL
 unfold GI at hd
 split at hd
 ·rename_i hc
  cases hd
  cases draw with
  | false =>
   refine wp_region_list ?_
   have:=uX X hI ops.toList (Q:=fun ex' a' w'=>ex'=.normal∧jd ρ B env cs tm w n L r k a' w') ops.toList h hev R A hL (fun a' w' hg=>⟨rfl,hg⟩)
   simpa using this
  | true =>
   simp only[Bool.not_true,Bool.false_or,Bool.and_eq_true] at hc
   obtain ⟨h1,h2⟩:=hc
   refine wp_region_quiet (C:=fun w1=>Below w.heap.size w w1) X.mixed (RQ h2) ⟨rfl,rfl,rfl,Nat.le_refl _,fun _ _=>rfl⟩ ?_
   have:=tf (inl:=inl) X ops.toList (K:=fun a'=> ∀w1,Below w.heap.size w w1→Exit.normal=.normal∧jd ρ B env cs tm w n L r k a' w1) ops.toList h1 h hev R A hL (fun a' hg w1 hB1=>⟨rfl,?_⟩)
   ·simpa using this
   ·obtain ⟨l,κ',cs',tm',n',T',l2,k1,k2,k3,k4,k5,k6,k7,k8,k9⟩:=hg
    have R1:=k4.grow [] (w':=w1) (fun g hg=>hB1.block g hg) hB1.size
    exact ⟨l,κ',cs',tm',n',T',l2,k1,k2,k3,by simpa using R1,k5,k6,hB1.mono R.hB,k8,k9⟩
 ·rename_i hc
  have hdraw:draw=true:=by
   cases draw with
   | true=>rfl
   | false=>simp at hc
  subst hdraw
  simp only at hd
  split at hd
  ·rename_i hok
   cases hd
   simp only[Bool.and_eq_true,decide_eq_true_eq] at hok
   obtain ⟨⟨o1,o2⟩,o3⟩:=hok
   have R1:Rel B env κ cs tm { w with drawn:=w.drawn+1 }:=by
    have:=R.grow [] (w':={ w with drawn:=w.drawn+1 }) (fun _ _=>rfl) (Nat.le_refl _)
    simpa using this
   refine wp_region_any X.mixed ?_
   rw[←G2]
   refine Bh (pr:=[]) _ _ _ _ ((mc o1 (fun c a w hq=>by cases hq.1) _ _ _ _ _ _ _ (Low.zero _) o2 (md X hI ops rfl _ _ _ [] [] o2 (fun p hp=>by simp at hp) h hev R1 A hL fun a' w' hg=>⟨rfl,?_⟩)).1 rfl o3)
   obtain ⟨l,κ',cs',tm',n',T',l2,k1,k2,k3,k4,k5,k6,k7,k8,k9⟩:=hg
   exact ⟨l,κ',cs',tm',n',T',l2,k1,k2,k3,k4,k5,k6,⟨k7.os,k7.tape,k7.output,k7.size,k7.block⟩,k8,k9⟩
  ·cases hd
theorem tg{tmp:CS}{f:CS→lf→Option T}{c:Code}(hf:dt P ρ f c):dt P ρ (wB tmp f) (.loop c):=by
 intro B env0 κ0 cs0 tm0 w0 a0 L0 r n0 k T0 h hev R0 A0 hL0
 unfold wB at h
 split at h
 ·rename_i hnf
  obtain ⟨as0,h1,h2⟩:=Option.bind_eq_some_iff.1 h
  obtain ⟨t,h3,rfl⟩:=Option.map_eq_some_iff.1 h2
  obtain ⟨n',rfl,h4⟩:=hev.loop
  rw[←R0.henv] at h1
  obtain ⟨κ1,R1,q1,q2,q3⟩:=lQ (env0:=env0) (l:=[]) (by simpa using R0) h1
  rw[List.append_nil] at R1
  have A1:ActOk a0 tmp tm0:=⟨by rw[A0.siz,q2],A0.dfr,fun t ht=>by rw[q1];exact A0.tmp t (by rw[←q2];exact ht)⟩
  have key: ∀(n:Nat) (l1:List PV) (κ:Kap) (w:World) (a:Act) (tm:Nat→Value),n≤n'→EvN ρ n t (env0++l1) (L0++[(t,env0.length)]) r→Rel B (env0++l1) κ tmp tm w→ActOk a tmp tm →
    (∀x,x<cs0.fb→tm x=tm0 x)→Below B w0 w →
    Kn P c (fun ex' a' w'=> ∃ex:Ex,ex'=ex.of∧jd ρ B env0 cs0 tm0 w0 (n'+1) L0 r (k ex) a' w') a w:=by
   intro n
   induction n using Nat.strongRecOn with
   | _ n ih =>
    intro l1 κ w a tm hn hev1 R A htm hB
    refine N9 (wp_mono (hf h3 hev1 (R.nl (cs0.nl+1)) (a:=a) ⟨A.siz,A.dfr,A.tmp⟩ (by simp[hL0])) ?_)
    rintro ex' a' w' ⟨ex,rfl,l,κ',cs',tm',n2,T',l2,k1,k2,k3,k4,k5,k6,k7,k8,k9⟩
    have out:k ex cs'=some T'→jd ρ B env0 cs0 tm0 w0 (n'+1) L0 r (k ex) a' w':=fun hk=>by
     have e1:cs'.fb=cs0.fb:=k8.fb.trans q1
     refine ⟨l1++l,κ',cs',tm',n2,T',[(t,env0.length)]++l2,hk,by omega,by simpa using k3,by simpa using k4,k5,fun x hx=>?_,hB.trans k7,⟨e1,k8.nt.trans q2,Nat.le_trans hnf k8.nf⟩,by simpa using k9⟩
     rw[k6 x (by simp only;omega),htm x hx]
    cases ex with
    | normal =>
     simp only[Ex.of,Exit.then]
     obtain ⟨as,m1,rfl⟩:=Option.map_eq_some_iff.1 k1
     obtain ⟨n3,b,m,rfl,m2,m3⟩:=k3.next
     have e:(L0++[(t,env0.length)]++l2)[cs0.nl]? =some (t,env0.length):=by
      rw[←hL0];simp
     rw[e] at m2
     cases m2
     have e2:(L0++[(t,env0.length)]++l2).take (cs0.nl+1)=L0++[(t,env0.length)]:=by
      rw[←hL0]
      rw[List.append_assoc,List.take_append,List.take_of_length_le (by omega)]
      simp
     rw[e2] at m3
     have e3:(env0++l1++l).take env0.length=env0:=by simp
     rw[e3] at m3
     rw[←R0.henv] at m1
     obtain ⟨κ2,R2,p1,p2,p3⟩:=lQ (env0:=env0) (l:=l1++l) (by simpa using k4) m1
     have e4:env0++(l1++l)=env0++l1++l:=by simp
     rw[e4] at R2
     exact ih n3 (by omega) _ κ2 w' a' tm' (by omega) m3 R2 ⟨by rw[k5.siz,p2],k5.dfr,fun t ht=>by rw[p1];exact k5.tmp t (by rw[←p2];exact ht)⟩
      (fun x hx=>by rw[k6 x (by simp only;omega),htm x hx]) (hB.trans k7)
    | exit id=>exact ⟨.exit id,rfl,out k1⟩
    | ret=>exact ⟨.ret,rfl,out k1⟩
  exact (key n' _ κ1 w0 a0 tm0 (Nat.le_refl _) h4 R1 A1 (fun _ _=>rfl) (Below.refl _ _)).wp
 ·cases h
theorem Na{hs:aa}{id:Nat}{f:CS→lf→Option T}{c:Code}(hf:dt P ρ f c):dt P ρ (AQ hs id f) (.loop c):=by
 intro B env κ cs tm w a L r n k T0 h hev R A hL
 unfold AQ at h
 split at h
 ·exact tg hf h hev R A hL
 ·exact tg hf h hev R A hL
theorem th{x y:Code}{c:Operand}(hx:dt P ρ (comp P tab hs inl x) x)(hy:dt P ρ (comp P tab hs inl y) y){at_:Atom} :
  ∀ {B:Bas P} {env:List PV} {κ:Kap} {cs:CS} {tm:Nat→Value} {w:World} {a:Act} {L:List (T×Nat)} {r:List PV→Prop} {n:Nat} {k:lf} {T0:T},
   ((comp P tab hs inl x { cs with known:=(at_,true)::cs.known } k).bind fun t=>(comp P tab hs inl y { cs with known:=(at_,false)::cs.known } k).bind fun e=>some (.ite at_ t e))=some T0 →
   EvN ρ n T0 env L r→Rel B env κ cs tm w→ActOk a cs tm→L.length=cs.nl→az cs c=some (.one (.at at_)) →
   (Code.cond c x y).wp P (fun ex' a' w'=> ∃ex:Ex,ex'=ex.of∧jd ρ B env cs tm w n L r (k ex) a' w') a w:=by
 intro B env κ cs tm w a L r n k T0 h hev R A hL hc
 obtain ⟨t,h1,h2⟩:=Option.bind_eq_some_iff.1 h
 obtain ⟨e,h3,h4⟩:=Option.bind_eq_some_iff.1 h2
 cases h4
 obtain ⟨n',b,rfl,h5,h6⟩:=hev.ite
 have hcv:=aj R A.tmp hc
 have hv:a.eval c=.bool b:=qL hcv.2 h5
 have Rk:=R.known (by rw[←R.henv];exact hcv.1) h5
 have up: ∀ {k':CS→Option T} {a' w'} {b:Bool},jd ρ B env { cs with known:=(at_,b)::cs.known } tm w n' L r k' a' w'→jd ρ B env cs tm w (n'+1) L r k' a' w':=by
  rintro k' a' w' b ⟨l,κ',cs',tm',n2,T',l2,k1,k2,k3,k4,k5,k6,k7,k8,k9⟩
  exact ⟨l,κ',cs',tm',n2,T',l2,k1,by omega,k3,k4,k5,k6,k7,⟨k8.fb,k8.nt,k8.nf⟩,k9⟩
 refine wp_cond hv ?_
 cases b with
 | true =>
  refine wp_mono (hx h1 h6 Rk ⟨A.siz,A.dfr,A.tmp⟩ hL) ?_
  rintro ex' a' w' ⟨ex,he,hg⟩
  exact ⟨ex,he,up hg⟩
 | false =>
  refine wp_mono (hy h3 h6 Rk ⟨A.siz,A.dfr,A.tmp⟩ hL) ?_
  rintro ex' a' w' ⟨ex,he,hg⟩
  exact ⟨ex,he,up hg⟩
theorem Kq{f:CS→(CS→Option T)→Option T}{c:Code}(hf:jI P ρ f c)(dead:List Nat):jI P ρ (fun cs k=>f cs fun cs1=>k (wD dead cs1)) c:=by
 intro B env κ cs tm w a L r n k T0 h hev R A hL
 refine wp_mono (hf h hev R A hL) ?_
 rintro ex' a' w' ⟨rfl,l,κ',cs',tm',n',T',l2,k1,k2,k3,k4,k5,k6,k7,k8,k9⟩
 refine ⟨rfl,l,κ',wD dead cs',tm',n',T',l2,k1,k2,k3,k4.clean (fun t=> !(dead.contains t)),⟨k5.siz,k5.dfr,fun t ht=>?_⟩,k6,k7,⟨k8.fb,k8.nt,k8.nf⟩,k9⟩
 exact k5.tmp t ht
theorem cE(X:Ctx P tab ρ)(hI: ∀c,dt P ρ (inl c) c)  (c:Code):dt P ρ (comp P tab hs inl c) c:=by
 cases c with
 | skip =>
  intro B env κ cs tm w a L r n k T0 h hev R A hL
  simp only[comp] at h
  exact wp_skip ⟨.normal,rfl,[],κ,cs,tm,n,T0,[],h,Nat.le_refl _,by simpa using hev,by simpa using R,A,fun _ _=>rfl,Below.refl _ _,Fr.refl _,by simpa using hL⟩
 | region id ops draw =>
  intro B env κ cs tm w a L r n k T0 h hev R A hL
  simp only[comp] at h
  split at h
  ·cases h
  ·rename_i rest hd
   split at h
   ·have h1:jI P ρ (uB hs (2*id) (K6 P tab inl ops rest) (Q8 ops cs.fb)) (.region id ops draw):=v7 (x4 X hI id ops draw hd) _
    have h2:dt P ρ _ (.region id ops draw):=jI.toC h1
    exact h2 h hev R A hL
   ·have h1:jI P ρ _ (.region id ops draw):=x4 X hI id ops draw hd
    split at h
    ·rename_i tm2 _
     have h2:dt P ρ _ (.region id ops draw):=jI.toC (Kq h1 (tm2.slots.map fun p=>cs.fb+p.1))
     exact h2 h hev R A hL
    ·have h2:dt P ρ _ (.region id ops draw):=jI.toC h1
     exact h2 h hev R A hL
 | seq x y =>
  intro B env κ cs tm w a L r n k T0 h hev R A hL
  simp only[comp] at h
  refine wp_seq (wp_mono (cE X hI x h hev R A hL) ?_)
  rintro ex' a' w' ⟨ex,rfl,hg⟩
  cases ex with
  | normal =>
   obtain ⟨l,κ',cs',tm',n',T',l2,k1,k2,k3,k4,k5,k6,k7,k8,k9⟩:=hg
   refine wp_mono (cE X hI y k1 k3 k4 k5 k9) ?_
   rintro ex' a2 w2 ⟨ex,he,hg⟩
   exact ⟨ex,he,hg.mono k2 k8 k6 k7⟩
  | exit id=>exact ⟨_,rfl,hg⟩
  | ret=>exact ⟨_,rfl,hg⟩
 | cond c x y =>
  intro B env κ cs tm w a L r n k T0 h hev R A hL
  simp only[comp] at h
  split at h
  ·rename_i at_ hc
   have hcv:=aj R A.tmp hc
   split at h
   ·rename_i hk
    have hv:a.eval c=.bool true:=qL hcv.2 (iL R hk)
    exact wp_cond_true hv (cE X hI x h hev R A hL)
   ·rename_i hk
    have hv:a.eval c=.bool false:=qL hcv.2 (iL R hk)
    exact wp_cond_false hv (cE X hI y h hev R A hL)
   ·split at h
    ·have hP:jI P ρ (fun cs1 k=>if az cs1 c=some (.one (.at at_)) then ((comp P tab hs inl x { cs1 with known:=(at_,true)::cs1.known } fun e cs=>match e with | .normal=>k cs | _=>none).bind fun t=>(comp P tab hs inl y { cs1 with known:=(at_,false)::cs1.known } fun e cs=>match e with | .normal=>k cs | _=>none).bind fun e=>some (.ite at_ t e)) else none) (.cond c x y):=by
      intro B env κ cs tm w a L r n k T0 h hev R A hL
      simp only at h
      split at h
      ·rename_i hc
       refine wp_mono (th (cE X hI x) (cE X hI y) h hev R A hL hc) ?_
       rintro ex' a' w' ⟨ex,rfl,hg⟩
       cases ex with
       | normal=>exact ⟨rfl,hg⟩
       | exit id=>obtain ⟨_,_,_,_,_,_,_,k1,_⟩:=hg;simp at k1
       | ret=>obtain ⟨_,_,_,_,_,_,_,k1,_⟩:=hg;simp at k1
      ·cases h
     have hc0:az { cs with nl:=0 } c=some (.one (.at at_)):=by rw[←hc];cases c<;>rfl
     have h1:=@v7 P ρ hs (qI x) _ _ hP []
     have h2:dt P ρ _ (.cond c x y):=jI.toC h1
     refine h2 (T0:=T0) (k:=k) ?_ hev R A hL
     have hk0: ∀y:CS,az { y with nl:=0 } c=az y c:=fun y=>by cases c<;>rfl
     unfold uB at h ⊢
     unfold Ot wE at h ⊢
     simp only[hc,hc0,if_true] at h ⊢
     exact h
    ·split at h
     ·rename_i e _
      have hP:dt P ρ (fun cs1 k=>if az cs1 c=some (.one (.at at_)) then ((comp P tab hs inl x { cs1 with known:=(at_,true)::cs1.known } k).bind fun t=>(comp P tab hs inl y { cs1 with known:=(at_,false)::cs1.known } k).bind fun e=>some (.ite at_ t e)) else none) (.cond c x y):=by
       intro B env κ cs tm w a L r n k T0 h hev R A hL
       simp only at h
       split at h
       ·rename_i hc
        exact th (cE X hI x) (cE X hI y) h hev R A hL hc
       ·cases h
      have hc0:az { cs with nl:=0 } c=some (.one (.at at_)):=by rw[←hc];cases c<;>rfl
      have h1:=@Bm P ρ _ (.cond c x y) (K5 cs e) e.nt hP
      refine h1 (T0:=T0) (k:=k) ?_ hev R A hL
      unfold wF at h ⊢
      simp only[hc0,if_true] at h ⊢
      exact h
     ·exact th (cE X hI x) (cE X hI y) h hev R A hL hc
  ·cases h
 | block id b =>
  intro B env κ cs tm w a L r n k T0 h hev R A hL
  simp only[comp] at h
  refine wp_block (wp_mono (cE X hI b h hev R A hL) ?_)
  rintro ex' a' w' ⟨ex,rfl,hg⟩
  cases ex with
  | normal=>exact ⟨.normal,rfl,hg⟩
  | exit id' =>
   simp only[Ex.of,Exit.inBlock]
   split
   ·rename_i e;subst e;exact ⟨.normal,rfl,by simpa using hg⟩
   ·rename_i e;exact ⟨.exit id',rfl,by simpa[e] using hg⟩
  | ret=>exact ⟨.ret,rfl,hg⟩
 | loop b =>
  intro B env κ cs tm w a L r n k T0 h hev R A hL
  simp only[comp] at h
  exact Na (cE X hI b) h hev R A hL
 | exit id =>
  intro B env κ cs tm w a L r n k T0 h hev R A hL
  simp only[comp] at h
  exact wp_exit ⟨.exit id,rfl,[],κ,cs,tm,n,T0,[],h,Nat.le_refl _,by simpa using hev,by simpa using R,A,fun _ _=>rfl,Below.refl _ _,Fr.refl _,by simpa using hL⟩
 | ret =>
  intro B env κ cs tm w a L r n k T0 h hev R A hL
  simp only[comp] at h
  exact wp_ret ⟨.ret,rfl,[],κ,cs,tm,n,T0,[],h,Nat.le_refl _,by simpa using hev,by simpa using R,A,fun _ _=>rfl,Below.refl _ _,Fr.refl _,by simpa using hL⟩
 | _ =>
  intro B env κ cs tm w a L r n k T0 h
  simp[comp] at h
theorem Kr(X:Ctx P tab ρ)(N:Nat): ∀c:Code,dt P ρ (K7 P tab hs N c) c:=by
 induction N with
 | zero =>
  intro c B env κ cs tm w a L r n k T0 h
  simp[K7] at h
 | succ N ih =>
  intro c
  simp only[K7]
  exact cE X ih c
end
end Go.Xt
