/- Steps towards the statements of this seat; the conditions stand in each theorem. -/
import Derived.Test.YtahdphncepnbeaaGreatDoorXt11
set_option linter.unusedSimpArgs false
set_option linter.unusedVariables false
namespace Go.Xt
open Go.RowKit
def Oz(w:World)(g c es:Nat)(T:TypeId)(cells:Array Value):Prop:=w.heap[g]? =some (.cells cells T (0,0))∧cells.size=c*es
def U6(w:World)(O:Nat→Prop)(es:Nat)(xs:List (List PV))(v:Value):Prop :=
 (xs=[]∧ ∃A,v=.slice A 0 0) ∨
 ∃g c T cells,v=.slice (some ⟨g,0,none⟩) xs.length c∧Oz w g c es T cells∧xs.length≤c∧ ∀i j,i<xs.length→j<es→ ∃u,cells[i*es+j]? =some u∧RP w O (look (xs.getD i []) j) u
def T4(w w':World)(O:Nat→Prop)(es:Nat)(ys:List (List PV))(v v':Value):Prop :=
 (ys=[]∧ ∃A,v'=.slice A 0 0) ∨
 ∃g c T cells,v'=.slice (some ⟨g,0,none⟩) ys.length c∧((∃n c0,v=.slice (some ⟨g,0,none⟩) n c0∧0<c0)∨w.heap.size≤g)∧Oz w' g c es T cells∧(∀cells0 T0 fr,w.heap[g]? =some (.cells cells0 T0 fr)→T0=T)∧ys.length≤c ∧
  ∀i j,i<ys.length→j<es→ ∃u,cells[i*es+j]? =some u∧RP w O (look (ys.getD i []) j) u
def zJ(P:Program)(K:Nat)(fin:Bool)(f:List PV→Option (List PV)):Prop :=
 ∀ps rs,f ps=some rs→ ∃(xs ys:List (List PV)) (qs:List PV),ps=.list xs::qs∧rs=[.list ys]∧(fin=false→ys.length=xs.length) ∧
  ∀(w:World) (O:Nat→Prop) (v:Value) (us:List Value),0<wx P K→xs.length≤2 ^ 63-1→(∀i,i<xs.length→(xs.getD i []).length=wx P K)→U6 w O (wx P K) xs v→aw (RP w O) qs us →
   ys.length≤2 ^ 63-1∧(∀i,i<ys.length→(ys.getD i []).length=wx P K) ∧
   Calls P K (v::us).toArray w (fun e w'=> ∃v',e=.returned (if fin then v' else .tuple #[])∧(fin=false→v'=v)∧T4 w w' O (wx P K) ys v v' ∧
    (∀g',g'<w.heap.size→(∀n c,v=.slice (some ⟨g',0,none⟩) n c→c=0)→w'.heap[g']? =w.heap[g']?)∧w.heap.size≤w'.heap.size∧w'.os=w.os∧w'.tape=w.tape∧w'.output=w.output)
def G0(P:Program)(K:Nat)(f:List PV→Option (List PV)):Prop :=
 ∀ps rs,f ps=some rs→ ∃(xs ys:List (List PV)) (qs:List PV),ps=.list xs::qs∧rs=[.list ys] ∧
  ∀(w:World) (O:Nat→Prop) (A:Option Addr) (us:List Value),0<wx P K→xs=[]→aw (RP w O) qs us →
   ys.length≤2 ^ 63-1∧(∀i,i<ys.length→(ys.getD i []).length=wx P K) ∧
   Calls P K (.slice A 0 0::us).toArray w (fun e w'=> ∃v',e=.returned v'∧T4 w w' O (wx P K) ys (.slice A 0 0) v' ∧
    (∀g',g'<w.heap.size→w'.heap[g']? =w.heap[g']?)∧w.heap.size≤w'.heap.size∧w'.os=w.os∧w'.tape=w.tape∧w'.output=w.output)
theorem zJ.nil{P:Program}{K:Nat}{f:List PV→Option (List PV)}(h:zJ P K true f):G0 P K f:=by
 intro ps rs hf
 obtain ⟨xs,ys,qs,h1,h2,_,h3⟩:=h ps rs hf
 refine ⟨xs,ys,qs,h1,h2,fun w O A us hes hx hq=>?_⟩
 subst hx
 obtain ⟨k1,k2,k3⟩:=h3 w O (.slice A 0 0) us hes (by simp) (fun i hi=>by simp at hi) (.inl ⟨rfl,A,rfl⟩) hq
 refine ⟨k1,k2,k3.mono ?_⟩
 rintro e w' ⟨v',rfl,_,m1,m2,m3⟩
 exact ⟨v',rfl,m1,fun g' hg'=>m2 g' hg' fun n c e=>by simp only[Value.slice.injEq] at e;exact e.2.2.symm,m3⟩
section
variable {P:Program}{tab:List Sig}{inl:Code→CS→lf→Option T}{B:Bas P}{env env':List PV}{κ κ':Kap}{cs:CS}{tm:Nat→Value}{w w':World}{a:Act}{ρ:Fns}{L:List (T×Nat)}{r:List PV→Prop}
theorem t8{H:List (Nat×Blk)}: ∀ {rest:List SV} {as:List Atom} {us:List Value},ww rest=some as→aw (bV env κ H w) rest us→aw (RP w (Own κ)) (as.map (den env)) us
 | [],as,us,h,hr=>by
  cases h
  cases us with
  | nil=>trivial
  | cons _ _=>exact hr.elim
 | sv::rest,as,us,h,hr=>by
  cases us with
  | nil=>exact hr.elim
  | cons u us =>
   unfold ww at h
   split at h
   ·rename_i h0;cases h0
   ·rename_i a r h0
    cases h0
    obtain ⟨as',h1,rfl⟩:=Option.map_eq_some_iff.1 h
    have h2:aR env κ H w (.at a) u:=hr.1
    exact ⟨h2.2,t8 h1 hr.2⟩
   ·cases h
theorem Rel.newNilW(R:Rel B env κ cs tm w)(b es:Nat)(hes:0<es)(A:Option Addr)(hw: ∀g,g<w.heap.size→κ b≠some g→w'.heap[g]? =w.heap[g]?)(hs:w.heap.size≤w'.heap.size) :
  Rel B (env++[.list []]) (upd κ b none) { (cs.newB b (.arr es (.v cs.d))) with d:=cs.d+1 } tm w' ∧
  aR (env++[.list []]) (upd κ b none) (cs.newB b (.arr es (.v cs.d))).heap w' (.own b) (.slice A 0 0):=by
 have hd:den (env++[.list []]) (.v cs.d)=.list []:=by rw[←R.henv];simp[den,ii]
 have hlt:Atom.lt (env++[PV.list []]).length (.v cs.d)=true:=by simp[Atom.lt,R.henv]
 have:=R.replace (w':=w') b (.arr es (.v cs.d)) none [.list []] (fun g' h=>by cases h) hw hs
  ⟨hlt,hes,[],hd,by simp,fun i hi=>by simp at hi,.inl ⟨by simp[upd],rfl⟩⟩
 refine ⟨this,es,.v cs.d,[],by rw[fj,if_pos rfl];rfl,hlt,hd,.inl ⟨by simp[upd],rfl,A,rfl⟩⟩
theorem Qg(R:Rel B env κ cs tm w)(b es:Nat)(hes:0<es){ys:List (List PV)}{v v':Value}(hyl:ys.length≤2 ^ 63-1)(hyr: ∀i,i<ys.length→(ys.getD i []).length=es)
  (hO:T4 w w' (Own κ) es ys v v') (hv: ∀g n c,v=.slice (some ⟨g,0,none⟩) n c→0<c→κ b=some g)
  (hw: ∀g,g<w.heap.size→κ b≠some g→w'.heap[g]? =w.heap[g]?) (hs:w.heap.size≤w'.heap.size) :
  ∃κ',Rel B (env++[.list ys]) κ' { (cs.newB b (.arr es (.v cs.d))) with d:=cs.d+1 } tm w'∧aR (env++[.list ys]) κ' (cs.newB b (.arr es (.v cs.d))).heap w' (.own b) v':=by
 rcases hO with ⟨rfl,A,rfl⟩ | ⟨g,c,T,cells,rfl,hg,⟨h1,h2⟩,_,hc,hcell⟩
 ·exact ⟨_,R.newNilW b es hes A hw hs⟩
 ·refine ⟨_,R.newArr (w':=w') b es ys g c cells T hes hyl hyr ?_ h1 h2 hc hcell hw hs⟩
  rcases hg with ⟨n,c0,e,h0⟩ | hg
  ·exact .inl (hv g n c0 e h0)
  ·exact .inr hg
theorem GQ(R:Rel B env κ cs tm w){nl:Bool}{dst:Option Tmp}{K:Nat}{fin:Bool}(hI:nl=false→zJ P K fin (ρ K))(hN:fin=true→G0 P K (ρ K)){args:List SV}{us:List Value}{k:SV→CS→Option T}{T0:T}{n:Nat}
  (h:MI P nl dst K fin args cs k=some T0) (hev:EvN ρ n T0 env L r) (hr:aw (bV env κ cs.heap w) args us) :
  Calls P K us.toArray w (fun e w'=> ∃v,e=.returned v∧sB ρ B env cs tm w n L r k v w'):=by
 unfold MI at h
 split at h
 ·rename_i b rest
  split at h
  ·rename_i es x as hb has
   split at h
   ·rename_i hesP0
    obtain ⟨hesP,hnl⟩:=hesP0
    cases us with
    | nil=>exact hr.elim
    | cons v us =>
     obtain ⟨es1,x1,xs,h1,h2,h3,h4⟩:=hr.1
     have hqs:=t8 has hr.2
     rw[hb] at h1;cases h1
     obtain ⟨k1,k2,xs',k3,k4,k5,k6⟩:=R.hblk b _ hb
     rw[h3] at k3;cases k3
     have hT: ∃T1,T0=.call K (x::as) 1 T1∧(if fin=true then k (.one (.own b)) { (cs.newB b (.arr es (.v cs.d))) with d:=cs.d+1 } else k (.tup []) { (cs.writeB b (.arr es (.v cs.d))) with d:=cs.d+1 })=some T1:=by
      cases fin with
      | true=>obtain ⟨T1,q1,rfl⟩:=Option.map_eq_some_iff.1 h;exact ⟨T1,rfl,by simpa using q1⟩
      | false=>obtain ⟨T1,q1,rfl⟩:=Option.map_eq_some_iff.1 h;exact ⟨T1,rfl,by simpa using q1⟩
     obtain ⟨T1,rfl,hk⟩:=hT
     obtain ⟨n',rs,rfl,h5,h6,h7⟩:=hev.call
     simp only[List.map_cons,h3] at h5
     obtain ⟨xs',ys,qs,e1,rfl,hfl,hrun⟩:=hI hnl _ _ h5
     simp only[List.cons.injEq,PV.list.injEq] at e1
     obtain ⟨rfl,rfl⟩:=e1
     rw[←hesP] at hrun
     have hOV:U6 w (Own κ) es xs v:=by
      rcases h4 with ⟨hκ,hz,A,rfl⟩ | ⟨g,c,cells,T,hκ,rfl,hc,hg,hsz⟩
      ·exact .inl ⟨hz,A,rfl⟩
      ·rcases k6 with ⟨k6,_⟩ | ⟨g',cur,T',c',k6,k7,k8,k9,k10⟩
       ·rw[hκ] at k6;cases k6
       ·rw[hκ] at k6;cases k6
        rw[hg] at k7;cases k7
        exact .inr ⟨g,c,T,cells,rfl,⟨hg,hsz⟩,hc,k10⟩
     obtain ⟨hyl,hyr,hrun⟩:=hrun w (Own κ) v us k2 k4 k5 hOV hqs
     have hev2:=h7 (by intro p hp;simp at hp;subst hp;exact hyl)
     have hvb: ∀g n c,v=.slice (some ⟨g,0,none⟩) n c→0<c→κ b=some g:=by
      intro g n c e h0
      rcases h4 with ⟨_,_,A,rfl⟩ | ⟨g',c',_,_,hκ,rfl,_,_,_⟩
      ·simp only[Value.slice.injEq] at e;omega
      ·simp only[Value.slice.injEq,Option.some.injEq,Addr.mk.injEq] at e
       rw[hκ,e.1.1]
     have hother: ∀ {w':World},(∀g',g'<w.heap.size→(∀n c,v=.slice (some ⟨g',0,none⟩) n c→c=0)→w'.heap[g']? =w.heap[g']?)→ ∀g',g'<w.heap.size→κ b≠some g'→w'.heap[g']? =w.heap[g']? :=
      fun hf g' hg' hne=>hf g' hg' fun n c e=>by
       rcases Nat.eq_zero_or_pos c with h0 | h0
       ·exact h0
       ·exact absurd (hvb g' n c e h0) hne
     refine hrun.mono ?_
     rintro e w' ⟨v',rfl,hvv,hW,m5,m6,m7,m8,m9⟩
     have hoth:=hother m5
     have hBel:Below B w w':=⟨m7,m8,m9,m6,fun g' hg'=>hoth g' (Nat.lt_of_lt_of_le hg' R.hB) fun e=>by have:=(R.hκ _ _ e).2.1;omega⟩
     cases fin with
     | true =>
      obtain ⟨κ',q1,q2⟩:=Qg R b es k2 hyl hyr hW hvb hoth m6
      simp only[if_true] at hk ⊢
      exact ⟨_,rfl,[_],_,_,.one (.own b),n',T1,hk,Nat.le_succ _,hev2,q1,q2,hBel,⟨rfl,rfl,rfl,Nat.le_refl _⟩⟩
     | false =>
      simp only[Bool.false_eq_true,if_false] at hk ⊢
      have hll:ys.length=xs.length:=hfl rfl
      have hv2:v'=v:=hvv rfl
      subst hv2
      have hnew:den (env++[.list ys]) (.v cs.d)=.list ys:=by rw[←R.henv];simp[den,ii]
      have hlt:Atom.lt (env++[PV.list ys]).length (.v cs.d)=true:=by simp[Atom.lt,R.henv]
      have F:=yo (w':=w') R b (.arr es (.v cs.d)) [.list ys] hoth m6
      rcases h4 with ⟨hκ,hz,A,rfl⟩ | ⟨g,c,cells,T,hκ,rfl,hc,hg,hsz⟩
      ·subst hz
       have hys:ys=[]:=List.eq_nil_of_length_eq_zero (by simpa using hll)
       subst hys
       have R2:=R.wr (blk:=.arr es (.v cs.d)) [.list []] ⟨F,rfl,(fun l' h=>by rw[hb] at h;cases h),(fun es2 x2 h=>by
         rw[hb] at h;cases h
         exact ⟨.v cs.d,by rw[dY,if_pos rfl];rfl,hlt,fun xs2 h=>by rw[h3] at h;cases h;exact ⟨_,hnew,rfl⟩⟩),(fun g2 cells T2 h4 h5=>by rw[hκ] at h4;cases h4)⟩
        ⟨hlt,k2,_,hnew,hyl,hyr,.inl ⟨hκ,rfl⟩⟩
       exact ⟨_,rfl,[_],_,_,.tup [],n',T1,hk,Nat.le_succ _,hev2,R2,⟨#[],rfl,trivial⟩,hBel,⟨rfl,rfl,rfl,Nat.le_refl _⟩⟩
      ·have hW2: ∃cells',w'.heap[g]? =some (.cells cells' T (0,0))∧cells'.size=c*es∧ ∀i j,i<ys.length→j<es→ ∃u,cells'[i*es+j]? =some u∧RP w (Own κ) (look (ys.getD i []) j) u:=by
        rcases hW with ⟨hy,A,e⟩ | ⟨g2,c2,T2,cells2,e,_,⟨q1,q2⟩,qT,_,q3⟩
        ·simp only[Value.slice.injEq] at e
         obtain ⟨_,e2,e3⟩:=e
         subst e3
         have hg2:g<w.heap.size:=(Array.getElem?_eq_some_iff.1 hg).1
         refine ⟨cells,?_,hsz,fun i j hi=>by rw[hy] at hi;simp at hi⟩
         rw[m5 g hg2 fun n c e=>by simp only[Value.slice.injEq] at e;exact e.2.2.symm];exact hg
        ·simp only[Value.slice.injEq,Option.some.injEq,Addr.mk.injEq] at e
         obtain ⟨⟨rfl,_⟩,_,rfl⟩:=e
         obtain rfl:=qT _ _ _ hg
         exact ⟨cells2,q1,q2,q3⟩
       obtain ⟨cells',m1,m2,hcell⟩:=hW2
       have R2:=R.wr (blk:=.arr es (.v cs.d)) [.list ys] ⟨F,rfl,(fun l' h=>by rw[hb] at h;cases h),(fun es2 x2 h=>by
         rw[hb] at h;cases h
         exact ⟨.v cs.d,by rw[dY,if_pos rfl];rfl,hlt,fun xs2 h=>by rw[h3] at h;cases h;exact ⟨_,hnew,hll⟩⟩),(fun g2 cells2 T2 h4 h5=>by
         rw[hκ] at h4;cases h4
         rw[hg] at h5;cases h5
         exact ⟨cells',m1,by omega⟩)⟩
        ⟨hlt,k2,_,hnew,hyl,hyr,.inr ⟨g,cells',T,c,hκ,m1,m2,by omega,fun i j hi hj=>by
         obtain ⟨u,q1,q2⟩:=hcell i j hi hj
         exact ⟨u,q1,q2.mono fun g' hg' hn=>⟨hoth g' hg' fun e=>hn (.inr ⟨b,e⟩),hn⟩⟩⟩⟩
       exact ⟨_,rfl,[_],_,_,.tup [],n',T1,hk,Nat.le_succ _,hev2,R2,⟨#[],rfl,trivial⟩,hBel,⟨rfl,rfl,rfl,Nat.le_refl _⟩⟩
   ·cases h
  ·cases h
 ·rename_i rest
  split at h
  ·rename_i b as hb has
   split at h
   ·rename_i hes
    cases us with
    | nil=>exact hr.elim
    | cons v us =>
     have hqs:=t8 has hr.2
     obtain ⟨A,hv0⟩: ∃A,v=.slice A 0 0:=hr.1
     subst hv0
     obtain ⟨T1,hk,rfl⟩:=Option.map_eq_some_iff.1 h
     obtain ⟨n',rs,rfl,h5,h6,h7⟩:=hev.call
     obtain ⟨xs',ys,qs,e1,rfl,hrun⟩:=hN rfl _ _ h5
     simp only[List.map_cons,List.cons.injEq] at e1
     obtain ⟨e0,rfl⟩:=e1
     have e2:xs'=[]:=by
      have:PV.list []=PV.list xs':=e0
      cases this;rfl
     subst e2
     obtain ⟨hyl,hyr,hrun⟩:=hrun w (Own κ) A us hes rfl hqs
     have hev2:=h7 (by intro p hp;simp at hp;subst hp;exact hyl)
     refine hrun.mono ?_
     rintro e w' ⟨v',rfl,hW,m5,m6,m7,m8,m9⟩
     have hoth:=m5
     obtain ⟨κ',q1,q2⟩:=Qg R b _ hes hyl hyr hW (fun g n c e h0=>by simp only[Value.slice.injEq] at e;omega) (fun g hg _=>hoth g hg) m6
     exact ⟨_,rfl,[_],_,_,.one (.own b),n',T1,hk,Nat.le_succ _,hev2,q1,q2,⟨m7,m8,m9,m6,fun g' hg'=>hoth g' (Nat.lt_of_lt_of_le hg' R.hB)⟩,⟨rfl,rfl,rfl,Nat.le_refl _⟩⟩
   ·cases h
  ·cases h
 ·cases h
end
end Go.Xt
