/- Steps towards the statements of this seat; the conditions stand in each theorem. -/
import Derived.Test.YtahdphncepnbeaaGreatDoorXt2
set_option linter.unusedSimpArgs false
set_option linter.unusedVariables false
namespace Go.Xt
open Go.RowKit
section
variable {P:Program}{B:Bas P}{env:List PV}{κ:Kap}{cs:CS}{tm:Nat→Value}{w:World}{a:Act}
theorem RL.at_{O O':Nat→Prop}{xs:List (List PV)}{A:Option Addr}{n c es:Nat}{i:Int}(hr:RL w O O' (.list xs) (.slice A n c))
  (h0:0≤i) (h1:i<xs.length) (he:qF es xs=true) :
  ∃ad:Addr,A=some ad∧i<n∧ ∀j,j<es→ ¬O' (ad.add (i.toNat*es)).block∧ ∃u,w.cell? ((ad.add (i.toNat*es)).add j)=some u∧RP w O (look (xs.getD i.toNat []) j) u:=by
 obtain ⟨xs',A',n',c',es',f,ad,hp,hv,hn,hc,hm,hes,hA,hO,hcell,hsub⟩:=hr
 cases hp;cases hv
 have hp:0<n:=by omega
 have e:es'=es:=AU he hn hp hes
 subst e
 refine ⟨ad,hA hp,by omega,fun j hj=>⟨by rw[dp];exact hO hp (by omega),f i.toNat j,?_,hsub _ _ (by omega) hj⟩⟩
 rw[wH]
 exact hcell _ _ (by omega) hj
theorem ma(k:IntKind)(n:Int)(w':World):(asIntOf (.int k n)).run P w'=.ok (k,n) w':=rfl
theorem wK{t e:TypeId}(ht:P.underlying t=some (.slice e))(he:okT P e=true)(ad:Addr)(n c:Nat)(k:IntKind)(i:Int)(h0:0≤i)(h1:i<n)(w':World) :
  (Instr.indexAt t (.slice (some ad) n c) (.int k i)).run P w'=.ok (.pointer (some (ad.add (i.toNat*P.cellsOf e)))) w':=by
 have hc:(0≤i∧i<(n:Int)):=⟨h0,h1⟩
 simp[Instr.indexAt,ma,bj ht,ek he,hc]
theorem sU{o:Oper}{t:TypeId}{x i:Operand}(ho:o.op=.indexAddr t x i)(ρ:Operand→Value){v:Value}{w':World}(h:(Instr.indexAt t (ρ x) (ρ i)).run P w'=.ok v w') :
  (execOp ρ o).run P w'=.ok (.value v) w':=by simp[execOp,ho,h]
theorem RF(R:Rel B env κ cs tm w)(ha: ∀t,t<cs.nt→a.tmps.getD t undef=tm (cs.fb+t)){o:Oper}{t e:TypeId}{x i:Operand}(ho:o.op=.indexAddr t x i)
  (ht:P.underlying t=some (.slice e)) (he:okT P e=true) (hpos:0<P.cellsOf e) {c:C} {ia:Atom} (hx:az cs x=some (.one c)) (hi:az cs i=some (.one (.at ia))) :
  (∀b la,c=.own b→cs.listOf c=some la→QOk P env κ cs.heap w a.eval o (.em (.idx (P.cellsOf e)) [la,ia] fun r=>.one (.aptr b r 0))) ∧
  (∀b la,c=.bor b la→QOk P env κ cs.heap w a.eval o (.em (.idx (P.cellsOf e)) [la,ia] fun r=>.one (.eptr (some b) la r 0 (P.cellsOf e)))) ∧
  (∀la,c=.at la→QOk P env κ cs.heap w a.eval o (.em (.idx (P.cellsOf e)) [la,ia] fun r=>.one (.eptr none la r 0 (P.cellsOf e)))) ∧
  (c=.nil0→QOk P env κ cs.heap w a.eval o (.em (.idx (P.cellsOf e)) [.c .nil,ia] fun r=>.one (.eptr none (.c .nil) r 0 (P.cellsOf e)))):=by
 have hc:aR env κ cs.heap w c (a.eval x):=aj R ha hx
 obtain ⟨hil,hir⟩:=nE R (aj R ha hi)
 have main: ∀(O O':Nat→Prop) (la:Atom) (p:PV),RL w O O' (den env la) (a.eval x)→ev (.idx (P.cellsOf e)) [den env la,den env ia]=some p →
   ∃xs k m ad,den env la=.list xs∧p=.int k m∧inr k m∧0≤m∧m<xs.length∧qF (P.cellsOf e) xs=true∧(∃n c',a.eval x=.slice (some ad) n c'∧m<n) ∧
    (∀w',(execOp a.eval o).run P w'=.ok (.value (.pointer (some (ad.add (m.toNat*P.cellsOf e))))) w') ∧
    ∀j,j<P.cellsOf e→ ¬O' (ad.add (m.toNat*P.cellsOf e)).block∧ ∃u,w.cell? ((ad.add (m.toNat*P.cellsOf e)).add j)=some u∧RP w O (look (xs.getD m.toNat []) j) u:=by
  intro O O' la p hl hp
  obtain ⟨xs,A,n,c',hdl,hvx⟩: ∃xs A n c',den env la=.list xs∧a.eval x=.slice A n c':=by
   obtain ⟨xs,A,n,c',_,_,_,h1,h2,_⟩:=hl;exact ⟨xs,A,n,c',h1,h2⟩
  rw[hdl,hvx] at hl
  rw[hdl] at hp
  generalize hdi:den env ia=di at *
  generalize hvi:a.eval i=vi at *
  cases hir<;>simp only[ev] at hp<;>try (cases hp;done)
  rename_i k m hk
  split at hp
  ·rename_i hcnd
   cases hp
   obtain ⟨h0,h1,h2⟩:=hcnd
   obtain ⟨ad',hA',hlt,hcells⟩:=RL.at_ hl h0 h1 h2
   subst hA'
   refine ⟨xs,k,m,ad',hdl,rfl,hk,h0,h1,h2,⟨n,c',hvx,hlt⟩,fun w'=>?_,hcells⟩
   refine sU ho _ ?_
   rw[hvx,hvi]
   exact wK ht he ad' n c' k m h0 hlt w'
  ·cases hp
 refine ⟨?_,?_,?_,fun _ p hp=>?_⟩
 rotate_right
 ·exfalso
  have h0:ev (.idx (P.cellsOf e)) [.list [],den env ia]=some p:=hp
  generalize den env ia=di at h0
  cases di<;>simp[ev] at h0
  omega
 ·rintro b la rfl hla p hp
  simp only[CS.listOf] at hla
  split at hla
  ·rename_i es x' hb
   cases hla
   obtain ⟨h1,h2⟩:=yl R hb hc
   obtain ⟨xs,k,m,ad,e1,e2,e3,e4,e5,e6,⟨n,c',e7,e8⟩,e9,_⟩:=main _ _ _ p h1 hp
   refine ⟨_,fun w' _=>e9 w',?_⟩
   obtain ⟨es',x'',xs',h3,h4,h5,h6⟩:=hc
   rw[hb] at h3;cases h3
   rw[e1] at h5;cases h5
   obtain ⟨_,_,xs'',k3,k4,k5,k6⟩:=R.hblk _ _ hb
   rw[e1] at k3;cases k3
   have hes:es=P.cellsOf e:=by
    cases xs with
    | nil=>simp at e5;omega
    | cons r rs =>
     have:=k5 0 (by simp)
     simp[qF] at e6
     simp at this
     omega
   rcases h6 with ⟨_,rfl,_⟩ | ⟨g,c2,cells,T,h7,h8,_⟩
   ·simp at e5;omega
   ·rw[e7] at h8
    injection h8 with h8 _ _
    injection h8 with h8
    refine ⟨by simp[Atom.lt],es,la,xs,g,k,m,hb,Atom.lt_mono (by simp) h4,by rw[ej _ _ _ h4];exact e1,h7,by simp[den,ii,e2],e4,e5,?_⟩
    rw[h8,kx,hes];simp
  ·cases hla
 ·rintro b la rfl p hp
  obtain ⟨h1,h2,h3⟩:=hc
  obtain ⟨xs,k,m,ad,e1,e2,e3,e4,e5,e6,_,e9,e10⟩:=main _ _ _ p h3 hp
  refine ⟨_,fun w' _=>e9 w',Atom.lt_mono (by simp) h1,by simp[Atom.lt],(fun b' hb'=>by cases hb';exact h2),_,rfl,fun j hj=>?_⟩
  obtain ⟨h4,u,h5,h6⟩:=e10 j (by simpa using hj)
  refine ⟨h4,u,h5,?_⟩
  simpa[den,ii,ej _ _ _ h1,e1,e2,PV.cellAt,OX] using h6
 ·rintro la rfl p hp
  obtain ⟨h1,h3⟩:=hc
  have hl3:RL w (Own κ) (Own κ) (den env la) (a.eval x):=by
   cases hd:den env la with
   | list xs=>rw[hd] at h3;exact h3.list_of
   | _=>cases hdi:den env ia<;>simp[ev,hd,hdi] at hp
  obtain ⟨xs,k,m,ad,e1,e2,e3,e4,e5,e6,_,e9,e10⟩:=main _ _ _ p hl3 hp
  refine ⟨_,fun w' _=>e9 w',Atom.lt_mono (by simp) h1,by simp[Atom.lt],(fun b' hb'=>by cases hb'),_,rfl,fun j hj=>?_⟩
  obtain ⟨h4,u,h5,h6⟩:=e10 j (by simpa using hj)
  refine ⟨h4,u,h5,?_⟩
  simpa[den,ii,ej _ _ _ h1,e1,e2,PV.cellAt,OX] using h6
theorem MQ(R:Rel B env κ cs tm w)(ha: ∀t,t<cs.nt→a.tmps.getD t undef=tm (cs.fb+t)){o:Oper}{t e:TypeId}{x i:Operand}(ho:o.op=.indexAddr t x i){n:Nat}
  (ht:P.underlying t=some (.array n e)) (he:okT P e=true) {b off:Nat} {ik:IntKind} {m:Int} (hx:az cs x=some (.one (.ptr b off))) (hi:az cs i=some (.one (.at (.c (.int ik m)))))
  (h0:0≤m∧m<n):QOk P env κ cs.heap w a.eval o (.val (.one (.ptr b (off+m.toNat*P.cellsOf e)))):=by
 obtain ⟨l,g,h1,h2,h3⟩:aR env κ cs.heap w (.ptr b off) (a.eval x):=aj R ha hx
 obtain ⟨_,h4⟩:=nE R (aj R ha hi)
 have h5:a.eval i=.int ik m:=by
  simp only[den,Lit.pv] at h4;generalize a.eval i=vi at h4;cases h4;rfl
 refine ⟨.pointer (some ⟨g,off+m.toNat*P.cellsOf e,none⟩),fun w' _=>sU ho _ ?_,l,g,h1,h2,rfl⟩
 rw[h3,h5]
 simp[Instr.indexAt,ma,bj ht,ek he,h0,Instr.sureAddr,kx]
theorem sV(R:Rel B env κ cs tm w)(ha: ∀t,t<cs.nt→a.tmps.getD t undef=tm (cs.fb+t)){o:Oper}{t:TypeId}{x:Operand}{f:Nat}(ho:o.op=.fieldAddr t x f){fs:Array Field}{fd:Field}
  (ht:P.underlying t=some (.struct fs)) (hf:fs[f]? =some fd) (hz:P.cellsOf fd.type≠0) {c c':C} (hx:az cs x=some (.one c))
  (hc:(∃b off,c=.ptr b off∧c'=.ptr b (off+fd.offset))∨(∃b i off,c=.aptr b i off∧c'=.aptr b i (off+fd.offset))∨(∃bo l i off m,c=.eptr bo l i off m∧c'=.eptr bo l i (off+fd.offset) m)) :
  QOk P env κ cs.heap w a.eval o (.val (.one c')):=by
 have hr:aR env κ cs.heap w c (a.eval x):=aj R ha hx
 have run: ∀(ad:Addr) w',a.eval x=.pointer (some ad)→(execOp a.eval o).run P w'=.ok (.value (.pointer (some (ad.add fd.offset)))) w':=by
  intro ad w' h
  have hz':(P.cellsOf fd.type=0)=False:=by simp[hz]
  simp[execOp,ho,h,Instr.fieldAt,bj ht,hf,Instr.sureAddr,fieldPlace,ek (MP hz),hz]
 rcases hc with ⟨b,off,rfl,rfl⟩ | ⟨b,i,off,rfl,rfl⟩ | ⟨bo,l,i,off,m,rfl,rfl⟩
 ·obtain ⟨l,g,h1,h2,h3⟩:=hr
  exact ⟨_,fun w' _=>run _ w' h3,l,g,h1,h2,by rw[kx]⟩
 ·obtain ⟨h1,es,x',xs,g,k,m,h2,h3,h4,h5,h6,h7,h8,h9⟩:=hr
  exact ⟨_,fun w' _=>run _ w' h9,h1,es,x',xs,g,k,m,h2,h3,h4,h5,h6,h7,h8,by rw[kx,Nat.add_assoc]⟩
 ·obtain ⟨h1,h2,h3,ad,h4,h5⟩:=hr
  refine ⟨_,fun w' _=>run _ w' h4,h1,h2,h3,_,rfl,fun j hj=>?_⟩
  obtain ⟨h6,u,h7,h8⟩:=h5 (fd.offset+j) (by omega)
  exact ⟨by rw[dp];exact h6,u,by rw[wH];exact h7,by rw[Nat.add_assoc];exact h8⟩
end
end Go.Xt
