/- Steps towards the statements of this seat; the conditions stand in each theorem. -/
import Derived.Test.YtahdphncepnbeaaGreatDoorXt4
set_option linter.unusedSimpArgs false
set_option linter.unusedVariables false
namespace Go.Xt
open Go.RowKit
section
variable {P:Program}{B:Bas P}{env:List PV}{κ:Kap}{cs:CS}{tm:Nat→Value}{w:World}{a:Act}
theorem AV(k:IntKind)(i:Int)(y:Nat)(code:BoundsCode)(h0:0≤i)(h1:i≤y)(w':World):(Instr.sliceBound (.int k i) y code).run P w'=.ok i.toNat w':=by
 simp[Instr.sliceBound,ma,h0,h1]
theorem K9{t e:TypeId}(ht:P.underlying t=some (.slice e))(he:okT P e=true)(A:Option Addr)(n c l h:Nat)(lo hi:Option Value)
  (hlo:lo=none∧l=0∨ ∃k,lo=some (.int k l)) (hhi:hi=none∧h=n∨ ∃k,hi=some (.int k h)) (h1:l≤h) (h2:h≤c) (w':World) :
  (Instr.sliceAt t (.slice A n c) lo hi none).run P w'=.ok (.slice (if c=l then A else A.map (·.add (l*P.cellsOf e))) (h-l) (c-l)) w':=by
 have hb:(Instr.sliceBounds true n c lo hi none).run P w'=.ok (l,h,c) w':=by
  rcases hlo with ⟨rfl,rfl⟩ | ⟨k,rfl⟩ <;>rcases hhi with ⟨rfl,rfl⟩ | ⟨k',rfl⟩ <;>
   simp[Instr.sliceBounds,AV _ _ _ _ (Int.natCast_nonneg _) (Int.ofNat_le.2 h1),AV _ _ _ _ (Int.natCast_nonneg _) (Int.ofNat_le.2 h2)]
 simp[Instr.sliceAt,bj ht,Instr.slice,hb,ek he]
theorem AW{o:Oper}{t:TypeId}{x:Operand}{lo hi mx:Option Operand}(ho:o.op=.slice t x lo hi mx)(ρ:Operand→Value){v:Value}{w':World}
  (h:(Instr.sliceAt t (ρ x) (lo.map ρ) (hi.map ρ) (mx.map ρ)).run P w'=.ok v w'):(execOp ρ o).run P w'=.ok (.value v) w':=by simp[execOp,ho,h]
theorem RH(R:Rel B env κ cs tm w){c:C}{la:Atom}{v:Value}(hl:cs.listOf c=some la)(hr:aR env κ cs.heap w c v){p:PV}{v':Value}
  (h: ∀O O',RL w O O' (den env la) v→RL w O O' p v') (hp: ∃xs,den env la=.list xs):aR (env++[p]) κ cs.heap w (K3 c (.v env.length)) v':=by
 obtain ⟨xs,hxs⟩:=hp
 have new: ∀ {O'},RL w (Own κ) O' (den env la) v→RL w (Own κ) O' (den (env++[p]) (.v env.length)) v':=fun hh=>by
  have:=h _ _ hh
  simpa[den,ii] using this
 cases c with
 | «at» x =>
  simp only[CS.listOf] at hl;cases hl
  refine ⟨by simp[Atom.lt],(new ?_).plain⟩
  have:=hr.2;rw[hxs] at this ⊢;exact this.list_of
 | nil0 =>
  simp only[CS.listOf] at hl;cases hl
  obtain ⟨A,rfl⟩:=hr
  exact ⟨by simp[Atom.lt],(new RL.nil).plain⟩
 | own b =>
  simp only[CS.listOf] at hl
  split at hl
  ·rename_i es x' hb;cases hl
   obtain ⟨h1,h2⟩:=yl R hb hr
   exact ⟨by simp[Atom.lt],⟨es,_,hb⟩,new h1⟩
  ·cases hl
 | bor b x =>
  simp only[CS.listOf] at hl;cases hl
  exact ⟨by simp[Atom.lt],hr.2.1,new hr.2.2⟩
 | _=>simp[CS.listOf] at hl
theorem qM(R:Rel B env κ cs tm w)(ha: ∀t,t<cs.nt→a.tmps.getD t undef=tm (cs.fb+t)){x:Operand}{p:Atom}{k:IntKind}{n:Int}(hx:az cs x=some (.one (.at p)))(hp:den env p=.int k n):a.eval x=.int k n:=by
 obtain ⟨_,h⟩:=nE R (aj R ha hx)
 rw[hp] at h;generalize a.eval x=v at h;cases h;rfl
theorem RI(R:Rel B env κ cs tm w)(ha: ∀t,t<cs.nt→a.tmps.getD t undef=tm (cs.fb+t)){o:Oper}{t e:TypeId}{x:Operand}{lo hi:Option Operand}(ho:o.op=.slice t x lo hi none)
  (ht:P.underlying t=some (.slice e)) (he:okT P e=true) {c:C} {la:Atom} (hx:az cs x=some (.one c)) (hl:cs.listOf c=some la) :
  (∀y q,lo=some y→hi=none→az cs y=some (.one (.at q))→QOk P env κ cs.heap w a.eval o (.em (.slice (P.cellsOf e) true false) [la,q] fun r=>.one (K3 c r))) ∧
  (∀z q,lo=none→hi=some z→az cs z=some (.one (.at q))→QOk P env κ cs.heap w a.eval o (.em (.slice (P.cellsOf e) false true) [la,q] fun r=>.one (K3 c r))) ∧
  (∀y z q r,lo=some y→hi=some z→az cs y=some (.one (.at q))→az cs z=some (.one (.at r))→QOk P env κ cs.heap w a.eval o (.em (.slice (P.cellsOf e) true true) [la,q,r] fun r=>.one (K3 c r))):=by
 have hr:aR env κ cs.heap w c (a.eval x):=aj R ha hx
 have hlen:=MR R hl hr
 have main: ∀(xs:List (List PV)) (l h:Nat) (A n c'),den env la=.list xs→a.eval x=.slice A n c'→xs.length=n→n≤c'→l≤h→h≤n→qF (P.cellsOf e) xs=true →
   (lo.map a.eval=none∧l=0∨ ∃k,lo.map a.eval=some (.int k l))→(hi.map a.eval=none∧h=n∨ ∃k,hi.map a.eval=some (.int k h)) →
   ∃v,(∀w',ky a.eval o w w'→(execOp a.eval o).run P w'=.ok (.value v) w')∧aR (env++[.list ((xs.take h).drop l)]) κ cs.heap w (K3 c (.v env.length)) v:=by
  intro xs l h A n c' h1 h2 h3 h4 h5 h6 h7 h8 h9
  refine ⟨_,fun w' _=>AW ho _ ?_,RH R hl hr (p:=.list ((xs.take h).drop l)) (v':=.slice (if c'=l then A else A.map (·.add (l*P.cellsOf e))) (h-l) (c'-l)) (fun O O' hh=>?_) ⟨xs,h1⟩⟩
  ·rw[h2];exact K9 ht he A n c' l h _ _ h8 h9 h5 (by omega) w'
  ·rw[h1,h2] at hh;exact hh.sub h5 (by omega) h7
 refine ⟨?_,?_,?_⟩
 ·rintro y q rfl rfl hy p hp
  rcases hlen with ⟨xs,A,n,c',h1,h2,h3,h4,h5⟩ | h
  ·simp only[List.map_cons,List.map_nil,h1] at hp
   cases hq:den env q with
   | int k l =>
    simp only[hq,ev] at hp
    split at hp<;>cases hp
    rename_i hc
    have:=main xs l.toNat n A n c' h1 h2 h3 h4 (by omega) (by omega) hc.2.2 (.inr ⟨k,by simp[qM R ha hy hq];omega⟩) (.inl ⟨rfl,rfl⟩)
    rwa [List.take_of_length_le (by omega)] at this
   | _=>simp[hq,ev] at hp
  ·simp only[List.map_cons,List.map_nil] at hp
   cases hd:den env la with
   | list xs=>exact absurd hd (h xs)
   | _=>simp[hd,ev] at hp
 ·rintro z q rfl rfl hz p hp
  rcases hlen with ⟨xs,A,n,c',h1,h2,h3,h4,h5⟩ | h
  ·simp only[List.map_cons,List.map_nil,h1] at hp
   cases hq:den env q with
   | int k l =>
    simp only[hq,ev] at hp
    split at hp<;>cases hp
    rename_i hc
    have:=main xs 0 l.toNat A n c' h1 h2 h3 h4 (by omega) (by omega) hc.2.2 (.inl ⟨rfl,rfl⟩) (.inr ⟨k,by simp[qM R ha hz hq];omega⟩)
    rwa [List.drop_zero] at this
   | _=>simp[hq,ev] at hp
  ·simp only[List.map_cons,List.map_nil] at hp
   cases hd:den env la with
   | list xs=>exact absurd hd (h xs)
   | _=>simp[hd,ev] at hp
 ·rintro y z q r rfl rfl hy hz p hp
  rcases hlen with ⟨xs,A,n,c',h1,h2,h3,h4,h5⟩ | h
  ·simp only[List.map_cons,List.map_nil,h1] at hp
   cases hq:den env q with
   | int k l =>
    cases hq':den env r with
    | int k' h =>
     simp only[hq,hq',ev] at hp
     split at hp<;>cases hp
     rename_i hc
     exact main xs l.toNat h.toNat A n c' h1 h2 h3 h4 (by omega) (by omega) hc.2.2.2 (.inr ⟨k,by simp[qM R ha hy hq];omega⟩) (.inr ⟨k',by simp[qM R ha hz hq'];omega⟩)
    | _=>simp[hq,hq',ev] at hp
   | _=>cases hq':den env r<;>simp[hq,hq',ev] at hp
  ·simp only[List.map_cons,List.map_nil] at hp
   cases hd:den env la with
   | list xs=>exact absurd hd (h xs)
   | _=>simp[hd,ev] at hp
theorem Qb(R:Rel B env κ cs tm w)(ha: ∀t,t<cs.nt→a.tmps.getD t undef=tm (cs.fb+t)){o:Oper}{t e:TypeId}{x hi mx:Operand}(ho:o.op=.slice t x none (some hi) (some mx))
  (ht:P.underlying t=some (.slice e)) (he:okT P e=true) {c:C} {la:Atom} (hx:az cs x=some (.one c)) (hl:cs.listOf c=some la) {k k':IntKind}
  (hh:az cs hi=some (.one (.at (.c (.int k 0))))) (hm:az cs mx=some (.one (.at (.c (.int k' 0))))):QOk P env κ cs.heap w a.eval o (.em .isl [la] fun _=>.one .nil0):=by
 intro p hp
 have hr:aR env κ cs.heap w c (a.eval x):=aj R ha hx
 have hv: ∃A n c',a.eval x=.slice A n c':=by
  rcases MR R hl hr with ⟨_,A,n,c',_,h,_⟩ | h
  ·exact ⟨A,n,c',h⟩
  ·simp only[List.map_cons,List.map_nil] at hp
   cases hd:den env la with
   | list xs=>exact absurd hd (h xs)
   | _=>simp[hd,ev] at hp
 obtain ⟨A,n,c',hv⟩:=hv
 have e1:=qM R ha hh (k:=k) (n:=0) rfl
 have e2:=qM R ha hm (k:=k') (n:=0) rfl
 refine ⟨.slice A 0 0,fun w' _=>AW ho _ ?_,A,rfl⟩
 simp[hv,e1,e2,Instr.sliceAt,bj ht,Instr.slice,Instr.sliceBounds,Instr.sliceBound,ma,ek he]
theorem fi: ∀(l:List PV) (i:Nat) (p:PV),l[i]? =some p→look l i=p
 | [],_,_,h=>by simp at h
 | x::l,0,p,h=>by simpa[look] using h
 | x::l,i+1,p,h=>by simpa[look] using fi l i p (by simpa using h)
theorem sW(R:Rel B env κ cs tm w): ∀ {l:List C} {as:List Atom} {us:List Value},cs.lists l=some as→aw (aR env κ cs.heap w) l us →
  aw (fun x u=>Atom.lt env.length x=true∧RP w (fun _=>False) (den env x) u) as us∧ ∀(i:Nat) (c:C) (x:Atom),l[i]? =some c→as[i]? =some x→cs.listOf c=some x
 | [],as,us,h,h2=>by
  simp only[CS.lists] at h;cases h
  cases us with
  | nil=>exact ⟨trivial,fun i c x hc=>by simp at hc⟩
  | cons u us=>exact h2.elim
 | c::l,as,us,h,h2=>by
  simp only[CS.lists] at h
  obtain ⟨x,h3,h4⟩:=Option.bind_eq_some_iff.1 h
  obtain ⟨xs,h5,h6⟩:=Option.bind_eq_some_iff.1 h4
  cases h6
  cases us with
  | nil=>exact h2.elim
  | cons u us =>
   obtain ⟨h7,h8⟩:=sW R h5 h2.2
   obtain ⟨k1,k2⟩:=ym R h3 h2.1
   refine ⟨⟨⟨k2,k1⟩,h7⟩,fun i d y hd hy=>?_⟩
   cases i with
   | zero=>simp at hd hy;subst hd hy;exact h3
   | succ i=>exact h8 i d y (by simpa using hd) (by simpa using hy)
theorem ka(R:Rel B env κ cs tm w): ∀ {l:List C} {as:List Atom} {us:List Value},oy l=some as→aw (aR env κ cs.heap w) l us →
  aw (fun x u=>Atom.lt env.length x=true∧RP w (Own κ) (den env x) u) as us
 | [],as,us,h,h2=>by
  simp only[oy] at h;cases h
  cases us with
  | nil=>trivial
  | cons u us=>exact h2.elim
 | c::l,as,us,h,h2=>by
  cases us with
  | nil=>exact h2.elim
  | cons u us =>
   cases c with
   | «at» x =>
    simp only[oy] at h
    obtain ⟨r,h3,rfl⟩:=Option.map_eq_some_iff.1 h
    exact ⟨h2.1,ka R h3 h2.2⟩
   | nil0 =>
    simp only[oy] at h
    obtain ⟨r,h3,rfl⟩:=Option.map_eq_some_iff.1 h
    obtain ⟨A,hA⟩:=h2.1
    exact ⟨⟨rfl,by rw[hA];exact RP.nil⟩,ka R h3 h2.2⟩
   | _=>simp[oy] at h
theorem MS(R:Rel B env κ cs tm w)(ha: ∀t,t<cs.nt→a.tmps.getD t undef=tm (cs.fb+t)){o:Oper}{t e:TypeId}{x i:Operand}(ho:o.op=.index t x i){n:Nat}
  (ht:P.underlying t=some (.array n e)) {d:TypeDesc} (hd:P.underlying e=some d) (hg:aD P e=false) (h1:P.cellsOf e=1) {l:List C} {q:Atom} {as:List Atom} (hln:l.length=n)
  (hx:az cs x=some (.agg l)) (hi:az cs i=some (.one (.at q))) (hl:oy l=some as):QOk P env κ cs.heap w a.eval o (.em .pickA (q::as) fun r=>.one (.at r)):=by
 intro p hp
 obtain ⟨vs,h2,h3⟩:bV env κ cs.heap w (.agg l) (a.eval x):=aj R ha hx
 have h4:=ka R hl h3
 simp only[List.map_cons] at hp
 cases hq:den env q with
 | int k m =>
  simp only[hq,ev] at hp
  split at hp<;>cases hp
  rename_i hc
  have hlen:=h3.length
  have hlen':=h4.length
  simp only[Array.length_toList,List.length_map] at hlen hlen' hc
  have hm:m.toNat<vs.size:=by omega
  obtain ⟨y,h5,h6,h7⟩:=h4.getR m.toNat vs[m.toNat] (by simp[hm])
  have h8:look (as.map (den env)) m.toNat=den env y:=fi _ _ _ (by rw[List.getElem?_map,h5];rfl)
  refine ⟨vs[m.toNat],fun w' _=>?_,?_⟩
  ·have e1:=qM R ha hi hq
   have hc':0≤m∧m<(n:Int):=by omega
   simp[execOp,ho,Instr.index,e1,ma,bj ht,h2,hc',ek (mY hd),h1,wM hd,hg,hm]
  ·rw[h8];exact fI cs.heap h7
 | _=>simp[hq,ev] at hp
end
end Go.Xt
