/- Steps towards the statements of this seat; the conditions stand in each theorem. -/
import Derived.Test.YtahdphncepnbeaaGreatDoorXt9
set_option linter.unusedSimpArgs false
set_option linter.unusedVariables false
namespace Go.Xt
open Go.RowKit
section
variable {P:Program}{B:Bas P}{env env':List PV}{κ κ':Kap}{cs:CS}{tm:Nat→Value}{w w':World}{a:Act}{ρ:Fns}{L:List (T×Nat)}{r:List PV→Prop}
def sB(ρ:Fns)(B:Bas P)(env:List PV)(cs:CS)(tm:Nat→Value)(w:World)(n:Nat)(L:List (T×Nat))(r:List PV→Prop)(k:SV→CS→Option T)(v:Value)(w':World):Prop :=
 ∃l κ' cs' sv n' T',k sv cs'=some T'∧n'≤n∧EvN ρ n' T' (env++l) L r∧Rel B (env++l) κ' cs' tm w'∧bV (env++l) κ' cs'.heap w' sv v∧Below B w w'∧Same cs cs'
theorem B5(es:Nat): ∀(n:Nat) (vs:List PV),vs.length=n*es→(cz es n vs).length=n∧(∀i,i<n→((cz es n vs).getD i []).length=es) ∧
  ∀i j,i<n→j<es→look ((cz es n vs).getD i []) j=look vs (i*es+j)
 | 0,vs,h=>⟨rfl,fun i hi=>absurd hi (by omega),fun i j hi=>absurd hi (by omega)⟩
 | n+1,vs,h=>by
  rw[Nat.succ_mul] at h
  obtain ⟨h1,h2,h3⟩:=B5 es n (vs.drop es) (by simp;omega)
  refine ⟨by simp[cz,h1],fun i hi=>?_,fun i j hi hj=>?_⟩
  ·cases i with
   | zero=>simp[cz];omega
   | succ i=>simpa[cz] using h2 i (by omega)
  ·cases i with
   | zero =>
    simp only[cz,List.getD_cons_zero,Nat.zero_mul,Nat.zero_add]
    rw[cL,cL,List.getD_eq_getElem?_getD,List.getD_eq_getElem?_getD,List.getElem?_take,if_pos hj]
   | succ i =>
    have:=h3 i j (by omega) hj
    simp only[cz,List.getD_cons_succ]
    rw[this,cL,cL,List.getD_eq_getElem?_getD,List.getD_eq_getElem?_getD,List.getElem?_drop]
    congr 2;rw[Nat.succ_mul];omega
theorem FX{α:Type}: ∀(xs ys l:List α) (o:Nat),setL (setL l o xs) (o+xs.length) ys=setL l o (xs++ys)
 | [],ys,l,o=>rfl
 | x::xs,ys,l,o=>by
  simp only[setL,List.cons_append,List.length_cons]
  rw[←FX xs ys (l.set o x) (o+1)]
  congr 1;omega
theorem FY(es:Nat): ∀(vs:List Value) (k:Nat) (cells:Array Value),(∀v∈vs,v.cells.size=es)→(k+vs.length)*es≤cells.size →
  ∃rs,Instr.fill (fun i=>some (i*es,es)) cells ((List.range' k vs.length).zip vs)=some rs∧rs.toList=setL cells.toList (k*es) (vs.flatMap fun v=>v.cells.toList)
 | [],k,cells,_,_=>⟨cells,by simp[Instr.fill],by simp[setL]⟩
 | v::vs,k,cells,hv,hle=>by
  have hvs:=hv v (by simp)
  simp only[List.length_cons] at hle
  have e:(k+(vs.length+1))*es=(k+1+vs.length)*es:=by congr 1;omega
  have hk:k*es+es≤cells.size:=by
   have:(k+1)*es≤(k+1+vs.length)*es:=Nat.mul_le_mul_right _ (by omega)
   rw[Nat.succ_mul] at this;omega
  have hsz:(v.cells.zipIdx.foldl (fun cs (p:Value×Nat)=>cs.setIfInBounds (k*es+p.2) p.1) cells).size=cells.size:=by
   rw[←Array.length_toList,vH,mb,Array.length_toList]
  obtain ⟨rs,h1,h2⟩:=FY es vs (k+1) (v.cells.zipIdx.foldl (fun cs (p:Value×Nat)=>cs.setIfInBounds (k*es+p.2) p.1) cells) (fun u hu=>hv u (by simp[hu])) (by rw[hsz];omega)
  refine ⟨rs,?_,?_⟩
  ·simp only[List.length_cons,List.range'_succ,List.zip_cons_cons]
   unfold Instr.fill
   simp only
   rw[if_neg (by simp;omega)]
   exact h1
  ·rw[h2,vH]
   have:(k+1)*es=k*es+v.cells.toList.length:=by rw[Nat.succ_mul,Array.length_toList,hvs]
   rw[this,FX]
   simp
theorem MY{α:Type}(l xs:List α)(h:xs.length=l.length):setL l 0 xs=xs:=by
 rw[AA _ _ _ (by omega)];simp;omega
theorem B6(es:Nat): ∀(vs:List Value),(∀v∈vs,v.cells.size=es)→(vs.flatMap fun v=>v.cells.toList).length=vs.length*es
 | [],_=>by simp
 | v::vs,h=>by
  simp only[List.flatMap_cons,List.length_append,List.length_cons,B6 es vs fun u hu=>h u (by simp[hu]),Array.length_toList,h v (by simp),Nat.succ_mul];omega
theorem B7{t e:TypeId}{i:TypeInfo}{z:Value}(ht:P.underlying t=some (.slice e))(hi:P.info? e=some i)(hz:i.zero=some z)(vs:List Value)(parts:Array (Nat×Value))
  (hp:parts.toList=(List.range vs.length).zip vs) (hv: ∀v∈vs,v.cells.size=i.size) (hn:vs.length≤64) (hs:i.size≤64) (w:World) :
  (Instr.buildSlice t vs.length parts).run P w=.ok (.slice (some ⟨w.heap.size,0,none⟩) vs.length vs.length) (w.alloc (.cells (vs.flatMap fun v=>v.cells.toList).toArray e)):=by
 have hle:vs.length*i.size≤4096:=Nat.mul_le_mul hn hs
 have h1: ¬(16777216<vs.length*i.size):=by omega
 have main: ∀(zs:Array Value),∃rs,Instr.fill (fun k=>some (k*i.size,i.size)) ((Array.range (vs.length*i.size)).map (zs[· % zs.size]!)) parts.toList=some rs∧rs=(vs.flatMap fun v=>v.cells.toList).toArray:=by
  intro zs
  obtain ⟨rs,h2,h3⟩:=FY i.size vs 0 ((Array.range (vs.length*i.size)).map (zs[· % zs.size]!)) hv (by simp)
  rw[hp,List.range_eq_range']
  refine ⟨rs,h2,?_⟩
  apply Array.ext'
  rw[h3,Nat.zero_mul,MY _ _ (by simp[B6 i.size vs hv])]
 have fin: ∀(zs:Array Value) w',(do
   let some cells:=Instr.fill (fun k=>some (k*i.size,i.size)) ((Array.range (vs.length*i.size)).map (zs[· % zs.size]!)) parts.toList
    | stuck "buildSlice: a part of the wrong size"
   pure (.slice (some (←newRow e cells)) vs.length vs.length):Sem Value).run P w'=.ok (.slice (some ⟨w'.heap.size,0,none⟩) vs.length vs.length) (w'.alloc (.cells (vs.flatMap fun v=>v.cells.toList).toArray e)):=by
  intro zs w'
  obtain ⟨rs,h2,h3⟩:=main zs
  simp only[h2,h3]
  simp[newRow]
 simp only[Instr.buildSlice,Sem.run_bind,run_underlying ht,Result.andThen_ok,sizeOf,typeInfo,run_program,hi,Sem.run_pure,Sem.run_ite]
 rw[if_neg (by omega)]
 split
 ·exact fin #[] w
 ·have hzv:(zeroValue e).run P w=.ok z w:=by simp[zeroValue,typeInfo,hi,hz]
  rw[hzv]
  exact fin z.cells w
theorem t6{H:List (Nat×Blk)}: ∀ {l:List C} {zs:List Lit} {us:List Value},uS l=some zs→aw (aR env κ H w) l us→aw (fun p u=>RP w (Own κ) p u) (zs.map Lit.pv) us
 | [],zs,us,h,h2=>by
  simp only[uS] at h;cases h
  cases us with
  | nil=>trivial
  | cons u us=>exact h2.elim
 | c::l,zs,us,h,h2=>by
  cases us with
  | nil=>exact h2.elim
  | cons u us =>
   cases c with
   | «at» x =>
    cases x with
    | c x =>
     simp only[uS] at h
     obtain ⟨r,h3,rfl⟩:=Option.map_eq_some_iff.1 h
     exact ⟨h2.1.2,t6 h3 h2.2⟩
    | _=>simp[uS] at h
   | nil0 =>
    simp only[uS] at h
    obtain ⟨r,h3,rfl⟩:=Option.map_eq_some_iff.1 h
    obtain ⟨A,hA⟩:=h2.1
    exact ⟨by rw[hA];exact RP.nil,t6 h3 h2.2⟩
   | _=>simp[uS] at h
theorem qP{k:SV→CS→Option T}{n n':Nat}{l:List PV}{κ':Kap}{cs':CS}{sv:SV}{t':T}{v:Value}{w':World}(h1:k sv cs'=some t')(h2:n'≤n)(h3:EvN ρ n' t' (env++l) L r)
  (h4:Rel B (env++l) κ' cs' tm w') (h5:bV (env++l) κ' cs'.heap w' sv v) (h6:Below B w w') (h7:Same cs cs'):sB ρ B env cs tm w n L r k v w':=⟨l,κ',cs',sv,n',t',h1,h2,h3,h4,h5,h6,h7⟩
theorem kA{H:List (Nat×Blk)}: ∀ {vs:List SV} {us:List Value},aw (bV env κ H w) vs us→(∀v∈vs,v.isTup=false)→(∀v∈vs,v.cells.all C.storable=true) →
  aw (aR env κ H w) (nA vs) (us.flatMap fun u=>u.cells.toList)
 | [],[],_,_,_=>trivial
 | v::vs,u::us,h,h1,h2=>by
  simp only[nA,List.flatMap_cons]
  exact (sX h.1 (h2 v (by simp)) (h1 v (by simp))).append (kA h.2 (fun x hx=>h1 x (by simp[hx])) fun x hx=>h2 x (by simp[hx]))
 | [],_::_,h,_,_=>h.elim
 | _::_,[],h,_,_=>h.elim
theorem yp(cs:CS)(b:Nat)(blk:Blk)(d:Nat):Same cs { (cs.newB b blk) with d:=d }:=⟨rfl,rfl,rfl,Nat.le_refl _⟩
theorem zb(cs:CS)(b:Nat)(blk:Blk)(d:Nat):Same cs { (cs.writeB b blk) with d:=d }:=⟨rfl,rfl,rfl,Nat.le_refl _⟩
theorem RJ(R:Rel B env κ cs tm w){o:Oper}{t:TypeId}(ho:o.op=.alloc t){z:List C}{b:Nat}(hz:yV P t=some z){k:SV→CS→Option T}{T0:T}{n:Nat}
  (h:k (.one (.ptr b 0)) (cs.newB b (.box z))=some T0) (hev:EvN ρ n T0 env L r) :
  ∃v w',(execOp a.eval o).run P w=.ok (.value v) w'∧sB ρ B env cs tm w n L r k v w'∧Below w.heap.size w w':=by
 obtain ⟨i,zv,h1,h2,h3⟩:=sY (env:=env) (κ:=κ) (w:=w) cs.heap hz
 obtain ⟨r1,r2⟩:=R.newBox b z zv.cells t h3
 refine ⟨_,_,?_,qP (l:=[]) h (Nat.le_refl _) (by simpa using hev) (by simpa using r1) (by rw[List.append_nil];exact r2) ((Below.refl B w).alloc R.hB _) ⟨rfl,rfl,rfl,Nat.le_refl _⟩,(Below.refl _ w).alloc (Nat.le_refl _) _⟩
 simp[execOp,ho,Instr.alloc,zeroValue,typeInfo,h1,h2,newVar,newRow]
theorem U5(R:Rel B env κ cs tm w)(ha: ∀t,t<cs.nt→a.tmps.getD t undef=tm (cs.fb+t)){o:Oper}{t:TypeId}{x:Operand}(ho:o.op=.box t x){sv:SV}{b:Nat}(hx:az cs x=some sv)
  (hs:sv.cells.all C.storable=true) (ht:sv.isTup=false) {k:SV→CS→Option T} {T0:T} {n:Nat}
  (h:k (.one (.ptr b 0)) (cs.newB b (.box sv.cells))=some T0) (hev:EvN ρ n T0 env L r) :
  ∃v w',(execOp a.eval o).run P w=.ok (.value v) w'∧sB ρ B env cs tm w n L r k v w'∧Below w.heap.size w w':=by
 have h3:=sX (aj R ha hx) hs ht
 obtain ⟨r1,r2⟩:=R.newBox b sv.cells (a.eval x).cells t h3
 refine ⟨_,_,?_,qP (l:=[]) h (Nat.le_refl _) (by simpa using hev) (by simpa using r1) (by rw[List.append_nil];exact r2) ((Below.refl B w).alloc R.hB _) ⟨rfl,rfl,rfl,Nat.le_refl _⟩,(Below.refl _ w).alloc (Nat.le_refl _) _⟩
 simp[execOp,ho,Instr.box,newVar,newRow]
theorem SZ(R:Rel B env κ cs tm w)(ha: ∀t,t<cs.nt→a.tmps.getD t undef=tm (cs.fb+t)){o:Oper}{t e:TypeId}{x y:Operand}(ho:o.op=.makeSlice t x y)(ht:P.underlying t=some (.slice e))
  (he:qG P e=true) {p:Atom} (hx:az cs x=some (.one (.at p))) (hy:az cs y=some (.one (.at p))) {z:List C} {zs:List Lit} {b:Nat} (hz:yV P e=some z) (hl:uS z=some zs)
  (hlen:zs.length=P.cellsOf e) {k:SV→CS→Option T} {T0:T} {n:Nat}
  (h:AH (.repl (P.bytesOf e) zs) [p] cs (fun r cs=>k (.one (.own b)) (cs.newB b (.arr (P.cellsOf e) r)))=some T0) (hev:EvN ρ n T0 env L r) :
  ∃v w',(execOp a.eval o).run P w=.ok (.value v) w'∧sB ρ B env cs tm w n L r k v w'∧Below w.heap.size w w':=by
 obtain ⟨i,zv,h1,h2,h3,h4,h5,h6,h7⟩:=qN he
 obtain ⟨i',zv',g1,g2,g3⟩:=sY (env:=env) (κ:=κ) (w:=w) cs.heap hz
 rw[h1] at g1;cases g1
 rw[h2] at g2;cases g2
 have hlit:=t6 hl g3
 obtain ⟨t1,e1,rfl⟩:=lk h
 obtain ⟨n1,q,rfl,e2,e3⟩:=hev.op
 simp only[List.map_cons,List.map_nil] at e2
 cases hd:den env p with
 | int kk m =>
  simp only[hd,ev] at e2
  split at e2<;>cases e2
  rename_i hc
  obtain ⟨hc1,hc2⟩:=hc
  simp only[sK,decide_eq_true_eq,h7] at hc2
  have v1:=qM R ha hx hd
  have v2:=qM R ha hy hd
  have hrun:=run_make (P:=P) w t e i zv ht h1 h2 kk kk m m hc1 (Int.le_refl _) (by
   obtain ⟨mn,rfl⟩:=Int.eq_ofNat_of_zero_le hc1
   rw[Int.toNat_natCast] at hc2
   have:mn*i.bytes≤281474976710656:=by omega
   rw[Int.mul_comm,←Int.natCast_mul];exact Int.ofNat_le.2 this) (by
   have:m.toNat≤140737488355328:=Nat.le_trans (Nat.le_mul_of_pos_right _ h4) hc2
   omega)
  have hm63:m.toNat≤2 ^ 63-1:=by
   have:m.toNat≤140737488355328:=Nat.le_trans (Nat.le_mul_of_pos_right _ h4) hc2
   omega
  have hzl:zs.length=i.size:=by rw[hlen,h6]
  obtain ⟨r1,r2⟩:=R.newArr (w':=_) b i.size (List.replicate m.toNat (zs.map Lit.pv)) w.heap.size m.toNat _ e h3 (by rw[List.length_replicate];exact hm63) (fun j hj=>by
    simp only[List.length_replicate] at hj
    simp[List.getD_eq_getElem?_getD,List.getElem?_replicate,hj,hzl]) (.inr (Nat.le_refl _))
   (vJ w (.cells (madeCells zv.cells (m.toNat*i.size)) e (0,0))) (by simp[size_madeCells]) (by simp) (fun j q hj hq=>by
    simp only[List.length_replicate] at hj
    have hlt:j*i.size+q<m.toNat*i.size:=by
     have:j*i.size+i.size≤m.toNat*i.size:=by rw[←Nat.succ_mul];exact Nat.mul_le_mul_right _ hj
     omega
    have hmod:(j*i.size+q) % i.size=q:=by rw[Nat.mul_comm,Nat.mul_add_mod,Nat.mod_eq_of_lt hq]
    have hzq:q<zv.cells.size:=by omega
    obtain ⟨pv,k1,k2⟩:=hlit.getR q zv.cells[q] (by simp[hzq])
    refine ⟨zv.cells[q],?_,?_⟩
    ·have eb:zv.cells[q]! =zv.cells[q]:=getElem!_pos zv.cells q hzq
     simp[madeCells,hlt,h5,hmod,eb]
    ·have:(List.replicate m.toNat (zs.map Lit.pv)).getD j []=zs.map Lit.pv:=by simp[List.getD_eq_getElem?_getD,List.getElem?_replicate,hj]
     rw[this,fi _ _ _ k1];exact k2) (fun g hg _=>Below.heap_alloc _ _ _ hg) (by simp)
  rw[h6] at e1
  refine ⟨_,_,?_,qP (l:=[_]) e1 (by omega) e3 r1 (sv:=.one (.own b)) (by rw[List.length_replicate] at r2;exact r2) ((Below.refl B w).alloc R.hB _) (yp _ _ _ _),(Below.refl _ w).alloc (Nat.le_refl _) _⟩
  simp[execOp,ho,v1,v2,hrun]
 | _=>simp[hd,ev] at e2
theorem T3(R:Rel B env κ cs tm w)(ha: ∀t,t<cs.nt→a.tmps.getD t undef=tm (cs.fb+t)){o:Oper}{t e:TypeId}{m:Nat}{parts:Array (Nat×Operand)}(ho:o.op=.buildSlice t m parts)
  (ht:P.underlying t=some (.slice e)) (he:qG P e=true) {vs:List SV} (hvs:cd cs (parts.toList.map (·.2))=some vs) (hidx:parts.toList.map (·.1)=List.range m) (hm:m≤64) (hes:P.cellsOf e≤64)
  (hlen: ∀v∈vs,v.cells.length=P.cellsOf e) (hst: ∀v∈vs,v.cells.all C.storable=true) (htup: ∀v∈vs,v.isTup=false) {b:Nat} {as:List Atom} {cs1:CS} {φ:C→C} (hpl:cs.plains (nA vs)=some (as,cs1,φ))
  {k:SV→CS→Option T} {T0:T} {n:Nat} (h:AH (.rows (P.cellsOf e)) as cs1 (fun r cs=>k (.one (.own b)) (cs.newB b (.arr (P.cellsOf e) r)))=some T0) (hev:EvN ρ n T0 env L r) :
  ∃v w',(execOp a.eval o).run P w=.ok (.value v) w'∧sB ρ B env cs tm w n L r k v w'∧Below w.heap.size w w':=by
 obtain ⟨i,zv,h1,h2,h3,h4,h5,h6,h7⟩:=qN he
 have hrel:=iK R ha hvs
 have hcells:=kA hrel htup hst
 obtain ⟨κ1,R1,k1,k2,k3,k4,k5⟩:=kz R hpl hcells
 obtain ⟨t1,e1,rfl⟩:=lk h
 obtain ⟨n1,q,rfl,e2,e3⟩:=hev.op
 have hml:parts.toList.length=m:=by have:=congrArg List.length hidx;simpa using this
 let us:=(parts.toList.map (·.2)).map a.eval
 have hul:us.length=m:=by simp[us];simpa using hml
 have husz: ∀u∈us,u.cells.size=i.size:=by
  intro u hu
  obtain ⟨j,hj,rfl⟩:=List.getElem_of_mem hu
  obtain ⟨sv,g1,g2⟩:=hrel.getR j us[j] (List.getElem?_eq_getElem hj)
  have hmem:sv∈vs:=List.mem_of_getElem? g1
  have:=(sX g2 (hst sv hmem) (htup sv hmem)).length
  rw[hlen sv hmem,h6] at this
  simpa using this.symm
 have hflat:(us.flatMap fun u=>u.cells.toList).length=m*i.size:=by rw[B6 i.size us husz,hul]
 have hal:(as.map (den env)).length=m*i.size:=by rw[List.length_map,k1.length];exact hflat
 simp only[ev,h6] at e2
 split at e2<;>cases e2
 rename_i hc
 have hdiv:(as.map (den env)).length / i.size=m:=by rw[hal,Nat.mul_div_cancel _ h3]
 rw[hdiv] at e3
 obtain ⟨c1,c2,c3⟩:=B5 i.size m _ hal
 have hpv:aw (fun p u=>RP w (Own κ1) p u) (as.map (den env)) (us.flatMap fun u=>u.cells.toList):=k1.map (den env) fun x u hx=>hx.2
 have hrun:=B7 (P:=P) ht h1 h2 us (parts.map fun (p:Nat×Operand)=>(p.1,a.eval p.2)) (by
  rw[hul,←hidx]
  simp only[us,Array.toList_map,List.map_map]
  generalize parts.toList=pl
  induction pl with
  | nil=>rfl
  | cons p pl ih=>simp[ih]) husz (by omega) (by omega) w
 rw[hul] at hrun
 obtain ⟨r1,r2⟩:=R1.newArr (w':=_) b i.size (cz i.size m (as.map (den env))) w.heap.size m _ e h3 (by rw[c1];omega) (by rw[c1];exact c2) (.inr (Nat.le_refl _))
  (vJ w (.cells (us.flatMap fun u=>u.cells.toList).toArray e (0,0))) (by simpa using hflat) (by rw[c1];exact Nat.le_refl _) (fun j q hj hq=>by
   rw[c1] at hj
   have hlt:j*i.size+q<m*i.size:=by
    have:j*i.size+i.size≤m*i.size:=by rw[←Nat.succ_mul];exact Nat.mul_le_mul_right _ hj
    omega
   have hlt':j*i.size+q<(us.flatMap fun u=>u.cells.toList).length:=by omega
   obtain ⟨pv,l1,l2⟩:=hpv.getR (j*i.size+q) _ (List.getElem?_eq_getElem hlt')
   refine ⟨_,by simp only[List.getElem?_toArray];exact List.getElem?_eq_getElem hlt',?_⟩
   rw[c3 j q hj hq,fi _ _ _ l1];exact l2) (fun g hg _=>Below.heap_alloc _ _ _ hg) (by simp)
 rw[c1] at r2
 rw[h6] at e1
 refine ⟨_,_,?_,qP (l:=[_]) e1 (by omega) e3 r1 (sv:=.one (.own b)) r2 ((Below.refl B w).alloc R.hB _) (k3.trans (yp _ _ _ _)),(Below.refl _ w).alloc (Nat.le_refl _) _⟩
 simp[execOp,ho,hrun]
theorem RK{l:List C}{us:List Value}{H:List (Nat×Blk)}(h:aw (aR env κ H w) l us)(hs:l.all C.storable=true): ∀u∈us,u.oneCell'=true:=by
 intro u hu
 obtain ⟨j,hj,rfl⟩:=List.getElem_of_mem hu
 obtain ⟨c,h1,h2⟩:=h.getR j us[j] (List.getElem?_eq_getElem hj)
 exact (nF h2 (by rw[List.all_eq_true] at hs;exact hs c (List.mem_of_getElem? h1))).2
theorem aw.mem_left{α β:Type}{Rr:α→β→Prop}: ∀ {as:List α} {bs:List β},aw Rr as bs→ ∀x∈as,∃y,Rr x y
 | [],[],_,x,h=>by simp at h
 | a::as,b::bs,h,x,hx=>by
  rcases List.mem_cons.1 hx with rfl | hx
  ·exact ⟨b,h.1⟩
  ·exact h.2.mem_left x hx
 | [],_::_,h,_,_=>h.elim
 | _::_,[],h,_,_=>h.elim
def uN(o:Oper)(a:Act)(w w':World):Prop:= ∀t x y,o.op=.store t x y→ ∃ad:Addr,a.eval x=.pointer (some ad)∧ ∀g,g≠ad.block→w'.heap[g]? =w.heap[g]?
theorem uN.no{o:Oper}(h: ∀t x y,o.op≠.store t x y):uN o a w w':=fun t x y ho=>absurd ho (h t x y)
theorem RM(R:Rel B env κ cs tm w)(ha: ∀t,t<cs.nt→a.tmps.getD t undef=tm (cs.fb+t)){o:Oper}{t:TypeId}{x y:Operand}(ho:o.op=.store t x y){p:C}{sv:SV}(hx:az cs x=some (.one p))
  (hy:az cs y=some sv) (hlen:sv.cells.length=P.cellsOf t) (hk:okT P t=true) (hst:sv.cells.all C.storable=true) (htup:sv.isTup=false) {k:CS→Option T} {T0:T} {n:Nat}
  (h:AJ cs p sv.cells k=some T0) (hev:EvN ρ n T0 env L r) :
  ∃w',(execOp a.eval o).run P w=.ok .skip w'∧sB ρ B env cs tm w n L r (fun _ cs=>k cs) undef w'∧uN o a w w':=by
 have hrp:aR env κ cs.heap w p (a.eval x):=aj R ha hx
 have hcells:=sX (aj R ha hy) hst htup
 have hsz:(a.eval y).cells.size=P.cellsOf t:=by have:=hcells.length;simp only[Array.length_toList] at this;omega
 have hone:=RK hcells hst
 have fin: ∀w',(Instr.storeAt t (a.eval x) (a.eval y)).run P w=.ok () w'→(execOp a.eval o).run P w=.ok .skip w':=fun w' hr=>by simp[execOp,ho,hr]
 cases p with
 | ptr b off =>
  simp only[AJ] at h
  split at h
  ·rename_i l hb
   split at h
   ·rename_i hc
    simp only[Bool.and_eq_true,decide_eq_true_eq] at hc
    obtain ⟨g,cur,T,h1,h2,h3,h4,h5⟩:=Pb R hb hc.2 hcells
    obtain ⟨l',g',q1,q2,q3⟩:=hrp
    rw[h1] at q2;cases q2
    have hrun:=za (P:=P) hk (off:=off) (v:=a.eval y) h2 hsz (by simpa using h3) hone
    refine ⟨_,fin _ (by rw[q3];exact hrun),qP (l:=[]) (sv:=.one .undef) h (Nat.le_refl _) (by simpa using hev) (by rw[List.append_nil];exact h4) rfl h5 (zb _ _ _ _),?_⟩
    intro t2 x2 y2 ho2;rw[ho] at ho2;cases ho2
    exact ⟨_,q3,fun g' hg'=>setRow_other w g g' _ hg'⟩
   ·cases h
  ·cases h
 | aptr b i off =>
  simp only[AJ] at h
  obtain ⟨⟨as,cs1,φ⟩,h1,h2⟩:=Option.bind_eq_some_iff.1 h
  obtain ⟨κ1,R1,k1,k2,k3,k4,k5⟩:=kz R h1 hcells
  simp only at h2
  have hrp1:=k2 _ _ hrp
  split at h2
  ·rename_i b1 i1 off1 hφ
   rw[hφ] at hrp1
   split at h2
   ·rename_i es x1 hb
    split at h2
    ·rename_i hle
     obtain ⟨p1,es',x0,xs,g,kk,m,p2,p3,p4,p5,p6,p7,p8,p9⟩:=hrp1
     rw[hb] at p2;cases p2
     obtain ⟨l,x',t',n',e1,e2,e3,e4,e5⟩:=sZ as off1 x1 env cs1 _ T0 n xs kk m h2 hev (R1.henv) p4 p3 p1 p6 (fun y hy=>by
      obtain ⟨u,hu⟩:=k1.mem_left y hy;exact hu.1) p7 p8
     have hpv:aw (fun p u=>RP w (Own κ1) p u) (as.map (den env)) (a.eval y).cells.toList:=k1.map (den env) fun x u hx=>hx.2
     have hulen:(a.eval y).cells.toList.length=sv.cells.length:=hcells.length.symm
     obtain ⟨g',cur,T,q1,q2,q3,q4,q5,q6⟩:=Pc (off:=off1) R1 hb ⟨p1,es,x1,xs,g,kk,m,hb,p3,p4,p5,p6,p7,p8,p9⟩ (by rw[hulen];exact hle) p6 p4 hpv e4 e5
     have hrun:=za (P:=P) hk (off:=m.toNat*es+off1) (v:=a.eval y) q3 hsz (by simpa using q4) hone
     refine ⟨_,fin _ (by rw[q2];exact hrun),qP (sv:=.one .undef) e1 e2 e3 q5 rfl q6 (k3.trans (zb _ _ _ _)),?_⟩
     intro t2 x2 y2 ho2;rw[ho] at ho2;cases ho2
     exact ⟨_,q2,fun g2 hg2=>setRow_other w g' g2 _ hg2⟩
    ·cases h2
   ·cases h2
  ·cases h2
 | _=>simp[AJ] at h
theorem MZ{x y:Operand}{vs:List SV}(h:cd cs [x,y]=some vs): ∃a b,vs=[a,b]∧az cs x=some a∧az cs y=some b:=by
 simp only[cd] at h
 obtain ⟨v,h3,h4⟩:=Option.bind_eq_some_iff.1 h
 obtain ⟨v2,h5,h6⟩:=Option.bind_eq_some_iff.1 h4
 obtain ⟨v3,h7,h8⟩:=Option.bind_eq_some_iff.1 h5
 simp at h8;subst h8;simp at h6
 exact ⟨v,v3,h6.symm,h3,h7⟩
theorem B8: ∀ {xs:List Operand} {vs:List SV},cd cs xs=some vs→vs.length=xs.length
 | [],vs,h=>by simp[cd] at h;subst h;rfl
 | x::xs,vs,h=>by
  simp only[cd] at h
  obtain ⟨v,h3,h4⟩:=Option.bind_eq_some_iff.1 h
  obtain ⟨v2,h5,h6⟩:=Option.bind_eq_some_iff.1 h4
  cases h6
  simp[B8 h5]
theorem Ke(R:Rel B env κ cs tm w)(ha: ∀t,t<cs.nt→a.tmps.getD t undef=tm (cs.fb+t)){o:Oper}{args:Array Operand}{ts:Array TypeId}(ho:o.op=.call { callee:=.builtin .append,args:=args,argTypes:=ts })
  {x y:C} {t u e e':TypeId} (hargs:cd cs args.toList=some [.one x,.one y]) (hts:ts.toList=[t,u]) (ht:P.underlying t=some (.slice e)) (hu:P.underlying u=some (.slice e')) {ya:Atom} (hya:cs.listOf y=some ya)
  (he:qG P e=true) {b:Nat} {xa:Atom} (hx:x=.nil0∧xa=.c .nil∨x=.own b∧av cs.heap b=some (.arr (P.cellsOf e) xa)) {k:SV→CS→Option T} {T0:T} {n:Nat}
  (h:AH (.app (P.cellsOf e) (P.bytesOf e)) [xa,ya] cs (fun r cs=>k (.one (.own b)) (cs.newB b (.arr (P.cellsOf e) r)))=some T0) (hev:EvN ρ n T0 env L r) :
  ∃v w',(execOp a.eval o).run P w=.ok (.value v) w'∧sB ρ B env cs tm w n L r k v w':=by
 obtain ⟨X,Y,hXY⟩: ∃X Y,args.toList=[X,Y]:=by
  have:=B8 hargs
  match args.toList,this with
  | [X,Y],_=>exact ⟨X,Y,rfl⟩
 rw[hXY] at hargs
 obtain ⟨sx,sy,h0,hX,hY⟩:=MZ hargs
 cases h0
 have e1:args= #[X,Y]:=by apply Array.ext';simpa using hXY
 have e2:ts= #[t,u]:=by apply Array.ext';simpa using hts
 have rx:aR env κ cs.heap w x (a.eval X):=aj R ha hX
 have ry:aR env κ cs.heap w y (a.eval Y):=aj R ha hY
 obtain ⟨t1,g1,rfl⟩:=lk h
 obtain ⟨n1,q,rfl,g2,g3⟩:=hev.op
 simp only[List.map_cons,List.map_nil] at g2
 cases hd1:den env xa with
 | list xs =>
  cases hd2:den env ya with
  | list ys =>
   simp only[hd1,hd2,ev] at g2
   split at g2<;>cases g2
   rename_i hc
   obtain ⟨v,w',κ',m1,m2,m3,m4⟩:=GO (P:=P) (ty:=o.type) R (b:=b) ht hu he (xs:=xs) (ys:=ys) (vx:=a.eval X) rfl (by
    rcases hx with ⟨rfl,rfl⟩ | ⟨rfl,hb⟩
    ·obtain ⟨A,hA⟩:=rx
     simp only[den,Lit.pv] at hd1;cases hd1
     exact .inr (.inl ⟨rfl,A,hA⟩)
    ·exact .inr (.inr ⟨xa,hb,hd1,rx⟩)) hya ry hd2 hc.1 hc.2.1 hc.2.2
   refine ⟨v,w',?_,qP (l:=[_]) (sv:=.one (.own b)) g1 (by omega) g3 m2 m3 m4 (yp _ _ _ _)⟩
   simp[execOp,ho,e1,e2,resolve,invoke,builtin,m1]
  | _=>simp[hd1,hd2,ev] at g2
 | _=>cases hd2:den env ya<;>simp[hd1,hd2,ev] at g2
theorem Qc{t e:TypeId}(ht:P.underlying t=some (.slice e))(A:Option Addr)(n c:Nat)(w':World) :
  (binOp .eql t (.slice A n c) (.slice none 0 0)).run P w'=.ok (.bool A.isNone) w'∧(binOp .neq t (.slice A n c) (.slice none 0 0)).run P w'=.ok (.bool (!A.isNone)) w':=by
 have h: ∀d:Nat,(Op.equalIn (d+1) t (.slice A n c) (.slice none 0 0)).run P w'=.ok A.isNone w':=fun d=>by
  cases A<;>simp[Op.equalIn,run_underlying ht]
 have h2:(Op.equal t (.slice A n c) (.slice none 0 0)).run P w'=.ok A.isNone w':=h 9999
 refine ⟨?_,?_⟩ <;> · simp only[binOp];simp[h2]
theorem Qd(R:Rel B env κ cs tm w)(ha: ∀t,t<cs.nt→a.tmps.getD t undef=tm (cs.fb+t)){o:Oper}{neg:Bool}{t e u:TypeId}{x:Operand}(ho:o.op=.binOp (if neg then .neq else .eql) t x (.const (.slice none 0 0)) u)
  (ht:P.underlying t=some (.slice e)) {c:C} (hx:az cs x=some (.one c)) {p:Atom} (hp:cs.listOf c=some p) {k:SV→CS→Option T} {T0:T} {n:Nat}
  (h:(k (.one (.at (.v cs.d))) { cs with d:=cs.d+1 }).map (T.nilq p neg)=some T0) (hev:EvN ρ n T0 env L r) :
  ∃v w',(execOp a.eval o).run P w=.ok (.value v) w'∧sB ρ B env cs tm w n L r k v w'∧Below w.heap.size w w':=by
 obtain ⟨T1,h1,rfl⟩:=Option.map_eq_some_iff.1 h
 have h2:=(ym R hp (aj R ha hx)).1
 cases n with
 | zero=>exact hev.elim
 | succ n =>
  simp only[EvN] at hev
  split at hev
  ·rename_i xs hxs
   rw[hxs] at h2
   generalize hu:a.eval x=v at *
   obtain ⟨xs',A,m,cc,es,f,ad,e1,rfl,hn,hc,hm,hes,hA,hO,hcell,hsub⟩:=h2.list_of
   cases e1
   have hb:A.isNone=true→xs=[]:=by
    intro hA'
    cases A with
    | some _=>simp at hA'
    | none =>
     rcases Nat.eq_zero_or_pos m with h0 | h0
     ·exact List.eq_nil_of_length_eq_zero (by omega)
     ·have:=hA h0;cases this
   obtain ⟨r1,r2⟩:=Qc (P:=P) ht A m cc w
   have hg: ∀op:BinOp,(eqGuard op t x (.const (.slice none 0 0)) (.slice A m cc) (.slice none 0 0)).run P w=.ok () w:=by
    intro op;unfold eqGuard;split<;>rfl
   have hex:(execOp a.eval o).run P w=.ok (.value (.bool (if neg then !A.isNone else A.isNone))) w:=by
    have hc0:a.eval (.const (.slice none 0 0))=.slice none 0 0:=rfl
    cases neg
    ·have ho':o.op=.binOp .eql t x (.const (.slice none 0 0)) u:=by simpa using ho
     simp only[execOp,ho',hu,hc0,Sem.run_bind,hg,Result.andThen_ok,r1,Sem.run_pure];rfl
    ·have ho':o.op=.binOp .neq t x (.const (.slice none 0 0)) u:=by simpa using ho
     simp only[execOp,ho',hu,hc0,Sem.run_bind,hg,Result.andThen_ok,r2,Sem.run_pure];rfl
   refine ⟨_,w,hex,⟨[_],κ,_,_,n,T1,h1,Nat.le_succ _,hev A.isNone hb,R.grow _ (fun _ _=>rfl) (Nat.le_refl _),?_,Below.refl _ _,⟨rfl,rfl,rfl,Nat.le_refl _⟩⟩,Below.refl _ _⟩
   rw[←R.henv]
   exact fI cs.heap .bool
  ·exact hev.elim
theorem Kf(R:Rel B env κ cs tm w)(ha: ∀t,t<cs.nt→a.tmps.getD t undef=tm (cs.fb+t)){o:Oper}{k:SV→CS→Option T}{T0:T}{n:Nat}(h:AM P o cs k=some T0)(hev:EvN ρ n T0 env L r) :
  ∃v w',((execOp a.eval o).run P w=.ok (.value v) w'∨(execOp a.eval o).run P w=.ok .skip w'∧v=undef)∧sB ρ B env cs tm w n L r k v w'∧(Q4 o.op=true→Below w.heap.size w w')∧uN o a w w':=by
 generalize hop:o.op=op at h
 unfold AM at h
 rw[hop] at h
 cases op with
 | panic x =>
  cases h
  cases n<;>exact hev.elim
 | nilCheck x =>
  simp only at h
  split at h
  ·cases h
   cases n<;>exact hev.elim
  ·cases h
 | binOp op t x y u =>
  split at h
  all_goals first
   | (cases h;done)
   | (rename_i heq;cases heq;done)
   | skip
  rename_i heq
  cases heq
  split at h
  ·rename_i c e hx he
   have ht:P.underlying t=some (.slice e):=by
    simp only[fg] at he;split at he<;>cases he;assumption
   split at h
   ·obtain ⟨p,h1,h2⟩:=Option.bind_eq_some_iff.1 h
    obtain ⟨v,w',h5,h6,h66⟩:=Qd (neg:=false) R ha (by simpa using hop) ht hx h1 h2 hev
    exact ⟨v,w',.inl h5,h6,fun _=>h66,uN.no (by simp[hop])⟩
   ·obtain ⟨p,h1,h2⟩:=Option.bind_eq_some_iff.1 h
    obtain ⟨v,w',h5,h6,h66⟩:=Qd (neg:=true) R ha (by simpa using hop) ht hx h1 h2 hev
    exact ⟨v,w',.inl h5,h6,fun _=>h66,uN.no (by simp[hop])⟩
   ·cases h
  ·cases h
 | store t x y =>
  simp only at h
  split at h
  ·rename_i p v hx hy
   split at h
   ·rename_i hc
    simp only[Bool.and_eq_true,decide_eq_true_eq,Bool.not_eq_true'] at hc
    obtain ⟨w',h1,h2,hwr⟩:=RM R ha hop hx hy hc.1.1.1 hc.1.1.2 hc.1.2 hc.2 h hev
    obtain ⟨l,κ',cs',sv,n',T',g1,g2,g3,g4,g5,g6,g7⟩:=h2
    exact ⟨undef,w',.inr ⟨h1,rfl⟩,⟨l,κ',cs',.one .undef,n',T',g1,g2,g3,g4,rfl,g6,g7⟩,(fun hh=>by cases hh),hwr⟩
   ·cases h
  ·cases h
 | alloc t =>
  simp only at h
  obtain ⟨z,h1,h2⟩:=Option.bind_eq_some_iff.1 h
  obtain ⟨b,h3,h4⟩:=Option.bind_eq_some_iff.1 h2
  obtain ⟨v,w',h5,h6,h66⟩:=RJ (a:=a) R hop h1 h4 hev
  exact ⟨v,w',.inl h5,h6,fun _=>h66,uN.no (by simp[hop])⟩
 | box t x =>
  simp only at h
  split at h
  ·split at h
   ·rename_i hx _ hc
    simp only[Bool.and_eq_true,Bool.not_eq_true'] at hc
    obtain ⟨v,w',h5,h6,h66⟩:=U5 R ha hop (by assumption) hc.1 hc.2 h hev
    exact ⟨v,w',.inl h5,h6,fun _=>h66,uN.no (by simp[hop])⟩
   ·cases h
  ·cases h
 | buildSlice t m parts =>
  simp only at h
  obtain ⟨vs,h1,h2⟩:=Option.bind_eq_some_iff.1 h
  obtain ⟨e,h3,h4⟩:=Option.bind_eq_some_iff.1 h2
  obtain ⟨b,h5,h6⟩:=Option.bind_eq_some_iff.1 h4
  split at h6
  ·rename_i hc
   simp only[Bool.and_eq_true,decide_eq_true_eq,List.all_eq_true,Bool.not_eq_true'] at hc
   obtain ⟨⟨⟨⟨c1,c2⟩,c3⟩,c4⟩,c5⟩:=hc
   obtain ⟨⟨as,cs1,φ⟩,h7,h8⟩:=Option.bind_eq_some_iff.1 h6
   have ht:P.underlying t=some (.slice e):=by
    simp only[fg] at h3;split at h3<;>cases h3;assumption
   obtain ⟨v,w',h9,h10,h11⟩:=T3 R ha hop ht c3 h1 c1 c2 c4 (fun v hv=>(c5 v hv).1.1) (fun v hv=>by rw[List.all_eq_true];exact (c5 v hv).1.2) (fun v hv=>(c5 v hv).2) h7 h8 hev
   exact ⟨v,w',.inl h9,h10,fun _=>h11,uN.no (by simp[hop])⟩
  ·cases h6
 | makeSlice t x y =>
  simp only at h
  split at h
  ·rename_i l c e b hx hy ht hb
   split at h
   ·rename_i hc
    simp only[Bool.and_eq_true,decide_eq_true_eq] at hc
    obtain ⟨rfl,hc⟩:=hc
    obtain ⟨z,h1,h2⟩:=Option.bind_eq_some_iff.1 h
    obtain ⟨zs,h3,h4⟩:=Option.bind_eq_some_iff.1 h2
    split at h4
    ·rename_i hlen
     have ht':P.underlying t=some (.slice e):=by
      simp only[fg] at ht;split at ht<;>cases ht;assumption
     obtain ⟨v,w',h9,h10,h11⟩:=SZ R ha hop ht' hc hx hy h1 h3 hlen h4 hev
     exact ⟨v,w',.inl h9,h10,fun _=>h11,uN.no (by simp[hop])⟩
    ·cases h4
   ·cases h
  ·cases h
 | call c =>
  obtain ⟨callee,args,ts⟩:=c
  cases callee with
  | builtin bb =>
   cases bb<;>try (simp at h;done)
   rotate_left
   ·simp only at h
    cases h
    cases n<;>exact hev.elim
   simp only at h
   split at h
   ·rename_i x y t u hargs hts
    split at h
    ·rename_i e e' b ya he he' hb hya
     have ht:P.underlying t=some (.slice e):=by
      simp only[fg] at he;split at he<;>cases he;assumption
     have hu:P.underlying u=some (.slice e'):=by
      simp only[fg] at he';split at he' <;>cases he';assumption
     split at h
     ·rename_i hc
      split at h
      ·obtain ⟨v,w',h9,h10⟩:=Ke R ha hop hargs hts ht hu hya hc (.inl ⟨rfl,rfl⟩) h hev
       exact ⟨v,w',.inl h9,h10,(fun hh=>by cases hh),uN.no (by simp[hop])⟩
      ·split at h
       ·split at h
        ·rename_i hb0 hes
         subst hes
         obtain ⟨v,w',h9,h10⟩:=Ke R ha hop hargs hts ht hu hya hc (.inr ⟨rfl,hb0⟩) h hev
         exact ⟨v,w',.inl h9,h10,(fun hh=>by cases hh),uN.no (by simp[hop])⟩
        ·cases h
       ·cases h
      ·cases h
     ·cases h
    ·cases h
   ·cases h
  | _=>simp at h
 | _=>simp at h
end
end Go.Xt
