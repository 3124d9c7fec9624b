/- Steps towards the statements of this seat; the conditions stand in each theorem. -/
import Derived.Test.YtahdphncepnbeaaGreatDoorXt8
set_option linter.unusedSimpArgs false
set_option linter.unusedVariables false
namespace Go.Xt
open Go.RowKit
section
variable {P:Program}{B:Bas P}{env env':List PV}{κ κ':Kap}{cs:CS}{tm:Nat→Value}{w w':World}{a:Act}
structure Wr (env env':List PV) (κ κ':Kap) (H H':List (Nat×Blk)) (w w':World) (b:Nat):Prop where
 foc:Foc env env' κ κ' H H' w w' (some b)
 kap:κ' b=κ b
 box: ∀l,av H b=some (.box l)→ ∃l',av H' b=some (.box l')
 arr: ∀es x,av H b=some (.arr es x)→ ∃x',av H' b=some (.arr es x')∧x'.lt env'.length=true∧ ∀xs,den env x=.list xs→ ∃xs',den env' x'=.list xs'∧xs'.length=xs.length
 siz: ∀g cells T,κ b=some g→w.heap[g]? =some (.cells cells T (0,0))→ ∃cells',w'.heap[g]? =some (.cells cells' T (0,0))∧cells'.size=cells.size
theorem lh.wr{H H':List (Nat×Blk)}{b:Nat}(W:Wr env env' κ κ' H H' w w' b){c:Cap}{v:Value}(h:lh env κ H w c v):lh env' κ' H' w' c v:=by
 by_cases hn: ∀b'∈c.names,b'≠b
 ·exact h.foc W.foc fun b' hb' hh=>hn b' hb' (Option.some.inj hh)
 ·cases c with
  | ptr b' off =>
   have e:b'=b:=by simpa[Cap.names] using hn
   subst e
   obtain ⟨l,g,h1,h2,h3⟩:=h
   obtain ⟨l',h4⟩:=W.box l h1
   exact ⟨l',g,h4,W.kap.trans h2,h3⟩
  | _=>exact absurd (fun b' hb'=>by simp[Cap.names] at hb') hn
theorem C.wrote_other{b:Nat}{c:C}(h: ∀b'∈c.allNames,b'≠b):c.wrote b=c:=by
 cases c with
 | bor b' a=>have:=h b' (by simp[C.allNames]);simp[C.wrote,this]
 | eptr bo l i o m =>
  cases bo with
  | none=>simp[C.wrote]
  | some b'=>have:=h b' (by simp[C.allNames]);simp[C.wrote,this]
 | _=>rfl
theorem aR.wr{H H':List (Nat×Blk)}{b:Nat}(W:Wr env env' κ κ' H H' w w' b){c:C}{v:Value}(h:aR env κ H w c v):aR env' κ' H' w' (c.wrote b) v:=by
 by_cases hn: ∀b'∈c.allNames,b'≠b
 ·rw[C.wrote_other hn];exact h.foc W.foc fun b' hb' hh=>hn b' hb' (Option.some.inj hh)
 ·cases c with
  | own b' =>
   have e:b'=b:=by simpa[C.allNames] using hn
   subst e
   obtain ⟨es,x,xs,h1,h2,h3,h4⟩:=h
   obtain ⟨x',k1,k2,k3⟩:=W.arr es x h1
   obtain ⟨xs',k4,k5⟩:=k3 xs h3
   refine ⟨es,x',xs',k1,k2,k4,?_⟩
   rcases h4 with ⟨h4,rfl,A,h5⟩ | ⟨g,c,cells,T,h4,h5,h6,h7,h8⟩
   ·exact .inl ⟨W.kap.trans h4,List.eq_nil_of_length_eq_zero (by simpa using k5),A,h5⟩
   ·obtain ⟨cells',k6,k7⟩:=W.siz g cells T h4 h7
    exact .inr ⟨g,c,cells',T,W.kap.trans h4,by rw[k5];exact h5,by rw[k5];exact h6,k6,k7.trans h8⟩
  | bor b' x =>
   have e:b'=b:=by simpa[C.allNames] using hn
   subst e
   simp[C.wrote,aR]
  | ptr b' off =>
   have e:b'=b:=by simpa[C.allNames] using hn
   subst e
   obtain ⟨l,g,h1,h2,h3⟩:=h
   obtain ⟨l',h4⟩:=W.box l h1
   exact ⟨l',g,h4,W.kap.trans h2,h3⟩
  | aptr b' i off =>
   have e:b'=b:=by simpa[C.allNames] using hn
   subst e
   obtain ⟨h1,es,x,xs,g,k,m,h2,h3,h4,h5,h6,h7,h8,h9⟩:=h
   obtain ⟨x',k1,k2,k3⟩:=W.arr es x h2
   obtain ⟨xs',k4,k5⟩:=k3 xs h4
   obtain ⟨l1,l2⟩:=jD W.foc.pre h1
   exact ⟨l1,es,x',xs',g,k,m,k1,k2,k4,W.kap.trans h5,l2.trans h6,h7,by rw[k5];exact h8,h9⟩
  | eptr bo l i o m =>
   cases bo with
   | none=>exact absurd (fun b' hb'=>by simp[C.allNames] at hb') hn
   | some b' =>
    have e:b'=b:=by simpa[C.allNames] using hn
    subst e
    simp[C.wrote,aR]
  | fn K caps =>
   obtain ⟨vs,rfl,h⟩:=h
   exact ⟨vs,rfl,h.imp fun c v hc=>hc.wr W⟩
  | _=>exact absurd (fun b' hb'=>by simp[C.allNames] at hb') hn
theorem dY(cs:CS)(b b':Nat)(blk:Blk):av (cs.writeB b blk).heap b'=if b'=b then some (blk.map (C.wrote b)) else (av cs.heap b').map (Blk.map (C.wrote b)):=by
 simp only[CS.writeB];rw[yk,CS.map_heap]
theorem Rel.wr(R:Rel B env κ cs tm w){b:Nat}{blk:Blk}(l:List PV)(W:Wr env (env++l) κ κ cs.heap (cs.writeB b blk).heap w w' b)
  (hb:lj (env++l) κ (cs.writeB b blk).heap w' b (blk.map (C.wrote b))):Rel B (env++l) κ { (cs.writeB b blk) with d:=cs.d+l.length } tm w':=by
 refine R.foc (φ:=C.wrote b) W.foc (fun c v h=>h.wr W) (fun b' blk' hne h=>?_) (fun b0 blk' h h1=>?_) (fun t sv h=>?_) (fun b0 g h h1=>?_) (by simp[R.henv]) rfl rfl rfl (Nat.le_refl _)
 ·have e:b'≠b:=fun e=>hne (congrArg some e)
  rw[dY,if_neg e] at h
  obtain ⟨blk0,h1,rfl⟩:=Option.map_eq_some_iff.1 h
  exact ⟨blk0,h1,rfl⟩
 ·cases h
  rw[dY,if_pos rfl] at h1
  cases h1;exact hb
 ·rw[show ({ (cs.writeB b blk) with d:=cs.d+l.length }:CS).slots=(cs.map (C.wrote b)).slots from rfl,CS.map_slots] at h
  obtain ⟨sv0,h1,rfl⟩:=Option.map_eq_some_iff.1 h
  exact ⟨sv0,h1,rfl⟩
 ·cases h
  obtain ⟨h2,h3,h4⟩:=R.hκ _ _ h1
  refine ⟨by rw[dY,if_pos rfl];rfl,h3,Nat.lt_of_lt_of_le h4 W.foc.siz⟩
theorem yo(R:Rel B env κ cs tm w)(b:Nat)(blk:Blk)(l:List PV)(hw: ∀g,g<w.heap.size→κ b≠some g→w'.heap[g]? =w.heap[g]?)(hs:w.heap.size≤w'.heap.size) :
  Foc env (env++l) κ κ cs.heap (cs.writeB b blk).heap w w' (some b) where
 pre:=⟨l,rfl⟩
 kap:=fun _ _=>rfl
 oth:=rfl
 arr:=fun b' es x h1 h2=>by
  have e:b'≠b:=fun e=>h1 (congrArg some e)
  rw[dY,if_neg e,h2];rfl
 box:=fun b' l h1 h2=>by
  have e:b'≠b:=fun e=>h1 (congrArg some e)
  exact ⟨l.map (C.wrote b),by rw[dY,if_neg e,h2];rfl⟩
 blk:=fun g hg h=>hw g hg (h b rfl)
 new:=fun b0 g h h1=>.inl (by cases h;exact h1)
 inj:=R.hinj
 siz:=hs
theorem AA{α:Type}: ∀(xs l:List α) (o:Nat),o+xs.length≤l.length→setL l o xs=l.take o++xs++l.drop (o+xs.length)
 | [],l,o,h=>by simp[setL]
 | x::xs,l,o,h=>by
  simp only[List.length_cons] at h
  simp only[setL]
  rw[AA xs (l.set o x) (o+1) (by simp;omega)]
  have ho:o<l.length:=by omega
  have h1:(l.set o x).take (o+1)=l.take o++[x]:=by
   rw[List.take_succ_eq_append_getElem (by simpa using ho)]
   simp[List.take_set_of_le]
  have h2:(l.set o x).drop (o+1+xs.length)=l.drop (o+(x::xs).length):=by
   rw[List.drop_set_of_lt (by omega)];congr 1;simp;omega
  rw[h1,h2];simp
theorem za{t:TypeId}(hk:okT P t=true){g off:Nat}{cur:Array Value}{T:TypeId}{v:Value}(hg:w.heap[g]? =some (.cells cur T (0,0)))(hn:v.cells.size=P.cellsOf t)
  (hle:off+v.cells.size≤cur.size) (h1: ∀u∈v.cells.toList,u.oneCell'=true) :
  (Instr.storeAt t (.pointer (some ⟨g,off,none⟩)) v).run P w=.ok () (w.setRow g (setL cur.toList off v.cells.toList).toArray):=by
 have hs:=run_storeCells_at (P:=P) g off T v.cells.toList 0 cur w hg (by simpa using hle) h1
 simp only[Nat.add_zero] at hs
 rw[AA _ _ _ (by simpa using hle)]
 simp[Instr.storeAt,Instr.sureAddr,storeVar,ek hk,hn,hs]
theorem Pb(R:Rel B env κ cs tm w){b off:Nat}{l xs:List C}{vs:List Value}(hb:av cs.heap b=some (.box l))(hle:off+xs.length≤l.length)(hx:aw (aR env κ cs.heap w) xs vs) :
  ∃g cur T,κ b=some g∧w.heap[g]? =some (.cells cur T (0,0))∧off+vs.length≤cur.size ∧
   Rel B env κ (cs.writeB b (.box (setL l off xs))) tm (w.setRow g (setL cur.toList off vs).toArray)∧Below B w (w.setRow g (setL cur.toList off vs).toArray):=by
 obtain ⟨g,cur,T,h1,h2,h3⟩:=R.hblk _ _ hb
 have hl:=h3.length
 have hl':=hx.length
 simp only[Array.length_toList] at hl
 refine ⟨g,cur,T,h1,h2,by omega,?_,qO (R.hκ _ _ h1).2.1⟩
 have F:=yo (w':=w.setRow g (setL cur.toList off vs).toArray) R b (.box (setL l off xs)) [] (fun g' hg' hne=>setRow_other w g g' _ fun h=>hne (by rw[h];exact h1)) (by simp)
 have W:Wr env (env++[]) κ κ cs.heap (cs.writeB b (.box (setL l off xs))).heap w (w.setRow g (setL cur.toList off vs).toArray) b:=by
  refine ⟨F,rfl,fun l' h=>⟨_,by rw[dY,if_pos rfl];rfl⟩,(fun es x h=>by rw[hb] at h;cases h),fun g' cells T' h4 h5=>?_⟩
  rw[h1] at h4;cases h4
  rw[h2] at h5;cases h5
  exact ⟨_,setRow_heap w g cur _ T (0,0) h2,by simp[mb]⟩
 have:=R.wr (w':=w.setRow g (setL cur.toList off vs).toArray) [] W (by
  refine ⟨g,(setL cur.toList off vs).toArray,T,h1,setRow_heap w g cur _ T (0,0) h2,?_⟩
  exact aw.map (C.wrote b) (fun c v (h:aR env κ cs.heap w c v)=>h.wr W) (as:=setL l off xs) (hx.setL off h3))
 rw[List.append_nil] at this
 exact this
theorem lk{o:POp}{as:List Atom}{cs:CS}{k:Atom→CS→Option T}{t:T}(h:AH o as cs k=some t): ∃t',k (.v cs.d) { cs with d:=cs.d+1 }=some t'∧t=.op o as t':=by
 simp only[AH] at h
 obtain ⟨t',h1,rfl⟩:=Option.map_eq_some_iff.1 h
 exact ⟨t',h1,rfl⟩
theorem EvN.op{ρ:Fns}{n:Nat}{o:POp}{as:List Atom}{k:T}{L:List (T×Nat)}{r:List PV→Prop}(h:EvN ρ n (.op o as k) env L r) :
  ∃m p,n=m+1∧ev o (as.map (den env))=some p∧EvN ρ m k (env++[p]) L r:=by
 cases n with
 | zero=>exact h.elim
 | succ m =>
  simp only[EvN] at h
  split at h
  ·rename_i p hp;exact ⟨m,p,rfl,hp,h⟩
  ·exact h.elim
theorem oT{α:Type}(l:List α)(i:Nat)(x d:α)(h:i<l.length):(l.set i x).getD i d=x:=by simp[h]
theorem sZ{ρ:Fns}{i:Atom}{L:List (T×Nat)}{r:List PV→Prop}: ∀(as:List Atom) (off:Nat) (x:Atom) (env:List PV) (cs:CS) (k:Atom→CS→Option T) (t:T) (n:Nat) (xs:List (List PV)) (kk:IntKind) (m:Int),
  sL i off as x cs k=some t→EvN ρ n t env L r→env.length=cs.d→den env x=.list xs→x.lt env.length=true→i.lt env.length=true→den env i=.int kk m→(∀y∈as,Atom.lt env.length y=true)→0≤m→m<xs.length →
  ∃l x' t' n',k x' { cs with d:=cs.d+l.length }=some t'∧n'≤n∧EvN ρ n' t' (env++l) L r∧x'.lt (env++l).length=true ∧
   den (env++l) x'=.list (xs.set m.toNat (setL (xs.getD m.toNat []) off (as.map (den env))))
 | [],off,x,env,cs,k,t,n,xs,kk,m,h,hev,hd,hx,hxl,hil,hi,has,h0,h1=>by
  simp only[sL] at h
  refine ⟨[],x,t,n,h,Nat.le_refl _,by simpa using hev,by simpa using hxl,?_⟩
  simp only[List.append_nil,List.map_nil,setL]
  rw[hx]
  congr 1
  apply List.ext_getElem?
  intro j
  simp only[List.getElem?_set]
  split
  ·rename_i hj;subst hj
   have:m.toNat<xs.length:=by omega
   simp[this]
  ·rfl
 | y::ys,off,x,env,cs,k,t,n,xs,kk,m,h,hev,hd,hx,hxl,hil,hi,has,h0,h1=>by
  simp only[sL] at h
  obtain ⟨t1,h2,rfl⟩:=lk h
  obtain ⟨n1,p,rfl,h3,h4⟩:=hev.op
  simp only[List.map_cons,List.map_nil,hx,hi,ev] at h3
  rw[if_pos ⟨h0,h1⟩] at h3
  cases h3
  have hlen:m.toNat<xs.length:=by omega
  have hdd:den (env++[PV.list (xs.set m.toNat ((xs.getD m.toNat []).set off (den env y)))]) (.v cs.d)=.list (xs.set m.toNat ((xs.getD m.toNat []).set off (den env y))):=by
   rw[←hd];simp[den,ii]
  obtain ⟨l,x',t',n',k1,k2,k3,k4,k5⟩:=sZ ys (off+1) (.v cs.d) _ _ k t1 n1 _ kk m h2 h4 (by simp[hd]) hdd (by simp[Atom.lt,hd]) (Atom.lt_mono (by simp) hil)
   (by rw[ej _ _ _ hil];exact hi) (fun z hz=>Atom.lt_mono (by simp) (has z (by simp[hz]))) h0 (by simpa using h1)
  refine ⟨PV.list (xs.set m.toNat ((xs.getD m.toNat []).set off (den env y)))::l,x',t',n',?_,by omega,?_,?_,?_⟩
  ·rw[List.length_cons,show cs.d+(l.length+1)=cs.d+1+l.length by omega];exact k1
  ·simpa using k3
  ·simpa using k4
  ·have e:ys.map (den (env++[PV.list (xs.set m.toNat ((xs.getD m.toNat []).set off (den env y)))]))=ys.map (den env) :=
    List.map_congr_left fun z hz=>ej _ _ _ (has z (by simp[hz]))
   rw[e,oT _ _ _ _ hlen,List.set_set] at k5
   simpa[setL] using k5
theorem cL: ∀(l:List PV) (i:Nat),look l i=l.getD i (.bool false)
 | [],i=>by simp[look]
 | x::l,0=>by simp[look]
 | x::l,i+1=>by simpa[look] using cL l i
theorem getElem?_setL{α:Type}: ∀(xs l:List α) (o j:Nat),o+xs.length≤l.length→(setL l o xs)[j]? =if o≤j∧j<o+xs.length then xs[j-o]? else l[j]? :=by
 intro xs l o j h
 rw[AA _ _ _ h]
 by_cases h1:j<o
 ·rw[if_neg (by omega),List.append_assoc,List.getElem?_append_left (by simp;omega),List.getElem?_take,if_pos h1]
 ·by_cases h2:j<o+xs.length
  ·rw[if_pos ⟨by omega,h2⟩,List.append_assoc,List.getElem?_append_right (by simp;omega),List.getElem?_append_left (by simp;omega)]
   congr 1;simp;omega
  ·rw[if_neg (by omega),List.getElem?_append_right (by simp;omega),List.getElem?_drop]
   congr 1;simp;omega
theorem Pc(R:Rel B env κ cs tm w){b es off:Nat}{x i:Atom}{v:Value}{us:List Value}{ps:List PV}{x':Atom}{l:List PV}{kk:IntKind}{m:Int}{xs:List (List PV)}
  (hb:av cs.heap b=some (.arr es x)) (hp:aR env κ cs.heap w (.aptr b i off) v) (hle:off+us.length≤es) (hi:den env i=.int kk m) (hx:den env x=.list xs)
  (hr:aw (fun p u=>RP w (Own κ) p u) ps us) (hxl:x'.lt (env++l).length=true) (hx':den (env++l) x'=.list (xs.set m.toNat (setL (xs.getD m.toNat []) off ps))) :
  ∃g cur T,κ b=some g∧v=.pointer (some ⟨g,m.toNat*es+off,none⟩)∧w.heap[g]? =some (.cells cur T (0,0))∧m.toNat*es+off+us.length≤cur.size ∧
   Rel B (env++l) κ { (cs.writeB b (.arr es x')) with d:=cs.d+l.length } tm (w.setRow g (setL cur.toList (m.toNat*es+off) us).toArray)∧Below B w (w.setRow g (setL cur.toList (m.toNat*es+off) us).toArray):=by
 obtain ⟨p1,es',x0,xs0,g,kk',m',p2,p3,p4,p5,p6,p7,p8,p9⟩:=hp
 rw[hb] at p2;cases p2
 rw[hx] at p4;cases p4
 rw[hi] at p6;cases p6
 obtain ⟨k1,k2,xs',k3,k4,k5,k6⟩:=R.hblk _ _ hb
 rw[hx] at k3;cases k3
 rcases k6 with ⟨k6,_⟩ | ⟨g',cur,T,c,k6,k7,k8,k9,k10⟩
 ·rw[p5] at k6;cases k6
 ·rw[p5] at k6;cases k6
  have hm:m.toNat<xs.length:=by omega
  have hlen:=hr.length
  have hbound:m.toNat*es+es≤cur.size:=by
   rw[k8,←Nat.succ_mul];exact Nat.mul_le_mul_right _ (by omega)
  have hfit:m.toNat*es+off+us.length≤cur.size:=by omega
  refine ⟨g,cur,T,p5,p9,k7,hfit,?_,qO (R.hκ _ _ p5).2.1⟩
  have hlx:(xs.set m.toNat (setL (xs.getD m.toNat []) off ps)).length=xs.length:=by simp
  have F:=yo (w':=w.setRow g (setL cur.toList (m.toNat*es+off) us).toArray) R b (.arr es x') l (fun g' hg' hne=>setRow_other w g g' _ fun h=>hne (by rw[h];exact p5)) (by simp)
  have hrowm:=k5 m.toNat hm
  refine R.wr l ⟨F,rfl,(fun l' h=>by rw[hb] at h;cases h),fun es2 x2 h=>?_,fun g2 cells T2 h4 h5=>?_⟩ ?_
  ·rw[hb] at h;cases h
   exact ⟨x',by rw[dY,if_pos rfl];rfl,hxl,fun xs2 h=>by rw[hx] at h;cases h;exact ⟨_,hx',hlx⟩⟩
  ·rw[p5] at h4;cases h4
   rw[k7] at h5;cases h5
   exact ⟨_,setRow_heap w g cur _ T (0,0) k7,by simp[mb]⟩
  ·refine ⟨hxl,k2,_,hx',by rw[hlx];exact k4,fun j hj=>?_,.inr ⟨g,(setL cur.toList (m.toNat*es+off) us).toArray,T,c,p5,setRow_heap w g cur _ T (0,0) k7,by simp[mb,k8],by rw[hlx];exact k9,fun j q hj hq=>?_⟩⟩
   ·rw[hlx] at hj
    by_cases e:j=m.toNat
    ·subst e;rw[oT _ _ _ _ hm,mb];exact hrowm
    ·simp only[List.getD_eq_getElem?_getD] at k5 ⊢
     rw[List.getElem?_set_ne (Ne.symm e)];exact k5 j hj
   ·rw[hlx] at hj
    obtain ⟨u,h5,h6⟩:=k10 j q hj hq
    simp only[List.getElem?_toArray]
    rw[getElem?_setL _ _ _ _ (by simpa using hfit)]
    have hmono: ∀ {p u},RP w (Own κ) p u→RP (w.setRow g (setL cur.toList (m.toNat*es+off) us).toArray) (Own κ) p u:=fun hr=>hr.mono F.own
    by_cases e:j=m.toNat
    ·subst e
     rw[oT _ _ _ _ hm]
     by_cases hin:off≤q∧q<off+us.length
     ·rw[if_pos ⟨by omega,by omega⟩]
      obtain ⟨u',h7⟩: ∃u',us[q-off]? =some u':=⟨us[q-off]'(by omega),List.getElem?_eq_getElem _⟩
      obtain ⟨p,h8,h9⟩:=hr.getR (q-off) u' h7
      refine ⟨u',by rw[←h7];congr 1;omega,?_⟩
      rw[cL,List.getD_eq_getElem?_getD,getElem?_setL _ _ _ _ (by rw[hlen,hrowm];exact hle),if_pos (by omega),h8]
      exact hmono h9
     ·rw[if_neg (by omega)]
      refine ⟨u,by simpa using h5,?_⟩
      rw[cL,List.getD_eq_getElem?_getD,getElem?_setL _ _ _ _ (by rw[hlen,hrowm];exact hle),if_neg (by omega),←List.getD_eq_getElem?_getD,←cL]
      exact hmono h6
    ·have: ¬(m.toNat*es+off≤j*es+q∧j*es+q<m.toNat*es+off+us.length):=by
      rintro ⟨h7,h8⟩
      rcases Nat.lt_or_ge j m.toNat with h9 | h9
      ·have:j*es+es≤m.toNat*es:=by rw[←Nat.succ_mul];exact Nat.mul_le_mul_right _ h9
       omega
      ·have:m.toNat*es+es≤j*es:=by rw[←Nat.succ_mul];exact Nat.mul_le_mul_right _ (by omega)
       omega
     rw[if_neg this]
     refine ⟨u,by simpa using h5,?_⟩
     simp only[List.getD_eq_getElem?_getD] at h6 ⊢
     rw[List.getElem?_set_ne (Ne.symm e)]
     exact hmono h6
end
end Go.Xt
