/- Steps towards the statements of this seat; the conditions stand in each theorem. -/
import Derived.Laws.Tables
import Derived.Laws.StructEq
import Derived.Test.YtahdphncepnbeaaGreatDoorXt5
set_option linter.unusedSimpArgs false
set_option linter.unusedVariables false
namespace Go.Xt
open Go.RowKit
section
variable {P:Program}{B:Bas P}{env:List PV}{κ:Kap}{cs:CS}{tm:Nat→Value}{w:World}{a:Act}
theorem AX(R:Rel B env κ cs tm w): ∀ {vs:List SV} {cp:List Cap} {us:List Value},ye vs=some cp→aw (bV env κ cs.heap w) vs us→aw (lh env κ cs.heap w) cp us
 | [],_,us,h,h2=>by
  simp only[ye] at h;cases h
  cases us with
  | nil=>trivial
  | cons u us=>exact h2.elim
 | v::vs,_,us,h,h2=>by
  simp only[ye] at h
  obtain ⟨c,h3,h4⟩:=Option.bind_eq_some_iff.1 h
  obtain ⟨cs',h5,rfl⟩:=Option.map_eq_some_iff.1 h4
  cases us with
  | nil=>exact h2.elim
  | cons u us =>
   refine ⟨?_,AX R h5 h2.2⟩
   have h6:=h2.1
   cases v with
   | one c' =>
    cases c' <;>simp only[Og] at h3<;>try (cases h3;done)
    ·cases h3;exact h6
    ·cases h3;obtain ⟨A,hA⟩:=h6;exact ⟨rfl,by rw[hA];exact RP.nil⟩
    ·cases h3;exact h6
   | agg l =>
    simp only[Og] at h3
    obtain ⟨as,h7,rfl⟩:=Option.map_eq_some_iff.1 h3
    obtain ⟨vs',h8,h9⟩:=h6
    exact ⟨vs',h8,ka R h7 h9⟩
   | tup ps=>simp[Og] at h3
theorem MT(R:Rel B env κ cs tm w)(ha: ∀t,t<cs.nt→a.tmps.getD t undef=tm (cs.fb+t)){o:Oper}{f:Nat}{first caps:Array Operand}(ho:o.op=.makeFunc (.func f) first caps)(hf:first.size=0)
  {vs:List SV} {cp:List Cap} (h1:cd cs caps.toList=some vs) (h2:ye vs=some cp):QOk P env κ cs.heap w a.eval o (.val (.one (.fn f cp))):=by
 have h3:=AX R h2 (iK R ha h1)
 have hf':first= #[]:=Array.size_eq_zero_iff.1 hf
 refine ⟨.func (.func f) #[] (caps.map a.eval),fun w' _=>?_,_,rfl,by simpa using h3⟩
 simp[execOp,ho,hf',Instr.makeFunc]
theorem nF{H:List (Nat×Blk)}{c:C}{v:Value}(h:aR env κ H w c v)(hs:c.storable=true):v.cells= #[v]∧v.oneCell'=true:=by
 cases c with
 | «at» x=>obtain ⟨_,h⟩:=h;generalize den env x=p at h;cases h<;>first | exact ⟨rfl,rfl⟩ | (rename_i h;rcases h.shape with rfl | ⟨_,_,rfl⟩ <;>exact ⟨rfl,rfl⟩)
 | nil0=>obtain ⟨A,rfl⟩:=h;exact ⟨rfl,rfl⟩
 | own b=>obtain ⟨_,_,_,_,_,_,⟨_,_,A,rfl⟩ | ⟨_,_,_,_,_,rfl,_⟩⟩:=h<;>exact ⟨rfl,rfl⟩
 | bor b x=>obtain ⟨_,_,_,_,_,_,_,_,_,_,rfl,_⟩:=h;exact ⟨rfl,rfl⟩
 | ptr b o=>obtain ⟨_,_,_,_,rfl⟩:=h;exact ⟨rfl,rfl⟩
 | aptr b i o=>obtain ⟨_,_,_,_,_,_,_,_,_,_,_,_,_,_,rfl⟩:=h;exact ⟨rfl,rfl⟩
 | eptr b l i o m=>obtain ⟨_,_,_,ad,rfl,_⟩:=h;exact ⟨rfl,rfl⟩
 | fn K l=>obtain ⟨vs,rfl,_⟩:=h;exact ⟨rfl,rfl⟩
 | undef=>cases hs
 | junk=>cases hs
theorem sX{H:List (Nat×Blk)}{sv:SV}{v:Value}(h:bV env κ H w sv v)(hs:sv.cells.all C.storable=true)(hl:sv.isTup=false) :
  aw (aR env κ H w) sv.cells v.cells.toList:=by
 cases sv with
 | one c=>simp[SV.cells] at hs;rw[(nF h hs).1];exact ⟨h,trivial⟩
 | agg l=>obtain ⟨vs,rfl,h⟩:=h;exact h
 | tup ps=>cases hl
theorem mb{α:Type}(l:List α)(o:Nat)(xs:List α):(setL l o xs).length=l.length:=by
 induction xs generalizing l o with
 | nil=>rfl
 | cons x xs ih=>simp[setL,ih]
theorem aw.setL{α β:Type}{R:α→β→Prop}{xs:List α}{ys:List β}(h:aw R xs ys): ∀ {l:List α} {m:List β} (o:Nat),aw R l m→aw R (setL l o xs) (setL m o ys):=by
 induction xs generalizing ys with
 | nil=>cases ys with
  | nil=>intro l m o h;exact h
  | cons y ys=>exact h.elim
 | cons x xs ih=>cases ys with
  | nil=>exact h.elim
  | cons y ys=>intro l m o hl;exact ih h.2 (o+1) (hl.set o x y h.1)
theorem AY(off:Nat): ∀(l:List Value) (k:Nat) (cells:Array Value),
  ((l.zipIdx k).foldl (fun cs (p:Value×Nat)=>cs.setIfInBounds (off+p.2) p.1) cells).toList=setL cells.toList (off+k) l
 | [],_,_=>rfl
 | v::l,k,cells=>by
  simp only[List.zipIdx_cons,List.foldl_cons]
  rw[AY off l (k+1)]
  simp[setL,Nat.add_assoc]
theorem vH(off:Nat)(v:Array Value)(cells:Array Value) :
  (v.zipIdx.foldl (fun cs (p:Value×Nat)=>cs.setIfInBounds (off+p.2) p.1) cells).toList=setL cells.toList off v.toList:=by
 rw[←Array.foldl_toList]
 have:v.zipIdx.toList=v.toList.zipIdx:=by simp
 rw[this,AY];rfl
theorem vI{H:List (Nat×Blk)}(jp:Nat→Option (Nat×Nat)): ∀(ps:List (Nat×SV)) (qs:List (Nat×Value)) (cells r:List C) (zs:Array Value),
  yW jp cells ps=some r→aw (fun p q=>p.1=q.1∧bV env κ H w p.2 q.2) ps qs→aw (aR env κ H w) cells zs.toList →
  ∃rs,Instr.fill jp zs qs=some rs∧aw (aR env κ H w) r rs.toList
 | [],[],cells,r,zs,h,_,hz=>by simp only[yW] at h;cases h;exact ⟨zs,rfl,hz⟩
 | (i,sv)::ps,(i',v)::qs,cells,r,zs,h,hp,hz=>by
  obtain ⟨⟨he,hr⟩,hp'⟩:=hp
  simp only at he hr;subst he
  simp only[yW] at h
  obtain ⟨⟨off,n⟩,h1,h2⟩:=Option.bind_eq_some_iff.1 h
  simp only at h2
  split at h2
  ·rename_i hc
   simp only[Bool.and_eq_true,decide_eq_true_eq] at hc
   obtain ⟨⟨⟨h3,h4⟩,h5⟩,h0⟩:=hc
   have h6:=sX hr h4 (by simpa using h0)
   have hl:=h6.length
   have hl':=hz.length
   simp only[Array.length_toList] at hl hl'
   obtain ⟨rs,h7,h8⟩:=vI jp ps qs _ r (v.cells.zipIdx.foldl (fun cs (p:Value×Nat)=>cs.setIfInBounds (off+p.2) p.1) zs) h2 hp' (by rw[vH];exact h6.setL off hz)
   refine ⟨rs,?_,h8⟩
   unfold Instr.fill
   simp only[h1]
   rw[if_neg (by simp;omega)]
   exact h7
  ·cases h2
 | [],_::_,_,_,_,_,h,_=>h.elim
 | _::_,[],_,_,_,_,h,_=>h.elim
theorem uV(H:List (Nat×Blk)): ∀ {vs:List Value} {l:List C},wv vs=some l→aw (aR env κ H w) l vs
 | [],l,h=>by simp only[wv] at h;cases h;trivial
 | v::vs,l,h=>by
  simp only[wv] at h
  obtain ⟨c,h1,h2⟩:=Option.bind_eq_some_iff.1 h
  obtain ⟨cs',h3,rfl⟩:=Option.map_eq_some_iff.1 h2
  exact ⟨wJ h1 H,uV H h3⟩
theorem sY(H:List (Nat×Blk)){t:TypeId}{l:List C}(h:yV P t=some l): ∃i z,P.info? t=some i∧i.zero=some z∧aw (aR env κ H w) l z.cells.toList:=by
 simp only[yV] at h
 obtain ⟨z,h1,h2⟩:=Option.bind_eq_some_iff.1 h
 obtain ⟨i,h3,h4⟩:=Option.bind_eq_some_iff.1 h1
 exact ⟨i,z,h3,h4,uV H h2⟩
theorem Ox{H:List (Nat×Blk)}: ∀(parts:List (Nat×Operand)) (vs:List SV),aw (bV env κ H w) vs (parts.map fun p=>a.eval p.2) →
  aw (fun p q=>p.1=q.1∧bV env κ H w p.2 q.2) ((parts.map (·.1)).zip vs) (parts.map fun p=>(p.1,a.eval p.2))
 | [],[],_=>trivial
 | p::ps,v::vs,h=>⟨⟨rfl,h.1⟩,Ox ps vs h.2⟩
 | [],_::_,h=>h.elim
 | _::_,[],h=>h.elim
theorem Oy(R:Rel B env κ cs tm w)(ha: ∀t,t<cs.nt→a.tmps.getD t undef=tm (cs.fb+t)){o:Oper}{t:TypeId}{parts:Array (Nat×Operand)}(ho:o.op=.build t parts){z l:List C}{vs:List SV}
  (hz:yV P t=some z) (hv:cd cs (parts.toList.map (·.2))=some vs)
  (h:(∃fs pl,P.underlying t=some (.struct fs)∧AK P fs=some pl∧yW (pl[·]?) z ((parts.toList.map (·.1)).zip vs)=some l) ∨
   (∃n e,P.underlying t=some (.array n e)∧okT P e=true∧yW (fun i=>some (i*P.cellsOf e,P.cellsOf e)) z ((parts.toList.map (·.1)).zip vs)=some l)) :
  QOk P env κ cs.heap w a.eval o (.val (.agg l)):=by
 obtain ⟨i,zv,h1,h2,h3⟩:=sY (env:=env) (κ:=κ) (w:=w) cs.heap hz
 have h4:=iK R ha hv
 rw[List.map_map] at h4
 have h5:=Ox parts.toList vs h4
 have h6:(parts.map fun (p:Nat×Operand)=>(p.1,a.eval p.2)).toList=parts.toList.map fun p=>(p.1,a.eval p.2):=by simp
 have fin: ∀rs,P.built t (parts.toList.map fun p=>(p.1,a.eval p.2))=some rs→aw (aR env κ cs.heap w) l rs.toList→QOk P env κ cs.heap w a.eval o (.val (.agg l)):=by
  intro rs hb hr
  refine ⟨.agg rs,fun w' _=>?_,rs,rfl,hr⟩
  have:=run_build w' t (parts.map fun (p:Nat×Operand)=>(p.1,a.eval p.2)) rs (by rw[h6];exact hb)
  simp[execOp,ho,this]
 rcases h with ⟨fs,pl,k1,k2,k3⟩ | ⟨n,e,k1,k2,k3⟩
 ·obtain ⟨rs,h7,h8⟩:=vI _ _ _ _ _ _ k3 h5 h3
  refine fin rs ?_ h8
  simp only[Program.built,h1,k1,h2]
  simp only[AK] at k2
  rw[k2]
  have:(fun (x:Nat)=>pl.toArray[x]?)=(fun (x:Nat)=>pl[x]?):=by funext x;simp
  simp only[this];exact h7
 ·obtain ⟨rs,h7,h8⟩:=vI _ _ _ _ _ _ k3 h5 h3
  refine fin rs ?_ h8
  simp only[okT,Option.isSome_iff_exists] at k2
  obtain ⟨ie,k2⟩:=k2
  have hc:P.cellsOf e=ie.size:=by simp[Program.cellsOf,k2]
  simp only[Program.built,h1,k1,h2,k2]
  rw[hc] at h7;exact h7
theorem wN{O:Nat→Prop}: ∀(fs:List Field) (k d:Nat) (xs ys:Array Value) (ks:List Bool) (as bs:List PV) (b:Bool) (w':World),vF P k fs=some ks→sJ ks as bs=some b →
  aw (fun p u=>RP w O p u) as (xs.toList.drop k)→aw (fun p u=>RP w O p u) bs (ys.toList.drop k)→(Op.eqFields (d+1) xs ys fs).run P w'=.ok b w'
 | [],k,d,xs,ys,ks,as,bs,b,w',hf,he,_,_=>by
  simp only[vF] at hf;cases hf
  cases as<;>cases bs<;>simp only[sJ] at he<;>cases he
  rfl
 | f::fs,k,d,xs,ys,ks,as,bs,b,w',hf,he,hx,hy=>by
  simp only[vF] at hf
  split at hf
  ·rename_i hc
   obtain ⟨hoff,ab⟩:=hc
   have drop1: ∀(zs:Array Value) (ps:List PV) (z:PV),aw (fun p u=>RP w O p u) (z::ps) (zs.toList.drop k)→ ∃u,zs[k]? =some u∧RP w O z u∧aw (fun p u=>RP w O p u) ps (zs.toList.drop (k+1)):=by
    intro zs ps z h
    cases hd:zs.toList.drop k with
    | nil=>rw[hd] at h;exact h.elim
    | cons u r =>
     rw[hd] at h
     have hk:k<zs.toList.length:=by
      rcases Nat.lt_or_ge k zs.toList.length with h5 | h5
      ·exact h5
      ·rw[List.drop_eq_nil_of_le h5] at hd;cases hd
     rw[List.drop_eq_getElem_cons hk] at hd
     cases hd
     exact ⟨zs.toList[k],by simp at hk ⊢,h.1,h.2⟩
   have main: ∀(kb:Bool) (ks':List Bool),ks=kb::ks'→vF P (k+1) fs=some ks'→(∀(p q:PV) (u v:Value) (b1:Bool),RP w O p u→RP w O q v→p.eqv kb q=some b1→(Op.equalIn (d+1) f.type u v).run P w'=.ok b1 w')→aD P f.type=false→(P.underlying f.type).isSome=true →
     (Op.eqFields (d+1) xs ys (f::fs)).run P w'=.ok b w':=by
    rintro kb ks' rfl hfs heq hagg hund
    cases as with
    | nil=>simp[sJ] at he
    | cons p as =>
     cases bs with
     | nil=>simp[sJ] at he
     | cons q bs =>
      simp only[sJ] at he
      obtain ⟨b1,h1,h2⟩:=Option.bind_eq_some_iff.1 he
      obtain ⟨b2,h3,rfl⟩:=Option.map_eq_some_iff.1 h2
      obtain ⟨u,hu1,hu2,hu3⟩:=drop1 _ _ _ hx
      obtain ⟨v,hv1,hv2,hv3⟩:=drop1 _ _ _ hy
      have ih:=wN fs (k+1) d xs ys ks' as bs b2 w' hfs h3 hu3 hv3
      obtain ⟨dd,hdd⟩:=Option.isSome_iff_exists.1 hund
      have hpart: ∀(zs:Array Value) (z:Value),zs[k]? =some z→(part f.type zs k).run P w'=.ok z w':=by
       intro zs z hz
       rw[wM hdd,if_neg (by simp[hagg]),hz]
      simp only[Op.eqFields]
      rw[if_pos ab,hoff]
      simp only[Sem.run_bind,hpart xs u hu1,hpart ys v hv1,Result.andThen_ok,heq p q u v b1 hu2 hv2 h1]
      cases b1 with
      | true=>simpa using ih
      | false=>simp
   split at hf
   ·rename_i kk ht
    obtain ⟨ks',h4,h5⟩:=Option.map_eq_some_iff.1 hf
    refine main true ks' h5.symm h4 ?_ (by simp[aD,ht]) (by simp[ht])
    intro p q u v b1 hp hq h1
    cases hp<;>cases hq<;>simp only[PV.eqv] at h1<;>try (cases h1;done)
    split at h1
    ·rename_i hk;subst hk;cases h1;exact run_equalIn_int w' d f.type _ kk _ _ ht
    ·cases h1
   ·rename_i ht
    obtain ⟨ks',h4,h5⟩:=Option.map_eq_some_iff.1 hf
    refine main false ks' h5.symm h4 ?_ (by simp[aD,ht]) (by simp[ht])
    intro p q u v b1 hp hq h1
    cases hp<;>cases hq<;>simp only[PV.eqv] at h1<;>try (cases h1;done)
    cases h1;exact run_equalIn_bool' w' d f.type _ _ ht
   ·cases hf
  ·cases hf
theorem SQ(R:Rel B env κ cs tm w)(ha: ∀t,t<cs.nt→a.tmps.getD t undef=tm (cs.fb+t)){o:Oper}{neg:Bool}{t u:TypeId}{x y:Operand}(ho:o.op=.binOp (if neg then .neq else .eql) t x y u)
  {fs:Array Field} (ht:P.underlying t=some (.struct fs)) {ks:List Bool} (hk:MK P t fs.toList=some ks) {xs ys:List C} {as bs:List Atom} (hx:az cs x=some (.agg xs)) (hy:az cs y=some (.agg ys))
  (hxs:oy xs=some as) (hys:oy ys=some bs) (hl:as.length=ks.length) :
  QOk P env κ cs.heap w a.eval o (.em (.eqs neg ks) (as++bs) fun r=>.one (.at r)):=by
 intro r hr
 obtain ⟨us,hu,hru⟩:=aj R ha hx
 obtain ⟨vs,hv,hrv⟩:=aj R ha hy
 have h1:aw (fun p u=>RP w (Own κ) p u) (as.map (den env)) us.toList:=(ka R hxs hru).map _ fun _ _ h=>h.2
 have h2:aw (fun p u=>RP w (Own κ) p u) (bs.map (den env)) vs.toList:=(ka R hys hrv).map _ fun _ _ h=>h.2
 unfold MK at hk
 split at hk
 ·cases hk
 ·rename_i hc
  simp only[Bool.or_eq_true,not_or,Bool.not_eq_true] at hc
  simp only[ev,List.map_append] at hr
  obtain ⟨b,h3,rfl⟩:=Option.map_eq_some_iff.1 hr
  rw[List.take_left' (by simpa using hl),List.drop_left' (by simpa using hl)] at h3
  have hfo:P.fieldsOf t=fs:=by simp[Program.fieldsOf,ht]
  have hrun: ∀w',(Op.equalIn 10000 t (.agg us) (.agg vs)).run P w'=.ok b w':=fun w'=>by
   rw[run_equalIn_struct w' 9999 t us vs (by rw[hfo];exact ht) hc.1,hfo]
   exact wN (O:=Own κ) fs.toList 0 9998 us vs ks _ _ b w' hk h3 (by simpa using h1) (by simpa using h2)
  have hg: ∀(op:BinOp) w',(eqGuard op t x y (.agg us) (.agg vs)).run P w'=.ok () w':=fun op w'=>run_eqGuard_agg w' op t x y us vs hc.2
  cases neg
  ·have ho':o.op=.binOp .eql t x y u:=by simpa using ho
   exact ⟨.bool b,fun w' _=>by simp only[execOp,ho',hu,hv,Sem.run_bind,hg,Result.andThen_ok,run_eql_struct,hrun,Sem.run_pure],fI cs.heap .bool⟩
  ·have ho':o.op=.binOp .neq t x y u:=by simpa using ho
   exact ⟨.bool (!b),fun w' _=>by simp only[execOp,ho',hu,hv,Sem.run_bind,hg,Result.andThen_ok,run_neq_struct,hrun,Sem.run_pure],fI cs.heap .bool⟩
theorem nr(R:Rel B env κ cs tm w)(ha: ∀t,t<cs.nt→a.tmps.getD t undef=tm (cs.fb+t)){o:Oper}{q:QR}(h:opA P o.op cs=some q):QOk P env κ cs.heap w a.eval o q:=by
 generalize hop:o.op=op at h
 cases op with
 | move x=>simp only[opA] at h;obtain ⟨sv,h1,rfl⟩:=Option.map_eq_some_iff.1 h;exact Q9 R ha (.inl hop) h1
 | assign x=>simp only[opA] at h;obtain ⟨sv,h1,rfl⟩:=Option.map_eq_some_iff.1 h;exact Q9 R ha (.inr hop) h1
 | binOp op t x y u =>
  simp only[opA] at h
  split at h
  ·cases h;exact U3 R ha hop (by assumption) (by assumption)
  ·split at h
   ·cases h;exact SP (neg:=false) R ha (by simpa using hop) (by assumption) (by assumption) (by assumption)
   ·cases h;exact SP (neg:=true) R ha (by simpa using hop) (by assumption) (by assumption) (by assumption)
   ·cases h
  ·obtain ⟨ks,h1,h2⟩:=Option.bind_eq_some_iff.1 h
   obtain ⟨as,h3,h4⟩:=Option.bind_eq_some_iff.1 h2
   obtain ⟨bs,h5,h6⟩:=Option.bind_eq_some_iff.1 h4
   split at h6
   ·rename_i hl
    split at h6
    ·cases h6;exact SQ (neg:=false) R ha (by simpa using hop) (by assumption) h1 (by assumption) (by assumption) h3 h5 hl.1
    ·cases h6;exact SQ (neg:=true) R ha (by simpa using hop) (by assumption) h1 (by assumption) (by assumption) h3 h5 hl.1
    ·cases h6
   ·cases h6
  ·cases h
 | makeInterface t x =>
  simp only[opA] at h
  split at h
  ·rename_i hc
   cases h
   exact ⟨.iface t (a.eval x),fun w' _=>by simp[execOp,hop,run_makeInterface w' t (a.eval x) hc],trivial⟩
  ·cases h
 | unOp op t x =>
  simp only[opA] at h
  split at h<;>cases h
  exact UQ R ha hop (by assumption)
 | convert s t x =>
  simp only[opA] at h
  split at h<;>cases h
  exact SX R ha hop (by assumption) (by assumption) (by assumption)
 | indexAddr t x i =>
  simp only[opA] at h
  split at h
  ·rename_i hx hi
   split at h
   ·rename_i ht
    split at h
    ·rename_i hc
     simp only[Bool.and_eq_true,decide_eq_true_eq] at hc
     obtain ⟨k1,k2,k3,k4⟩:=RF R ha hop ht hc.1 hc.2 hx hi
     split at h
     ·obtain ⟨la,h1,rfl⟩:=Option.map_eq_some_iff.1 h;exact k1 _ _ rfl h1
     ·cases h;exact k2 _ _ rfl
     ·cases h;exact k3 _ rfl
     ·cases h;exact k4 rfl
     ·cases h
    ·cases h
   ·rename_i ht
    split at h
    ·rename_i hc
     split at h
     ·split at h<;>cases h
      exact MQ R ha hop ht hc hx hi (by assumption)
     ·cases h
    ·cases h
   ·cases h
  ·cases h
 | fieldAddr t x f =>
  simp only[opA] at h
  split at h
  ·rename_i hx ht
   split at h
   ·rename_i fd hf
    split at h
    ·cases h
    ·rename_i hz
     split at h<;>cases h
     ·exact sV R ha hop ht hf hz hx (.inl ⟨_,_,rfl,rfl⟩)
     ·exact sV R ha hop ht hf hz hx (.inr (.inl ⟨_,_,_,rfl,rfl⟩))
     ·exact sV R ha hop ht hf hz hx (.inr (.inr ⟨_,_,_,_,_,rfl,rfl⟩))
   ·cases h
  ·cases h
 | load t x =>
  simp only[opA] at h
  split at h
  ·rename_i hx ht
   split at h
   ·rename_i hg
    obtain ⟨l,h1,rfl⟩:=Option.map_eq_some_iff.1 h
    have:=Qa R ha hop ht hx (l:=l) (by rw[if_pos hg];exact h1)
    rwa [if_pos hg] at this
   ·rename_i hg
    obtain ⟨l,h1,rfl⟩:=Option.map_eq_some_iff.1 h
    have:=Qa R ha hop ht hx (l:=l) (by rw[if_neg hg];exact h1)
    rwa [if_neg hg] at this
  ·cases h
 | field t x f =>
  simp only[opA] at h
  split at h
  ·rename_i hx ht
   split at h
   ·rename_i fd hf
    split at h
    ·rename_i hd
     obtain ⟨l,h1,rfl⟩:=Option.map_eq_some_iff.1 h
     obtain ⟨d,hd⟩:=Option.isSome_iff_exists.1 hd
     exact RG R ha hop ht hf hd hx h1
    ·cases h
   ·cases h
  ·cases h
 | index t x i =>
  simp only[opA] at h
  split at h
  ·rename_i hx hi ht
   split at h
   ·rename_i hc
    simp only[Bool.and_eq_true,decide_eq_true_eq,Bool.not_eq_true'] at hc
    obtain ⟨as,h1,rfl⟩:=Option.map_eq_some_iff.1 h
    obtain ⟨d,hd⟩:=Option.isSome_iff_exists.1 hc.1.2
    exact MS R ha hop ht hd hc.1.1.2 hc.1.1.1 hc.2 hx hi h1
   ·cases h
  ·cases h
 | extract x i =>
  simp only[opA] at h
  split at h
  ·obtain ⟨p,h1,rfl⟩:=Option.map_eq_some_iff.1 h
   exact P9 R ha hop (by assumption) h1
  ·cases h
 | nilCheck x =>
  simp only[opA] at h
  split at h<;>cases h
  ·exact qK R ha hop (by assumption) (.inl ⟨_,_,rfl⟩)
  ·exact qK R ha hop (by assumption) (.inr (.inl ⟨_,_,_,rfl⟩))
  ·exact qK R ha hop (by assumption) (.inr (.inr (.inl ⟨_,_,_,_,_,rfl⟩)))
  ·exact qK R ha hop (by assumption) (.inr (.inr (.inr ⟨_,_,rfl⟩)))
 | pick c x y =>
  simp only[opA] at h
  split at h
  ·split at h
   ·obtain ⟨sv,h1,rfl⟩:=Option.map_eq_some_iff.1 h;exact Ow (b:=true) R ha hop (by assumption) (by assumption) (by simpa using h1)
   ·obtain ⟨sv,h1,rfl⟩:=Option.map_eq_some_iff.1 h;exact Ow (b:=false) R ha hop (by assumption) (by assumption) (by simpa using h1)
   ·split at h<;>cases h
    exact SY R ha hop (by assumption) (by assumption) (by assumption)
  ·cases h
 | slice t x lo hi mx =>
  simp only[opA] at h
  split at h
  ·rename_i hx ht
   split at h
   ·rename_i he
    split at h
    ·split at h
     ·obtain ⟨la,h1,rfl⟩:=Option.map_eq_some_iff.1 h
      rename_i hi' hm
      obtain ⟨hi'',rfl,hi'⟩:=Option.map_eq_some_iff.1 hi'
      exact Qb R ha hop ht he hx h1 (by simpa using hi') hm
     ·cases h
    ·obtain ⟨la,h1,h2⟩:=Option.bind_eq_some_iff.1 h
     obtain ⟨k1,k2,k3⟩:=RI R ha hop ht he hx h1
     split at h2<;>cases h2
     ·rename_i hlo hhi
      obtain ⟨y,rfl,hlo⟩:=Option.map_eq_some_iff.1 hlo
      exact k1 y _ rfl (by simpa using hhi) (by simpa using hlo)
     ·rename_i hlo hhi
      obtain ⟨y,rfl,hhi⟩:=Option.map_eq_some_iff.1 hhi
      exact k2 y _ (by simpa using hlo) rfl (by simpa using hhi)
     ·rename_i hlo hhi
      obtain ⟨y,rfl,hlo⟩:=Option.map_eq_some_iff.1 hlo
      obtain ⟨z,rfl,hhi⟩:=Option.map_eq_some_iff.1 hhi
      exact k3 y z _ _ rfl rfl (by simpa using hlo) (by simpa using hhi)
   ·cases h
  ·cases h
 | makeFunc fn first caps =>
  cases fn with
  | func f =>
   simp only[opA] at h
   split at h
   ·obtain ⟨vs,h1,h2⟩:=Option.bind_eq_some_iff.1 h
    obtain ⟨cp,h3,rfl⟩:=Option.map_eq_some_iff.1 h2
    exact MT R ha hop (by assumption) h1 h3
   ·cases h
  | _=>simp[opA] at h
 | build t parts =>
  simp only[opA] at h
  obtain ⟨z,h1,h2⟩:=Option.bind_eq_some_iff.1 h
  obtain ⟨vs,h3,h4⟩:=Option.bind_eq_some_iff.1 h2
  split at h4
  ·obtain ⟨pl,h5,h6⟩:=Option.bind_eq_some_iff.1 h4
   obtain ⟨l,h7,rfl⟩:=Option.map_eq_some_iff.1 h6
   exact Oy R ha hop h1 h3 (.inl ⟨_,_,by assumption,h5,h7⟩)
  ·split at h4
   ·obtain ⟨l,h7,rfl⟩:=Option.map_eq_some_iff.1 h4
    exact Oy R ha hop h1 h3 (.inr ⟨_,_,by assumption,by assumption,h7⟩)
   ·cases h4
  ·cases h4
 | call c =>
  obtain ⟨callee,args,ts⟩:=c
  cases callee with
  | builtin b =>
   cases b<;>try (simp[opA] at h;done)
   ·simp only[opA] at h
    split at h
    ·rename_i x t he ht
     split at h
     ·rename_i hs
      obtain ⟨la,h1,rfl⟩:=Option.map_eq_some_iff.1 h
      simp only[fg,Option.isSome_iff_exists] at hs
      obtain ⟨e,hs⟩:=hs
      split at hs<;>cases hs
      rename_i hs
      have: ∃y,args.toList=[y]∧az cs y=some (.one x):=by
       match hl:args.toList,he with
       | [y],he =>
        simp only[cd] at he
        obtain ⟨v,h3,h4⟩:=Option.bind_eq_some_iff.1 he
        simp at h4;subst h4;exact ⟨y,rfl,h3⟩
       | [],he=>simp[cd] at he
       | y::z::r,he =>
        simp only[cd] at he
        obtain ⟨v,h3,h4⟩:=Option.bind_eq_some_iff.1 he
        obtain ⟨v2,h5,h6⟩:=Option.bind_eq_some_iff.1 h4
        obtain ⟨v3,h7,h8⟩:=Option.bind_eq_some_iff.1 h5
        obtain ⟨v4,h9,h10⟩:=Option.bind_eq_some_iff.1 h8
        cases h10;simp at h6
      obtain ⟨y,h3,h4⟩:=this
      exact U4 R ha hop h3 ht hs h4 h1
     ·cases h
    ·cases h
   all_goals
    simp only[opA] at h
    split at h<;>cases h
    rename_i p q he
    have: ∃x y,args.toList=[x,y]∧az cs x=some (.one (.at p))∧az cs y=some (.one (.at q)):=by
     match hl:args.toList,he with
     | [x,y],he =>
      simp only[cd] at he
      obtain ⟨v,h3,h4⟩:=Option.bind_eq_some_iff.1 he
      obtain ⟨v2,h5,h6⟩:=Option.bind_eq_some_iff.1 h4
      obtain ⟨v3,h7,h8⟩:=Option.bind_eq_some_iff.1 h5
      simp at h8;subst h8
      simp at h6;obtain ⟨rfl,rfl⟩:=h6
      exact ⟨x,y,rfl,h3,h7⟩
     | [],he=>simp[cd] at he
     | [x],he =>
      simp only[cd] at he
      obtain ⟨v,h3,h4⟩:=Option.bind_eq_some_iff.1 he
      simp at h4
     | x::y::z::r,he =>
      simp only[cd] at he
      obtain ⟨v,h3,h4⟩:=Option.bind_eq_some_iff.1 he
      obtain ⟨v2,h5,h6⟩:=Option.bind_eq_some_iff.1 h4
      obtain ⟨v3,h7,h8⟩:=Option.bind_eq_some_iff.1 h5
      obtain ⟨v4,h9,h10⟩:=Option.bind_eq_some_iff.1 h8
      obtain ⟨v5,h11,h12⟩:=Option.bind_eq_some_iff.1 h9
      obtain ⟨v6,h13,h14⟩:=Option.bind_eq_some_iff.1 h12
      cases h14;cases h10;simp at h6
    obtain ⟨x,y,h3,h4,h5⟩:=this
    first
     | exact K8 (mn:=false) R ha (by simpa using hop) h3 h4 h5
     | exact K8 (mn:=true) R ha (by simpa using hop) h3 h4 h5
  | _=>simp[opA] at h
 | _=>simp[opA] at h
end
end Go.Xt
