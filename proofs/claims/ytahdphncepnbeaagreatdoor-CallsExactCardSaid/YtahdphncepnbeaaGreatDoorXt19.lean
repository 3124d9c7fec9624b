/- Steps towards the statements of this seat; the conditions stand in each theorem. -/
import Derived.ProofKit
import Derived.OpenShut
import Derived.SizedLaws
import Derived.Test.YtahdphncepnbeaaGreatDoorXt18
set_option linter.unusedSimpArgs false
set_option linter.unusedVariables false
namespace Go.Xt
open Go.RowKit
inductive Ty where
 | int (k:IntKind)
 | bool
 | str
 | list (b:Nat) (ts:List Ty)
 deriving Inhabited
inductive Has:Ty→PV→Prop where
 | int {k n} (h:inr k n):Has (.int k) (.int k n)
 | bool {b}:Has .bool (.bool b)
 | str {s}:Has .str (.str s)
 | list {b:Nat} {ts:List Ty} {xs:List (List PV)} (hb:xs.length*b≤140737488355328) (hm:xs.length≤2 ^ 63-1) (hl: ∀i,i<xs.length→(xs.getD i []).length=ts.length)
   (h: ∀i j,i<xs.length→j<ts.length→Has (ts.getD j .bool) (look (xs.getD i []) j)):Has (.list b ts) (.list xs)
def tk(P:Program)(g:TypeId→Option (List Ty)):List Field→Nat→Option (List Ty)
 | [],_=>some []
 | f::fs,off=>if f.offset=off then (g f.type).bind fun ts=>if ts.length=P.cellsOf f.type then (tk P g fs (off+ts.length)).map (ts++ ·) else none else none
def kD(P:Program):Nat→TypeId→Option (List Ty)
 | 0,_=>none
 | n+1,t =>
  match P.underlying t with
  | some (.int k)=>some [.int k]
  | some .bool=>some [.bool]
  | some .string=>some [.str]
  | some (.slice e)=>(kD P n e).bind fun ts=>if ts.length=P.cellsOf e then some [.list (P.bytesOf e) ts] else none
  | some (.struct fs)=>(tk P (kD P n) fs.toList 0).bind fun ts=>if ts.length=P.cellsOf t then some ts else none
  | some (.array m e)=>(kD P n e).bind fun ts=>if ts.length=P.cellsOf e∧m*ts.length=P.cellsOf t then some (List.replicate m ts).flatten else none
  | _=>none
def Bn(P:Program):List TypeId→Option (List Ty)
 | []=>some []
 | t::ts=>(kD P 16 t).bind fun l=>(Bn P ts).map (l++ ·)
section
variable {P:Program}{w:World}{H:Type}{enc:TypeId×Value→H}{sp:Nat→Bool}{held:Bool}
theorem tp{α:Type}{Q:Nat→α→Prop}(d:α): ∀n:Nat,(∀i,i<n→ ∃x,Q i x)→ ∃l:List α,l.length=n∧ ∀i,i<n→Q i (l.getD i d)
 | 0,_=>⟨[],rfl,fun i hi=>absurd hi (by omega)⟩
 | n+1,h=>by
  obtain ⟨l,h1,h2⟩:=tp d n fun i hi=>h i (by omega)
  obtain ⟨x,hx⟩:=h n (by omega)
  refine ⟨l++[x],by simp[h1],fun i hi=>?_⟩
  by_cases e:i=n
  ·subst e
   have:(l++[x]).getD i d=x:=by rw[List.getD_eq_getElem?_getD,←h1];simp
   rw[this];exact hx
  ·have:(l++[x]).getD i d=l.getD i d:=by
    rw[List.getD_eq_getElem?_getD,List.getD_eq_getElem?_getD,List.getElem?_append_left (by omega)]
   rw[this];exact h2 i (by omega)
theorem aw.look{α:Type}{R:α→PV→Prop}{d:α}: ∀ {as:List α} {ps:List PV},aw R as ps→ ∀j,j<as.length→R (as.getD j d) (look ps j)
 | _::_,_::_,h,0,_=>h.1
 | _::_,_::_,h,j+1,hj=>by simpa[Go.Xt.look] using aw.look (d:=d) h.2 j (by simpa using hj)
 | [],_,_,j,hj=>absurd hj (by simp)
 | _::_,[],h,_,_=>h.elim
theorem zk(cs:List Value)(g:TypeId→Option (List Ty)): ∀(fs:List Field) (off:Nat) (ts:List Ty),tk P g fs off=some ts→off+ts.length≤cs.length →
  (∀f∈fs,∀l,g f.type=some l→ ∃ps,aw Has l ps∧aw (RP w fun _=>False) ps ((cs.drop f.offset).take (P.cellsOf f.type))) →
  ∃ps,aw Has ts ps∧aw (RP w fun _=>False) ps ((cs.drop off).take ts.length)
 | [],off,ts,h,_,_=>by
  simp only[tk] at h;cases h
  exact ⟨[],trivial,by simp[aw]⟩
 | f::fs,off,ts,h,hl,hf=>by
  simp only[tk] at h
  split at h
  ·rename_i ho
   obtain ⟨l,h1,h2⟩:=Option.bind_eq_some_iff.1 h
   split at h2
   ·rename_i hc
    obtain ⟨ts',h3,rfl⟩:=Option.map_eq_some_iff.1 h2
    simp only[List.length_append] at hl
    obtain ⟨ps,p1,p2⟩:=hf f (by simp) l h1
    obtain ⟨qs,q1,q2⟩:=zk cs g fs (off+l.length) ts' h3 (by omega) fun f hf'=>hf f (by simp[hf'])
    refine ⟨ps++qs,p1.append q1,?_⟩
    rw[ho,←hc] at p2
    have:(cs.drop off).take (l++ts').length=(cs.drop off).take l.length++(cs.drop (off+l.length)).take ts'.length:=by
     rw[List.length_append,List.take_add,List.drop_drop]
    rw[this]
    exact p2.append q2
   ·cases h2
  ·cases h
theorem Ku(cs:List Value)(c:Nat)(ts:List Ty)(hc:ts.length=c): ∀(m k:Nat),(k+m)*c≤cs.length→(∀i,i<m→ ∃ps,aw Has ts ps∧aw (RP w fun _=>False) ps ((cs.drop ((k+i)*c)).take c)) →
  ∃ps,aw Has (List.replicate m ts).flatten ps∧aw (RP w fun _=>False) ps ((cs.drop (k*c)).take (m*c))
 | 0,k,_,_=>⟨[],trivial,by simp[aw]⟩
 | m+1,k,hl,h=>by
  obtain ⟨ps,p1,p2⟩:=h 0 (by omega)
  obtain ⟨qs,q1,q2⟩:=Ku cs c ts hc m (k+1) (by rw[show k+1+m=k+(m+1) by omega];exact hl) fun i hi=>by
   have:=h (i+1) (by omega)
   rwa [show k+1+i=k+(i+1) by omega]
  refine ⟨ps++qs,by simpa[List.replicate_succ] using p1.append q1,?_⟩
  have:(cs.drop (k*c)).take ((m+1)*c)=(cs.drop (k*c)).take c++(cs.drop ((k+1)*c)).take (m*c):=by
   rw[show (m+1)*c=c+m*c by rw[Nat.succ_mul];omega,List.take_add,List.drop_drop,show k*c+c=(k+1)*c by rw[Nat.succ_mul]]
  rw[this]
  exact p2.append q2
theorem G6{a:Addr}{n:Nat}{l:List Value}(h:w.cells? 0 a n=some l):l.length=n∧ ∀(j:Nat) (u:Value),l[j]? =some u→w.cell? (a.add j)=some u:=by
 unfold World.cells? at h
 rw[if_pos (Nat.zero_le _)] at h
 have h1:=mapM_some_length h
 have h2:=mapM_some_get h
 simp only[List.length_range] at h1
 refine ⟨h1,fun j u hu=>?_⟩
 have hj:=(List.getElem?_eq_some_iff.1 hu).1
 have:=h2 j j (by rw[List.getElem?_range (by omega)])
 rw[this,hu]
theorem Bo{e:TypeId}: ∀ {l:List (DataW H)} {d:DataW H},d∈l→ ∀k∈d.weights P e,k∈DataW.weightsAll P e l
 | x::l,d,h,k,hk=>by
  simp only[DataW.weightsAll,List.mem_append]
  rcases List.mem_cons.1 h with rfl | h
  ·exact .inl hk
  ·exact .inr (Bo h k hk)
theorem read: ∀(fuel:Nat) {n:Nat} {t:TypeId} {cs:List Value} {x:DataW H×List MemPlace} {ts:List Ty},DataW.trod enc P w 0 sp held fuel t cs=some x→kD P n t=some ts→(∀k∈x.1.weights P t,k≤reachBytes) →
  ∃ps,aw Has ts ps∧aw (RP w fun _=>False) ps cs
 | 0,_,_,_,_,_,h,_,_=>by simp[DataW.trod] at h
 | fuel+1,0,_,_,_,_,_,h,_=>by simp[kD] at h
 | fuel+1,n+1,t,cs,x,ts,h,ht,hwt=>by
  have h0:=h
  unfold DataW.trod at h
  simp only[kD] at ht
  split at ht
  ·rename_i k hu
   cases ht
   rw[hu] at h
   split at h<;>simp_all
   obtain ⟨⟨rfl,hw⟩,_⟩:=h
   simp only[Lit.wf,Bool.and_eq_true,decide_eq_true_eq] at hw
   exact ⟨[.int _ _],⟨.int hw,trivial⟩,⟨.int hw,trivial⟩⟩
  ·rename_i hu
   cases ht
   rw[hu] at h
   split at h<;>simp_all
   rename_i b
   exact ⟨[.bool b],⟨.bool,trivial⟩,⟨.bool,trivial⟩⟩
  ·rename_i hu
   cases ht
   rw[hu] at h
   split at h<;>simp_all
   rename_i s
   exact ⟨[.str s],⟨.str,trivial⟩,⟨.str,trivial⟩⟩
  ·rename_i e hu
   obtain ⟨tys,h1,h2⟩:=Option.bind_eq_some_iff.1 ht
   split at h2
   ·rename_i hlen
    cases h2
    rw[hu] at h
    split at h<;>simp only[Option.some.injEq,reduceCtorEq,TypeDesc.slice.injEq] at *
    ·exact ⟨[.list []],⟨.list (by simp) (by simp) (fun i hi=>absurd hi (by simp)) (fun i j hi=>absurd hi (by simp)),trivial⟩,⟨RP.nil,trivial⟩⟩
    ·rename_i e' a len cap he
     subst he
     split at h
     ·rename_i hc
      obtain ⟨_,hc1,hc2⟩:=hc
      obtain ⟨elems,h3,h4⟩:=Option.bind_eq_some_iff.1 h
      obtain ⟨rest,_,rfl⟩:=Option.map_eq_some_iff.1 h4
      simp only[DataW.weights,hu,List.mem_cons,List.mem_append,List.length_map] at hwt
      have hlen':elems.length=len:=by have:=mapM_some_length h3;simpa using this
      have hbytes:len*P.bytesOf e≤reachBytes:=by
       have h9:=hwt _ (.inl rfl)
       rw[hlen',Nat.add_mul] at h9
       exact Nat.le_trans (Nat.le_add_right _ _) h9
      have hreach:reachBytes≤140737488355328:=by decide
      have hrow: ∀i,i<len→ ∃ps:List PV,aw Has tys ps∧ ∃l:List Value,w.cells? 0 (a.add (i*P.cellsOf e)) (P.cellsOf e)=some l∧aw (RP w fun _=>False) ps l:=by
       intro i hi
       have:=mapM_some_get h3 i i (by rw[List.getElem?_range hi])
       have hl:=mapM_some_length h3
       simp only[List.length_range] at hl
       rw[List.getElem?_eq_getElem (by omega)] at this
       obtain ⟨l,h5,h6⟩:=Option.bind_eq_some_iff.1 this
       obtain ⟨ps,h7,h8⟩:=read fuel h6 h1 (fun k hk=>hwt k (.inr (.inl (Bo (List.mem_map.2 ⟨elems[i],List.getElem_mem _,rfl⟩) k hk))))
       exact ⟨ps,h7,l,h5,h8⟩
      obtain ⟨xs,h5,h6⟩:=tp [] len hrow
      refine ⟨[.list xs],⟨.list (by rw[h5];omega) (by simp only[maxLen] at hc2;omega) (fun i hi=>?_) (fun i j hi hj=>?_),trivial⟩,⟨?_,trivial⟩⟩
      ·exact (h6 i (by omega)).1.length.symm
      ·exact (h6 i (by omega)).1.look j hj
      ·refine .list (es:=P.cellsOf e) (fun i j=>(w.cell? (a.add (i*P.cellsOf e+j))).getD undef) a h5 hc1 (by simp only[maxLen] at hc2;omega) (fun i hi=>?_) (fun _=>rfl) (fun _ _ h=>h.elim) (fun i j hi hj=>?_) (fun i j hi hj=>?_)
       ·rw[←hlen];exact (h6 i hi).1.length.symm
       ·obtain ⟨_,l,h7,h8⟩:=h6 i hi
        obtain ⟨h9,h10⟩:=G6 h7
        obtain ⟨u,hu⟩: ∃u,l[j]? =some u:=⟨l[j]'(by omega),by rw[List.getElem?_eq_getElem (by omega)]⟩
        have:=h10 j u hu
        rw[wH] at this
        rw[this];rfl
       ·obtain ⟨_,l,h7,h8⟩:=h6 i hi
        obtain ⟨h9,h10⟩:=G6 h7
        obtain ⟨u,hu⟩: ∃u,l[j]? =some u:=⟨l[j]'(by omega),by rw[List.getElem?_eq_getElem (by omega)]⟩
        have:=h10 j u hu
        rw[wH] at this
        rw[this]
        exact jH h8 j u hu
     ·cases h
   ·cases h2
  ·rename_i fs hu
   obtain ⟨tys,h1,h2⟩:=Option.bind_eq_some_iff.1 ht
   split at h2
   ·rename_i hlen
    cases h2
    obtain ⟨xs,m,hm,hx,hl,hxl,hf2⟩:=DataW.trod_struct hu h0
    obtain rfl:fuel=m:=by omega
    ·have:=zk (w:=w) cs (kD P n) fs.toList 0 ts h1 (by omega) (fun f hf l hl'=>by
      obtain ⟨i,hi⟩:=List.mem_iff_getElem?.1 hf
      have h5:=hf2 i f (by simpa using hi)
      have hil:=(List.getElem?_eq_some_iff.1 hi).1
      simp only[Array.length_toList] at hil
      rw[List.getElem?_eq_getElem (by omega)] at h5
      exact read fuel h5 hl' (fun k hk=>by
       simp only[hx,DataW.weights,hu] at hwt
       exact hwt k (DataW.weights_mem_each (j:=i) (t:=f.type) (d:=xs[i].1) (by simp[hi]) (by rw[List.getElem?_map,List.getElem?_eq_getElem (by omega)];rfl) k hk)))
     obtain ⟨ps,p1,p2⟩:=this
     refine ⟨ps,p1,?_⟩
     rw[hlen,←hl,List.drop_zero,List.take_of_length_le (Nat.le_refl _)] at p2
     exact p2
   ·cases h2
  ·rename_i m e hu
   obtain ⟨tys,h1,h2⟩:=Option.bind_eq_some_iff.1 ht
   split at h2
   ·rename_i hlen
    cases h2
    obtain ⟨xs,m',hm,hx,hl,hxl,hf2⟩:=DataW.trod_array hu h0
    obtain rfl:fuel=m':=by omega
    ·have:=Ku (w:=w) cs (P.cellsOf e) tys hlen.1 m 0 (by rw[Nat.zero_add,←hlen.1,hlen.2,hl];exact Nat.le_refl _) (fun i hi=>by
      have h5:=hf2 i hi
      rw[List.getElem?_eq_getElem (by omega)] at h5
      rw[Nat.zero_add]
      exact read fuel h5 h1 (fun k hk=>by
       simp only[hx,DataW.weights,hu] at hwt
       exact hwt k (Bo (List.mem_map.2 ⟨xs[i],List.getElem_mem _,rfl⟩) k hk)))
     obtain ⟨ps,p1,p2⟩:=this
     refine ⟨ps,p1,?_⟩
     rw[Nat.zero_mul,List.drop_zero,←hlen.1,hlen.2,←hl,List.take_of_length_le (Nat.le_refl _)] at p2
     exact p2
   ·cases h2
  ·cases ht
end
end Go.Xt
