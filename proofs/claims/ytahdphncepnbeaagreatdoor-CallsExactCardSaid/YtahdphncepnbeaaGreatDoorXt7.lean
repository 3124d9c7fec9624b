/- Steps towards the statements of this seat; the conditions stand in each theorem. -/
import Derived.Laws.Append
import Derived.Laws.CopyRow
import Derived.Laws.MakeOwn
import Derived.Test.YtahdphncepnbeaaGreatDoorXt6
set_option linter.unusedSimpArgs false
set_option linter.unusedVariables false
namespace Go.Xt
open Go.RowKit
section
variable {P:Program}{B:Bas P}{env env':List PV}{κ κ':Kap}{cs:CS}{tm:Nat→Value}{w w':World}{a:Act}
theorem Pa(cs:CS)(b:Nat)(blk:Blk):(cs.newB b blk).heap=(b,blk.map (C.drop b))::(cs.dropB b).heap:=rfl
theorem MU(cs:CS)(b:Nat)(blk:Blk):(cs.newB b blk).slots=(cs.dropB b).slots:=rfl
theorem fj(cs:CS)(b b':Nat)(blk:Blk):av (cs.newB b blk).heap b'=if b'=b then some (blk.map (C.drop b)) else (av cs.heap b').map (Blk.map (C.drop b)):=by
 rw[Pa]
 simp only[av]
 by_cases e:b=b'
 ·subst e;simp
 ·rw[if_neg e,if_neg (Ne.symm e)]
  simp only[CS.dropB]
  rw[gF,if_neg (Ne.symm e),CS.map_heap]
theorem Foc.replace(R:Rel B env κ cs tm w)(b:Nat)(blk:Blk)(x:Option Nat)(henv: ∃l,env'=env++l)(hx: ∀g,x=some g→κ b=some g∨w.heap.size≤g)
  (hw: ∀g,g<w.heap.size→κ b≠some g→w'.heap[g]? =w.heap[g]?) (hs:w.heap.size≤w'.heap.size):Foc env env' κ (upd κ b x) cs.heap (cs.newB b blk).heap w w' (some b) where
 pre:=henv
 kap:=fun b' h=>by have e:b'≠b:=fun e=>h (congrArg some e);simp[upd,e]
 oth:=rfl
 arr:=fun b' es a h1 h2=>by
  have e:b'≠b:=fun e=>h1 (congrArg some e)
  rw[fj,if_neg e,h2];rfl
 box:=fun b' l h1 h2=>by
  have e:b'≠b:=fun e=>h1 (congrArg some e)
  exact ⟨l.map (C.drop b),by rw[fj,if_neg e,h2];rfl⟩
 blk:=fun g hg h=>hw g hg (h b rfl)
 new:=fun b0 g h h1=>by cases h;simp[upd] at h1;exact hx g h1
 inj:=R.hinj
 siz:=hs
theorem aR.replace{b:Nat}{H':List (Nat×Blk)}(F:Foc env env' κ κ' cs.heap H' w w' (some b)){c:C}{v:Value}(h:aR env κ cs.heap w c v):aR env' κ' H' w' (c.drop b) v:=by
 rcases C.drop_names (b:=b) (c:=c) with e | ⟨e,hn⟩
 ·rw[e];trivial
 ·rw[e];exact h.foc F fun b' hb' hh=>hn b' hb' (Option.some.inj hh)
theorem Rel.replace(R:Rel B env κ cs tm w)(b:Nat)(blk:Blk)(x:Option Nat)(l:List PV)(hx: ∀g,x=some g→(κ b=some g∨w.heap.size≤g)∧g<w'.heap.size)
  (hw: ∀g,g<w.heap.size→κ b≠some g→w'.heap[g]? =w.heap[g]?) (hs:w.heap.size≤w'.heap.size)
  (hb:lj (env++l) (upd κ b x) (cs.newB b blk).heap w' b (blk.map (C.drop b))) :
  Rel B (env++l) (upd κ b x) { (cs.newB b blk) with d:=cs.d+l.length } tm w':=by
 have F:=Foc.replace (env':=env++l) (w':=w') R b blk x ⟨l,rfl⟩ (fun g h=>(hx g h).1) hw hs
 refine R.foc (φ:=C.drop b) F (fun c v h=>h.replace F) (fun b' blk' hne h=>?_) (fun b0 blk' h h1=>?_) (fun t sv h=>?_) (fun b0 g h h1=>?_) (by simp[R.henv]) rfl rfl rfl (Nat.le_refl _)
 ·have e:b'≠b:=fun e=>hne (congrArg some e)
  rw[fj,if_neg e] at h
  obtain ⟨blk0,h1,rfl⟩:=Option.map_eq_some_iff.1 h
  exact ⟨blk0,h1,rfl⟩
 ·cases h
  rw[fj,if_pos rfl] at h1
  cases h1;exact hb
 ·rw[show ({ (cs.newB b blk) with d:=cs.d+l.length }:CS).slots=(cs.dropB b).slots from rfl] at h
  simp only[CS.dropB] at h
  rw[CS.map_slots] at h
  obtain ⟨sv0,h1,rfl⟩:=Option.map_eq_some_iff.1 h
  exact ⟨sv0,h1,rfl⟩
 ·cases h
  simp[upd] at h1
  obtain ⟨h2,h3⟩:=hx g h1
  refine ⟨by rw[fj,if_pos rfl];rfl,?_,h3⟩
  rcases h2 with h2 | h2
  ·exact (R.hκ _ _ h2).2.1
  ·exact Nat.le_trans R.hB h2
theorem Rel.newBox(R:Rel B env κ cs tm w)(b:Nat)(l:List C)(cells:Array Value)(T:TypeId)(h:aw (aR env κ cs.heap w) l cells.toList) :
  Rel B env (upd κ b (some w.heap.size)) (cs.newB b (.box l)) tm (w.alloc (.cells cells T (0,0))) ∧
  aR env (upd κ b (some w.heap.size)) (cs.newB b (.box l)).heap (w.alloc (.cells cells T (0,0))) (.ptr b 0) (.pointer (some ⟨w.heap.size,0,none⟩)):=by
 have hw: ∀g,g<w.heap.size→κ b≠some g→(w.alloc (.cells cells T (0,0))).heap[g]? =w.heap[g]? :=fun g hg _=>Below.heap_alloc _ _ _ hg
 have hs:w.heap.size≤(w.alloc (.cells cells T (0,0))).heap.size:=by simp
 have F:=Foc.replace (env':=env) (w':=w.alloc (.cells cells T (0,0))) R b (.box l) (some w.heap.size) ⟨[],by simp⟩ (fun g h=>by cases h;exact .inr (Nat.le_refl _)) hw hs
 have hg:(w.alloc (.cells cells T (0,0))).heap[w.heap.size]? =some (.cells cells T (0,0)):=by show (w.heap.push _)[w.heap.size]? =_;simp
 have:=R.replace (w':=w.alloc (.cells cells T (0,0))) b (.box l) (some w.heap.size) [] (fun g h=>by cases h;exact ⟨.inr (Nat.le_refl _),by simp⟩) hw hs (by
  rw[List.append_nil]
  exact ⟨w.heap.size,cells,T,by simp[upd],hg,h.map (C.drop b) fun c v hc=>hc.replace F⟩)
 rw[List.append_nil] at this
 refine ⟨this,l.map (C.drop b),w.heap.size,by rw[fj,if_pos rfl];rfl,by simp[upd],rfl⟩
theorem Rel.newArr(R:Rel B env κ cs tm w)(b es:Nat)(xs:List (List PV))(g c:Nat)(cells:Array Value)(T:TypeId)(hes:0<es)(hlen:xs.length≤2 ^ 63-1)
  (hrow: ∀i,i<xs.length→(xs.getD i []).length=es) (hx:κ b=some g∨w.heap.size≤g) (hg:w'.heap[g]? =some (.cells cells T (0,0))) (hsz:cells.size=c*es) (hc:xs.length≤c)
  (hcell: ∀i j,i<xs.length→j<es→ ∃u,cells[i*es+j]? =some u∧RP w (Own κ) (look (xs.getD i []) j) u)
  (hw: ∀g,g<w.heap.size→κ b≠some g→w'.heap[g]? =w.heap[g]?) (hs:w.heap.size≤w'.heap.size) :
  Rel B (env++[.list xs]) (upd κ b (some g)) { (cs.newB b (.arr es (.v cs.d))) with d:=cs.d+1 } tm w' ∧
  aR (env++[.list xs]) (upd κ b (some g)) (cs.newB b (.arr es (.v cs.d))).heap w' (.own b) (.slice (some ⟨g,0,none⟩) xs.length c):=by
 have F:=Foc.replace (env':=env++[.list xs]) (w':=w') R b (.arr es (.v cs.d)) (some g) ⟨_,rfl⟩ (fun g' h=>by cases h;exact hx) hw hs
 have hd:den (env++[.list xs]) (.v cs.d)=.list xs:=by rw[←R.henv];simp[den,ii]
 have hlt:Atom.lt (env++[PV.list xs]).length (.v cs.d)=true:=by simp[Atom.lt,R.henv]
 have:=R.replace (w':=w') b (.arr es (.v cs.d)) (some g) [.list xs] (fun g' h=>by cases h;exact ⟨hx,GK hg⟩) hw hs
  ⟨hlt,hes,xs,hd,hlen,hrow,.inr ⟨g,cells,T,c,by simp[upd],hg,hsz,hc,fun i j hi hj=>by
   obtain ⟨u,h1,h2⟩:=hcell i j hi hj
   exact ⟨u,h1,h2.mono F.own⟩⟩⟩
 refine ⟨this,es,.v cs.d,xs,by rw[fj,if_pos rfl];rfl,hlt,hd,.inr ⟨g,c,cells,T,by simp[upd],rfl,hc,hg,hsz⟩⟩
theorem Rel.newNil(R:Rel B env κ cs tm w)(b es:Nat)(hes:0<es)(A:Option Addr) :
  Rel B (env++[.list []]) (upd κ b none) { (cs.newB b (.arr es (.v cs.d))) with d:=cs.d+1 } tm w ∧
  aR (env++[.list []]) (upd κ b none) (cs.newB b (.arr es (.v cs.d))).heap w (.own b) (.slice A 0 0):=by
 have hd:den (env++[.list []]) (.v cs.d)=.list []:=by rw[←R.henv];simp[den,ii]
 have hlt:Atom.lt (env++[PV.list []]).length (.v cs.d)=true:=by simp[Atom.lt,R.henv]
 have:=R.replace (w':=w) b (.arr es (.v cs.d)) none [.list []] (fun g' h=>by cases h) (fun _ _ _=>rfl) (Nat.le_refl _)
  ⟨hlt,hes,[],hd,by simp,fun i hi=>by simp at hi,.inl ⟨by simp[upd],rfl⟩⟩
 refine ⟨this,es,.v cs.d,[],by rw[fj,if_pos rfl];rfl,hlt,hd,.inl ⟨by simp[upd],rfl,A,rfl⟩⟩
theorem AZ{O O':Nat→Prop}{xs:List (List PV)}{A:Option Addr}{n c es:Nat}(h:RL w O O' (.list xs) (.slice A n c))(he:qF es xs=true)(hes:0<es) :
  ∃us:List Value,us.length=n*es∧(0<n→ ∃ad,A=some ad∧ ∀(j:Nat) (u:Value),us[j]? =some u→w.cell? (ad.add j)=some u)∧xs.length=n∧n≤c∧(∀i,i<n→(xs.getD i []).length=es) ∧
   ∀i j,i<n→j<es→ ∃u,us[i*es+j]? =some u∧RP w O (look (xs.getD i []) j) u:=by
 obtain ⟨xs',A',n',c',es',f,ad,hp,hv,hn,hc,hm,hrow,hA,hO,hcell,hsub⟩:=h
 cases hp;cases hv
 by_cases hp:0<n
 ·have e:es'=es:=AU he hn hp hrow
  subst e
  have idx: ∀j,j<n*es'→j / es'<n∧j % es'<es'∧j / es'*es'+j % es'=j:=fun j hj =>
   ⟨Nat.div_lt_of_lt_mul (by rwa [Nat.mul_comm] at hj),Nat.mod_lt _ hes,by rw[Nat.mul_comm];exact Nat.div_add_mod j es'⟩
  refine ⟨(List.range (n*es')).map fun j=>f (j / es') (j % es'),by simp,fun _=>⟨ad,hA hp,fun j u hu=>?_⟩,hn,hc,hrow,fun i j hi hj=>?_⟩
  ·obtain ⟨h1,rfl⟩:=yn hu
   obtain ⟨h2,h3,h4⟩:=idx j h1
   have:=hcell _ _ h2 h3
   rwa [h4] at this
  ·have hlt:i*es'+j<n*es':=by
    have:i*es'+es'≤n*es':=by rw[←Nat.succ_mul];exact Nat.mul_le_mul_right _ hi
    omega
   refine ⟨f i j,?_,hsub i j hi hj⟩
   rw[List.getElem?_map,List.getElem?_range hlt]
   simp only[Option.map_some,Option.some.injEq]
   rw[Nat.mul_comm,Nat.mul_add_div hes,Nat.div_eq_of_lt hj,Nat.mul_add_mod,Nat.mod_eq_of_lt hj];simp
 ·have h0:n=0:=by omega
  subst h0
  exact ⟨[],by simp,fun h=>absurd h (by omega),hn,by omega,fun i hi=>absurd hi (by omega),fun i j hi=>absurd hi (by omega)⟩
theorem vJ(w:World)(o:Obj):(w.alloc o).heap[w.heap.size]? =some o:=by show (w.heap.push _)[w.heap.size]? =_;simp
section appends
variable {t u ty e e':TypeId}{i:TypeInfo}{z:Value}
theorem uD{A:Option Addr}{n c size:Nat}{us:List Value}(w:World)(hl:us.length=n*size)(h:0<n→ ∃ad,A=some ad∧ ∀(j:Nat) (u:Value),us[j]? =some u→w.cell? (ad.add j)=some u) :
  (Builtin.firstCells size n (.slice A n c)).run P w=.ok us.toArray w:=by
 cases A with
 | none =>
  have h0:n=0:=by
   rcases Nat.eq_zero_or_pos n with h0 | h0
   ·exact h0
   ·obtain ⟨ad,h1,_⟩:=h h0;cases h1
  subst h0
  have:us=[]:=List.eq_nil_of_length_eq_zero (by simpa using hl)
  subst this
  exact run_firstCells_none _ _ _ _ _
 | some ad =>
  refine run_firstCells_some w size n ad n c us hl fun j v hv=>?_
  have hp:0<n:=by
   rcases Nat.eq_zero_or_pos n with h0 | h0
   ·subst h0
    have:us=[]:=List.eq_nil_of_length_eq_zero (by simpa using hl)
    subst this;simp at hv
   ·exact h0
  obtain ⟨ad',h1,h2⟩:=h hp
  cases h1;exact h2 j v hv
theorem GL(w:World)(ht:P.underlying t=some (.slice e))(hu:P.underlying u=some (.slice e'))(hi:P.info? e=some i)(hz:i.zero=some z)
  (A:Option Addr) (sLen sCap:Nat) (olds:List Value) (hlo:olds.length=sLen*i.size) (ho:0<sLen→ ∃ad,A=some ad∧ ∀(j:Nat) (u:Value),olds[j]? =some u→w.cell? (ad.add j)=some u)
  (A':Option Addr) (n c:Nat) (news:List Value) (hl:news.length=n*i.size) (hn:0<n→ ∃ad,A'=some ad∧ ∀(j:Nat) (u:Value),news[j]? =some u→w.cell? (ad.add j)=some u)
  (hg:sCap<sLen+n) (hb:0<i.bytes) (hroom:(sLen+n)*i.bytes≤140737488355328) :
  (Builtin.append_ #[t,u] ty #[.slice A sLen sCap,.slice A' n c]).run P w =
   .ok (.slice (some ⟨w.heap.size,0,none⟩) (sLen+n) (grownCap w (sLen+n) sCap e))
    (w.drew.alloc (.cells (olds++news++(Builtin.zeroCells z.cells (grownCap w (sLen+n) sCap e-(sLen+n))).toList).toArray e)):=by
 have h1: ¬(sLen+n≤sCap):=by omega
 have h63:sLen+n≤140737488355328:=Nat.le_trans (Nat.le_mul_of_pos_right _ hb) hroom
 have h63': ¬(9223372036854775807<((sLen:Int)+(n:Int))):=by omega
 have h48: ¬(281474976710656<Builtin.nextslicecap (sLen+n) sCap*i.bytes):=by have:=growslice_fits hg hroom;omega
 have hf:=uD (P:=P) (c:=c) w.drew hl (by simpa using hn)
 have hfo:=uD (P:=P) (c:=sCap) w.drew hlo (by simpa using ho)
 simp[Builtin.append_,run_underlying ht,run_underlying hu,sizeOf,typeInfo,zeroValue,hi,hz,Builtin.lenOf,h1,h63',h48,Question.forced,hf,hfo,newRow,grownCap]
 congr 2
 apply Array.ext'
 simp
theorem GM(w:World)(ht:P.underlying t=some (.slice e))(hu:P.underlying u=some (.slice e'))(hi:P.info? e=some i)
  (g sLen sCap:Nat) (cur:Array Value) (T:TypeId) (hg:w.heap[g]? =some (.cells cur T (0,0))) (hsz:cur.size=sCap*i.size)
  (A':Option Addr) (n c:Nat) (news:List Value) (hl:news.length=n*i.size) (hn:0<n→ ∃ad,A'=some ad∧ ∀(j:Nat) (u:Value),news[j]? =some u→w.cell? (ad.add j)=some u)
  (h1: ∀v∈news,v.oneCell'=true) (hfit:sLen+n≤sCap) :
  (Builtin.append_ #[t,u] ty #[.slice (some ⟨g,0,none⟩) sLen sCap,.slice A' n c]).run P w =
   .ok (.slice (some ⟨g,0,none⟩) (sLen+n) sCap) (w.setRow g (cur.toList.take (sLen*i.size)++news++cur.toList.drop (sLen*i.size+news.length)).toArray):=by
 have hf:=uD (P:=P) (c:=c) w hl hn
 have hle:sLen*i.size+news.length≤cur.size:=by
  rw[hl,hsz,←Nat.add_mul];exact Nat.mul_le_mul_right _ hfit
 have hs:=run_storeCells_at (P:=P) g (sLen*i.size) T news 0 cur w hg (by simpa using hle) h1
 simp only[Nat.add_zero] at hs
 have ha:(⟨g,0,none⟩:Addr).add (sLen*i.size)=⟨g,sLen*i.size,none⟩:=by rw[kx];simp
 simp[Builtin.append_,run_underlying ht,run_underlying hu,sizeOf,typeInfo,hi,Builtin.lenOf,hfit,hf,ha,hs]
theorem GN(w:World)(ht:P.underlying t=some (.slice e))(hu:P.underlying u=some (.slice e'))(hi:P.info? e=some i)(A A':Option Addr)(c:Nat) :
  (Builtin.append_ #[t,u] ty #[.slice A 0 0,.slice A' 0 c]).run P w=.ok (.slice A 0 0) w:=by
 have hf:=uD (P:=P) (A:=A') (n:=0) (c:=c) (size:=i.size) (us:=[]) w (by simp) (fun h=>absurd h (by omega))
 cases A<;>simp[Builtin.append_,run_underlying ht,run_underlying hu,sizeOf,typeInfo,hi,Builtin.lenOf,hf,storeCells]
end appends
theorem RP.oneCell{O:Nat→Prop}{p:PV}{v:Value}(h:RP w O p v):v.oneCell'=true:=by cases h<;>first | rfl | (rename_i h;rcases h.shape with rfl | ⟨_,_,rfl⟩ <;>rfl)
theorem Ka(w:World)(need old:Nat)(e:TypeId):need≤grownCap w need old e:=by
 unfold grownCap Question.cut;exact Nat.le_add_right _ _
theorem MW(R:Rel B env κ cs tm w){c:C}{x:Atom}{v:Value}{xs:List (List PV)}(hl:cs.listOf c=some x)(h:aR env κ cs.heap w c v)(hx:den env x=.list xs) :
  ∃O',RL w (Own κ) O' (.list xs) v:=by
 cases c with
 | «at» a=>simp only[CS.listOf] at hl;cases hl;have:=h.2;rw[hx] at this;exact ⟨_,this.list_of⟩
 | nil0=>simp only[CS.listOf] at hl;cases hl;obtain ⟨A,rfl⟩:=h;simp only[den,Lit.pv] at hx;cases hx;exact ⟨fun _=>False,RL.nil⟩
 | own b =>
  simp only[CS.listOf] at hl
  split at hl
  ·rename_i es x' hb;cases hl;obtain ⟨h1,h2⟩:=yl R hb h;rw[hx] at h1;exact ⟨_,h1⟩
  ·cases hl
 | bor b a=>simp only[CS.listOf] at hl;cases hl;have:=h.2.2;rw[hx] at this;exact ⟨_,this⟩
 | _=>simp[CS.listOf] at hl
theorem Kb{O O':Nat→Prop}{p:PV}{v:Value}(h:RL w O O' p v): ∃A n c,v=.slice A n c:=by
 obtain ⟨_,A,n,c,_,_,_,_,h,_⟩:=h;exact ⟨A,n,c,h⟩
theorem qN{e:TypeId}(h:qG P e=true): ∃i z,P.info? e=some i∧i.zero=some z∧0<i.size∧0<i.bytes∧z.cells.size=i.size∧P.cellsOf e=i.size∧P.bytesOf e=i.bytes:=by
 unfold qG at h
 split at h
 ·rename_i i hi
  simp only[Bool.and_eq_true,decide_eq_true_eq] at h
  obtain ⟨⟨h1,h2⟩,h3⟩:=h
  split at h3
  ·rename_i z hz
   exact ⟨i,z,hi,hz,h1,h2,by simpa using h3,by simp[Program.cellsOf,hi],by simp[Program.bytesOf,hi]⟩
  ·cases h3
 ·cases h
theorem B0(z:Array Value)(n:Nat):(Builtin.zeroCells z n).size=n*z.size:=by simp[Builtin.zeroCells]
theorem MX{o:Obj}(hB:B≤w.heap.size):Below B w (w.drew.alloc o):=((Below.refl B w).drew).alloc hB o
theorem qO{g:Nat}{x:Array Value}(hg:B≤g):Below B w (w.setRow g x) :=
 ⟨rfl,rfl,rfl,by simp,fun k hk=>setRow_other w g k x (by omega)⟩
theorem wO{O:Nat→Prop}{xs ys:List (List PV)}{es n m:Nat}{us vs rest:List Value}(hn:xs.length=n)(hm:ys.length=m)(hu:us.length=n*es)(hv:vs.length=m*es)
  (h1: ∀i j,i<n→j<es→ ∃u,us[i*es+j]? =some u∧RP w O (look (xs.getD i []) j) u)
  (h2: ∀i j,i<m→j<es→ ∃u,vs[i*es+j]? =some u∧RP w O (look (ys.getD i []) j) u) :
  ∀i j,i<(xs++ys).length→j<es→ ∃u,(us++vs++rest).toArray[i*es+j]? =some u∧RP w O (look ((xs++ys).getD i []) j) u:=by
 intro i j hi hj
 simp only[List.length_append] at hi
 simp only[List.getElem?_toArray]
 by_cases h:i<n
 ·obtain ⟨u,h3,h4⟩:=h1 i j h hj
  have hlt:i*es+j<us.length:=by
   rw[hu];have:i*es+es≤n*es:=by rw[←Nat.succ_mul];exact Nat.mul_le_mul_right _ h
   omega
  refine ⟨u,?_,?_⟩
  ·rw[List.append_assoc,List.getElem?_append_left hlt];exact h3
  ·simp only[List.getD_eq_getElem?_getD] at h4 ⊢
   rw[List.getElem?_append_left (by omega)];exact h4
 ·have hi':i-n<m:=by omega
  obtain ⟨u,h3,h4⟩:=h2 (i-n) j hi' hj
  have e1:i*es+j=us.length+((i-n)*es+j):=by
   rw[hu,Nat.sub_mul];have:n*es≤i*es:=Nat.mul_le_mul_right _ (by omega);omega
  have hlt:(i-n)*es+j<vs.length:=by
   rw[hv];have:(i-n)*es+es≤m*es:=by rw[←Nat.succ_mul];exact Nat.mul_le_mul_right _ hi'
   omega
  refine ⟨u,?_,?_⟩
  ·rw[List.append_assoc,e1,List.getElem?_append_right (by omega),List.getElem?_append_left (by omega)]
   simpa using h3
  ·simp only[List.getD_eq_getElem?_getD] at h4 ⊢
   rw[List.getElem?_append_right (by omega),hn];exact h4
theorem yZ{xs ys:List (List PV)}{es:Nat}(h1: ∀i,i<xs.length→(xs.getD i []).length=es)(h2: ∀i,i<ys.length→(ys.getD i []).length=es) :
  ∀i,i<(xs++ys).length→((xs++ys).getD i []).length=es:=by
 intro i hi
 simp only[List.length_append] at hi
 simp only[List.getD_eq_getElem?_getD] at h1 h2 ⊢
 by_cases h:i<xs.length
 ·rw[List.getElem?_append_left h];exact h1 i h
 ·rw[List.getElem?_append_right (by omega)];exact h2 _ (by omega)
theorem GO(R:Rel B env κ cs tm w){b:Nat}{t u ty e e':TypeId}(ht:P.underlying t=some (.slice e))(hu:P.underlying u=some (.slice e'))(he:qG P e=true)
  {xs ys:List (List PV)} {y:C} {ya:Atom} {vx vy:Value} {es:Nat} (hes:es=P.cellsOf e)
  (hx:(κ b=none∧xs=[]∧ ∃A,vx=.slice A 0 0)∨(xs=[]∧ ∃A,vx=.slice A 0 0)∨(∃xa,av cs.heap b=some (.arr es xa)∧den env xa=.list xs∧aR env κ cs.heap w (.own b) vx))
  (hy:cs.listOf y=some ya) (hyr:aR env κ cs.heap w y vy) (hyd:den env ya=.list ys)
  (hroom:sK (xs.length+ys.length) (P.bytesOf e)=true) (hox:qF es xs=true) (hoy:qF es ys=true) :
  ∃v w' κ',(Builtin.append_ #[t,u] ty #[vx,vy]).run P w=.ok v w'∧Rel B (env++[.list (xs++ys)]) κ' { (cs.newB b (.arr es (.v cs.d))) with d:=cs.d+1 } tm w' ∧
   aR (env++[.list (xs++ys)]) κ' (cs.newB b (.arr es (.v cs.d))).heap w' (.own b) v∧Below B w w':=by
 obtain ⟨i,z,h1,h2,h3,h4,h5,h6,h7⟩:=qN he
 rw[h6] at hes;subst hes
 simp only[sK,decide_eq_true_eq,h7] at hroom
 obtain ⟨O',hry⟩:=MW R hy hyr hyd
 obtain ⟨A',m,c',rfl⟩:=Kb hry
 obtain ⟨news,k1,k2,k3,k4,k5,k6⟩:=AZ hry hoy h3
 have h63:xs.length+ys.length≤140737488355328:=Nat.le_trans (Nat.le_mul_of_pos_right _ h4) hroom
 have hone: ∀v∈news,v.oneCell'=true:=by
  intro v hv
  obtain ⟨j,hj,rfl⟩:=List.getElem_of_mem hv
  have hj':j<m*i.size:=by omega
  obtain ⟨u',h8,h9⟩:=k6 (j / i.size) (j % i.size) (Nat.div_lt_of_lt_mul (by rwa [Nat.mul_comm] at hj')) (Nat.mod_lt _ h3)
  rw[Nat.mul_comm,Nat.div_add_mod] at h8
  rw[List.getElem?_eq_getElem hj] at h8
  cases h8;exact h9.oneCell
 have grow: ∀(A:Option Addr) (n c:Nat) (olds:List Value),vx=.slice A n c→xs.length=n→olds.length=n*i.size →
   (0<n→ ∃ad,A=some ad∧ ∀(j:Nat) (u:Value),olds[j]? =some u→w.cell? (ad.add j)=some u) →
   (∀i' j,i'<n→j<i.size→ ∃u,olds[i'*i.size+j]? =some u∧RP w (Own κ) (look (xs.getD i' []) j) u)→(∀i',i'<xs.length→(xs.getD i' []).length=i.size)→c<n+m →
   ∃v w' κ',(Builtin.append_ #[t,u] ty #[vx,.slice A' m c']).run P w=.ok v w'∧Rel B (env++[.list (xs++ys)]) κ' { (cs.newB b (.arr i.size (.v cs.d))) with d:=cs.d+1 } tm w' ∧
    aR (env++[.list (xs++ys)]) κ' (cs.newB b (.arr i.size (.v cs.d))).heap w' (.own b) v∧Below B w w':=by
  intro A n c olds hv hn hlo ho hc hrow hlt
  subst hv
  have hrun:=GL (P:=P) (ty:=ty) w ht hu h1 h2 A n c olds hlo ho A' m c' news k1 k2 hlt h4 (by rw[←hn,←k3];exact hroom)
  have hcap:=Ka w (n+m) c e
  have hlen:(xs++ys).length=n+m:=by simp[hn,k3]
  obtain ⟨r1,r2⟩:=R.newArr (w':=_) b i.size (xs++ys) w.heap.size (grownCap w (n+m) c e) _ e h3 (by rw[hlen];omega) (yZ hrow (by rw[k3];exact k5)) (.inr (Nat.le_refl _))
   (vJ w.drew (.cells (olds++news++(Builtin.zeroCells z.cells (grownCap w (n+m) c e-(n+m))).toList).toArray e (0,0)))
   (by simp[hlo,k1,B0,h5];rw[←Nat.add_mul,←Nat.add_mul];congr 1;omega) (by rw[hlen];exact hcap)
   (wO hn k3 hlo k1 hc k6) (fun g hg _=>Below.heap_alloc _ _ _ hg) (by simp)
  rw[hlen] at r2
  exact ⟨_,_,_,hrun,r1,r2,MX R.hB⟩
 have nilcase: ∀A,xs=[]→vx=.slice A 0 0 →
   ∃v w' κ',(Builtin.append_ #[t,u] ty #[vx,.slice A' m c']).run P w=.ok v w'∧Rel B (env++[.list (xs++ys)]) κ' { (cs.newB b (.arr i.size (.v cs.d))) with d:=cs.d+1 } tm w' ∧
    aR (env++[.list (xs++ys)]) κ' (cs.newB b (.arr i.size (.v cs.d))).heap w' (.own b) v∧Below B w w':=by
  intro A hxs hv
  subst hxs
  by_cases hm:m=0
  ·subst hm
   have:ys=[]:=List.eq_nil_of_length_eq_zero k3
   subst this;subst hv
   obtain ⟨r1,r2⟩:=R.newNil b i.size h3 A
   exact ⟨_,_,_,GN w ht hu h1 A A' c',r1,r2,Below.refl _ _⟩
  ·exact grow A 0 0 [] hv rfl (by simp) (fun h=>absurd h (by omega)) (fun i' j h=>absurd h (by omega)) (fun i' h=>by simp at h) (by omega)
 rcases hx with ⟨_,hxs,A,hv⟩ | ⟨hxs,A,hv⟩ | ⟨xa,hb,hxd,hrx⟩
 ·exact nilcase A hxs hv
 ·exact nilcase A hxs hv
 ·obtain ⟨hrl,hlt⟩:=yl R hb hrx
  obtain ⟨es',x',xs',g1,g2,g3,g4⟩:=hrx
  rw[hb] at g1;cases g1
  rw[hxd] at g3;cases g3
  rcases g4 with ⟨_,hxs,A,hv⟩ | ⟨g,c,cells,T,g4,rfl,g5,g6,g7⟩
  ·exact nilcase A hxs hv
  ·rw[hxd] at hrl
   obtain ⟨olds,l1,l2,l3,l4,l5,l6⟩:=AZ hrl hox h3
   by_cases hfit:xs.length+m≤c
   ·have hrun:=GM (P:=P) (ty:=ty) w ht hu h1 g xs.length c cells T g6 g7 A' m c' news k1 k2 hone hfit
    have hlen:(xs++ys).length=xs.length+m:=by simp[k3]
    have hsum:(xs.length+m)*i.size≤c*i.size:=Nat.mul_le_mul_right _ hfit
    rw[Nat.add_mul] at hsum
    have htk:(cells.toList.take (xs.length*i.size)).length=xs.length*i.size:=by simp;omega
    obtain ⟨_,_,xs2,q3,q4,q5,q6⟩:=R.hblk _ _ hb
    rw[hxd] at q3;cases q3
    have hold: ∀i' j,i'<xs.length→j<i.size→ ∃u,(cells.toList.take (xs.length*i.size))[i'*i.size+j]? =some u∧RP w (Own κ) (look (xs.getD i' []) j) u:=by
     rcases q6 with ⟨q6,_⟩ | ⟨g',cells',T',c2,q6,q7,q8,q9,q10⟩
     ·rw[g4] at q6;cases q6
     ·rw[g4] at q6;cases q6
      rw[g6] at q7;cases q7
      intro i' j hi' hj
      obtain ⟨u',q11,q12⟩:=q10 i' j hi' hj
      have:i'*i.size+j<xs.length*i.size:=by
       have:i'*i.size+i.size≤xs.length*i.size:=by rw[←Nat.succ_mul];exact Nat.mul_le_mul_right _ hi'
       omega
      exact ⟨u',by rw[List.getElem?_take,if_pos this];simpa using q11,q12⟩
    have hBg:=(R.hκ _ _ g4).2.1
    have hsize:(cells.toList.take (xs.length*i.size)++news++cells.toList.drop (xs.length*i.size+news.length)).toArray.size=c*i.size:=by
     simp only[List.size_toArray,List.length_append,htk,List.length_drop,Array.length_toList,k1,g7];omega
    obtain ⟨r1,r2⟩:=R.newArr (w':=_) b i.size (xs++ys) g c _ T h3 (by rw[hlen];omega) (yZ l5 (by rw[k3];exact k5)) (.inl g4)
     (setRow_heap w g cells _ T (0,0) g6) hsize (by rw[hlen];exact hfit)
     (wO rfl k3 htk k1 hold k6) (fun g' hg' hne=>setRow_other w g g' _ (fun h=>hne (by rw[h];exact g4))) (by simp)
    rw[hlen] at r2
    exact ⟨_,_,_,hrun,r1,r2,qO hBg⟩
   ·exact grow (some ⟨g,0,none⟩) xs.length c olds rfl rfl l1 l2 l6 l5 (by omega)
end
end Go.Xt
