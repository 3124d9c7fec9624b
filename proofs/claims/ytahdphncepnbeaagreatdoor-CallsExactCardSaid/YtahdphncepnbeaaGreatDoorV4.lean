/- Steps towards the statements of this seat; the conditions stand in each theorem. -/
import Derived.Shelf.Sort.Plain
import Derived.Shelf.Slices.In.SortNone
import Derived.Shelf.SlicesE.Compact
import Derived.Sort.OwnSortedInts
import Derived.Test.YtahdphncepnbeaaGreatDoorXtI
import Derived.Test.YtahdphncepnbeaaGreatDoorV2
import Derived.Test.YtahdphncepnbeaaGreatDoorSpecs
set_option linter.unusedSimpArgs false
set_option linter.unusedVariables false
namespace Go.Xt
open Go.RowKit Go.Sort Go.Proofs Go.Shelf
theorem Pt{w:Go.World}{g n k:Nat}{os:Array Obj}(d:Array Int)(hk:k<w.heap.size)(hne:k≠g):(grow (putRow (Value.int .i64) (Sort.ahead w n) g 0 d) os).heap[k]? =w.heap[k]? :=by
 rw[heap_grow_old _ _ (by simpa using hk)]
 have: ¬g=k:=fun e=>hne e.symm
 simp[putRow,mapBlock,Sort.ahead,Array.getElem?_modify,this]
theorem Pu(w:Go.World):grow w #[]=w:=by simp[grow]
theorem OQ{P:Program}{K:Nat}{fin:Bool}{pre:List Int→Prop}{f:List Int→List Int}
  (hmem: ∀l y,y∈f l→y∈l) (hle: ∀l,(f l).length≤l.length) (heq:fin=false→ ∀l,(f l).length=l.length)
  (hrun: ∀(w:Go.World) (g c:Nat) (T:TypeId) (cur:Array Value) (l:List Int),pre l→w.heap[g]? =some (.cells cur T (0,0))→cur.toList.take l.length=l.map (Value.int .i64)→l.length≤c →
   Calls P K #[.slice (some ⟨g,0,none⟩) l.length c] w fun e w'=>e=.returned (if fin then .slice (some ⟨g,0,none⟩) (f l).length c else .tuple #[]) ∧
    ∃(n m:Nat) (os:Array Obj) (z:Int),w'=grow (putRow (Value.int .i64) (Sort.ahead w n) g 0 (f l++List.replicate m z).toArray) os∧(f l).length+m≤l.length)
  (hnil: ∀(w:Go.World) (A:Option Addr),Calls P K #[.slice A 0 0] w fun e w'=>e=.returned (if fin then .slice A 0 0 else .tuple #[])∧Below w.heap.size w w') :
  zJ P K fin (qq pre (fun l=>[L l]) (fun l=>[L (f l)])):=by
 intro ps rs hf
 obtain ⟨l,hp,rfl,rfl⟩:=gC hf
 have hs: ∃s:Nat→Nat,∀t,t<(f l).length→s t<l.length∧(f l)[t]? =l[s t]? :=by
  refine ⟨fun t=>l.idxOf ((f l).getD t 0),fun t ht=>?_⟩
  have hg:(f l).getD t 0=(f l)[t]:=by simp[List.getD_eq_getElem?_getD,ht]
  have hm:(f l).getD t 0∈l:=by rw[hg];exact hmem l _ (List.getElem_mem ht)
  have hi:=List.idxOf_lt_length_of_mem hm
  refine ⟨hi,?_⟩
  rw[List.getElem?_eq_getElem ht,List.getElem?_eq_getElem hi,List.getElem_idxOf hi,hg]
 obtain ⟨s,hs⟩:=hs
 refine ⟨l.map Row.row,(f l).map Row.row,[],rfl,rfl,fun h=>by simpa using heq h l,fun w O v us hes hxl hrow hOV hq=>?_⟩
 cases us with
 | cons _ _=>exact hq.elim
 | nil =>
 have hlel:=hle l
 rw[List.length_map] at hxl hrow
 have he:l≠[]→wx P K=1:=fun hne=>by
  have:=hrow 0 (List.length_pos_iff.2 hne)
  cases l with
  | nil=>exact absurd rfl hne
  | cons x r=>simpa[Row.row] using this.symm
 have hsx: ∀t,t<(f l).length→((f l).map Row.row).getD t []=(l.map Row.row).getD (s t) []:=fun t ht=>by
  simp only[List.getD_eq_getElem?_getD,List.getElem?_map,(hs t ht).2]
 refine ⟨by rw[List.length_map];omega,fun i hi=>?_,?_⟩
 ·rw[List.length_map] at hi
  rw[hsx i hi]
  exact hrow _ (hs i hi).1
 rcases hOV with ⟨hx,A,rfl⟩ | ⟨g,c,T,cells,rfl,⟨hC1,hC2⟩,hc,hcell⟩
 ·have hl0:l=[]:=List.map_eq_nil_iff.1 hx
  subst hl0
  have hf0:f []=[]:=List.eq_nil_of_length_eq_zero (by simpa using hlel)
  refine (hnil w A).mono ?_
  rintro e w' ⟨rfl,hB⟩
  exact ⟨.slice A 0 0,rfl,fun _=>rfl,.inl ⟨by rw[hf0];rfl,A,rfl⟩,fun g' hg' _=>hB.block g' hg',hB.size,hB.os,hB.tape,hB.output⟩
 ·rw[List.length_map] at hc hcell ⊢
  have hcl: ∀i,i<l.length→cells[i]? =some (.int .i64 (l.getD i 0)):=fun i hi=>by
   have e1:=he (fun h=>by subst h;simp at hi)
   rw[e1] at hcell
   obtain ⟨u,h1,h2⟩:=hcell i 0 hi (by omega)
   have h3:look ((l.map Row.row).getD i []) 0=I (l.getD i 0):=by simp[List.getD_eq_getElem?_getD,hi,Row.row,look]
   rw[h3] at h2
   cases h2
   simpa using h1
  have htk:cells.toList.take l.length=l.map (Value.int .i64):=List.ext_getElem? fun j=>by
   by_cases hj:j<l.length
   ·rw[List.getElem?_take_of_lt hj,Array.getElem?_toList,hcl j hj]
    simp[hj,List.getD_eq_getElem?_getD]
   ·rw[List.getElem?_take_eq_none (by omega),List.getElem?_eq_none (by simp;omega)]
  have hg:g<w.heap.size:=(Array.getElem?_eq_some_iff.1 hC1).1
  refine (hrun w g c T cells l hp hC1 htk hc).mono ?_
  rintro e w' ⟨rfl,n,m,os,z,rfl,hm⟩
  have hblk:=heap_sortedI (n:=n) (os:=os) (f l++List.replicate m z).toArray hC1
  refine ⟨.slice (some ⟨g,0,none⟩) (f l).length c,rfl,fun h=>by rw[heq h l],?_,fun g' hg' hz=>?_,by simp[grow,putRow,mapBlock,Sort.ahead],rfl,rfl,rfl⟩
  ·by_cases h0:c=0
   ·subst h0
    have hf0:f l=[]:=List.eq_nil_of_length_eq_zero (by omega)
    exact .inl ⟨by rw[hf0];rfl,some ⟨g,0,none⟩,by rw[hf0];rfl⟩
   ·refine .inr ⟨g,c,T,_,by rw[List.length_map],.inl ⟨_,c,rfl,by omega⟩,⟨hblk,by simpa[putCells] using hC2⟩,fun cells0 T0 fr h=>by rw[hC1] at h;cases h;rfl,by rw[List.length_map];omega,fun t j ht hj=>?_⟩
    rw[List.length_map] at ht
    obtain ⟨h1,h2⟩:=hs t ht
    have e1:=he (fun h=>by subst h;simp at h1)
    rw[e1] at hj hcell hC2 ⊢
    obtain rfl:j=0:=by omega
    obtain ⟨u,h3,h4⟩:=hcell (s t) 0 h1 (by omega)
    refine ⟨u,?_,by rw[hsx t ht];exact h4⟩
    rw[←h3,Nat.mul_one,Nat.mul_one,Nat.add_zero,Nat.add_zero,hcl _ h1]
    have h5:t<cells.size:=by omega
    have h6:(f l)[t]? =some ((f l)[t]):=by simp[ht]
    rw[h6] at h2
    simp[putCells,h5,List.getElem?_append_left ht,List.getD_eq_getElem?_getD,ht,←h2]
    intro h;omega
  ·by_cases hgg:g'=g
   ·subst hgg
    have h0:=hz _ _ rfl
    subst h0
    rw[hblk,hC1]
    congr 2
    exact Array.ext (by simp[putCells]) fun i h1 h2=>by rw[hC2] at h2;omega
   ·exact Pt _ hg' hgg
theorem TH{P:Program}{r:Ren}(Ly:Lays.n189 P r) :
  zJ P (r.f 189) false (qq (fun (l:List Int)=>l.length<4611686018427387904) (fun (l:List Int)=>[L l]) (fun (l:List Int)=>[L (mw l)])):=by
 refine OQ (f:=mw) (fun l y hy=>List.mem_mergeSort.1 hy) (fun l=>Nat.le_of_eq (List.length_mergeSort ..)) (fun _ l=>List.length_mergeSort ..) (fun w g c T cur l hp h1 h4 hc=>?_) (fun w A=>?_)
 ·have hg:g<w.heap.size:=(Array.getElem?_eq_some_iff.1 h1).1
  refine (Any.slices_Sort_int Ly g 0 c l w (holds_of_blockI h1 h4) hg hp).mono ?_
  rintro e w' ⟨rfl,n,os,rfl⟩
  refine ⟨rfl,n,0,os,0,?_,by have:(mw l).length=l.length:=List.length_mergeSort ..;omega⟩
  simp only[List.replicate_zero,List.append_nil];rfl
 ·refine (Any.slices_Sort_int_none Ly A 0 w).mono ?_
  rintro e w' ⟨rfl,rfl⟩
  exact ⟨rfl,Below.refl _ _⟩
theorem tE: ∀(r:List Int) (p x:Int),mv p (r++[x])=mv p r++if x=r.getLastD p then [] else [x]
 | [],p,x=>by
  by_cases e:x=p<;>simp[mv,e]
 | y::r,p,x=>by
  simp only[List.cons_append,mv,List.getLastD_cons]
  by_cases e:y=p
  ·subst e;rw[if_pos rfl,if_pos rfl,tE r y x]
  ·rw[if_neg e,if_neg e,tE r y x];rfl
theorem BJ(l:List Int)(x:Int):bB (l++[x])=bB l++if l≠[]∧x=l.getLastD 0 then [] else [x]:=by
 cases l with
 | nil=>simp[bB,mv]
 | cons a r =>
  simp only[List.cons_append,bB,tE,List.getLastD_cons,ne_eq,reduceCtorEq,not_false_eq_true,true_and]
theorem Pv{l:List Int}{m:Nat}(h:m<l.length)(h0:0<m):(l.take m).getLastD 0=l[m-1]:=by
 obtain ⟨k,rfl⟩: ∃k,m=k+1:=⟨m-1,by omega⟩
 rw[List.take_add_one,List.getElem?_eq_getElem (by omega),Option.toList_some,List.getLastD_concat]
 rfl
theorem kK(l:List Int): ∀m,m≤l.length→Go.Lib.compactUpTo l.toArray m=bB (l.take m)
 | 0,_=>by simp[Go.Lib.compactUpTo,bB]
 | m+1,h=>by
  rw[Go.Lib.compactUpTo_succ,kK l m (by omega),List.take_add_one,List.getElem?_eq_getElem (by omega),Option.toList_some,BJ]
  congr 1
  have e1:l.toArray[m]! =l[m]:=by simp[show m<l.length by omega]
  have e2:0<m→l.toArray[m-1]! =l[m-1]:=fun h0=>by simp[show m-1<l.length by omega]
  rw[e1]
  unfold Go.Lib.keeps
  rw[e1]
  by_cases h0:m=0
  ·subst h0;simp
  ·have h1:l.take m≠[]:=by
    intro e;have:=congrArg List.length e;rw[List.length_take,List.length_nil] at this;omega
   rw[e2 (by omega),Pv (by omega) (by omega)]
   by_cases e:l[m]=l[m-1]<;>simp[h0,h1,e]
theorem E0{l:List Int}{y:Int}(h:y∈bB l):y∈l:=by
 have hc:=kK l l.length (Nat.le_refl _)
 rw[List.take_length] at hc
 rw[←hc] at h
 unfold Go.Lib.compactUpTo at h
 rw[List.mem_map] at h
 obtain ⟨j,hj,rfl⟩:=h
 have:=(List.mem_filter.1 hj).1
 rw[List.mem_range] at this
 simp[this]
theorem ve(l:List Int):(bB l).length≤l.length:=by
 have hc:=kK l l.length (Nat.le_refl _)
 rw[List.take_length] at hc
 rw[←hc]
 unfold Go.Lib.compactUpTo
 have:=List.length_filter_le (Go.Lib.keeps l.toArray) (List.range l.length)
 simpa using this
set_option maxHeartbeats 4000000 in
set_option maxRecDepth 1000000 in
theorem HZ{P:Program}{ρ:Ren}(L:SlLaysE.n43 P ρ)(A:Option Addr)(w:Go.World):Calls P (ρ.f 43) #[.slice A 0 0] w fun e w'=>e=.returned (.slice A 0 0)∧w'=w:=by
 have mixed:=L.mixed;have t0:=L.t0;have a0:=L.a0;have z0:=L.z0;have v0:=L.v0;have t3:=L.t3;have a3:=L.a3;have z3:=L.z3;have v3:=L.v3;have t4:=L.t4;have a4:=L.a4;have z4:=L.z4;have v4:=L.v4;have t22:=L.t22;have a22:=L.a22;have z22:=L.z22;have v22:=L.v22;have a23:=L.a23;have z23:=L.z23
 obtain ⟨_,_,FG⟩:=L.f43
 go_enter FG,SlBodyN.n43_ntmps ρ
 go_wp2
 go_ret
 exact ⟨rfl,rfl⟩
theorem Pw{P:Program}{r:Ren}(L43:SlLaysE.n43 P r)(v23: ∀w,(zeroValue (r.t 23)).run P w=.ok (.int .i64 0) w) :
  zJ P (r.f 43) true (qq (fun (l:List Int)=>l.length<4611686018427387904) (fun (l:List Int)=>[L l]) (fun (l:List Int)=>[L (bB l)])):=by
 refine OQ (f:=bB) (fun l y hy=>E0 hy) ve (fun h=>by cases h) (fun w g c T cur l hp h1 h4 h3=>?_) (fun w A=>?_)
 ·have hlen:=ve l
  have hc:=kK l l.length (Nat.le_refl _)
  rw[List.take_length] at hc
  have hg:g<w.heap.size:=(Array.getElem?_eq_some_iff.1 h1).1
  have hk:=AnyE.slices_Compact L43 (Value.int .i64) (fun _=>rfl) (EqlAt.intD P _ .i64) (NeqAt.intD P _ .i64) 0 v23 g 0 c l.toArray w (holds_of_blockI h1 h4) (by simp;omega) (by simpa using h3)
  simp only[List.size_toArray,hc] at hk
  refine hk.mono ?_
  rintro e w' ⟨rfl,n,rfl⟩
  refine ⟨rfl,n,l.length-(bB l).length,#[],0,?_,by omega⟩
  rw[Pu]
 ·refine (HZ L43 A w).mono ?_
  rintro e w' ⟨rfl,rfl⟩
  exact ⟨rfl,Below.refl _ _⟩
end Go.Xt
