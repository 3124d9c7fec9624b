/- Steps towards the statements of this seat; the conditions stand in each theorem. -/
import Derived.Shelf.SlLaysE
import Derived.Shelf.SlicesE.Kit
import Derived.Shelf.RegionOpenPlain
import Derived.WalkKit
import Derived.Deep.LoopGhost
import Derived.Deep.RegionLaw
import Derived.Deep.Upon
import Derived.Lib.Walk
import Derived.Sort.WalkB12
import Derived.Lib.SliceRun
import Derived.Lib.SlicesDelete
import Derived.Test.YtahdphncepnbeaaGreatDoorXtI
import Derived.Test.YtahdphncepnbeaaGreatDoorV2
set_option linter.unusedSimpArgs false
set_option linter.unusedVariables false
namespace Go.Xt
open Go.RowKit Go.Sort Go.Proofs Go.Shelf Go.Lib
def xf:Array Value→Nat→List Value→Array Value
 | c,_,[]=>c
 | c,o,v::r=>xf (c.setIfInBounds o v) (o+1) r
theorem uH: ∀(vs:List Value) (c:Array Value) (o:Nat),(xf c o vs).size=c.size
 | [],_,_=>rfl
 | v::r,c,o=>by rw[xf,uH r,Array.size_setIfInBounds]
theorem xg: ∀(vs:List Value) (c:Array Value) (o k:Nat),k<o→(xf c o vs)[k]? =c[k]?
 | [],_,_,_,_=>rfl
 | v::r,c,o,k,h=>by rw[xf,xg r _ _ _ (by omega),Array.getElem?_setIfInBounds_ne (by omega)]
theorem OM: ∀(vs:List Value) (c:Array Value) (o k:Nat),k<vs.length→o+vs.length≤c.size→(xf c o vs)[o+k]? =vs[k]?
 | [],_,_,_,h,_=>by simp at h
 | v::r,c,o,k,h,hs=>by
  simp only[List.length_cons] at h hs
  rw[xf]
  cases k with
  | zero=>rw[xg r _ _ _ (by omega)];simp[show o<c.size by omega]
  | succ k=>rw[show o+(k+1)=o+1+k by omega,OM r _ _ k (by omega) (by simp;omega)];simp
theorem lU{b:Nat}{T:TypeId}{fr:Nat×Nat}: ∀(vs:List Value) (w:World) (c:Array Value) (o:Nat),w.heap[b]? =some (.cells c T fr)→(w.setCells b o vs).heap[b]? =some (.cells (xf c o vs) T fr)
 | [],_,_,_,h=>h
 | v::r,w,c,o,h=>by
  rw[World.setCells,xf]
  refine lU r _ _ _ ?_
  simp[World.setCell,Array.getElem?_modify,h]
theorem cf(b:Nat): ∀(vs:List Value) (w:World) (o:Nat),(w.setCells b o vs).heap.size=w.heap.size∧(w.setCells b o vs).os=w.os∧(w.setCells b o vs).tape=w.tape∧(w.setCells b o vs).output=w.output
 | [],_,_=>⟨rfl,rfl,rfl,rfl⟩
 | v::r,w,o=>by
  rw[World.setCells]
  obtain ⟨h1,h2,h3,h4⟩:=cf b r (w.setCell ⟨b,o,none⟩ v) (o+1)
  exact ⟨by rw[h1];simp[World.setCell],h2,h3,h4⟩
theorem DZ{P:Program}(w:World)(t e ty:TypeId)(z:Value)(ht:P.underlying t=some (.slice e))(hv: ∀w,(zeroValue e).run P w=.ok z w)(b o n c:Nat)(hn:0<n)
  (h1: ∀v∈(Builtin.zeroCells z.cells n).toList,v.oneCell'=true)
  (hc: ∀j,j<n*z.cells.size→(w.cell? ⟨b,o+j,none⟩).isSome=true) (hf: ∀j,j<n*z.cells.size→w.frozen? ⟨b,o+j,none⟩=false) :
  (Builtin.clear_ #[t] ty #[.slice (some ⟨b,o,none⟩) n c]).run P w=.ok (.tuple #[]) (w.setCells b o (Builtin.zeroCells z.cells n).toList):=by
 have hl:(Builtin.zeroCells z.cells n).toList.length=n*z.cells.size:=by simp[Builtin.zeroCells]
 have hst:=run_storeCells_cells (P:=P) b o (Builtin.zeroCells z.cells n).toList 0 w (by rw[hl];simpa using hc) (by rw[hl];simpa using hf) h1
 simp only[Nat.add_zero] at hst
 obtain ⟨m,rfl⟩: ∃m,n=m+1:=⟨n-1,by omega⟩
 simp[Builtin.clear_,run_underlying ht,hv,hst]
structure DelLays (P:Program) (ρ:Ren) (es:Nat) (zs:Array Value):Prop where
 mixed:P.follows .mixedOrders=true
 f45:Bears P (ρ.f 45) (SlBodyN.n45 ρ)
 t0:P.underlying (ρ.t 0)=some (TypeDesc.tuple #[])
 a0: ∀w,(isAgg (ρ.t 0)).run P w=.ok false w
 z0: ∀w,(Go.sizeOf (ρ.t 0)).run P w=.ok 1 w
 v0: ∀w,(zeroValue (ρ.t 0)).run P w=.ok (Value.tuple #[]) w
 t3:P.underlying (ρ.t 3)=some (TypeDesc.int IntKind.i64)
 a3: ∀w,(isAgg (ρ.t 3)).run P w=.ok false w
 z3: ∀w,(Go.sizeOf (ρ.t 3)).run P w=.ok 1 w
 v3: ∀w,(zeroValue (ρ.t 3)).run P w=.ok (Value.int IntKind.i64 0) w
 t4:P.underlying (ρ.t 4)=some (TypeDesc.bool)
 a4: ∀w,(isAgg (ρ.t 4)).run P w=.ok false w
 z4: ∀w,(Go.sizeOf (ρ.t 4)).run P w=.ok 1 w
 v4: ∀w,(zeroValue (ρ.t 4)).run P w=.ok (Value.bool false) w
 t22:P.underlying (ρ.t 22)=some (TypeDesc.slice (ρ.t 23))
 a22: ∀w,(isAgg (ρ.t 22)).run P w=.ok false w
 z22: ∀w,(Go.sizeOf (ρ.t 22)).run P w=.ok 1 w
 v22: ∀w,(zeroValue (ρ.t 22)).run P w=.ok (Value.slice none 0 0) w
 a23: ∀w,(isAgg (ρ.t 23)).run P w=.ok true w
 z23: ∀w,(Go.sizeOf (ρ.t 23)).run P w=.ok es w
 v23: ∀w,(zeroValue (ρ.t 23)).run P w=.ok (Value.agg zs) w
theorem QA{P:Program}{ρ:Ren}{es:Nat}{zs:Array Value}(L:DelLays P ρ es zs)(A:Option Addr)(w:World) :
  Calls P (ρ.f 45) #[.slice A 0 0,.int .i64 0,.int .i64 0] w fun e w'=>e=.returned (.slice A 0 0)∧w'=w:=by
 have mixed:=L.mixed;have t0:=L.t0;have a0:=L.a0;have z0:=L.z0;have v0:=L.v0;have t3:=L.t3;have a3:=L.a3;have z3:=L.z3;have v3:=L.v3;have t4:=L.t4;have a4:=L.a4;have z4:=L.z4;have v4:=L.v4;have t22:=L.t22;have a22:=L.a22;have z22:=L.z22;have v22:=L.v22;have a23:=L.a23;have z23:=L.z23
 obtain ⟨_,_,FG⟩:=L.f45
 go_enter FG,SlBodyN.n45_ntmps ρ
 go_wp2
 all_goals (go_ret;exact ⟨rfl,rfl⟩)
theorem QB{P:Program}{ρ:Ren}{es:Nat}{zs:Array Value}(L:DelLays P ρ es zs)(blk n cap i:Nat)(w:World)(hn:n≤cap)(hm:n≤9223372036854775807)(hi:i≤n) :
  Calls P (ρ.f 45) #[.slice (some ⟨blk,0,none⟩) n cap,.int .i64 i,.int .i64 i] w fun e w'=>e=.returned (.slice (some ⟨blk,0,none⟩) n cap)∧w'=w:=by
 have mixed:=L.mixed;have t0:=L.t0;have a0:=L.a0;have z0:=L.z0;have v0:=L.v0;have t3:=L.t3;have a3:=L.a3;have z3:=L.z3;have v3:=L.v3;have t4:=L.t4;have a4:=L.a4;have z4:=L.z4;have v4:=L.v4;have t22:=L.t22;have a22:=L.a22;have z22:=L.z22;have v22:=L.v22;have a23:=L.a23;have z23:=L.z23
 obtain ⟨_,_,FG⟩:=L.f45
 go_enter FG,SlBodyN.n45_ntmps ρ
 go_wp2
 all_goals (go_ret;exact ⟨rfl,rfl⟩)
set_option maxHeartbeats 4000000 in
set_option maxRecDepth 1000000 in
theorem Po{P:Program}{ρ:Ren}{es:Nat}{zs:Array Value}(L:DelLays P ρ es zs)(he:0<es)(hz1:(Value.agg zs).cells.size=es)(hz2: ∀n,∀v∈(Builtin.zeroCells (Value.agg zs).cells n).toList,v.oneCell'=true)
  (i0:TypeInfo) (hi0:P.info? (ρ.t 23)=some i0) (hi1:i0.size=es)
  (blk n cap i j:Nat) (cells:Array Value) (T:TypeId) (w:World) (hb:w.heap[blk]? =some (.cells cells T (0,0))) (hs:cells.size=cap*es) (hn:n≤cap) (hm:n≤9223372036854775807) (hij:i<j) (hj:j≤n)
  (h1: ∀t,t<n*es→ ∃u,cells[t]? =some u∧u.oneCell'=true) :
  Calls P (ρ.f 45) #[.slice (some ⟨blk,0,none⟩) n cap,.int .i64 i,.int .i64 j] w fun e w'=>e=.returned (.slice (some ⟨blk,0,none⟩) (n-(j-i)) cap) ∧
   ∃(v1 v2:List Value),v1=(cells.toList.drop (j*es)).take ((n-j)*es)∧w'=(w.drew.setCells blk (i*es) v1).setCells blk ((i+(n-j))*es) v2∧v2.length=(j-i)*es:=by
 have mixed:=L.mixed;have t0:=L.t0;have a0:=L.a0;have z0:=L.z0;have v0:=L.v0;have t3:=L.t3;have a3:=L.a3;have z3:=L.z3;have v3:=L.v3;have t4:=L.t4;have a4:=L.a4;have z4:=L.z4;have v4:=L.v4;have t22:=L.t22;have a22:=L.a22;have z22:=L.z22;have v22:=L.v22;have a23:=L.a23;have z23:=L.z23;have v23:=L.v23
 obtain ⟨news,hnews⟩: ∃news,news=(cells.toList.drop (j*es)).take ((n-j)*es):=⟨_,rfl⟩
 have hmul:(n-j)*es+j*es=n*es:=by rw[←Nat.add_mul];congr 1;omega
 have hmul2:n*es≤cells.size:=by rw[hs];exact Nat.mul_le_mul_right _ hn
 have hlen:news.length=(n-j)*es:=by rw[hnews];simp;omega
 have hget: ∀t,t<(n-j)*es→news[t]? =cells[j*es+t]? :=by
  intro t ht
  rw[hnews,List.getElem?_take_of_lt ht,List.getElem?_drop,Array.getElem?_toList]
 have hcell: ∀t,w.drew.cell? ⟨blk,t,none⟩=cells[t]? :=by
  intro t;show w.cell? ⟨blk,t,none⟩=_;simp[World.cell?,hb]
 have hfro: ∀t,w.drew.frozen? ⟨blk,t,none⟩=false:=by
  intro t;show w.frozen? ⟨blk,t,none⟩=_;simp[World.frozen?,hb]
 obtain ⟨A,hA,hsrc⟩: ∃A:Addr,(if cap=j then some (⟨blk,0,none⟩:Addr) else some ⟨blk,j*es,none⟩)=some A∧Hid (∀t u,news[t]? =some u→w.drew.cell? (A.add t)=some u):=by
  by_cases h:cap=j
  ·refine ⟨⟨blk,0,none⟩,by simp[h],fun t u hu=>?_⟩
   have h0:news.length=0:=by rw[hlen,show n-j=0 by omega,Nat.zero_mul]
   rw[List.length_eq_zero_iff.1 h0] at hu
   simp at hu
  ·refine ⟨⟨blk,j*es,none⟩,by simp[h],fun t u hu=>?_⟩
   have ht:t<(n-j)*es:=by
    have:=(List.getElem?_eq_some_iff.1 hu).1
    rwa [hlen] at this
   rw[hget t ht] at hu
   rw[Addr.add_lit,hcell]
   exact hu
 have s1:Hid (news.length=(n-j)*es):=hlen
 have s2:Hid (∀u∈news,u.oneCell'=true):=by
  intro u hu
  obtain ⟨t,ht⟩:=List.mem_iff_getElem?.1 hu
  have hlt:t<(n-j)*es:=by have:=(List.getElem?_eq_some_iff.1 ht).1;rwa [hlen] at this
  rw[hget t hlt] at ht
  obtain ⟨u',h3,h4⟩:=h1 (j*es+t) (by omega)
  rw[ht] at h3;cases h3;exact h4
 have hmul3:(i+(n-j))*es+(j-i)*es=n*es:=by rw[←Nat.add_mul];congr 1;omega
 have hmul4:i*es+(n-j)*es=(i+(n-j))*es:=by rw[←Nat.add_mul]
 have s3:Hid (∀t,t<news.length→(w.drew.cell? ⟨blk,0+i*es+t,none⟩).isSome=true∧w.drew.frozen? ⟨blk,0+i*es+t,none⟩=false):=by
  intro t ht
  rw[hlen] at ht
  rw[hcell,hfro]
  refine ⟨?_,rfl⟩
  rw[Array.getElem?_eq_getElem (show 0+i*es+t<cells.size by omega)];rfl
 obtain ⟨W1,hW1⟩: ∃W1,W1=w.drew.setCells blk (0+i*es) news:=⟨_,rfl⟩
 have hb1:W1.heap[blk]? =some (.cells (xf cells (0+i*es) news) T (0,0)):=by rw[hW1];exact lU _ _ _ _ hb
 have hcl: ∀ty,(Builtin.clear_ #[ρ.t 22] ty #[.slice (some ⟨blk,(i+(n-j))*es,none⟩) (n-(i+(n-j))) (cap-(i+(n-j)))]).run P W1=.ok (.tuple #[]) (W1.setCells blk ((i+(n-j))*es) (Builtin.zeroCells (Value.agg zs).cells (n-(i+(n-j)))).toList):=by
  intro ty
  refine DZ W1 _ _ ty _ t22 v23 blk ((i+(n-j))*es) _ _ (by omega) (hz2 _) (fun t ht=>?_) (fun t ht=>?_)
  ·rw[hz1,show n-(i+(n-j))=j-i by omega] at ht
   have:(i+(n-j))*es+t<cells.size:=by omega
   have:(i+(n-j))*es+t<(xf cells (0+i*es) news).size:=by rw[uH];exact this
   show (W1.cell? _).isSome=true
   simp only[World.cell?,hb1]
   rw[Array.getElem?_eq_getElem this];rfl
  ·simp[World.frozen?,hb1]
 have hW:Hid (W1=w.drew.setCells blk (0+i*es) news):=hW1
 have hic:i≤cap:=by omega
 have hjc:j≤cap:=by omega
 have HH:Hid ((Builtin.zeroCells (Value.agg zs).cells (n-(i+(n-j)))).toList.length=(j-i)*es):=by
  show _=_
  simp only[Builtin.zeroCells,Array.toList_map,List.length_map,Array.length_toList,Array.size_range,hz1]
  congr 1;omega
 have HN:Hid (news=(cells.toList.drop (j*es)).take ((n-j)*es)):=hnews
 clear hW1 hb1 hget hnews hlen hcell hfro hmul hmul2 hmul3 hmul4 h1 hz1 hz2 hb v23
 obtain ⟨_,_,FG⟩:=L.f45
 go_enter FG,SlBodyN.n45_ntmps ρ
 go_wp2_with fail
 go_region_law_o (refine step_append_room rfl (.tmp 22) (.tmp 25) (ρ.t 22) rfl (ρ.t 23) i0 es t22 hi0 hi1 blk 0 i cap (by simp[Act.eval,Act.put]) A (n-j) (cap-j) news (by simp[Act.eval,Act.put]) s1.out hsrc.out s2.out (by omega) s3.out ?_;rw[←hW.out])
 go_wp2
 go_ret
 refine ⟨by rw[show n-(j-i)=i+(n-j) by omega];rfl,news,_,HN.out,?_,HH.out⟩
 rw[hW.out,Nat.zero_add];rfl
theorem Pp{zs:Array Value}(hp:0<zs.size)(h: ∀i,i<zs.size→(zs[i]!).oneCell'=true)(n:Nat): ∀v∈(Builtin.zeroCells zs n).toList,v.oneCell'=true:=by
 intro v hv
 simp only[Builtin.zeroCells,Array.toList_map,List.mem_map] at hv
 obtain ⟨i,_,rfl⟩:=hv
 exact h _ (Nat.mod_lt _ hp)
def sD{α:Type}(l:List α)(i j:Nat):List α:=l.take i++l.drop j
theorem QC{α:Type}{l:List α}{i j:Nat}(h:i≤j)(hj:j≤l.length):(sD l i j).length=l.length-(j-i):=by
 simp[sD];omega
theorem QD{α:Type}{l:List α}{i j t:Nat}(h:i≤j)(hj:j≤l.length):(sD l i j)[t]? =l[if t<i then t else t+(j-i)]? :=by
 unfold sD
 by_cases ht:t<i
 ·rw[if_pos ht,List.getElem?_append_left (by simp;omega),List.getElem?_take_of_lt ht]
 ·rw[if_neg ht,List.getElem?_append_right (by simp;omega),List.getElem?_drop,List.length_take,Nat.min_eq_left (by omega)]
  congr 1;omega
theorem QE{P:Program}{ρ:Ren}{α:Type}[Row α]{zs:Array Value}(D:DelLays P ρ (Row.w α) zs)(hz1:(Value.agg zs).cells.size=Row.w α)(hw:0<Row.w α)(hz2: ∀n,∀v∈(Builtin.zeroCells (Value.agg zs).cells n).toList,v.oneCell'=true)
  (i0:TypeInfo) (hi0:P.info? (ρ.t 23)=some i0) (hi1:i0.size=Row.w α) :
  zJ P (ρ.f 45) true (qq (fun (a:List α×Int×Int)=>0≤a.2.1∧a.2.1≤a.2.2∧a.2.2≤a.1.length∧a.1.length<4611686018427387904) (fun a=>[L a.1,I a.2.1,I a.2.2]) (fun a=>[L (sD a.1 a.2.1.toNat a.2.2.toNat)])):=by
 intro ps rs hf
 obtain ⟨⟨l,i,j⟩,⟨hi,hij,hj,hl⟩,rfl,rfl⟩:=gC hf
 dsimp only at hi hij hj hl ⊢
 obtain ⟨i,rfl⟩:=Int.eq_ofNat_of_zero_le hi
 obtain ⟨j,rfl⟩:=Int.eq_ofNat_of_zero_le (show (0:Int)≤j by omega)
 simp only[Int.toNat_natCast]
 have hij':i≤j:=by omega
 have hj':j≤l.length:=by omega
 have hcl:=QC hij' hj'
 refine ⟨l.map Row.row,(sD l i j).map Row.row,[I i,I j],rfl,rfl,fun h=>(by cases h),fun w O v us hes hxl hrow hOV hq=>?_⟩
 rw[List.length_map] at hxl hrow
 have hsx: ∀t,t<(sD l i j).length→(if t<i then t else t+(j-i))<l.length∧((sD l i j).map Row.row).getD t []=(l.map Row.row).getD (if t<i then t else t+(j-i)) []:=fun t ht=>by
  refine ⟨by split<;>omega,?_⟩
  simp only[List.getD_eq_getElem?_getD,List.getElem?_map,QD hij' hj']
 refine ⟨by rw[List.length_map];omega,fun t ht=>?_,?_⟩
 ·rw[List.length_map] at ht
  rw[(hsx t ht).2]
  exact hrow _ (hsx t ht).1
 match us,hq with
 | [u1,u2],⟨q1,q2,_⟩ =>
 cases q1 with
 | int _ =>
 cases q2 with
 | int _ =>
 rcases hOV with ⟨hx,A,rfl⟩ | ⟨g,c,T,cells,rfl,⟨hC1,hC2⟩,hc,hcell⟩
 ·have hl0:l=[]:=List.map_eq_nil_iff.1 hx
  subst hl0
  simp only[List.length_nil] at hj'
  obtain rfl:j=0:=by omega
  obtain rfl:i=0:=by omega
  refine (QA D A w).mono ?_
  rintro e w' ⟨rfl,rfl⟩
  exact ⟨.slice A 0 0,rfl,fun _=>rfl,.inl ⟨rfl,A,rfl⟩,fun _ _ _=>rfl,Nat.le_refl _,rfl,rfl,rfl⟩
 ·rw[List.length_map] at hc hcell ⊢
  by_cases e:i=j
  ·subst e
   have hcc:sD l i i=l:=List.take_append_drop i l
   refine (QB D g l.length c i w hc (by omega) hj').mono ?_
   rintro e w' ⟨rfl,rfl⟩
   refine ⟨_,rfl,fun _=>rfl,?_,fun _ _ _=>rfl,Nat.le_refl _,rfl,rfl,rfl⟩
   rw[hcc]
   by_cases h0:c=0
   ·subst h0
    have hf0:l=[]:=List.eq_nil_of_length_eq_zero (by omega)
    exact .inl ⟨by rw[hf0];rfl,some ⟨g,0,none⟩,by rw[hf0];rfl⟩
   ·exact .inr ⟨g,c,T,cells,by rw[List.length_map],.inl ⟨_,c,rfl,by omega⟩,⟨hC1,hC2⟩,fun cells0 T0 fr h=>by rw[hC1] at h;cases h;rfl,by rw[List.length_map];exact hc,by rw[List.length_map];exact hcell⟩
  ·have he:wx P (ρ.f 45)=Row.w α:=by
    have h0:=hrow 0 (by omega)
    have h3:0<l.length:=by omega
    rw[←h0];simp[List.getD_eq_getElem?_getD,h3,Row.len]
   rw[he] at hC2 hcell hrow hes ⊢
   refine (Po D hw hz1 hz2 i0 hi0 hi1 g l.length c i j cells T w hC1 hC2 hc (by omega) (by omega) hj' (fun t ht=>?_)).mono ?_
   ·have hd:t / Row.w α<l.length:=(Nat.div_lt_iff_lt_mul hw).2 ht
    obtain ⟨u,h3,h4⟩:=hcell (t / Row.w α) (t % Row.w α) hd (Nat.mod_lt _ hw)
    rw[Nat.div_add_mod'] at h3
    exact ⟨u,h3,h4.oneCell⟩
   ·rintro e w' ⟨rfl,v1,v2,hv1,rfl,hv2⟩
    have h5:(w.drew.setCells g (i*Row.w α) v1).heap[g]? =some (.cells (xf cells (i*Row.w α) v1) T (0,0)):=lU _ _ _ _ hC1
    have h6:=lU v2 _ _ ((i+(l.length-j))*Row.w α) h5
    have hmul:(l.length-j)*Row.w α+j*Row.w α=l.length*Row.w α:=by rw[←Nat.add_mul];congr 1;omega
    have hmul2:l.length*Row.w α≤cells.size:=by rw[hC2];exact Nat.mul_le_mul_right _ hc
    have hmul4:i*Row.w α+(l.length-j)*Row.w α=(i+(l.length-j))*Row.w α:=by rw[←Nat.add_mul]
    have hmul5:i*Row.w α≤j*Row.w α:=Nat.mul_le_mul_right _ hij'
    have hv1l:v1.length=(l.length-j)*Row.w α:=by rw[hv1];simp;omega
    have hcells: ∀t k,t<(sD l i j).length→k<Row.w α→(xf (xf cells (i*Row.w α) v1) ((i+(l.length-j))*Row.w α) v2)[t*Row.w α+k]? =cells[(if t<i then t else t+(j-i))*Row.w α+k]? :=fun t k ht hk=>by
     have h7:t*Row.w α+k<(i+(l.length-j))*Row.w α:=by
      have:(t+1)*Row.w α≤(i+(l.length-j))*Row.w α:=Nat.mul_le_mul_right _ (by omega)
      rw[Nat.add_mul,Nat.one_mul] at this;omega
     rw[xg _ _ _ _ h7]
     by_cases hti:t<i
     ·rw[if_pos hti,xg]
      have:(t+1)*Row.w α≤i*Row.w α:=Nat.mul_le_mul_right _ (by omega)
      rw[Nat.add_mul,Nat.one_mul] at this;omega
     ·rw[if_neg hti]
      obtain ⟨d,rfl⟩: ∃d,t=i+d:=⟨t-i,by omega⟩
      have e1:(i+d)*Row.w α+k=i*Row.w α+(d*Row.w α+k):=by rw[Nat.add_mul];omega
      have e2:(i+d+(j-i))*Row.w α+k=j*Row.w α+(d*Row.w α+k):=by
       rw[show i+d+(j-i)=j+d by omega,Nat.add_mul];omega
      rw[e1] at h7 ⊢
      rw[e2,OM _ _ _ _ (by omega) (by omega),hv1,List.getElem?_take_of_lt (by omega),List.getElem?_drop,Array.getElem?_toList]
    refine ⟨_,rfl,fun h=>(by cases h),.inr ⟨g,c,T,_,by rw[List.length_map,hcl],.inl ⟨_,c,rfl,by omega⟩,⟨h6,by rw[uH,uH];exact hC2⟩,fun cells0 T0 fr h=>by rw[hC1] at h;cases h;rfl,by rw[List.length_map];omega,fun t k ht hk=>?_⟩,fun g' hg' hz=>?_,?_,?_,?_,?_⟩
    ·rw[List.length_map] at ht
     obtain ⟨u,q1,q2⟩:=hcell _ k (hsx t ht).1 hk
     exact ⟨u,by rw[hcells t k ht hk];exact q1,by rw[(hsx t ht).2];exact q2⟩
    ·have hne:g'≠g:=fun e=>by have:=hz _ _ (by rw[e]);omega
     rw[World.heap_setCells_other _ _ _ _ (by rw[(cf g v1 w.drew _).1];exact hg') hne];exact World.heap_setCells_other w.drew _ _ _ hg' hne
    ·rw[(cf _ _ _ _).1,(cf _ _ _ _).1];exact Nat.le_refl _
    ·rw[(cf _ _ _ _).2.1,(cf _ _ _ _).2.1];rfl
    ·rw[(cf _ _ _ _).2.2.1,(cf _ _ _ _).2.2.1];rfl
    ·rw[(cf _ _ _ _).2.2.2,(cf _ _ _ _).2.2.2];rfl
end Go.Xt
