/- Steps towards the statements of this seat; the conditions stand in each theorem. -/
import Derived.Shelf.Spec.SlicesGrow
import Derived.Test.YtahdphncepnbeaaGreatDoorXtI
import Derived.Test.YtahdphncepnbeaaGreatDoorV2
set_option linter.unusedSimpArgs false
set_option linter.unusedVariables false
namespace Go.Xt
open Go.RowKit Go.Proofs Go.Shelf Go.Lib
theorem Sa{P:Program}{ρ:Ren}{α:Type}[Row α](D:Lays8.n4 P ρ)(i0:TypeInfo)(z:Value)(hi0:P.info? (ρ.t 25)=some i0)(hz0:i0.zero=some z)(hs0:0<i0.size)(hb:i0.bytes≤1000)(hzc:z.cells.size=wx P (ρ.f 4)) :
  G0 P (ρ.f 4) (qq (fun (a:List α×Int)=>a.1=[]∧0≤a.2∧a.2≤1000000) (fun a=>[L a.1,I a.2]) (fun a=>[L a.1])):=by
 intro ps rs hf
 obtain ⟨⟨l,n⟩,⟨hl,hn,hm⟩,rfl,rfl⟩:=gC hf
 dsimp only at hl hn hm ⊢
 subst hl
 obtain ⟨n,rfl⟩:=Int.eq_ofNat_of_zero_le hn
 refine ⟨[],[],[I (n:Int)],rfl,rfl,fun w O A us hes _ hq=>⟨by simp,fun i hi=>by simp at hi,?_⟩⟩
 match us,hq with
 | [u1],⟨q1,_⟩ =>
 cases q1 with
 | int _ =>
 rcases Nat.eq_zero_or_pos n with h0 | h0
 ·subst h0
  refine (Any8.slices_Grow_room D A 0 0 0 w (Nat.le_refl _) (by decide) (by decide) (by decide)).mono ?_
  rintro e w' ⟨rfl,rfl⟩
  exact ⟨_,rfl,.inl ⟨rfl,A,rfl⟩,fun _ _=>rfl,Nat.le_refl _,rfl,rfl,rfl⟩
 ·have hbig:(0+n)*i0.bytes≤140737488355328:=by
   have:(0+n)*i0.bytes≤1000000*1000:=Nat.mul_le_mul (by omega) hb
   omega
  refine (Any8.slices_Grow_grow D i0 z hi0 hz0 hs0 A 0 0 n [] w (Nat.le_refl _) (by omega) hbig (by omega) (by simp) (fun _=>rfl) (fun a _ j v h=>by simp at h)).mono ?_
  rintro e w' ⟨rfl,rfl⟩
  have hG:0+n≤grownCap w (0+n) 0 (ρ.t 25):=grownCap_ge w _ _ _
  refine ⟨_,rfl,.inr ⟨w.heap.size,grownCap w (0+n) 0 (ρ.t 25),ρ.t 25,(#[]++Builtin.zeroCells z.cells (0+n-0)++Builtin.zeroCells z.cells (grownCap w (0+n) 0 (ρ.t 25)-(0+n))),rfl,.inr (Nat.le_refl _),⟨?_,?_⟩,fun cells0 T0 fr h=>?_,by simp,fun i j hi=>by simp at hi⟩,fun g' hg'=>?_,?_,rfl,rfl,rfl⟩
  ·show (w.heap.push _)[w.heap.size]? =_
   simp
  ·simp only[Array.size_append,Builtin.zeroCells,Array.size_map,Array.size_range,hzc]
   simp only[List.size_toArray,List.length_nil,Nat.zero_add,Nat.sub_zero] at hG ⊢
   rw[←Nat.add_mul]
   congr 1;omega
  ·rw[Array.getElem?_eq_none (Nat.le_refl _)] at h;cases h
  ·exact Below.heap_alloc _ _ _ hg'
  ·show w.heap.size≤(w.heap.push _).size
   simp
end Go.Xt
