/- Steps towards the statements of this seat; the conditions stand in each theorem. -/
import Derived.Test.YtahdphncepnbeaaGreatDoorRho
import Derived.Test.YtahdphncepnbeaaGreatDoorEr5
set_option linter.unusedSimpArgs false
set_option linter.unusedVariables false
set_option maxRecDepth 100000
namespace Go.Xt
open Go Go.RowKit Go.Proofs
theorem Sl:SW Tryz.prog=[(⟨0,0,none⟩,NC)]:=by kernel_rfl
theorem Sm{w:Go.World}{b:Nat}(h:Laid Tryz.prog b w):w.cell? ⟨0,0,none⟩=some NC:=(h (⟨0,0,none⟩,NC) (by rw[Sl];exact List.mem_singleton.2 rfl)).2
theorem RP.err_of{w:Go.World}{O:Nat→Prop}{x:Er}{v:Value}(h:RP w O (E x) v):sQ w O θ x.j x.l v:=by unfold E at h;cases h with | err h=>exact h
theorem QZ(fn:Func)(hf:Tryz.prog.funcs[131]? =some fn):fn=Tryz.f131:=(Option.some.inj (Tryz.func131.symm.trans hf)).symm
theorem Aa:bZ Tryz.prog ⟨131,[],none,false⟩ (ρ 131):=by
 show PureOK _ _ nO
 refine ⟨fun fn hf _ ps rs hps p hp=>?_,fun h=>(by cases h),fun fn hf ps rs hps O w vs hO hgl hlen hq=>?_⟩
 ·obtain ⟨a,_,_,rfl⟩:=gC hps
  simp at hp;subst hp;rfl
 ·obtain ⟨x,hpre,rfl,rfl⟩:=gC hps
  obtain rfl:=QZ fn hf
  have h1:Tryz.f131.params.toList=[170]:=by kernel_rfl
  have h2:Tryz.f131.resultTypes.toList=[48]:=by kernel_rfl
  have a1:aD Tryz.prog 170=false:=by kernel_rfl
  have a2:aD Tryz.prog 48=false:=by kernel_rfl
  rw[h1] at hq
  match vs,hq with
  | [v],⟨q1,_⟩ =>
   rw[if_neg (by simp[a1])] at q1
   have he:sQ w O θ x.j x.l v:=RP.err_of q1
   refine (LC hpre (Sm hgl) he).mono ?_
   rintro ev w' ⟨rfl,hB⟩
   refine ⟨[.int .i64 (iN x.l)],fun _=>none,rfl,hB,fun _ g hg=>(by cases hg),fun _ _ g hg=>(by cases hg),?_⟩
   rw[h2]
   refine ⟨?_,trivial⟩
   rw[if_neg (by simp[a2])]
   show RP _ _ (I (iN x.l)) _
   refine .int ?_
   unfold iN
   split
   ·exact ⟨by simp[IntKind.min,IntKind.bits,IntKind.signed],by simp[IntKind.max,IntKind.bits,IntKind.signed]⟩
   ·cases hl:x.l with
    | nil=>exact ⟨by simp[IntKind.min,IntKind.bits,IntKind.signed],by simp[IntKind.max,IntKind.bits,IntKind.signed]⟩
    | cons e r =>
     simp only[List.headD_cons]
     rcases he with ⟨h,_⟩ | ⟨_,e',h,_,_,_,_,_,_,h5⟩ | ⟨_,_,b,g,c,_,_,_,_,_,h6⟩
     ·rw[h] at hl;cases hl
     ·rw[h] at hl;cases hl;exact h5
     ·obtain ⟨u,_,_,_,_,_,_,_,h5⟩:=h6 0 e (by rw[hl];rfl)
      exact h5
theorem NE(s:ByteArray)(n lo hi why:Int)(w:Go.World)(h1: ¬n<lo)(h2: ¬hi<n):Calls Tryz.prog 186 #[.string s,.int .i64 n,.int .i64 lo,.int .i64 hi,.int .i64 why] w fun ev w'=>ev=.returned .nilIface∧w'=w:=by
 have h2': ¬n>hi:=h2
 go_enter Tryz.func186,Tryz.ntmps186
 go_wp2
 go_ret
 exact ⟨rfl,rfl⟩
theorem PG(s:ByteArray)(n lo hi why:Int)(w:Go.World)(h:n<lo∨hi<n):Calls Tryz.prog 186 #[.string s,.int .i64 n,.int .i64 lo,.int .i64 hi,.int .i64 why] w fun ev w'=>ev=.returned (.iface 256 (.pointer (some ⟨w.heap.size,0,none⟩)))∧w'=w.alloc (.cells #[.string s,.iface 48 (.int .i64 why)] 258):=by
 by_cases h1:n<lo
 ·go_enter Tryz.func186,Tryz.ntmps186
  go_wp2
  go_ret
  exact ⟨rfl,rfl⟩
 ·have h2:n>hi:=h.resolve_left h1
  go_enter Tryz.func186,Tryz.ntmps186
  go_wp2
  go_ret
  exact ⟨rfl,rfl⟩
theorem Ab:bZ Tryz.prog ⟨186,[],none,false⟩ (ρ 186):=by
 show PureOK _ _ nN
 refine ⟨fun fn hf hall ps rs hps p hp=>?_,fun h=>(by cases h),fun fn hf ps rs hps O w vs hO hgl hlen hq=>?_⟩
 ·exfalso
  obtain rfl:=(Option.some.inj (Tryz.func186.symm.trans hf)).symm
  revert hall
  have:Tryz.f186.resultTypes.toList.all (fe Tryz.prog)=false:=by kernel_rfl
  rw[this];intro h;cases h
 ·obtain ⟨⟨s,n,lo,hi,why⟩,hpre,rfl,rfl⟩:=gC hps
  obtain rfl:=(Option.some.inj (Tryz.func186.symm.trans hf)).symm
  have h1:Tryz.f186.params.toList=[9,3,3,3,48]:=by kernel_rfl
  have h2:Tryz.f186.resultTypes.toList=[170]:=by kernel_rfl
  have a0:aD Tryz.prog 9=false:=by kernel_rfl
  have a1:aD Tryz.prog 170=false:=by kernel_rfl
  have a2:aD Tryz.prog 48=false:=by kernel_rfl
  have a3:aD Tryz.prog 3=false:=by kernel_rfl
  rw[h1] at hq
  match vs,hq with
  | [v0,v1,v2,v3,v4],hq =>
   simp only[ShQ,a0,a2,a3,Bool.false_eq_true,if_false,look] at hq
   obtain ⟨q0,q1,q2,q3,q4,_⟩:=hq
   obtain rfl:=q0.val_eq rfl
   obtain rfl:=q1.val_eq rfl
   obtain rfl:=q2.val_eq rfl
   obtain rfl:=q3.val_eq rfl
   obtain rfl:=q4.val_eq rfl
   have hwhy:inr .i64 why:=by cases q4 with | int h=>exact h
   by_cases hb:n<lo∨hi<n
   ·refine (PG s n lo hi why w hb).mono ?_
    rintro ev w' ⟨rfl,rfl⟩
    refine ⟨[.iface 256 (.pointer (some ⟨w.heap.size,0,none⟩))],fun _=>none,rfl,(Below.refl _ _).alloc (Nat.le_refl _) _,fun _ g hg=>(by cases hg),fun _ _ g hg=>(by cases hg),?_⟩
    rw[h2]
    refine ⟨?_,trivial⟩
    rw[if_neg (by simp[a1])]
    show RP _ _ (E ⟨false,if n<lo∨hi<n then [why] else []⟩) _
    rw[if_pos hb]
    refine .err (.inr (.inl ⟨rfl,why,rfl,w.heap.size,s,rfl,?_,by simp,by simp[θ],hwhy⟩))
    rintro (h | ⟨_,h⟩)
    ·have:=hO _ h;omega
    ·cases h
   ·refine (NE s n lo hi why w (fun h=>hb (.inl h)) (fun h=>hb (.inr h))).mono ?_
    rintro ev w' ⟨rfl,rfl⟩
    refine ⟨[.nilIface],fun _=>none,rfl,Below.refl _ _,fun _ g hg=>(by cases hg),fun _ _ g hg=>(by cases hg),?_⟩
    rw[h2]
    refine ⟨?_,trivial⟩
    rw[if_neg (by simp[a1])]
    show RP _ _ (E ⟨false,if n<lo∨hi<n then [why] else []⟩) _
    rw[if_neg hb]
    exact .err (.inl ⟨rfl,rfl⟩)
theorem OR: ∀(xs:List Er) (vs:List Value) (w:Go.World) (O:Nat→Prop),vs.length=xs.length→(∀x∈xs,x.j=false)→(∀(i:Nat) (x:Er) (v:Value),xs[i]? =some x→vs[i]? =some v→sQ w O θ x.j x.l v) →
  (nnv vs).length=(xs.flatMap (·.l)).length∧ ∀(i:Nat) (e:Int),(xs.flatMap (·.l))[i]? =some e→ ∃u,(nnv vs)[i]? =some u∧Er1 w O θ e u
 | [],[],w,O,_,_,_=>⟨rfl,fun i e h=>by simp at h⟩
 | x::xs,v::vs,w,O,hl,hj,h=>by
  obtain ⟨ih1,ih2⟩:=OR xs vs w O (by simpa using hl) (fun x hx=>hj x (by simp[hx])) fun i x v h1 h2=>h (i+1) x v (by simpa using h1) (by simpa using h2)
  have h0:=h 0 x v rfl rfl
  have hjx:=hj x (by simp)
  rcases h0 with ⟨h1,rfl⟩ | ⟨_,e,h1,h2⟩ | ⟨h1,_⟩
  ·have e1:nnv (Value.nilIface::vs)=nnv vs:=by simp[nnv,isNil]
   rw[e1]
   simp only[List.flatMap_cons,h1,List.nil_append]
   exact ⟨ih1,ih2⟩
  ·have hn:isNil v=false:=by obtain ⟨_,_,rfl,_⟩:=h2;rfl
   have e1:nnv (v::vs)=v::nnv vs:=by simp[nnv,hn]
   rw[e1]
   simp only[List.flatMap_cons,h1,List.cons_append,List.nil_append,List.length_cons]
   refine ⟨by omega,fun i e' he=>?_⟩
   cases i with
   | zero=>simp at he;subst he;exact ⟨v,rfl,h2⟩
   | succ i=>simpa using ih2 i e' (by simpa using he)
  ·rw[hjx] at h1;cases h1
 | [],_::_,_,_,h,_,_=>by simp at h
 | _::_,[],_,_,h,_,_=>by simp at h
theorem C0:bZ Tryz.prog ⟨185,[],none,false⟩ (ρ 185):=by
 show PureOK _ _ oZ
 refine ⟨fun fn hf hall ps rs hps p hp=>?_,fun h=>(by cases h),fun fn hf ps rs hps O w vs hO hgl hlen hq=>?_⟩
 ·exfalso
  obtain rfl:=(Option.some.inj (Tryz.func185.symm.trans hf)).symm
  revert hall
  have:Tryz.f185.resultTypes.toList.all (fe Tryz.prog)=false:=by kernel_rfl
  rw[this];intro h;cases h
 ·obtain ⟨xs,⟨hne,hle,hj⟩,rfl,rfl⟩:=gC hps
  obtain rfl:=(Option.some.inj (Tryz.func185.symm.trans hf)).symm
  have h1:Tryz.f185.params.toList=[252]:=by kernel_rfl
  have h2:Tryz.f185.resultTypes.toList=[170]:=by kernel_rfl
  have a0:aD Tryz.prog 252=false:=by kernel_rfl
  have a1:aD Tryz.prog 170=false:=by kernel_rfl
  rw[h1] at hq
  match vs,hq with
  | [v],hq =>
   simp only[ShQ,a0,Bool.false_eq_true,if_false,look] at hq
   obtain ⟨q0,_⟩:=hq
   obtain ⟨xs',A,n,c,es,f,ad,hp,rfl,hn,hc,hm,hes,hA,hO',hcell,hsub⟩:=RP.list_of q0
   cases hp
   simp only[List.length_map] at hn
   subst hn
   have hpos:0<xs.length:=List.length_pos_iff.2 hne
   have hes1:es=1:=by have:=hes 0 hpos;simp[List.getD_eq_getElem?_getD,hpos,Row.row] at this;omega
   subst hes1
   obtain rfl:=hA hpos
   have hsub': ∀i x,xs[i]? =some x→sQ w O θ x.j x.l (f i 0):=fun i x hx=>by
    have hi:=(List.getElem?_eq_some_iff.1 hx).1
    have:=hsub i 0 hi (by omega)
    have e:look ((xs.map Row.row).getD i []) 0=E x:=by simp[List.getD_eq_getElem?_getD,hx,Row.row,look]
    rw[e] at this
    exact RP.err_of this
   have hvl:((List.range xs.length).map fun i=>f i 0).length=xs.length:=by simp
   have hvi: ∀i v,((List.range xs.length).map fun i=>f i 0)[i]? =some v→i<xs.length∧v=f i 0:=fun i v h=>by
    have hi:=(List.getElem?_eq_some_iff.1 h).1
    simp at hi
    simp[hi] at h
    exact ⟨hi,h.symm⟩
   have hz:=OR xs _ w O hvl hj (fun i x v h1 h2=>by obtain ⟨_,rfl⟩:=hvi i v h2;exact hsub' i x h1)
   have hk:=ND ((List.range xs.length).map fun i=>f i 0) ad c w (by simpa using hle) (by simpa using hc) (fun i v h=>by
     obtain ⟨hi,rfl⟩:=hvi i v h
     have:=hcell i 0 hi (by omega)
     simpa using this) (fun v hv=>by
     obtain ⟨i,hi⟩:=List.mem_iff_getElem?.1 hv
     obtain ⟨hl,rfl⟩:=hvi i v hi
     exact (hsub' i xs[i] (by simp[hl])).shape)
   rw[hvl] at hk
   generalize hq:nnv ((List.range xs.length).map fun i=>f i 0)=q at *
   refine hk.mono ?_
   rintro ev w' ⟨hB,hres⟩
   have hkeep: ∀g,g<w.heap.size→ ¬O g→w'.heap[g]? =w.heap[g]? ∧ ¬(O g∨ ∃_i:Nat,(none:Option Nat)=some g):=fun g hg ho=>⟨hB.block g hg,fun h=>by rcases h with h | ⟨_,h⟩;exact ho h;cases h⟩
   have hnew: ∀g,w.heap.size≤g→ ¬(O g∨ ∃_i:Nat,(none:Option Nat)=some g):=fun g hg h=>by
    rcases h with h | ⟨_,h⟩
    ·have:=hO g h;omega
    ·cases h
   rcases hres with ⟨h3,rfl⟩ | ⟨h3,b,g,c',rfl,hb,hg,hlc,hcb,hcs⟩
   ·refine ⟨[.nilIface],fun _=>none,rfl,hB,fun _ g hg=>(by cases hg),fun _ _ g hg=>(by cases hg),?_⟩
    rw[h2]
    refine ⟨?_,trivial⟩
    rw[if_neg (by simp[a1])]
    show RP _ _ (E ⟨true,xs.flatMap (·.l)⟩) _
    have e0:xs.flatMap (·.l)=[]:=List.eq_nil_of_length_eq_zero (by rw[←hz.1,h3];rfl)
    exact .err (.inl ⟨e0,rfl⟩)
   ·refine ⟨[.iface 253 (.pointer (some ⟨b,0,none⟩))],fun _=>none,rfl,hB,fun _ g hg=>(by cases hg),fun _ _ g hg=>(by cases hg),?_⟩
    rw[h2]
    refine ⟨?_,trivial⟩
    rw[if_neg (by simp[a1])]
    show RP _ _ (E ⟨true,xs.flatMap (·.l)⟩) _
    refine .err (.inr (.inr ⟨rfl,fun e=>h3 (List.eq_nil_of_length_eq_zero (by rw[hz.1];exact congrArg List.length e)),b,g,c',rfl,hnew b hb,by rw[←hz.1];exact hcb,by rw[←hz.1];exact hlc,hnew g hg,fun i e he=>?_⟩))
    obtain ⟨u,hu,hr⟩:=hz.2 i e he
    exact ⟨u,hcs i u hu,hr.mono hkeep⟩
end Go.Xt
