/- Steps towards the statements of this seat; the conditions stand in each theorem. -/
import Derived.OwnWalk
import Derived.Test.YtahdphncepnbeaaGreatDoorEr4
set_option linter.unusedSimpArgs false
set_option linter.unusedVariables false
set_option maxRecDepth 100000
namespace Go.Xt
open Go Go.RowKit Go.Extern.Stop Go.Stop Go.Extern Go.Proofs
def isNil:Value→Bool
 | .nilIface=>true
 | _=>false
def nnv(vs:List Value):List Value:=vs.filter (fun v=> !isNil v)
theorem LD{vs:List Value}{k:Nat}{v:Value}(h:vs[k]? =some v):nnv (vs.take (k+1))=nnv (vs.take k)++(if isNil v then [] else [v]):=by
 rw[List.take_add_one,h]
 simp only[nnv,Option.toList_some,List.filter_append]
 cases hv:isNil v<;>simp[hv]
theorem Sk:(Tryz.prog.info? 170).map (fun i=>(i.zero,i.size,i.bytes))=some (some .nilIface,1,16):=by kernel_rfl
theorem LE(w:World)(v:Value)(T:TypeId):(w.alloc (.cells #[v] T)).cell? ((⟨w.heap.size,0,none⟩:Addr).add 0)=some v:=by
 show (w.alloc (.cells #[v] T)).cell? ⟨w.heap.size,0,none⟩=some v
 simp
set_option maxHeartbeats 4000000 in
theorem ND(vs:List Value)(ad:Addr)(c:Nat)(w:World)(hn:vs.length≤1000)(hc:vs.length≤c)(hcell: ∀i v,vs[i]? =some v→w.cell? (ad.add i)=some v)
  (hv: ∀v∈vs,v=.nilIface∨ ∃t u,v=.iface t u) :
  Calls Tryz.prog 185 #[.slice (some ad) vs.length c] w fun ev w'=>Below w.heap.size w w' ∧
   ((nnv vs=[]∧ev=.returned .nilIface)∨(nnv vs≠[]∧ ∃b g c',ev=.returned (.iface 253 (.pointer (some ⟨b,0,none⟩)))∧w.heap.size≤b∧w.heap.size≤g∧(nnv vs).length≤c' ∧
    w'.cell? ⟨b,0,none⟩=some (.slice (some ⟨g,0,none⟩) (nnv vs).length c')∧ ∀i u,(nnv vs)[i]? =some u→w'.cell? ⟨g,i,none⟩=some u)):=by
 have HC:=(⟨hcell⟩:PLift _)
 clear hcell
 go_enter Tryz.func185,Tryz.ntmps185
 go_wp2
 go_loopw [3,11] (fun n i wl=>wl=w∧ ∃k:Nat,i=.int .i64 k∧k≤vs.length∧n=.int .i64 ((nnv (vs.take k)).length:Nat)) (fun _ i _=>vs.length-(intOf i).toNat)
 case atStart=>exact ⟨rfl,0,rfl,by omega,by simp[nnv]⟩
 case round =>
  obtain ⟨hw0,k,rfl,hk,rfl⟩:=hrel
  have hw1:=hw0.symm
  subst hw1
  by_cases hlt:k<vs.length
  ·have hlt':(k:Int)<vs.length:=by omega
   have hx:vs[k]? =some vs[k]:=by simp[hlt]
   have hcl:=HC.down k vs[k] hx
   have hnt:=LD hx
   rcases hv _ (List.getElem_mem hlt) with e | ⟨ty,p,e⟩
   ·rw[e] at hcl
    have hnt':nnv (vs.take (k+1))=nnv (vs.take k):=by rw[hnt,e];simp[isNil]
    clear hnt
    go_wp2
    go_roundw
    case rel=>exact ⟨trivial,k+1,by simp,by omega,by rw[hnt']⟩
    case measure=>simp[intOf];omega
   ·rw[e] at hcl
    have hnt':(nnv (vs.take (k+1))).length=(nnv (vs.take k)).length+1:=by rw[hnt,e];simp[isNil]
    clear hnt
    have hle:(nnv (vs.take k)).length≤1000:=Nat.le_trans (List.length_filter_le _ _) (by simp;omega)
    go_wp2
    go_roundw
    case rel=>exact ⟨trivial,k+1,by simp,by omega,by rw[hnt'];simp⟩
    case measure=>simp[intOf];omega
  ·have hlt': ¬(k:Int)<vs.length:=by omega
   have hk':vs.take k=vs:=List.take_of_length_le (by omega)
   rw[hk']
   by_cases hz:nnv vs=[]
   ·rw[hz]
    go_wp2
    go_ret
    exact ⟨Below.refl _ _,rfl⟩
   ·have hz': ¬((nnv vs).length:Int)=0:=by simp[hz]
    have hlen:(nnv vs).length≤1000:=Nat.le_trans (List.length_filter_le _ _) hn
    generalize hL:(nnv vs).length=len at *
    obtain ⟨i,hi,hz0,hz1,hz2⟩:=info_parts Sk
    go_wp2_with (first | (at_make;refine wpList_make_own _ rfl _ _ 252 rfl w.heap.size 170 i .nilIface 1 Tryz.underlying252 hi hz0 hz1 .i64 .i64 _ len rfl rfl rfl (by rw[hz2];omega) (by unfold maxLen;omega) (Nat.le_refl _) ?_) | go_in)
    intro w1 hown hgrow
    have hg:w.heap.size<w1.heap.size:=(hown.lt _ rfl).2
    have hsz:=hgrow.size
    have HO:=(⟨hown⟩:PLift _)
    have HG:=(⟨hgrow⟩:PLift _)
    clear hown hgrow
    go_wp2_with fail
    generalize hgq:w.heap.size=gq at *
    generalize hbq:w1.heap.size=bq at *
    go_loopw [28] (fun i wl=> ∃k:Nat,i=.int .i64 k∧k≤vs.length∧Below gq w wl∧bq<wl.heap.size∧wl.cell? ⟨bq,0,none⟩=some (.slice (some ⟨gq,0,none⟩) (nnv (vs.take k)).length len) ∧
      wl.frozen? ⟨bq,0,none⟩=false∧wl.ownsRow gq 170 1 (.slice (some ⟨gq,0,none⟩) (nnv (vs.take k)).length len) (nnv (vs.take k)).length (nnv (vs.take k))) (fun i _=>vs.length-(intOf i).toNat)
    case atStart =>
     refine ⟨0,rfl,by omega,?_,?_,?_,?_,?_⟩
     ·subst hgq
      exact (Below.refl _ w).grown HG.down (Nat.le_refl _) (fun k hk=>by cases hk) |>.alloc (by omega) _
     ·simp[←hbq]
     ·subst hbq;simp[nnv]
     ·subst hbq;simp
     ·exact World.ownsRow.alloc (by simpa[nnv] using HO.down) _
    case round =>
     obtain ⟨k,rfl,hk,hBel,hbl,hcb,hfb,hown⟩:=hrel
     have HB:=(⟨hBel⟩:PLift _)
     have HO2:=(⟨hown⟩:PLift _)
     clear hBel hown
     by_cases hlt:k<vs.length
     ·have hlt':(k:Int)<vs.length:=by omega
      have hx:vs[k]? =some vs[k]:=by simp[hlt]
      have hcl0:=HC.down k vs[k] hx
      have hcl:wr.cell? (ad.add k)=some vs[k]:=by
       have h1:=Go.Xt.cell_lt hcl0
       rw[HB.down.cell (by omega)];exact hcl0
      clear hcl0
      have hnt:=LD hx
      rcases hv _ (List.getElem_mem hlt) with e | ⟨ty,p,e⟩
      ·rw[e] at hcl
       have hnt':nnv (vs.take (k+1))=nnv (vs.take k):=by rw[hnt,e];simp[isNil]
       clear hnt
       have HR:=(⟨⟨hbl,hcb,hfb⟩⟩:PLift (_∧_∧_))
       clear hbl hcb hfb
       go_wp2
       go_roundw
       case rel=>exact ⟨k+1,by simp,by omega,HB.down,HR.down.1,by rw[hnt'];exact HR.down.2.1,HR.down.2.2,by rw[hnt'];exact HO2.down⟩
       case measure=>simp[intOf];omega
      ·rw[e] at hcl
       have hnt':nnv (vs.take (k+1))=nnv (vs.take k)++[.iface ty p]:=by rw[hnt,e];simp[isNil]
       clear hnt
       have hle:(nnv (vs.take k)).length+1≤len:=by
        have h1:(nnv (vs.take (k+1))).length≤(nnv vs).length:=List.Sublist.length_le ((List.take_sublist _ _).filter _)
        rw[hnt',hL] at h1
        simpa using h1
       generalize hdn:nnv (vs.take k)=dn at *
       go_wp2_with (first | (at_builtin;refine wpList_append_fits (wr.alloc (.cells #[.iface ty p] 170)) rfl _ _ 252 rfl gq 170 i 1 Tryz.underlying252 hi hz1 gq dn.length len dn rfl (HO2.down.alloc _) ⟨wr.heap.size,0,none⟩ 1 1 [.iface ty p] rfl rfl (fun j u hu=>by
         match j,hu with
         | 0,hu=>have hu':=Option.some.inj hu;subst hu';exact LE _ _ _) (by intro u hu;simp at hu;subst hu;rfl) hle ?_) | go_in)
       intro w2 hown2 hgrow2
       have hgb:gq<bq:=by omega
       have hc2:w2.cell? ⟨bq,0,none⟩=some (.slice (some ⟨gq,0,none⟩) dn.length len):=by
        refine hgrow2.cell ?_ (by simp;omega)
        rw[World.cell?_alloc_lt _ _ ⟨bq,0,none⟩ hbl];exact hcb
       have hf2:w2.frozen? ⟨bq,0,none⟩=false:=by
        rw[World.frozen?_of_block (w:=wr.alloc (.cells #[.iface ty p] 170)) (hgrow2.block bq (by simp;omega) (by simp;omega)),World.frozen?_alloc_old _ _ ⟨bq,0,none⟩ (Nat.ne_of_lt hbl)];exact hfb
       have hs2:bq<w2.heap.size:=Nat.lt_of_lt_of_le hbl (Nat.le_trans (by simp) hgrow2.size)
       have hB2:Below gq w w2:=(HB.down.alloc (by omega) _).grown hgrow2 (by simp;omega) (fun k hk=>by cases hk;exact Nat.le_refl _)
       have HR:=(⟨⟨hown2,hgrow2,hB2,hs2,hc2,hf2⟩⟩:PLift (_∧_∧_∧_∧_∧_))
       clear hown2 hgrow2 hB2 hs2 hbl hcb hfb
       go_wp2_with fail
       go_roundw
       case rel =>
        obtain ⟨r1,r2,r3,r4,r5,r6⟩:=HR.down
        have hGB:w2.grownBy (w2.setCell ⟨bq,0,none⟩ (.slice (some ⟨gq,0,none⟩) (dn.length+1) len)) (some bq) :=
         ⟨rfl,rfl,rfl,by simp[World.setCell],fun k hk hne=>Below.heap_setCell _ _ _ _ (fun e=>hne (by rw[e]))⟩
        refine ⟨k+1,by simp,by omega,r3.setCell (Nat.le_of_lt hgb) _,by simpa[World.setCell] using r4,?_,by simpa using r6,?_⟩
        ·rw[World.cell?_setCell_same' _ _ _ (by rw[r5];rfl),hnt'];simp
        ·rw[hnt']
         simpa using r1.kept hGB (.inr (by simp[Value.ownBlock];omega))
       case measure=>simp[intOf];omega
     ·have hlt': ¬(k:Int)<vs.length:=by omega
      have hk':vs.take k=vs:=List.take_of_length_le (by omega)
      rw[hk'] at HO2 hcb
      go_wp2
      go_ret
      refine ⟨HB.down,bq,rfl,by omega,gq,Nat.le_refl _,len,Nat.le_refl _,by simpa[hL] using hcb,fun i u hu=>?_⟩
      rw[HO2.down.cellAt i (by have:=(List.getElem?_eq_some_iff.1 hu).1;omega)];exact hu
end Go.Xt
