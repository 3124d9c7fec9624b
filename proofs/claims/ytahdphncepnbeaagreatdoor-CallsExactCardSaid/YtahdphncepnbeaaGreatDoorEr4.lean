/- Steps towards the statements of this seat; the conditions stand in each theorem. -/
import Derived.Test.YtahdphncepnbeaaGreatDoorXtI
import Derived.Test.YtahdphncepnbeaaGreatDoorTh
import Derived.Test.YtahdphncepnbeaaGreatDoorEr3
set_option linter.unusedSimpArgs false
set_option linter.unusedVariables false
set_option maxRecDepth 100000
namespace Go.Xt
open Go Go.RowKit Go.Extern.Stop Go.Stop Go.Extern Go.Proofs
theorem BZ(ty:TypeId)(p:Value)(r:Bool)(e:Int)(w:World)(hg:w.cell? ⟨0,0,none⟩=some NC)
  (hIs:Calls Tryz.prog 228 #[.iface ty p,.iface 48 (.int .i64 9),.bool true] w fun ev w'=>ev=.returned (.bool r)∧w'=w)
  (hAs: ∀(a ta:Addr) (old:Value) (w1:World),Below w.heap.size w w1→w1.cell? a=some (.pointer (some ta))→w1.cell? ta=some old→w1.frozen? ta=false→
   Calls Tryz.prog 232 #[.iface ty p,.iface 210 (.pointer (some ta)),vTa a,hTy] w1 fun ev w'=>ev=.returned (.bool true)∧yz ta e w1 w') :
  Calls Tryz.prog 131 #[.iface ty p] w fun ev w'=>ev=.returned (.int .i64 (if r then 9 else e))∧Below w.heap.size w w':=by
 have hlt:0<w.heap.size:=Go.Xt.cell_lt hg
 have h1:=Sd ty p 9 r w hIs
 have h2:=Sj ty p e ⟨w.heap.size,0,none⟩ (.int .i64 0) (w.alloc (.cells #[.int .i64 0] 48))
  (by rw[World.cell?_alloc_lt _ _ ⟨0,0,none⟩ hlt];exact hg) (by simp)
  (fun a w1 hB ha=>hAs a _ (.int .i64 0) w1 (((Below.refl _ w).alloc (Nat.le_refl _) _).trans (hB.mono (by simp))) ha (by rw[hB.cell (by simp)];simp) (by rw[hB.frozen (by simp)];simp))
 clear hAs hIs
 cases r with
 | true =>
  go_enter Tryz.func131,Tryz.ntmps131
  go_wp2_with (first | (go_at_call 183;refine h1.mono ?_;rintro ev w' ⟨rfl,rfl⟩) | (go_at_call 184;refine h2.mono ?_;rintro ev w' ⟨rfl,hB,hc⟩) | go_in)
  go_ret
  exact ⟨rfl,Below.refl _ _⟩
 | false =>
  go_enter Tryz.func131,Tryz.ntmps131
  go_wp2_with (first | (go_at_call 183;refine h1.mono ?_;rintro ev w' ⟨rfl,rfl⟩) | (go_at_call 184;refine h2.mono ?_;rintro ev w' ⟨rfl,hB,hc⟩) | go_in)
  go_ret
  exact ⟨rfl,((Below.refl _ _).alloc (Nat.le_refl _) _).trans hB⟩
theorem PE(w:World):Calls Tryz.prog 131 #[.nilIface] w fun ev w'=>ev=.returned (.int .i64 0)∧Below w.heap.size w w':=by
 have h1:=TI 9 w
 have h2:=TK
 go_enter Tryz.func131,Tryz.ntmps131
 go_wp2_with (first | (go_at_call 183;refine h1.mono ?_;rintro ev w' ⟨rfl,rfl⟩) | (go_at_call 184;refine (h2 _ _).mono ?_;rintro ev w' ⟨rfl,rfl⟩) | go_in)
 go_ret
 exact ⟨rfl,(Below.refl _ _).alloc (Nat.le_refl _) _⟩
theorem PF{w:World}{O:Nat→Prop}{b g c:Nat}{l:List Int}(h3:w.cell? ⟨b,0,none⟩=some (.slice (some ⟨g,0,none⟩) l.length c))(h4:l.length≤c)
  (h6: ∀i e,l[i]? =some e→ ∃u,w.cell? ⟨g,i,none⟩=some u∧Er1 w O θ e u):yy w b g c l:=by
 refine ⟨h3,h4,fun i e he=>?_⟩
 obtain ⟨u,hu,bb,s,rfl,_,_,h8,_⟩:=h6 i e he
 exact ⟨bb,hu,h8⟩
theorem yy.below{w w':World}{b g c:Nat}{l:List Int}(h:yy w b g c l)(hB:Below w.heap.size w w'):yy w' b g c l:=by
 obtain ⟨h1,h2,h3⟩:=h
 refine ⟨by rw[hB.cell (Go.Xt.cell_lt h1)];exact h1,h2,fun i e he=>?_⟩
 obtain ⟨u,h4,h5⟩:=h3 i e he
 exact ⟨u,by rw[hB.cell (Go.Xt.cell_lt h4)];exact h4,by rw[hB.cell (Go.Xt.cell_lt h5)];exact h5⟩
theorem LC{O:Nat→Prop}{j:Bool}{l:List Int}{v:Value}{w:World}(hl:l.length≤1000)(hg:w.cell? ⟨0,0,none⟩=some NC)(h:sQ w O θ j l v) :
  Calls Tryz.prog 131 #[v] w fun ev w'=>ev=.returned (.int .i64 (iN l))∧Below w.heap.size w w':=by
 rcases h with ⟨rfl,rfl⟩ | ⟨_,e,rfl,b,s,rfl,_,h3,h4,_⟩ | ⟨_,hne,b,g,c,rfl,_,h3,h4,_,h6⟩
 ·exact PE w
 ·have:=BZ 256 (.pointer (some ⟨b,0,none⟩)) (e == 9) e w hg (Lw e 9 b w h4) (fun a ta old w1 hB ha ht hf=>LB e b a ta old w1 (by rw[hB.cell (Go.Xt.cell_lt h4)];exact h4) ha ht hf)
  refine this.mono ?_
  rintro ev w' ⟨rfl,hB⟩
  refine ⟨?_,hB⟩
  by_cases e9:e=9
  ·subst e9;rfl
  ·simp[iN,e9,Ne.symm e9]
 ·have hJ:=PF h3 h4 h6
  obtain ⟨e,r,rfl⟩:=List.exists_cons_of_ne_nil hne
  have:=BZ 253 (.pointer (some ⟨b,0,none⟩)) (decide (9∈e::r)) e w hg (Sc (e::r) 9 b g c w hl hJ) (fun a ta old w1 hB ha ht hf=>Sf e r b g c a ta old w1 (hJ.below hB) (by simp at hl;omega) ha ht hf)
  refine this.mono ?_
  rintro ev w' ⟨rfl,hB⟩
  refine ⟨?_,hB⟩
  by_cases e9:9∈e::r<;>simp[iN,e9]
end Go.Xt
