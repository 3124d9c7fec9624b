/- Steps towards the statements of this seat; the conditions stand in each theorem. -/
import Derived.Test.YtbahjmohodgadaaGreatDoorXt11
/- Calls that turn an own row of numbers in place. -/
set_option linter.unusedSimpArgs false
set_option linter.unusedVariables false
namespace Go.Xt
open Go.RowKit

def ILp (zs : List Int) : List (List PV) := zs.map fun n => [.int .i64 n]

/-- where an own row of numbers lies -/
def IntsAt (w : World) (g c : Nat) (T : TypeId) (zs : List Int) : Prop :=
  ∃ cells : Array Value, w.heap[g]? = some (.cells cells T (0, 0)) ∧ cells.size = c ∧ zs.length ≤ c ∧ ∀ i, i < zs.length → cells[i]? = some (.int .i64 (zs.getD i 0))

/-- a function that turns a row of numbers in place; 'fin': it hands the row back, maybe shorter -/
def IpOK (P : Program) (K : Nat) (fin : Bool) (f : List PV → Option (List PV)) : Prop :=
  ∀ ps rs, f ps = some rs → ∃ zs ys : List Int, ps = [.list (ILp zs)] ∧ rs = [.list (ILp ys)] ∧ ys.length ≤ zs.length ∧ (fin = false → ys.length = zs.length) ∧ (∀ y ∈ ys, y ∈ zs) ∧
    (∀ (w : World) (g c : Nat) (T : TypeId), IntsAt w g c T zs → Calls P K #[.slice (some ⟨g, 0, none⟩) zs.length c] w (fun e w' => e = .returned (if fin then .slice (some ⟨g, 0, none⟩) ys.length c else .tuple #[]) ∧
      IntsAt w' g c T ys ∧ (∀ g', g' < w.heap.size → g' ≠ g → w'.heap[g']? = w.heap[g']?) ∧ w.heap.size ≤ w'.heap.size ∧ w'.os = w.os ∧ w'.tape = w.tape ∧ w'.output = w.output)) ∧
    (∀ (w : World) (A : Option Addr), zs = [] → Calls P K #[.slice A 0 0] w (fun e w' => e = .returned (if fin then .slice A 0 0 else .tuple #[]) ∧ Below w.heap.size w w'))

section
variable {P : Program} {tab : List Sig} {inl : Code → CS → Cont → Option T} {B : Bas P} {env env' : List PV} {κ κ' : Kap} {cs : CS} {tm : Nat → Value} {w w' : World} {a : Act} {ρ : Fns} {L : List (T × Nat)} {r : List PV → Prop}

theorem ILp_getD (zs : List Int) (i : Nat) (h : i < zs.length) : (ILp zs).getD i [] = [.int .i64 (zs.getD i 0)] := by
  simp [ILp, List.getD_eq_getElem?_getD, h]

theorem ILp_rows (zs : List Int) (i : Nat) (h : i < (ILp zs).length) : ((ILp zs).getD i []).length = 1 := by
  rw [ILp_getD zs i (by simpa [ILp] using h)]; rfl

theorem RP.val_eq' {O : Nat → Prop} {kk : IntKind} {m : Int} {v : Value} (h : RP w O (.int kk m) v) : v = .int kk m := by cases h; rfl

theorem ipCall_sound (R : Rel B env κ cs tm w) {K : Nat} {fin : Bool} (hI : IpOK P K fin (ρ K)) {args : List SV} {us : List Value} {k : SV → CS → Option T} {T0 : T} {n : Nat}
    (h : ipCall K fin args cs k = some T0) (hev : EvN ρ n T0 env L r) (hr : All2 (RelSV env κ cs.heap w) args us) :
    Calls P K us.toArray w (fun e w' => ∃ v, e = .returned v ∧ Goes ρ B env cs tm w n L r k v w') := by
  unfold ipCall at h
  split at h
  · rename_i b
    split at h
    · rename_i es x hb
      split at h
      · rename_i hes
        subst hes
        cases us with
        | nil => exact hr.elim
        | cons v us =>
          cases us with
          | cons _ _ => exact hr.2.elim
          | nil =>
            obtain ⟨es1, x1, xs, h1, h2, h3, h4⟩ := hr.1
            rw [hb] at h1; cases h1
            have hlen : xs.length ≤ 2 ^ 63 - 1 := by
              obtain ⟨_, _, xs', k3, k4, _⟩ := R.hblk b _ hb
              rw [h3] at k3; cases k3; exact k4
            have hT : ∃ T1, T0 = .call K [x] 1 T1 ∧ (if fin = true then k (.one (.own b)) { (cs.newB b (.arr 1 (.v cs.d))) with d := cs.d + 1 } else k (.tup []) { (cs.writeB b (.arr 1 (.v cs.d))) with d := cs.d + 1 }) = some T1 := by
              cases fin with
              | true => obtain ⟨T1, q1, rfl⟩ := Option.map_eq_some_iff.1 h; exact ⟨T1, rfl, by simpa using q1⟩
              | false => obtain ⟨T1, q1, rfl⟩ := Option.map_eq_some_iff.1 h; exact ⟨T1, rfl, by simpa using q1⟩
            obtain ⟨T1, rfl, hk⟩ := hT
            obtain ⟨n', rs, rfl, h5, h6, h7⟩ := hev.call
            simp only [List.map_cons, List.map_nil, h3] at h5
            obtain ⟨zs, ys, e1, rfl, hle, hfl, hmem, hrun, hnil⟩ := hI _ _ h5
            simp only [List.cons.injEq, PV.list.injEq, and_true] at e1
            subst e1
            have hyl : (ILp ys).length ≤ 2 ^ 63 - 1 := by simp [ILp] at hlen ⊢; omega
            have hev2 := h7 (by intro p hp; simp at hp; subst hp; exact hyl)
            have hyr : ∀ i, i < (ILp ys).length → ((ILp ys).getD i []).length = 1 := ILp_rows ys
            have hnew : den (env ++ [.list (ILp ys)]) (.v cs.d) = .list (ILp ys) := by rw [← R.henv]; simp [den, look_new]
            have hlt : Atom.lt (env ++ [PV.list (ILp ys)]).length (.v cs.d) = true := by simp [Atom.lt, R.henv]
            rcases h4 with ⟨hκ, hz, A, rfl⟩ | ⟨g, c, cells, T, hκ, rfl, hc, hg, hsz⟩
            · have hz' : zs = [] := by simpa [ILp] using hz
              subst hz'
              have hys : ys = [] := List.eq_nil_of_length_eq_zero (by simpa using hle)
              subst hys
              refine (hnil w A rfl).mono ?_
              rintro e w' ⟨rfl, hB⟩
              have R1 : Rel B env κ cs tm w' := by
                have := R.grow [] (w' := w') (fun g hg => hB.block g hg) hB.size
                simpa using this
              cases fin with
              | true =>
                obtain ⟨q1, q2⟩ := R1.newNil b 1 (by omega) A
                simp only [if_true] at hk ⊢
                exact ⟨_, rfl, [_], _, _, .one (.own b), n', T1, hk, Nat.le_succ _, hev2, q1, q2, hB.mono R.hB, ⟨rfl, rfl, rfl, Nat.le_refl _⟩⟩
              | false =>
                simp only [Bool.false_eq_true, if_false] at hk ⊢
                have F := foc_write (w' := w') R1 b (.arr 1 (.v cs.d)) [.list (ILp [])] (fun _ _ _ => rfl) (Nat.le_refl _)
                have R2 := R1.wr (blk := .arr 1 (.v cs.d)) [.list (ILp [])] ⟨F, rfl, (fun l' h => by rw [hb] at h; cases h), (fun es2 x2 h => by
                    rw [hb] at h; cases h
                    exact ⟨.v cs.d, by rw [writeB_heap, if_pos rfl]; rfl, hlt, fun xs2 h => by rw [h3] at h; cases h; exact ⟨_, hnew, rfl⟩⟩), (fun g2 cells T2 h4 h5 => by rw [hκ] at h4; cases h4)⟩
                  ⟨hlt, by omega, _, hnew, hyl, hyr, .inl ⟨hκ, rfl⟩⟩
                exact ⟨_, rfl, [_], _, _, .tup [], n', T1, hk, Nat.le_succ _, hev2, R2, ⟨#[], rfl, trivial⟩, hB.mono R.hB, ⟨rfl, rfl, rfl, Nat.le_refl _⟩⟩
            · obtain ⟨_, _, xs', k3, k4, k5, k6⟩ := R.hblk b _ hb
              rw [h3] at k3; cases k3
              rcases k6 with ⟨k6, _⟩ | ⟨g', cur, T', c', k6, k7, k8, k9, k10⟩
              · rw [hκ] at k6; cases k6
              · rw [hκ] at k6; cases k6
                rw [hg] at k7; cases k7
                have hzl : (ILp zs).length = zs.length := by simp [ILp]
                rw [hzl] at hc k10 ⊢
                have hat : IntsAt w g c T zs := by
                  refine ⟨cells, hg, by omega, hc, fun i hi => ?_⟩
                  obtain ⟨u, m1, m2⟩ := k10 i 0 hi (by omega)
                  rw [ILp_getD zs i hi] at m2
                  simp only [look] at m2
                  have := RP.val_eq' m2
                  rw [Nat.mul_one, Nat.add_zero] at m1
                  rw [m1, this]
                refine (hrun w g c T hat).mono ?_
                rintro e w' ⟨rfl, ⟨cells', m1, m2, m3, m4⟩, m5, m6, m7, m8, m9⟩
                have hother : ∀ g', g' < w.heap.size → κ b ≠ some g' → w'.heap[g']? = w.heap[g']? := fun g' hg' hne => m5 g' hg' fun e => hne (by rw [hκ, e])
                have hBel : Below B w w' := ⟨m7, m8, m9, m6, fun g' hg' => m5 g' (Nat.lt_of_lt_of_le hg' R.hB) (by have := (R.hκ _ _ hκ).2.1; omega)⟩
                have hinr : ∀ i, i < ys.length → inr .i64 (ys.getD i 0) := by
                  intro i hi
                  have hy : ys.getD i 0 ∈ ys := by simp [List.getD_eq_getElem?_getD, hi]
                  obtain ⟨j, hj, e⟩ := List.getElem_of_mem (hmem _ hy)
                  obtain ⟨u, q1, q2⟩ := k10 j 0 (by omega) (by omega)
                  rw [ILp_getD zs j (by omega)] at q2
                  simp only [look] at q2
                  have e2 : zs.getD j 0 = ys.getD i 0 := by rw [← e]; simp [List.getD_eq_getElem?_getD, hj]
                  rw [e2] at q2
                  exact q2.good
                have hcell : ∀ i j, i < (ILp ys).length → j < 1 → ∃ u, cells'[i * 1 + j]? = some u ∧ ∀ O, RP w' O (look ((ILp ys).getD i []) j) u := by
                  intro i j hi hj
                  have hi' : i < ys.length := by simpa [ILp] using hi
                  have : j = 0 := by omega
                  subst this
                  refine ⟨_, by rw [Nat.mul_one, Nat.add_zero]; exact m4 i hi', fun O => ?_⟩
                  rw [ILp_getD ys i hi']
                  exact .int (hinr i hi')
                have hyl2 : (ILp ys).length = ys.length := by simp [ILp]
                cases fin with
                | true =>
                  have hcell2 : ∀ i j, i < (ILp ys).length → j < 1 → ∃ u, cells'[i * 1 + j]? = some u ∧ RP w (Own κ) (look ((ILp ys).getD i []) j) u := by
                    intro i j hi hj
                    have hi' : i < ys.length := by simpa [ILp] using hi
                    have : j = 0 := by omega
                    subst this
                    refine ⟨_, by rw [Nat.mul_one, Nat.add_zero]; exact m4 i hi', ?_⟩
                    rw [ILp_getD ys i hi']
                    exact .int (hinr i hi')
                  obtain ⟨q1, q2⟩ := R.newArr (w' := w') b 1 (ILp ys) g c cells' T (by omega) hyl hyr (.inl hκ) m1 (by omega) (by rw [hyl2]; exact m3) hcell2 hother m6
                  simp only [if_true] at hk ⊢
                  rw [hyl2] at q2
                  exact ⟨_, rfl, [_], _, _, .one (.own b), n', T1, hk, Nat.le_succ _, hev2, q1, q2, hBel, ⟨rfl, rfl, rfl, Nat.le_refl _⟩⟩
                | false =>
                  simp only [Bool.false_eq_true, if_false] at hk ⊢
                  have hll : ys.length = zs.length := hfl rfl
                  have F := foc_write (w' := w') R b (.arr 1 (.v cs.d)) [.list (ILp ys)] hother m6
                  have R2 := R.wr (blk := .arr 1 (.v cs.d)) [.list (ILp ys)] ⟨F, rfl, (fun l' h => by rw [hb] at h; cases h), (fun es2 x2 h => by
                      rw [hb] at h; cases h
                      exact ⟨.v cs.d, by rw [writeB_heap, if_pos rfl]; rfl, hlt, fun xs2 h => by rw [h3] at h; cases h; exact ⟨_, hnew, by simp [ILp, hll]⟩⟩), (fun g2 cells2 T2 h4 h5 => by
                      rw [hκ] at h4; cases h4
                      rw [hg] at h5; cases h5
                      exact ⟨cells', m1, by omega⟩)⟩
                    ⟨hlt, by omega, _, hnew, hyl, hyr, .inr ⟨g, cells', T, c, hκ, m1, by omega, by rw [hyl2]; exact m3, fun i j hi hj => by
                      obtain ⟨u, q1, q2⟩ := hcell i j hi hj
                      exact ⟨u, q1, q2 _⟩⟩⟩
                  exact ⟨_, rfl, [_], _, _, .tup [], n', T1, hk, Nat.le_succ _, hev2, R2, ⟨#[], rfl, trivial⟩, hBel, ⟨rfl, rfl, rfl, Nat.le_refl _⟩⟩
      · cases h
    · cases h
  · cases h
end
end Go.Xt
