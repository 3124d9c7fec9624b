/- Steps towards the statements of this seat; the conditions stand in each theorem. -/
import Derived.Test.YthpnjlaaannaaaaGreatDoorXt11
/- Calls that turn an own row of numbers in place. -/
set_option linter.unusedSimpArgs false
set_option linter.unusedVariables false
namespace Go.Xt
open Go.RowKit

/-- where the cells of an own row lie -/
def CellsAt (w : World) (g c es : Nat) (T : TypeId) (cells : Array Value) : Prop := w.heap[g]? = some (.cells cells T (0, 0)) ∧ cells.size = c * es

/-- a function that turns a row in place, its elements moved ('s' says from where); 'fin': it hands the row back, maybe shorter -/
def IpOK (P : Program) (K : Nat) (fin : Bool) (f : List PV → Option (List PV)) : Prop :=
  ∀ ps rs, f ps = some rs → ∃ (xs ys : List (List PV)) (qs : List PV) (s : Nat → Nat), ps = .list xs :: qs ∧ rs = [.list ys] ∧ ys.length ≤ xs.length ∧ (fin = false → ys.length = xs.length) ∧
    (∀ t, t < ys.length → s t < xs.length ∧ ys.getD t [] = xs.getD (s t) []) ∧
    (∀ (w : World) (O : Nat → Prop) (g c es : Nat) (T : TypeId) (cells : Array Value) (us : List Value), 0 < es → CellsAt w g c es T cells → xs.length ≤ c → (∀ i, i < xs.length → (xs.getD i []).length = es) →
      (∀ i j, i < xs.length → j < es → ∃ u, cells[i * es + j]? = some u ∧ RP w O (look (xs.getD i []) j) u) → All2 (RP w O) qs us →
      Calls P K (.slice (some ⟨g, 0, none⟩) xs.length c :: us).toArray w (fun e w' => e = .returned (if fin then .slice (some ⟨g, 0, none⟩) ys.length c else .tuple #[]) ∧
        (∃ cells', CellsAt w' g c es T cells' ∧ ∀ t j, t < ys.length → j < es → cells'[t * es + j]? = cells[s t * es + j]?) ∧
        (∀ g', g' < w.heap.size → g' ≠ g → w'.heap[g']? = w.heap[g']?) ∧ w.heap.size ≤ w'.heap.size ∧ w'.os = w.os ∧ w'.tape = w.tape ∧ w'.output = w.output)) ∧
    (∀ (w : World) (O : Nat → Prop) (A : Option Addr) (us : List Value), xs = [] → All2 (RP w O) qs us → Calls P K (.slice A 0 0 :: us).toArray w (fun e w' => e = .returned (if fin then .slice A 0 0 else .tuple #[]) ∧ Below w.heap.size w w'))

section
variable {P : Program} {tab : List Sig} {inl : Code → CS → Cont → Option T} {B : Bas P} {env env' : List PV} {κ κ' : Kap} {cs : CS} {tm : Nat → Value} {w w' : World} {a : Act} {ρ : Fns} {L : List (T × Nat)} {r : List PV → Prop}

theorem atomsOf_rel {H : List (Nat × Blk)} : ∀ {rest : List SV} {as : List Atom} {us : List Value}, atomsOf rest = some as → All2 (RelSV env κ H w) rest us → All2 (RP w (Own κ)) (as.map (den env)) us
  | [], as, us, h, hr => by
    cases h
    cases us with
    | nil => trivial
    | cons _ _ => exact hr.elim
  | sv :: rest, as, us, h, hr => by
    cases us with
    | nil => exact hr.elim
    | cons u us =>
      unfold atomsOf at h
      split at h
      · rename_i h0; cases h0
      · rename_i a r h0
        cases h0
        obtain ⟨as', h1, rfl⟩ := Option.map_eq_some_iff.1 h
        have h2 : RelC env κ H w (.at a) u := hr.1
        exact ⟨h2.2, atomsOf_rel h1 hr.2⟩
      · cases h

theorem ipCall_sound (R : Rel B env κ cs tm w) {K : Nat} {fin : Bool} (hI : IpOK P K fin (ρ K)) {args : List SV} {us : List Value} {k : SV → CS → Option T} {T0 : T} {n : Nat}
    (h : ipCall K fin args cs k = some T0) (hev : EvN ρ n T0 env L r) (hr : All2 (RelSV env κ cs.heap w) args us) :
    Calls P K us.toArray w (fun e w' => ∃ v, e = .returned v ∧ Goes ρ B env cs tm w n L r k v w') := by
  unfold ipCall at h
  split at h
  · rename_i b rest
    split at h
    · rename_i es x as hb has
      cases us with
      | nil => exact hr.elim
      | cons v us =>
        obtain ⟨es1, x1, xs, h1, h2, h3, h4⟩ := hr.1
        have hqs := atomsOf_rel has hr.2
        rw [hb] at h1; cases h1
        obtain ⟨k1, k2, xs', k3, k4, k5, k6⟩ := R.hblk b _ hb
        rw [h3] at k3; cases k3
        have hT : ∃ T1, T0 = .call K (x :: as) 1 T1 ∧ (if fin = true then k (.one (.own b)) { (cs.newB b (.arr es (.v cs.d))) with d := cs.d + 1 } else k (.tup []) { (cs.writeB b (.arr es (.v cs.d))) with d := cs.d + 1 }) = some T1 := by
          cases fin with
          | true => obtain ⟨T1, q1, rfl⟩ := Option.map_eq_some_iff.1 h; exact ⟨T1, rfl, by simpa using q1⟩
          | false => obtain ⟨T1, q1, rfl⟩ := Option.map_eq_some_iff.1 h; exact ⟨T1, rfl, by simpa using q1⟩
        obtain ⟨T1, rfl, hk⟩ := hT
        obtain ⟨n', rs, rfl, h5, h6, h7⟩ := hev.call
        simp only [List.map_cons, h3] at h5
        obtain ⟨xs', ys, qs, s, e1, rfl, hle, hfl, hs, hrun, hnil⟩ := hI _ _ h5
        simp only [List.cons.injEq, PV.list.injEq] at e1
        obtain ⟨rfl, rfl⟩ := e1
        have hyl : ys.length ≤ 2 ^ 63 - 1 := by omega
        have hev2 := h7 (by intro p hp; simp at hp; subst hp; exact hyl)
        have hyr : ∀ i, i < ys.length → (ys.getD i []).length = es := fun i hi => by obtain ⟨q1, q2⟩ := hs i hi; rw [q2]; exact k5 _ q1
        have hnew : den (env ++ [.list ys]) (.v cs.d) = .list ys := by rw [← R.henv]; simp [den, look_new]
        have hlt : Atom.lt (env ++ [PV.list ys]).length (.v cs.d) = true := by simp [Atom.lt, R.henv]
        rcases h4 with ⟨hκ, hz, A, rfl⟩ | ⟨g, c, cells, T, hκ, rfl, hc, hg, hsz⟩
        · subst hz
          have hys : ys = [] := List.eq_nil_of_length_eq_zero (by simpa using hle)
          subst hys
          refine (hnil w _ A us rfl hqs).mono ?_
          rintro e w' ⟨rfl, hB⟩
          have R1 : Rel B env κ cs tm w' := by
            have := R.grow [] (w' := w') (fun g hg => hB.block g hg) hB.size
            simpa using this
          cases fin with
          | true =>
            obtain ⟨q1, q2⟩ := R1.newNil b es k2 A
            simp only [if_true] at hk ⊢
            exact ⟨_, rfl, [_], _, _, .one (.own b), n', T1, hk, Nat.le_succ _, hev2, q1, q2, hB.mono R.hB, ⟨rfl, rfl, rfl, Nat.le_refl _⟩⟩
          | false =>
            simp only [Bool.false_eq_true, if_false] at hk ⊢
            have F := foc_write (w' := w') R1 b (.arr es (.v cs.d)) [.list []] (fun _ _ _ => rfl) (Nat.le_refl _)
            have R2 := R1.wr (blk := .arr es (.v cs.d)) [.list []] ⟨F, rfl, (fun l' h => by rw [hb] at h; cases h), (fun es2 x2 h => by
                rw [hb] at h; cases h
                exact ⟨.v cs.d, by rw [writeB_heap, if_pos rfl]; rfl, hlt, fun xs2 h => by rw [h3] at h; cases h; exact ⟨_, hnew, rfl⟩⟩), (fun g2 cells T2 h4 h5 => by rw [hκ] at h4; cases h4)⟩
              ⟨hlt, k2, _, hnew, hyl, hyr, .inl ⟨hκ, rfl⟩⟩
            exact ⟨_, rfl, [_], _, _, .tup [], n', T1, hk, Nat.le_succ _, hev2, R2, ⟨#[], rfl, trivial⟩, hB.mono R.hB, ⟨rfl, rfl, rfl, Nat.le_refl _⟩⟩
        · rcases k6 with ⟨k6, _⟩ | ⟨g', cur, T', c', k6, k7, k8, k9, k10⟩
          · rw [hκ] at k6; cases k6
          · rw [hκ] at k6; cases k6
            rw [hg] at k7; cases k7
            refine (hrun w (Own κ) g c es T cells us k2 ⟨hg, hsz⟩ hc k5 k10 hqs).mono ?_
            rintro e w' ⟨rfl, ⟨cells', ⟨m1, m2⟩, m4⟩, m5, m6, m7, m8, m9⟩
            have hother : ∀ g', g' < w.heap.size → κ b ≠ some g' → w'.heap[g']? = w.heap[g']? := fun g' hg' hne => m5 g' hg' fun e => hne (by rw [hκ, e])
            have hBel : Below B w w' := ⟨m7, m8, m9, m6, fun g' hg' => m5 g' (Nat.lt_of_lt_of_le hg' R.hB) (by have := (R.hκ _ _ hκ).2.1; omega)⟩
            have hcell : ∀ i j, i < ys.length → j < es → ∃ u, cells'[i * es + j]? = some u ∧ RP w (Own κ) (look (ys.getD i []) j) u := by
              intro i j hi hj
              obtain ⟨q1, q2⟩ := hs i hi
              obtain ⟨u, q3, q4⟩ := k10 (s i) j q1 hj
              exact ⟨u, by rw [m4 i j hi hj]; exact q3, by rw [q2]; exact q4⟩
            cases fin with
            | true =>
              obtain ⟨q1, q2⟩ := R.newArr (w' := w') b es ys g c cells' T k2 hyl hyr (.inl hκ) m1 m2 (by omega) hcell hother m6
              simp only [if_true] at hk ⊢
              exact ⟨_, rfl, [_], _, _, .one (.own b), n', T1, hk, Nat.le_succ _, hev2, q1, q2, hBel, ⟨rfl, rfl, rfl, Nat.le_refl _⟩⟩
            | false =>
              simp only [Bool.false_eq_true, if_false] at hk ⊢
              have hll : ys.length = xs.length := hfl rfl
              have F := foc_write (w' := w') R b (.arr es (.v cs.d)) [.list ys] hother m6
              have R2 := R.wr (blk := .arr es (.v cs.d)) [.list ys] ⟨F, rfl, (fun l' h => by rw [hb] at h; cases h), (fun es2 x2 h => by
                  rw [hb] at h; cases h
                  exact ⟨.v cs.d, by rw [writeB_heap, if_pos rfl]; rfl, hlt, fun xs2 h => by rw [h3] at h; cases h; exact ⟨_, hnew, hll⟩⟩), (fun g2 cells2 T2 h4 h5 => by
                  rw [hκ] at h4; cases h4
                  rw [hg] at h5; cases h5
                  exact ⟨cells', m1, by omega⟩)⟩
                ⟨hlt, k2, _, hnew, hyl, hyr, .inr ⟨g, cells', T, c, hκ, m1, m2, by omega, fun i j hi hj => by
                  obtain ⟨u, q1, q2⟩ := hcell i j hi hj
                  exact ⟨u, q1, q2.mono fun g' hg' hn => ⟨hother g' hg' fun e => hn (.inr ⟨b, e⟩), hn⟩⟩⟩⟩
              exact ⟨_, rfl, [_], _, _, .tup [], n', T1, hk, Nat.le_succ _, hev2, R2, ⟨#[], rfl, trivial⟩, hBel, ⟨rfl, rfl, rfl, Nat.le_refl _⟩⟩
    · cases h
  · cases h
end
end Go.Xt
