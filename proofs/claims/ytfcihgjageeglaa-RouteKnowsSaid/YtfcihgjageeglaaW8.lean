/- Steps towards the statements of this seat; the conditions stand in each theorem. -/
import Derived.Test.YtfcihgjageeglaaW7
set_option linter.unusedSimpArgs false
set_option linter.unusedVariables false
set_option maxRecDepth 100000
namespace Go.Xt
/-! ### who is asked: live nodes -/
theorem okFrom_of : ∀ {l : List Int} {p : Int}, (∀ x ∈ l, isN x = true) → (∀ x ∈ l, p < x) → l.Pairwise (· < ·) → okFrom p l = true
  | [], _, _, _, _ => rfl
  | x :: r, p, h1, h2, h3 => by
    rw [List.pairwise_cons] at h3
    simp only [okFrom, Bool.and_eq_true, decide_eq_true_eq]
    exact ⟨⟨h1 x (by simp), h2 x (by simp)⟩, okFrom_of (fun y hy => h1 y (by simp [hy])) h3.1 h3.2⟩
theorem okFrom_pw : ∀ {l : List Int} {p : Int}, okFrom p l = true → l.Pairwise (· < ·) ∧ ∀ x ∈ l, p < x
  | [], _, _ => by simp
  | x :: r, p, h => by
    simp only [okFrom, Bool.and_eq_true, decide_eq_true_eq] at h
    obtain ⟨a, b⟩ := okFrom_pw h.2
    refine ⟨List.pairwise_cons.2 ⟨b, a⟩, fun y hy => ?_⟩
    rcases List.mem_cons.1 hy with rfl | hy
    · exact h.1.2
    · have := b y hy; omega
theorem chkL_iff {live : List Int} {self : Int} : chkL live self = 0 ↔ (∀ x ∈ live, isN x = true) ∧ live.Pairwise (· < ·) ∧ self ∈ live := by
  constructor
  · intro h
    obtain ⟨⟨h1, _⟩, _, h2, h3⟩ := chkL_zero h
    exact ⟨List.all_eq_true.1 h1, (okFrom_pw h2).1, by simpa using h3⟩
  · rintro ⟨h1, h2, h3⟩
    unfold chkL
    rw [if_pos]
    rw [Bool.and_eq_true]
    exact ⟨okFrom_of h1 (fun x hx => by have := isN_iff.1 (h1 x hx); omega) h2, by simpa using h3⟩
theorem chkL_01 (live : List Int) (self : Int) : chkL live self = 0 ∨ chkL live self = 1 := by
  unfold chkL; split <;> simp

/-! ### the one ahead -/
theorem nn_inj_fin : ∀ a b : Fin 8, nn (a.val : Int) = nn (b.val : Int) → a = b := by decide +kernel
theorem nn_inj {a b : Int} (ha : isN a = true) (hb : isN b = true) (h : nn a = nn b) : a = b := by
  rw [isN_iff] at ha hb
  obtain ⟨a, rfl⟩ := Int.eq_ofNat_of_zero_le ha.1
  obtain ⟨b, rfl⟩ := Int.eq_ofNat_of_zero_le hb.1
  have := nn_inj_fin ⟨a, by omega⟩ ⟨b, by omega⟩ h
  simp only [Fin.mk.injEq] at this; omega
theorem aheadGo_min {self : Int} : ∀ (l : List Int) (b d : Int), (∀ x ∈ l, 0 ≤ x) → (b < 0 ∨ d = far (nn b) (nn self)) →
    (aheadGo self b d l = b ∨ (aheadGo self b d l ∈ l ∧ aheadGo self b d l ≠ self)) ∧ (b < 0 → (∃ x ∈ l, x ≠ self) → aheadGo self b d l ∈ l ∧ aheadGo self b d l ≠ self) ∧
    (∀ x ∈ l, x ≠ self → far (nn (aheadGo self b d l)) (nn self) ≤ far (nn x) (nn self)) ∧ (0 ≤ b → far (nn (aheadGo self b d l)) (nn self) ≤ far (nn b) (nn self))
  | [], b, d, _, _ => by simp [aheadGo]
  | x :: r, b, d, h0, hd => by
    have h1 : ∀ x ∈ r, 0 ≤ x := fun y hy => h0 y (by simp [hy])
    have hx := h0 x (by simp)
    unfold aheadGo
    split
    · rename_i hc
      obtain ⟨a1, a2, a3, a4⟩ := aheadGo_min r x (far (nn x) (nn self)) h1 (.inr rfl)
      have a5 : aheadGo self x (far (nn x) (nn self)) r ∈ x :: r ∧ aheadGo self x (far (nn x) (nn self)) r ≠ self := by
        rcases a1 with a1 | a1
        · rw [a1]; exact ⟨by simp, hc.1⟩
        · exact ⟨by simp [a1.1], a1.2⟩
      refine ⟨.inr a5, fun _ _ => a5, fun y hy hn => ?_, fun hb => ?_⟩
      · rcases List.mem_cons.1 hy with rfl | hy
        · exact a4 hx
        · exact a3 y hy hn
      · have := a4 hx
        rcases hd with h | h
        · omega
        · rcases hc.2 with h2 | h2 <;> omega
    · rename_i hc
      obtain ⟨a1, a2, a3, a4⟩ := aheadGo_min r b d h1 hd
      refine ⟨?_, fun hb he => ?_, fun y hy hn => ?_, a4⟩
      · rcases a1 with a1 | a1
        · exact .inl a1
        · exact .inr ⟨by simp [a1.1], a1.2⟩
      · obtain ⟨y, hy, hn⟩ := he
        rcases List.mem_cons.1 hy with rfl | hy
        · exact absurd ⟨hn, .inl hb⟩ hc
        · have := a2 hb ⟨y, hy, hn⟩
          exact ⟨by simp [this.1], this.2⟩
      · rcases List.mem_cons.1 hy with rfl | hy
        · have hb : ¬ (b < 0 ∨ far (nn y) (nn self) < d) := fun h => hc ⟨hn, h⟩
          have := a4 (by omega)
          rcases hd with h | h <;> omega
        · exact a3 y hy hn
theorem aheadN_min {live : List Int} {self : Int} (h : ∀ x ∈ live, isN x = true) (he : ∃ x ∈ live, x ≠ self) :
    aheadN live self ∈ live ∧ aheadN live self ≠ self ∧ ∀ x ∈ live, x ≠ self → far (nn (aheadN live self)) (nn self) ≤ far (nn x) (nn self) := by
  obtain ⟨_, a2, a3, _⟩ := aheadGo_min (self := self) live (-1) 0 (fun x hx => (isN_iff.1 (h x hx)).1) (.inl (by omega))
  have := a2 (by omega) he
  exact ⟨this.1, this.2, a3⟩
theorem gap_of {t n : Int} : gap t n = far (tt t) (nn n) := rfl
theorem ahead_near {t : Int} {live : List Int} {self x : Int} (ht : isT t = true) (h : ∀ x ∈ live, isN x = true) (hx : x ∈ live) (hs : self ∈ live) (hn : gap t x < gap t self) : near t (aheadN live self) self = true := by
  have hne : x ≠ self := by rintro rfl; omega
  obtain ⟨a1, a2, a3⟩ := aheadN_min h ⟨x, hx, hne⟩
  have a4 := a3 x hx hne
  have n1 := h _ a1
  have n2 := h _ hs
  simp only [near, Bool.and_eq_true, decide_eq_true_eq]
  refine ⟨⟨⟨ht, n1⟩, n2⟩, ?_⟩
  have k1 : nn (aheadN live self) ≠ nn self := fun e => a2 (nn_inj n1 n2 e)
  rw [gap_of, gap_of] at hn ⊢
  have b1 := tt_bd t
  have b2 := nn_bd x
  have b3 := nn_bd self
  have b4 := nn_bd (aheadN live self)
  generalize nn (aheadN live self) = a at *
  generalize nn self = s at *
  generalize nn x = y at *
  generalize tt t = u at *
  simp only [far] at *
  repeat' split at a4
  all_goals repeat' split at hn
  all_goals repeat' split
  all_goals omega

/-! ### the owner -/
theorem ownGo_min {t : Int} : ∀ (l : List Int) (b : Int), (∀ x ∈ l, near t x (ownGo t b l) = false) ∧ (near t b (ownGo t b l) = false)
  | [], b => by
    refine ⟨by simp, ?_⟩
    cases h : near t b b with
    | false => exact h
    | true => exact absurd rfl (near_ne h)
  | x :: r, b => by
    unfold ownGo
    by_cases e : near t x b = true
    · rw [if_pos e]
      obtain ⟨h1, h2⟩ := ownGo_min (t := t) r x
      refine ⟨fun y hy => ?_, ?_⟩
      · rcases List.mem_cons.1 hy with rfl | hy
        · exact h2
        · exact h1 y hy
      · cases h : near t b (ownGo t x r) with
        | false => rfl
        | true => rw [near_trans e h] at h2; cases h2
    · rw [if_neg e]
      obtain ⟨h1, h2⟩ := ownGo_min (t := t) r b
      refine ⟨fun y hy => ?_, h2⟩
      rcases List.mem_cons.1 hy with rfl | hy
      · cases h : near t y (ownGo t b r) with
        | false => rfl
        | true =>
          rcases ownGo_near (t := t) r b with h3 | h3
          · rw [h3] at h; exact absurd h e
          · exact absurd (near_trans h h3.1) e
      · exact h1 y hy
def own (t : Int) (l : List Int) : Int := (owner t l).1
theorem owner_ok {t : Int} {l : List Int} (ht : isT t = true) (h : ∀ x ∈ l, isN x = true) (hl : l ≠ []) : (owner t l).2 = 0 ∧ own t l ∈ l ∧ ∀ x ∈ l, near t x (own t l) = false := by
  unfold own owner
  rw [if_pos ht, if_pos (List.all_eq_true.2 h)]
  cases l with
  | nil => exact absurd rfl hl
  | cons x r =>
    refine ⟨rfl, ?_, (ownGo_min (x :: r) x).1⟩
    rcases ownGo_near (t := t) (x :: r) x with e | e
    · simp only; rw [e]; simp
    · exact e.2
theorem near_lin {t a b : Int} (ht : isT t = true) (ha : isN a = true) (hb : isN b = true) (h : a ≠ b) : near t a b = true ∨ near t b a = true := by
  simp only [near, ht, ha, hb, Bool.true_and, decide_eq_true_eq]
  simp only [gap_of]
  have k : nn a ≠ nn b := fun e => h (nn_inj ha hb e)
  have b1 := tt_bd t
  have b2 := nn_bd a
  have b3 := nn_bd b
  revert b1 b2 b3 k
  generalize nn a = x
  generalize nn b = y
  generalize tt t = u
  intro k b1 b2 b3
  simp only [far]
  repeat' split
  all_goals omega

/-! ### next hops, ways -/
theorem next_none {t : Int} {live : List Int} {n : Int} (ht : isT t = true) (h : ∀ x ∈ live, isN x = true) (hn : n ∈ live) : nextN t live n < 0 ↔ n = own t live := by
  have hl : live ≠ [] := by rintro rfl; simp at hn
  obtain ⟨_, o1, o2⟩ := owner_ok ht h hl
  constructor
  · intro hx
    refine Classical.byContradiction fun hne => ?_
    rcases near_lin ht (h _ hn) (h _ o1) hne with e | e
    · rw [o2 n hn] at e; cases e
    · have ha := ahead_near ht h o1 hn (near_dom e).2.2.2
      have : near t (aheadN live n) (ownGo t n (fingers live n ++ [aheadN live n])) = false := (ownGo_min _ _).1 _ (by simp)
      unfold nextN at hx
      split at hx
      · rename_i h1; rw [h1, ha] at this; cases this
      · rename_i h1
        have := (near_dom ((ownGo_near (t := t) _ _).resolve_left h1).1).2.1.1
        omega
  · rintro rfl
    rcases next_cases t live (own t live) with e | ⟨e1, e2⟩
    · omega
    · rcases known_live hl e2 with h1 | h1
      · omega
      · rw [o2 _ h1.1] at e1; cases e1
theorem next_best {t : Int} {live : List Int} {n : Int} (h : 0 ≤ nextN t live n) : ∀ x ∈ fingers live n ++ [aheadN live n], near t x (nextN t live n) = false := by
  unfold nextN at *
  split at h
  · omega
  · rename_i h1
    rw [if_neg h1]
    exact (ownGo_min _ _).1
theorem wayN_more {t : Int} {live : List Int} : ∀ (k : Nat) (n : Int), rk t n ≤ k → wayN t live (k + 1) n = wayN t live k n
  | 0, n, h => by
    by_cases hx : nextN t live n < 0
    · rw [wayN_nil hx, wayN_nil hx]
    · have := (near_rk (next_near (t := t) (live := live) (self := n) (by omega))).1; omega
  | k + 1, n, h => by
    by_cases hx : nextN t live n < 0
    · rw [wayN_nil hx, wayN_nil hx]
    · have h1 := (near_rk (next_near (t := t) (live := live) (self := n) (by omega))).1
      have := wayN_more (t := t) (live := live) k (nextN t live n) (by omega)
      rw [wayN, if_neg hx, this]
      conv => rhs; rw [wayN, if_neg hx]
theorem way_step {t : Int} {live : List Int} {n : Int} (h : 0 ≤ nextN t live n) : way t live n = nextN t live n :: way t live (nextN t live n) := by
  have h1 := near_rk (next_near h)
  unfold way
  conv => lhs; rw [wayN, if_neg (by omega)]
  rw [wayN_more 7 _ (by omega)]
theorem way_nil {t : Int} {live : List Int} {n : Int} (h : nextN t live n < 0) : way t live n = [] := wayN_nil h 8
theorem way_ind {t : Int} {live : List Int} {P : Int → List Int → Prop} (h0 : ∀ n, nextN t live n < 0 → P n []) (h1 : ∀ n w, 0 ≤ nextN t live n → way t live (nextN t live n) = w → P (nextN t live n) w → P n (nextN t live n :: w)) : ∀ (k : Nat) (n : Int), rk t n ≤ k → P n (way t live n)
  | k, n, h => by
    by_cases hx : nextN t live n < 0
    · rw [way_nil hx]; exact h0 n hx
    · have hx' : 0 ≤ nextN t live n := by omega
      have h2 := (near_rk (next_near hx')).1
      match k, h with
      | 0, h => omega
      | k + 1, h =>
        rw [way_step hx']
        exact h1 n _ hx' rfl (way_ind h0 h1 k _ (by omega))
theorem way_rec {t : Int} {live : List Int} {P : Int → List Int → Prop} (h0 : ∀ n, nextN t live n < 0 → P n []) (h1 : ∀ n w, 0 ≤ nextN t live n → way t live (nextN t live n) = w → P (nextN t live n) w → P n (nextN t live n :: w)) (n : Int) : P n (way t live n) := way_ind h0 h1 _ n (Nat.le_refl _)
theorem way_drop {t : Int} {live : List Int} (n : Int) : ∀ (i : Nat) (x : Int), (way t live n)[i]? = some x → (way t live n).drop (i + 1) = way t live x := by
  refine way_rec (P := fun n w => ∀ (i : Nat) (x : Int), w[i]? = some x → w.drop (i + 1) = way t live x) (fun n _ i x h => by simp at h) (fun n w h hw ih i x hi => ?_) n
  cases i with
  | zero => simp at hi; subst hi; simpa using hw.symm
  | succ i => simp only [List.getElem?_cons_succ] at hi; simpa using ih i x hi
theorem way_mem {t : Int} {live : List Int} (hl : live ≠ []) (n : Int) : ∀ x ∈ way t live n, x ∈ live ∧ near t x n = true := by
  refine way_rec (P := fun n w => ∀ x ∈ w, x ∈ live ∧ near t x n = true) (fun n _ x h => by simp at h) (fun n w h hw ih x hx => ?_) n
  rcases List.mem_cons.1 hx with rfl | hx
  · exact ⟨next_mem hl h, next_near h⟩
  · exact ⟨(ih x hx).1, near_trans (ih x hx).2 (next_near h)⟩
theorem way_last {t : Int} {live : List Int} (ht : isT t = true) (h : ∀ x ∈ live, isN x = true) (n : Int) (hn : n ∈ live) : (way t live n).getLastD n = own t live := by
  have hl : live ≠ [] := by rintro rfl; simp at hn
  refine way_rec (P := fun n w => n ∈ live → w.getLastD n = own t live) (fun n h1 hn => ?_) (fun n w h1 hw ih hn => ?_) n hn
  · exact (next_none ht h hn).1 h1
  · rw [List.getLastD_cons]; exact ih (next_mem hl h1)
theorem way_rises {t : Int} {live : List Int} (n : Int) : rises t n (way t live n) = true := by
  refine way_rec (P := fun n w => rises t n w = true) (fun n _ => rfl) (fun n w h hw ih => ?_) n
  rw [rises, ih, next_near h]; rfl
theorem filter_lt {l : List Int} {p q : Int → Bool} (h : ∀ x ∈ l, p x = true → q x = true) {y : Int} (hy : y ∈ l) (hp : p y = false) (hq : q y = true) : (l.filter p).length < (l.filter q).length := by
  induction l with
  | nil => simp at hy
  | cons x r ih =>
    have h2 : ∀ x ∈ r, p x = true → q x = true := fun z hz => h z (by simp [hz])
    have hle : (r.filter p).length ≤ (r.filter q).length := by
      clear ih hy h
      induction r with
      | nil => simp
      | cons z r ih =>
        have := ih fun z hz => h2 z (by simp [hz])
        have h3 := h2 z (by simp)
        simp only [List.filter_cons]
        cases e1 : p z <;> cases e2 : q z <;> simp_all <;> omega
    rcases List.mem_cons.1 hy with rfl | hy
    · simp only [List.filter_cons, hp, hq]
      simp; omega
    · have := ih h2 hy
      have h3 := h x (by simp)
      simp only [List.filter_cons]
      cases e1 : p x <;> cases e2 : q x <;> simp_all <;> omega
def rkL (t : Int) (live : List Int) (n : Int) : Nat := (live.filter fun x => near t x n).length
theorem way_rkL {t : Int} {live : List Int} (hl : live ≠ []) (n : Int) : (way t live n).length ≤ rkL t live n := by
  refine way_rec (P := fun n w => w.length ≤ rkL t live n) (fun n _ => by simp) (fun n w h hw ih => ?_) n
  have hx := next_near h
  have : rkL t live (nextN t live n) < rkL t live n := filter_lt (y := nextN t live n) (fun x _ hx2 => near_trans hx2 hx) (next_mem hl h) (by
    cases e : near t (nextN t live n) (nextN t live n) with
    | false => rfl
    | true => exact absurd rfl (near_ne e)) hx
  simp only [List.length_cons]; omega
theorem way_len {t : Int} {live : List Int} {n : Int} (hn : n ∈ live) : (way t live n).length < live.length := by
  have hl : live ≠ [] := by rintro rfl; simp at hn
  have h1 := way_rkL (t := t) hl n
  have h2 : rkL t live n < (live.filter fun _ => true).length := filter_lt (y := n) (fun _ _ _ => rfl) hn (by
    cases e : near t n n with
    | false => rfl
    | true => exact absurd rfl (near_ne e)) rfl
  have := List.length_filter_le (fun _ => true) live
  omega
theorem way_len8 {t : Int} {live : List Int} {n : Int} : (way t live n).length ≤ 8 := by
  have : ∀ (k : Nat) (n : Int), (wayN t live k n).length ≤ k := by
    intro k
    induction k with
    | zero => intro n; simp [wayN]
    | succ k ih =>
      intro n
      unfold wayN
      split
      · simp
      · have := ih (nextN t live n); simp; omega
  exact this 8 n
/-! ### some nodes -/
theorem some_ne : ∀ r : Fin 255, (nodesL.filter fun i => decide (((1 + (r.val : Int)) / 2 ^ i.toNat) % 2 = 1)) ≠ [] := by decide +kernel
def someL (bits : Int) : List Int := nodesL.filter fun i => decide (((1 + u64 bits % 255) / 2 ^ i.toNat) % 2 = 1)
theorem someN_1 (bits self : Int) : (someN bits self).1 = someL bits := rfl
theorem someN_2 (bits self : Int) : (someN bits self).2 = (someL bits).getD ((u64 self) % (someL bits).length).toNat 0 := rfl
theorem someL_pos (bits : Int) : 0 < (someL bits).length := by
  have hu := u64_bd bits
  have := some_ne ⟨(u64 bits % 255).toNat, by omega⟩
  simp only [Int.toNat_of_nonneg (show 0 ≤ u64 bits % 255 by omega)] at this
  exact List.length_pos_iff.2 this
theorem mod_lt (a : Int) {n : Nat} (h : 0 < n) : (u64 a % n).toNat < n ∧ 0 ≤ u64 a % n ∧ u64 a % n < n := by
  have h1 := Int.emod_lt_of_pos (u64 a) (show (0 : Int) < n by omega)
  have h2 := Int.emod_nonneg (u64 a) (show (n : Int) ≠ 0 by omega)
  omega
theorem someN_ok (bits self : Int) : chkL (someN bits self).1 (someN bits self).2 = 0 := by
  rw [chkL_iff, someN_1, someN_2]
  refine ⟨fun x hx => ?_, List.Pairwise.filter _ nodes_pw, ?_⟩
  · exact nodesL_mem.1 (List.mem_filter.1 hx).1
  · have hm := mod_lt self (someL_pos bits)
    rw [List.getD_eq_getElem?_getD, List.getElem?_eq_getElem hm.1]
    exact List.getElem_mem hm.1
theorem OP_shr {a b : Int} {k : PV → Prop} (ha : 0 ≤ a) (ha2 : a ≤ 9223372036854775807) (h0 : 0 ≤ b) (h1 : b ≤ 61) : OP (.bin .shr) [I a, I b] k = k (I (a / 2 ^ b.toNat)) := OP_of (by
  have h2 : min b.toNat IntKind.i64.bits = b.toNat := Nat.min_eq_left (by simp only [IntKind.bits]; omega)
  have h3 : ¬ b < 0 := by omega
  simp only [ev, evBin, h2, h3, if_false, Option.some.injEq, PV.int.injEq, true_and]
  exact Int.fdiv_eq_ediv_of_nonneg _ (by have := pow_bd ⟨b.toNat, by omega⟩; simp only at this; omega))
theorem OP_rem2 {a : Int} {k : PV → Prop} (ha : 0 ≤ a) (ha2 : a ≤ 9223372036854775807) : OP (.bin .rem) [I a, I 2] k = k (I (a % 2)) := OP_of (by
  simp [ev, evBin, Int.tmod_eq_emod_of_nonneg ha])
def sg (bits : Int) (n : Nat) : List Int := ((List.range n).map fun (k : Nat) => (k : Int)).filter fun i => decide (((1 + u64 bits % 255) / 2 ^ i.toNat) % 2 = 1)
theorem sg_succ (bits : Int) (n : Nat) : sg bits (n + 1) = sg bits n ++ if ((1 + u64 bits % 255) / 2 ^ n) % 2 = 1 then [(n : Int)] else [] := by
  unfold sg
  rw [List.range_succ, List.map_append, List.filter_append, filter_one]
  simp
theorem sg_len (bits : Int) (n : Nat) : (sg bits n).length ≤ n := by
  have := List.length_filter_le (fun i => decide (((1 + u64 bits % 255) / 2 ^ i.toNat) % 2 = 1)) ((List.range n).map fun (k : Nat) => (k : Int))
  simpa [sg] using this
theorem u64_len {n : Nat} (h : n ≤ 1000) : u64 n = n := by unfold u64; omega
theorem w_law11_Some (bits : Int) (self : Int) : S_law11_Some ρ (I bits) (I self) (· = [L (someN bits self).1, I (someN bits self).2]) := by
  unfold S_law11_Some
  have hu := u64_bd bits
  simp (disch := first | omega | assumption | (simp only [List.length_cons, List.length_nil]; omega)) only [↓OP_len, ↓OP_len0, ↓OP_idx, ↓OP_drop, ↓OP_take, ↓OP_mid, ↓OP_all, ↓OP_isl, ↓OP_isl0, ↓OP_app, ↓OP_app0, ↓OP_appN, ↓OP_app00, ↓OP_rowI, ↓OP_rowI2, ↓OP_rowL, ↓OP_rowLL, ↓OP_rowI4, ↓OP_rowI8, ↓OP_lss, ↓OP_leq, ↓OP_gtr, ↓OP_geq, ↓OP_eql, ↓OP_neq, ↓OP_not, ↓OP_beq, ↓OP_bne, ↓OP_add, ↓OP_sub, ↓OP_mn, ↓OP_mx, ↓OP_sel, ↓OP_cu, ↓OP_remU, ↓OP_ci, ↓ITE_true, ↓ITE_false, ↓ITE_bool, decide_eq_true_eq, decide_eq_false_iff_not, Bool.not_eq_eq_eq_not, Bool.not_true, Bool.not_false, Bool.false_eq_true, Bool.true_eq_false, false_implies, true_implies, true_and, and_true, implies_true, not_true_eq_false, not_false_eq_true, app1, app2, app3, app4, cell0, look_z, look_s, rowI, rowB, rowL]
  refine LOOP.rule (α := Nat) (fun i => [I i, L (sg bits i)]) (fun i => i ≤ 8) (fun i => 8 - i) 0 rfl (by simp) (fun _ => rfl) ?_
  intro i h4
  simp only [app]
  have hl := sg_len bits i
  simp (disch := first | omega | assumption | (simp only [List.length_cons, List.length_nil]; omega)) only [↓OP_len, ↓OP_len0, ↓OP_idx, ↓OP_drop, ↓OP_take, ↓OP_mid, ↓OP_all, ↓OP_isl, ↓OP_isl0, ↓OP_app, ↓OP_app0, ↓OP_appN, ↓OP_app00, ↓OP_rowI, ↓OP_rowI2, ↓OP_rowL, ↓OP_rowLL, ↓OP_rowI4, ↓OP_rowI8, ↓OP_lss, ↓OP_leq, ↓OP_gtr, ↓OP_geq, ↓OP_eql, ↓OP_neq, ↓OP_not, ↓OP_beq, ↓OP_bne, ↓OP_add, ↓OP_sub, ↓OP_mn, ↓OP_mx, ↓OP_sel, ↓OP_cu, ↓OP_remU, ↓OP_ci, ↓ITE_true, ↓ITE_false, ↓ITE_bool, decide_eq_true_eq, decide_eq_false_iff_not, Bool.not_eq_eq_eq_not, Bool.not_true, Bool.not_false, Bool.false_eq_true, Bool.true_eq_false, false_implies, true_implies, true_and, and_true, implies_true, not_true_eq_false, not_false_eq_true, app1, app2, app3, app4, cell0, look_z, look_s, rowI, rowB, rowL]
  refine ⟨fun h6 => ?_, fun h6 => ?_⟩
  · rw [OP_shr (by omega) (by omega) (by omega) (by omega)]
    have hp : (1 : Int) ≤ 2 ^ i ∧ (2 : Int) ^ i < 4611686018427387904 := pow_bd ⟨i, by omega⟩
    have hs := sg_succ bits i
    have h1 : 0 ≤ (1 + u64 bits % 255) / 2 ^ i := Int.ediv_nonneg (by omega) (by omega)
    have h2 : (1 + u64 bits % 255) / 2 ^ i ≤ 1 + u64 bits % 255 := Int.ediv_le_self _ (by omega)
    rw [Int.toNat_natCast, OP_rem2 h1 (by omega)]
    simp (disch := first | omega | assumption | (simp only [List.length_cons, List.length_nil]; omega)) only [↓OP_len, ↓OP_len0, ↓OP_idx, ↓OP_drop, ↓OP_take, ↓OP_mid, ↓OP_all, ↓OP_isl, ↓OP_isl0, ↓OP_app, ↓OP_app0, ↓OP_appN, ↓OP_app00, ↓OP_rowI, ↓OP_rowI2, ↓OP_rowL, ↓OP_rowLL, ↓OP_rowI4, ↓OP_rowI8, ↓OP_lss, ↓OP_leq, ↓OP_gtr, ↓OP_geq, ↓OP_eql, ↓OP_neq, ↓OP_not, ↓OP_beq, ↓OP_bne, ↓OP_add, ↓OP_sub, ↓OP_mn, ↓OP_mx, ↓OP_sel, ↓OP_cu, ↓OP_remU, ↓OP_ci, ↓ITE_true, ↓ITE_false, ↓ITE_bool, decide_eq_true_eq, decide_eq_false_iff_not, Bool.not_eq_eq_eq_not, Bool.not_true, Bool.not_false, Bool.false_eq_true, Bool.true_eq_false, false_implies, true_implies, true_and, and_true, implies_true, not_true_eq_false, not_false_eq_true, app1, app2, app3, app4, cell0, look_z, look_s, rowI, rowB, rowL]
    refine ⟨fun h7 => ⟨i + 1, by rw [hs]; simp [h7], by omega, by omega⟩, fun h7 => ⟨i + 1, by rw [hs]; simp [h7], by omega, by omega⟩⟩
  · have : i = 8 := by omega
    subst this
    have e : sg bits 8 = someL bits := rfl
    rw [e] at hl ⊢
    have hp := someL_pos bits
    have hm := mod_lt self hp
    rw [u64_len (by omega)]
    simp (disch := first | omega | assumption | (simp only [List.length_cons, List.length_nil]; omega)) only [↓OP_len, ↓OP_len0, ↓OP_idx, ↓OP_drop, ↓OP_take, ↓OP_mid, ↓OP_all, ↓OP_isl, ↓OP_isl0, ↓OP_app, ↓OP_app0, ↓OP_appN, ↓OP_app00, ↓OP_rowI, ↓OP_rowI2, ↓OP_rowL, ↓OP_rowLL, ↓OP_rowI4, ↓OP_rowI8, ↓OP_lss, ↓OP_leq, ↓OP_gtr, ↓OP_geq, ↓OP_eql, ↓OP_neq, ↓OP_not, ↓OP_beq, ↓OP_bne, ↓OP_add, ↓OP_sub, ↓OP_mn, ↓OP_mx, ↓OP_sel, ↓OP_cu, ↓OP_remU, ↓OP_ci, ↓ITE_true, ↓ITE_false, ↓ITE_bool, decide_eq_true_eq, decide_eq_false_iff_not, Bool.not_eq_eq_eq_not, Bool.not_true, Bool.not_false, Bool.false_eq_true, Bool.true_eq_false, false_implies, true_implies, true_and, and_true, implies_true, not_true_eq_false, not_false_eq_true, app1, app2, app3, app4, cell0, look_z, look_s, rowI, rowB, rowL, cell_I hm.2.1 hm.2.2]
    rfl
theorem w_law11_wakes  : S_law11_wakes ρ  (· = [bb true]) := by
  unfold S_law11_wakes
  have e1 : chkL [0, 1] 0 = 0 := by decide +kernel
  have e2 : aheadN [0, 1] 0 = 1 := by decide +kernel
  have e3 : fingers [0, 1] 0 = [1] := by decide +kernel
  have e4 : askedN 0 [2] 2 = 0 := by decide +kernel
  have e5 : nextN 0 [2] 2 = -1 := by decide +kernel
  have e6 : chkL [2] 2 = 0 := by decide +kernel
  have e7 : aheadN [2] 2 = -1 := by decide +kernel
  have e8 : way 0 [2] 2 = [] := by decide +kernel
  have e9 : chkL [] 0 = 1 := by decide +kernel
  simp (disch := first | omega | assumption | (simp only [List.length_cons, List.length_nil]; omega)) only [↓OP_len, ↓OP_len0, ↓OP_idx, ↓OP_drop, ↓OP_take, ↓OP_mid, ↓OP_all, ↓OP_isl, ↓OP_isl0, ↓OP_app, ↓OP_app0, ↓OP_appN, ↓OP_app00, ↓OP_rowI, ↓OP_rowI2, ↓OP_rowL, ↓OP_rowLL, ↓OP_rowI4, ↓OP_rowI8, ↓OP_lss, ↓OP_leq, ↓OP_gtr, ↓OP_geq, ↓OP_eql, ↓OP_neq, ↓OP_not, ↓OP_beq, ↓OP_bne, ↓OP_add, ↓OP_sub, ↓OP_mn, ↓OP_mx, ↓OP_sel, ↓OP_cu, ↓OP_remU, ↓OP_ci, ↓ITE_true, ↓ITE_false, ↓ITE_bool, decide_eq_true_eq, decide_eq_false_iff_not, Bool.not_eq_eq_eq_not, Bool.not_true, Bool.not_false, Bool.false_eq_true, Bool.true_eq_false, false_implies, true_implies, true_and, and_true, implies_true, not_true_eq_false, not_false_eq_true, app1, app2, app3, app4, cell0, look_z, look_s, rowI, rowB, rowL, ↓c_bkeep_Ints, ↓c_route_Ahead, ↓c_route_Fingers, ↓c_route_Next, ↓c_route_Way, ↓c_route_Check, e1, e2, e3, e4, e5, e6, e7, e8, e9]
  simp <;> decide
end Go.Xt
