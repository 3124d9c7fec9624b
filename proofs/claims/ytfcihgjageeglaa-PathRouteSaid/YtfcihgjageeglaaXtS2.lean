/- Operations in the order of a schedule. -/
import Derived.Test.YtfcihgjageeglaaXtS1
set_option linter.unusedSimpArgs false
set_option linter.unusedVariables false
namespace Go.Xt
open Go.RowKit
section
variable {P : Program} {tab : List Sig} {inl : Code → CS → Cont → Option T} {B : Bas} {env env' : List PV} {κ κ' : Kap} {cs : CS} {tm : Nat → Value} {w w' : World} {a : Act} {ρ : Fns} {L : List (T × Nat)} {r : List PV → Prop}

theorem compOpA_sound (R : Rel B env κ cs tm w) (A : ActOk a cs tm) (hL : L.length = cs.nl) {o : Oper} (hqo : quietA P o = true) {k : SV → CS → Option T} {T0 : T} {n : Nat}
    (h : compOp P tab inl o cs k = some T0) (hev : EvN ρ n T0 env L r) :
    ∃ v, (∀ w1, Ext w w1 → (execOp a.eval o).run P w1 = .ok (.value v) w1) ∧ GoesV ρ B env cs tm w n L r k v w := by
  unfold compOp at h
  unfold quietA at hqo
  split at h
  · rename_i f args ats ho
    rw [ho] at hqo
    simp at hqo
  · rename_i x args ats hne ho
    rw [ho] at hqo
    simp at hqo
  · rename_i op ho1 ho2
    split at h
    · rename_i sv hA
      obtain ⟨v, h1, h2⟩ := opA_sound R A.tmp hA
      exact ⟨v, h1, Goes.toV hL ⟨[], κ, cs, sv, n, T0, h, Nat.le_refl _, by simpa using hev, by simpa using R, by simpa using h2, Below.refl _ _, Same.refl _⟩⟩
    · rename_i pop as f hA
      obtain ⟨t', h1, rfl⟩ := emit_some h
      obtain ⟨m, p, rfl, h2, h3⟩ := hev.op
      obtain ⟨v, h4, h5⟩ := opA_sound R A.tmp hA p h2
      rw [R.henv] at h5
      exact ⟨v, h4, Goes.toV hL ⟨[p], κ, _, _, m, t', h1, Nat.le_succ _, h3, R.grow [p] (fun _ _ => rfl) (Nat.le_refl _), h5, Below.refl _ _, ⟨rfl, rfl, rfl, Nat.le_refl _⟩⟩⟩
    · exfalso
      unfold compB at h
      generalize o.op = op at *
      cases op with
      | store => simp at hqo
      | alloc => simp at hqo
      | box => simp at hqo
      | buildSlice => simp at hqo
      | makeSlice => simp at hqo
      | panic => simp at hqo
      | binOp op t x y u =>
        simp only [Option.isNone_iff_eq_none] at hqo
        split at h
        all_goals first
          | (cases h; done)
          | (rename_i heq; cases heq; done)
          | skip
        rename_i heq
        cases heq
        rw [hqo] at h
        split at h
        · rename_i h3; cases h3
        · cases h
      | call c =>
        obtain ⟨callee, args, ats⟩ := c
        cases callee with
        | builtin b => cases b <;> simp_all
        | value x => simp at h
        | invoke => simp at h
      | _ => simp at h

theorem compOpsS_sound (X : Ctx P tab ρ) (hI : ∀ c, SoundC P ρ (inl c) c) (ops : Array Oper) {Q : Exit → Act → World → Prop} {k : CS → Option T} : ∀ (order : List (Nat × Bool)) {env : List PV} {κ : Kap} {cs : CS} {tm : Nat → Value} {w : World} {a : Act} {L : List (T × Nat)} {n : Nat} {T0 : T},
    (∀ p ∈ order, p.1 < ops.size ∧ (p.2 = true → quietA P (ops.getD p.1 default) = true)) →
    compOps P tab inl ops.toList (order.map fun p => ops.getD p.1 default) cs k = some T0 → EvN ρ n T0 env L r → Rel B env κ cs tm w → ActOk a cs tm → L.length = cs.nl →
    (∀ a' w', GoesS ρ B env cs tm w n L r k a' w' → Q .normal a' w') → seqS P ops Q (fun i => !grows tab (ops.getD i default)) order a w
  | [], env, κ, cs, tm, w, a, L, n, T0, _, h, hev, R, A, hL, hQ => by
    simp only [List.map_nil, compOps] at h
    exact hQ a w ⟨[], κ, cs, tm, n, T0, [], h, Nat.le_refl _, by simpa using hev, by simpa using R, A, fun _ _ => rfl, Below.refl _ _, Fr.refl _, by simpa using hL⟩
  | (i, b) :: order, env, κ, cs, tm, w, a, L, n, T0, hok, h, hev, R, A, hL, hQ => by
    have ih := fun {env κ cs tm w a L n T0} => @compOpsS_sound X hI ops Q k order env κ cs tm w a L n T0 (fun p hp => hok p (by simp [hp]))
    obtain ⟨hi, hqb⟩ := hok (i, b) (by simp)
    simp only at hi hqb
    simp only [List.map_cons] at h
    have hoi : ops[i]? = some (ops.getD i default) := by simp [hi]
    generalize ho : ops.getD i default = o at *
    simp only [compOps] at h
    split at h
    · cases h
    · rename_i hdst
      have hdst' : dstOk cs o.dst = true := by simpa using hdst
      -- behind the operation
      have after : ∀ {cs1 : CS} {n1 : Nat} {v : Value} {w2 : World}, Fr cs cs1 → cs1.nl = cs.nl → dstOk cs1 o.dst = true → n1 ≤ n → ActOk a cs1 tm →
          GoesV ρ B env cs1 tm w n1 L r (fun v cs2 => compOps P tab inl ops.toList (order.map fun p => ops.getD p.1 default) (cs2.put o.dst v) k) v w2 → seqS P ops Q (fun i => !grows tab (ops.getD i default)) order (a.put o.dst v) w2 := by
        rintro cs1 n1 v w2 hF1 hnl hd1 hn1 A1 ⟨l, κ', cs', sv, n', T', l2, k1, k2, k3, k4, k5, k6, k7, k8⟩
        have A2 : ActOk a cs' tm := ⟨by rw [A1.siz, k7.nt], A1.dfr, fun t ht => by rw [A1.tmp t (by rw [← k7.nt]; exact ht), k7.fb]⟩
        obtain ⟨tm', k9, k10, k11⟩ := k4.put A2 (dst := o.dst) (by cases hd : o.dst with
          | none => rfl
          | some d => rw [hd] at hd1; simp only [dstOk, decide_eq_true_eq] at hd1 ⊢; rw [k7.nt]; exact hd1) k5
        have hput : Fr cs' (cs'.put o.dst sv) := by cases o.dst <;> exact ⟨rfl, rfl, Nat.le_refl _⟩
        refine ih k1 k3 k9 k10 (by rw [k8]; cases o.dst <;> rfl) fun a' w3 hg => hQ a' w3 ?_
        exact hg.mono (Nat.le_trans k2 hn1) ((hF1.trans k7).trans hput) (fun x hx => k11 x (by rw [k7.fb, hF1.fb]; exact hx)) k6
      -- the operation is carried out
      have runT : ∀ {cs1 : CS} {n1 : Nat} {T1 : T}, b = true → Region.wanted o (yielded ops a.tmps) = true → Fr cs cs1 → cs1.nl = cs.nl → dstOk cs1 o.dst = true → n1 ≤ n → compOp P tab inl o cs1 (fun v cs2 => compOps P tab inl ops.toList (order.map fun p => ops.getD p.1 default) (cs2.put o.dst v) k) = some T1 → EvN ρ n1 T1 env L r → Rel B env κ cs1 tm w → ActOk a cs1 tm →
          seqS P ops Q (fun i => !grows tab (ops.getD i default)) ((i, b) :: order) a w := by
        intro cs1 n1 T1 hb hw hF1 hnl hd1 hn1 h1 hev1 R1 A1
        subst hb
        obtain ⟨v, h2, h3⟩ := compOpA_sound R1 A1 (by rw [hnl]; exact hL) (hqb rfl) h1 hev1
        exact ⟨o, v, hoi, .inl ⟨hw, h2⟩, after hF1 hnl hd1 hn1 A1 h3⟩
      have runF : ∀ {cs1 : CS} {n1 : Nat} {T1 : T}, b = false → Region.wanted o (yielded ops a.tmps) = true → Fr cs cs1 → cs1.nl = cs.nl → dstOk cs1 o.dst = true → n1 ≤ n → compOp P tab inl o cs1 (fun v cs2 => compOps P tab inl ops.toList (order.map fun p => ops.getD p.1 default) (cs2.put o.dst v) k) = some T1 → EvN ρ n1 T1 env L r → Rel B env κ cs1 tm w → ActOk a cs1 tm →
          seqS P ops Q (fun i => !grows tab (ops.getD i default)) ((i, b) :: order) a w := by
        intro cs1 n1 T1 hb hw hF1 hnl hd1 hn1 h1 hev1 R1 A1
        subst hb
        show wpOp P ops Q i _ a w
        unfold wpOp
        rw [hoi]
        simp only [hw, if_true]
        refine .inl (compOp_sound X hI R1 A1 (by rw [hnl]; exact hL) h1 hev1 fun v w2 hg hB => ⟨fun hgr => ?_, after hF1 hnl hd1 hn1 A1 hg⟩)
        have := hB (by rw [ho] at hgr; simpa using hgr)
        exact ⟨this.size, fun g hg => this.block g hg⟩
      have run : ∀ {cs1 : CS} {n1 : Nat} {T1 : T}, Region.wanted o (yielded ops a.tmps) = true → Fr cs cs1 → cs1.nl = cs.nl → dstOk cs1 o.dst = true → n1 ≤ n → compOp P tab inl o cs1 (fun v cs2 => compOps P tab inl ops.toList (order.map fun p => ops.getD p.1 default) (cs2.put o.dst v) k) = some T1 → EvN ρ n1 T1 env L r → Rel B env κ cs1 tm w → ActOk a cs1 tm →
          seqS P ops Q (fun i => !grows tab (ops.getD i default)) ((i, b) :: order) a w := by
        intro cs1 n1 T1 hw hF1 hnl hd1 hn1 h1 hev1 R1 A1
        cases hb : b with
        | true => rw [hb] at runT; exact runT rfl hw hF1 hnl hd1 hn1 h1 hev1 R1 A1
        | false => rw [hb] at runF; exact runF rfl hw hF1 hnl hd1 hn1 h1 hev1 R1 A1
      -- it is passed over
      have skip : ∀ {cs1 : CS} {n1 : Nat} {T1 : T}, Region.wanted o (yielded ops a.tmps) = false → Fr cs cs1 → cs1.nl = cs.nl → dstOk cs1 o.dst = true → n1 ≤ n → compOps P tab inl ops.toList (order.map fun p => ops.getD p.1 default) (cs1.put o.dst (.one .undef)) k = some T1 → EvN ρ n1 T1 env L r → Rel B env κ cs1 tm w → ActOk a cs1 tm →
          seqS P ops Q (fun i => !grows tab (ops.getD i default)) ((i, b) :: order) a w := by
        intro cs1 n1 T1 hw hF1 hnl hd1 hn1 h1 hev1 R1 A1
        obtain ⟨tm', k9, k10, k11⟩ := R1.put A1 (dst := o.dst) hd1 (sv := .one .undef) (v := undef) rfl
        have hput : Fr cs1 (cs1.put o.dst (.one .undef)) := by cases o.dst <;> exact ⟨rfl, rfl, Nat.le_refl _⟩
        have hrest : seqS P ops Q (fun i => !grows tab (ops.getD i default)) order (a.put o.dst undef) w := by
          refine ih h1 hev1 k9 k10 (by rw [hL, ← hnl]; cases o.dst <;> rfl) fun a' w2 hg => hQ a' w2 ?_
          have hg' : GoesS ρ B (env ++ []) (cs1.put o.dst (.one .undef)) tm' w n1 (L ++ []) r k a' w2 := by simpa using hg
          exact hg'.mono hn1 (hF1.trans hput) (fun x hx => k11 x (by rw [hF1.fb]; exact hx)) (Below.refl _ _)
        cases hb : b with
        | true => exact ⟨o, undef, hoi, .inr ⟨hw, rfl⟩, hrest⟩
        | false =>
          show wpOp P ops Q i _ a w
          unfold wpOp
          rw [hoi]
          simp only [hw, Bool.false_eq_true, if_false]
          exact ⟨fun _ => Ext.refl w, hrest⟩
      split at h
      · rename_i hgu
        exact run (by simp [Region.wanted, hgu]) (Fr.refl _) rfl hdst' (Nat.le_refl _) h hev R A
      · rename_i j want hgu
        split at h
        · cases h
        · rename_i d hd
          have toA : ops.toList.toArray = ops := by simp
          split at h
          · rename_i x hx
            have hx' : d < cs.nt ∧ RelSV env κ cs.heap w (.one (.at x)) (a.tmps.getD d undef) := by
              refine ⟨?_, evalO_sound R A.tmp hx⟩
              simp only [evalO] at hx
              split at hx
              · assumption
              · cases hx
            obtain ⟨hdl, hxl, hxr⟩ := hx'
            have both : ∀ {b' : Bool} {cs1 : CS} {n1 : Nat} {T1 : T}, den env x = .bool b' → Fr cs cs1 → cs1.nl = cs.nl → n1 ≤ n → (if b' = want then compOp P tab inl o cs1 fun v cs1 => compOps P tab inl ops.toList (order.map fun p => ops.getD p.1 default) (cs1.put o.dst v) k
                else compOps P tab inl ops.toList (order.map fun p => ops.getD p.1 default) (cs1.put o.dst (.one .undef)) k) = some T1 → EvN ρ n1 T1 env L r → Rel B env κ cs1 tm w → ActOk a cs1 tm →
                seqS P ops Q (fun i => !grows tab (ops.getD i default)) ((i, b) :: order) a w := by
              intro b' cs1 n1 T1 hb hF1 hnl hn1 h1 hev1 R1 A1
              have hv : a.tmps.getD d undef = .bool b' := bool_of hxr hb
              have hy := yielded_of ops.toList a.tmps j d _ hd hv (by rw [A.siz]; exact hdl)
              rw [toA] at hy
              have hd1 : dstOk cs1 o.dst = true := by cases hd : o.dst with
                | none => rfl
                | some d => rw [hd] at hdst'; simp only [dstOk, decide_eq_true_eq] at hdst' ⊢; rw [hF1.nt]; exact hdst'
              by_cases e : b' = want
              · rw [if_pos e] at h1
                exact run (by simp [Region.wanted, hgu, hy, asB, e]) hF1 hnl hd1 hn1 h1 hev1 R1 A1
              · rw [if_neg e] at h1
                exact skip (by simp [Region.wanted, hgu, hy, asB, e]) hF1 hnl hd1 hn1 h1 hev1 R1 A1
            split at h
            · rename_i b' hk
              exact both (knownB_sound R hk) (Fr.refl _) rfl (Nat.le_refl _) h hev R A
            · obtain ⟨t, h1, h2⟩ := Option.bind_eq_some_iff.1 h
              obtain ⟨e, h3, h4⟩ := Option.bind_eq_some_iff.1 h2
              cases h4
              obtain ⟨n', b', rfl, h5, h6⟩ := hev.ite
              have Rk := R.known (by rw [← R.henv]; exact hxl) h5
              have Ak : ActOk a { cs with known := (x, b') :: cs.known } tm := ⟨A.siz, A.dfr, A.tmp⟩
              cases b' with
              | true => exact both (cs1 := { cs with known := (x, true) :: cs.known }) h5 ⟨rfl, rfl, Nat.le_refl _⟩ rfl (Nat.le_succ _) h1 h6 Rk Ak
              | false => exact both (cs1 := { cs with known := (x, false) :: cs.known }) h5 ⟨rfl, rfl, Nat.le_refl _⟩ rfl (Nat.le_succ _) h3 h6 Rk Ak
          · rename_i hx
            have hv := evalO_sound R A.tmp hx
            have hdl : d < cs.nt := by
              simp only [evalO] at hx
              split at hx
              · assumption
              · cases hx
            have hv' : a.tmps.getD d undef = undef := hv
            have hy := yielded_of ops.toList a.tmps j d _ hd hv' (by rw [A.siz]; exact hdl)
            rw [toA] at hy
            exact skip (by simp [Region.wanted, hgu, hy, asB, undef]) (Fr.refl _) rfl hdst' (Nat.le_refl _) h hev R A
          · cases h
end
end Go.Xt
