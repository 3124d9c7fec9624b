/- What each function comes to. -/
import Derived.Test.YtfcihgjageeglaaSpecs
set_option maxRecDepth 100000
set_option linter.unusedVariables false
set_option linter.unusedSimpArgs false
namespace Go.Xt
noncomputable def f_ring_Is : List PV → Option (List PV) := fnOf (fun (_ : Int) => True) (fun (n : Int) => [I n]) (fun (n : Int) => [bb (isN n)])
noncomputable def f_ring_Node : List PV → Option (List PV) := fnOf (fun (_ : Int) => True) (fun (n : Int) => [I n]) (fun (n : Int) => [I (if isN n = true then nn n else 0), I (if isN n = true then 0 else 1)])
noncomputable def f_ring_Topic : List PV → Option (List PV) := fnOf (fun (_ : Int) => True) (fun (t : Int) => [I t]) (fun (t : Int) => [I (if isT t = true then tt t else 0), I (if isT t = true then 0 else 1)])
noncomputable def f_key_Far : List PV → Option (List PV) := fnOf (fun (((k, n)) : Int × Int) => 0 ≤ k ∧ k < 4611686018427387904 ∧ 0 ≤ n ∧ n < 4611686018427387904) (fun (((k, n)) : Int × Int) => [I k, I n]) (fun (((k, n)) : Int × Int) => [I (far k n)])
noncomputable def f_ref01_Node : List PV → Option (List PV) := fnOf (fun (n : Int) => isN n = true) (fun (n : Int) => [I n]) (fun (n : Int) => [I (nn n)])
noncomputable def f_ref01_Topic : List PV → Option (List PV) := fnOf (fun (t : Int) => isT t = true) (fun (t : Int) => [I t]) (fun (t : Int) => [I (tt t)])
noncomputable def f_ref01_Behind : List PV → Option (List PV) := fnOf (fun (((k, n)) : Int × Int) => 0 ≤ k ∧ k < 4611686018427387904 ∧ 0 ≤ n ∧ n < 4611686018427387904) (fun (((k, n)) : Int × Int) => [I k, I n]) (fun (((k, n)) : Int × Int) => [I (far k n)])
noncomputable def f_ring_Gap : List PV → Option (List PV) := fnOf (fun (_ : Int × Int) => True) (fun (((t, n)) : Int × Int) => [I t, I n]) (fun (((t, n)) : Int × Int) => [I (if (isT t && isN n) = true then gap t n else 0), I (if (isT t && isN n) = true then 0 else 1)])
noncomputable def f_ring_Nearer : List PV → Option (List PV) := fnOf (fun (_ : Int × Int × Int) => True) (fun (((t, a, b)) : Int × Int × Int) => [I t, I a, I b]) (fun (((t, a, b)) : Int × Int × Int) => [bb (near t a b)])
noncomputable def f_ref01_IsTopic : List PV → Option (List PV) := fnOf (fun (_ : Int) => True) (fun (t : Int) => [I t]) (fun (t : Int) => [bb (isT t)])
noncomputable def f_ref01_IsNode : List PV → Option (List PV) := fnOf (fun (_ : Int) => True) (fun (n : Int) => [I n]) (fun (n : Int) => [bb (isN n)])
noncomputable def f_ref01_Gap : List PV → Option (List PV) := fnOf (fun (((t, n)) : Int × Int) => isT t = true ∧ isN n = true) (fun (((t, n)) : Int × Int) => [I t, I n]) (fun (((t, n)) : Int × Int) => [I (gap t n)])
noncomputable def f_ref01_Nearer : List PV → Option (List PV) := fnOf (fun (_ : Int × Int × Int) => True) (fun (((t, a, b)) : Int × Int × Int) => [I t, I a, I b]) (fun (((t, a, b)) : Int × Int × Int) => [bb (near t a b)])
noncomputable def f_ring_All : List PV → Option (List PV) := fnOf (fun (_ : (List Int)) => True) (fun (l : (List Int)) => [L l]) (fun (l : (List Int)) => [bb (l.all isN)])
noncomputable def f_path_rises : List PV → Option (List PV) := fnOf (fun (_ : Int × Int × (List Int)) => True) (fun (((t, self, l)) : Int × Int × (List Int)) => [I t, I self, L l]) (fun (((t, self, l)) : Int × Int × (List Int)) => [bb (rises t self l)])
noncomputable def f_path_Check : List PV → Option (List PV) := fnOf (fun (_ : Int × Int × (List Int) × Int) => True) (fun (((t, self, l, depth)) : Int × Int × (List Int) × Int) => [I t, I self, L l, I depth]) (fun (((t, self, l, depth)) : Int × Int × (List Int) × Int) => [I (chk t self l depth)])
noncomputable def f_path_Add : List PV → Option (List PV) := fnOf (fun (_ : Int × Int × (List Int)) => True) (fun (((t, self, l)) : Int × Int × (List Int)) => [I t, I self, L l]) (fun (((t, self, l)) : Int × Int × (List Int)) => [L (addP t self l).1, I (addP t self l).2])
noncomputable def f_path_parent : List PV → Option (List PV) := fnOf (fun (((paths, n)) : (List (List Int)) × Int) => 0 ≤ n) (fun (((paths, n)) : (List (List Int)) × Int) => [L paths, I n]) (fun (((paths, n)) : (List (List Int)) × Int) => [I (par paths n)])
noncomputable def f_path_Whole : List PV → Option (List PV) := fnOf (fun (_ : Int × (List (List Int))) => True) (fun (((t, paths)) : Int × (List (List Int))) => [I t, L paths]) (fun (((t, paths)) : Int × (List (List Int))) => [bb (whole paths)])
noncomputable def f_bkeep_TwinInts : List PV → Option (List PV) := fnOf (fun (l : (List Int)) => l.length ≤ 1000000) (fun (l : (List Int)) => [L l]) (fun (l : (List Int)) => [L l])
noncomputable def f_bkeep_Ints : List PV → Option (List PV) := fnOf (fun (_ : (List Int) × (List Int)) => True) (fun (((a, b)) : (List Int) × (List Int)) => [L a, L b]) (fun (((a, b)) : (List Int) × (List Int)) => [bb (decide (a = b))])
noncomputable def f_ref10_Path : List PV → Option (List PV) := fnOf (fun (((t, self, l, depth)) : Int × Int × (List Int) × Int) => isT t = true ∧ isN self = true) (fun (((t, self, l, depth)) : Int × Int × (List Int) × Int) => [I t, I self, L l, I depth]) (fun (((t, self, l, depth)) : Int × Int × (List Int) × Int) => [I (chkR t self l depth)])
noncomputable def f_ref10_Whole : List PV → Option (List PV) := fnOf (fun (paths : (List (List Int))) => ∀ x ∈ paths, x.length ≤ 1000) (fun (paths : (List (List Int))) => [L paths]) (fun (paths : (List (List Int))) => [bb (whole paths)])
noncomputable def f_law12_wakes : List PV → Option (List PV) := fnOf (fun (_ : Unit) => True) (fun (_ : Unit) => []) (fun (_ : Unit) => [bb true])
noncomputable def f_law12_PathExact : List PV → Option (List PV) := fnOf (fun (_ : Int × Int × (List Int) × Int × (List (List Int))) => True) (fun (((t, self, l, depth, paths)) : Int × Int × (List Int) × Int × (List (List Int))) => [I t, I self, L l, I depth, L paths]) (fun (((t, self, l, depth, paths)) : Int × Int × (List Int) × Int × (List (List Int))) => [bb true])
noncomputable def f_law12_PathWhole : List PV → Option (List PV) := fnOf (fun (_ : Int × (List (List Int))) => True) (fun (((t, paths)) : Int × (List (List Int))) => [I t, L paths]) (fun (((t, paths)) : Int × (List (List Int))) => [bb true])
noncomputable def ρ : Fns := fun K => match K with
  | 52 => f_ring_Is
  | 35 => f_ring_Node
  | 61 => f_ring_Topic
  | 60 => f_key_Far
  | 54 => f_ref01_Node
  | 73 => f_ref01_Topic
  | 55 => f_ref01_Behind
  | 46 => f_ring_Gap
  | 22 => f_ring_Nearer
  | 17 => f_ref01_IsTopic
  | 18 => f_ref01_IsNode
  | 65 => f_ref01_Gap
  | 45 => f_ref01_Nearer
  | 42 => f_ring_All
  | 47 => f_path_rises
  | 20 => f_path_Check
  | 13 => f_path_Add
  | 43 => f_path_parent
  | 14 => f_path_Whole
  | 12 => f_bkeep_TwinInts
  | 16 => f_bkeep_Ints
  | 19 => f_ref10_Path
  | 15 => f_ref10_Whole
  | 21 => f_law12_wakes
  | 3 => f_law12_PathExact
  | 4 => f_law12_PathWhole
  | _ => fun _ => none
theorem r_ring_Is {n : Int} : f_ring_Is [I n] = some [bb (isN n)] := fnOf_eq (a := n) (by intro a b h; simpa [L_inj] using h) trivial
theorem c_ring_Is {n : Int} {k_ : PV → Prop} : CALL ρ 52 [I n] 1 k_ = k_ (bb (isN n)) := CALL_of (ρ := ρ) (K := 52) (m := 1) (k := k_) (r_ring_Is) rfl
theorem r_ring_Node {n : Int} : f_ring_Node [I n] = some [I (if isN n = true then nn n else 0), I (if isN n = true then 0 else 1)] := fnOf_eq (a := n) (by intro a b h; simpa [L_inj] using h) trivial
theorem c_ring_Node {n : Int} {k_ : PV → PV → Prop} : CALL ρ 35 [I n] 2 k_ = k_ (I (if isN n = true then nn n else 0)) (I (if isN n = true then 0 else 1)) := CALL_of (ρ := ρ) (K := 35) (m := 2) (k := k_) (r_ring_Node) rfl
theorem r_ring_Topic {t : Int} : f_ring_Topic [I t] = some [I (if isT t = true then tt t else 0), I (if isT t = true then 0 else 1)] := fnOf_eq (a := t) (by intro a b h; simpa [L_inj] using h) trivial
theorem c_ring_Topic {t : Int} {k_ : PV → PV → Prop} : CALL ρ 61 [I t] 2 k_ = k_ (I (if isT t = true then tt t else 0)) (I (if isT t = true then 0 else 1)) := CALL_of (ρ := ρ) (K := 61) (m := 2) (k := k_) (r_ring_Topic) rfl
theorem r_key_Far {k : Int} {n : Int} (h : 0 ≤ k ∧ k < 4611686018427387904 ∧ 0 ≤ n ∧ n < 4611686018427387904) : f_key_Far [I k, I n] = some [I (far k n)] := fnOf_eq (a := (k, n)) (by rintro ⟨_, _⟩ ⟨_, _⟩ h; simpa [L_inj] using h) h
theorem c_key_Far {k : Int} {n : Int} {k_ : PV → Prop} (h : 0 ≤ k ∧ k < 4611686018427387904 ∧ 0 ≤ n ∧ n < 4611686018427387904) : CALL ρ 60 [I k, I n] 1 k_ = k_ (I (far k n)) := CALL_of (ρ := ρ) (K := 60) (m := 1) (k := k_) (r_key_Far h) rfl
theorem r_ref01_Node {n : Int} (h : isN n = true) : f_ref01_Node [I n] = some [I (nn n)] := fnOf_eq (a := n) (by intro a b h; simpa [L_inj] using h) h
theorem c_ref01_Node {n : Int} {k_ : PV → Prop} (h : isN n = true) : CALL ρ 54 [I n] 1 k_ = k_ (I (nn n)) := CALL_of (ρ := ρ) (K := 54) (m := 1) (k := k_) (r_ref01_Node h) rfl
theorem r_ref01_Topic {t : Int} (h : isT t = true) : f_ref01_Topic [I t] = some [I (tt t)] := fnOf_eq (a := t) (by intro a b h; simpa [L_inj] using h) h
theorem c_ref01_Topic {t : Int} {k_ : PV → Prop} (h : isT t = true) : CALL ρ 73 [I t] 1 k_ = k_ (I (tt t)) := CALL_of (ρ := ρ) (K := 73) (m := 1) (k := k_) (r_ref01_Topic h) rfl
theorem r_ref01_Behind {k : Int} {n : Int} (h : 0 ≤ k ∧ k < 4611686018427387904 ∧ 0 ≤ n ∧ n < 4611686018427387904) : f_ref01_Behind [I k, I n] = some [I (far k n)] := fnOf_eq (a := (k, n)) (by rintro ⟨_, _⟩ ⟨_, _⟩ h; simpa [L_inj] using h) h
theorem c_ref01_Behind {k : Int} {n : Int} {k_ : PV → Prop} (h : 0 ≤ k ∧ k < 4611686018427387904 ∧ 0 ≤ n ∧ n < 4611686018427387904) : CALL ρ 55 [I k, I n] 1 k_ = k_ (I (far k n)) := CALL_of (ρ := ρ) (K := 55) (m := 1) (k := k_) (r_ref01_Behind h) rfl
theorem r_ring_Gap {t : Int} {n : Int} : f_ring_Gap [I t, I n] = some [I (if (isT t && isN n) = true then gap t n else 0), I (if (isT t && isN n) = true then 0 else 1)] := fnOf_eq (a := (t, n)) (by rintro ⟨_, _⟩ ⟨_, _⟩ h; simpa [L_inj] using h) trivial
theorem c_ring_Gap {t : Int} {n : Int} {k_ : PV → PV → Prop} : CALL ρ 46 [I t, I n] 2 k_ = k_ (I (if (isT t && isN n) = true then gap t n else 0)) (I (if (isT t && isN n) = true then 0 else 1)) := CALL_of (ρ := ρ) (K := 46) (m := 2) (k := k_) (r_ring_Gap) rfl
theorem r_ring_Nearer {t : Int} {a : Int} {b : Int} : f_ring_Nearer [I t, I a, I b] = some [bb (near t a b)] := fnOf_eq (a := (t, a, b)) (by rintro ⟨_, _, _⟩ ⟨_, _, _⟩ h; simpa [L_inj] using h) trivial
theorem c_ring_Nearer {t : Int} {a : Int} {b : Int} {k_ : PV → Prop} : CALL ρ 22 [I t, I a, I b] 1 k_ = k_ (bb (near t a b)) := CALL_of (ρ := ρ) (K := 22) (m := 1) (k := k_) (r_ring_Nearer) rfl
theorem r_ref01_IsTopic {t : Int} : f_ref01_IsTopic [I t] = some [bb (isT t)] := fnOf_eq (a := t) (by intro a b h; simpa [L_inj] using h) trivial
theorem c_ref01_IsTopic {t : Int} {k_ : PV → Prop} : CALL ρ 17 [I t] 1 k_ = k_ (bb (isT t)) := CALL_of (ρ := ρ) (K := 17) (m := 1) (k := k_) (r_ref01_IsTopic) rfl
theorem r_ref01_IsNode {n : Int} : f_ref01_IsNode [I n] = some [bb (isN n)] := fnOf_eq (a := n) (by intro a b h; simpa [L_inj] using h) trivial
theorem c_ref01_IsNode {n : Int} {k_ : PV → Prop} : CALL ρ 18 [I n] 1 k_ = k_ (bb (isN n)) := CALL_of (ρ := ρ) (K := 18) (m := 1) (k := k_) (r_ref01_IsNode) rfl
theorem r_ref01_Gap {t : Int} {n : Int} (h : isT t = true ∧ isN n = true) : f_ref01_Gap [I t, I n] = some [I (gap t n)] := fnOf_eq (a := (t, n)) (by rintro ⟨_, _⟩ ⟨_, _⟩ h; simpa [L_inj] using h) h
theorem c_ref01_Gap {t : Int} {n : Int} {k_ : PV → Prop} (h : isT t = true ∧ isN n = true) : CALL ρ 65 [I t, I n] 1 k_ = k_ (I (gap t n)) := CALL_of (ρ := ρ) (K := 65) (m := 1) (k := k_) (r_ref01_Gap h) rfl
theorem r_ref01_Nearer {t : Int} {a : Int} {b : Int} : f_ref01_Nearer [I t, I a, I b] = some [bb (near t a b)] := fnOf_eq (a := (t, a, b)) (by rintro ⟨_, _, _⟩ ⟨_, _, _⟩ h; simpa [L_inj] using h) trivial
theorem c_ref01_Nearer {t : Int} {a : Int} {b : Int} {k_ : PV → Prop} : CALL ρ 45 [I t, I a, I b] 1 k_ = k_ (bb (near t a b)) := CALL_of (ρ := ρ) (K := 45) (m := 1) (k := k_) (r_ref01_Nearer) rfl
theorem r_ring_All {l : List Int} : f_ring_All [L l] = some [bb (l.all isN)] := fnOf_eq (a := l) (by intro a b h; simpa [L_inj] using h) trivial
theorem c_ring_All {l : List Int} {k_ : PV → Prop} : CALL ρ 42 [L l] 1 k_ = k_ (bb (l.all isN)) := CALL_of (ρ := ρ) (K := 42) (m := 1) (k := k_) (r_ring_All) rfl
theorem r_path_rises {t : Int} {self : Int} {l : List Int} : f_path_rises [I t, I self, L l] = some [bb (rises t self l)] := fnOf_eq (a := (t, self, l)) (by rintro ⟨_, _, _⟩ ⟨_, _, _⟩ h; simpa [L_inj] using h) trivial
theorem c_path_rises {t : Int} {self : Int} {l : List Int} {k_ : PV → Prop} : CALL ρ 47 [I t, I self, L l] 1 k_ = k_ (bb (rises t self l)) := CALL_of (ρ := ρ) (K := 47) (m := 1) (k := k_) (r_path_rises) rfl
theorem r_path_Check {t : Int} {self : Int} {l : List Int} {depth : Int} : f_path_Check [I t, I self, L l, I depth] = some [I (chk t self l depth)] := fnOf_eq (a := (t, self, l, depth)) (by rintro ⟨_, _, _, _⟩ ⟨_, _, _, _⟩ h; simpa [L_inj] using h) trivial
theorem c_path_Check {t : Int} {self : Int} {l : List Int} {depth : Int} {k_ : PV → Prop} : CALL ρ 20 [I t, I self, L l, I depth] 1 k_ = k_ (I (chk t self l depth)) := CALL_of (ρ := ρ) (K := 20) (m := 1) (k := k_) (r_path_Check) rfl
theorem r_path_Add {t : Int} {self : Int} {l : List Int} : f_path_Add [I t, I self, L l] = some [L (addP t self l).1, I (addP t self l).2] := fnOf_eq (a := (t, self, l)) (by rintro ⟨_, _, _⟩ ⟨_, _, _⟩ h; simpa [L_inj] using h) trivial
theorem c_path_Add {t : Int} {self : Int} {l : List Int} {k_ : PV → PV → Prop} : CALL ρ 13 [I t, I self, L l] 2 k_ = k_ (L (addP t self l).1) (I (addP t self l).2) := CALL_of (ρ := ρ) (K := 13) (m := 2) (k := k_) (r_path_Add) rfl
theorem r_path_parent {paths : List (List Int)} {n : Int} (h : 0 ≤ n) : f_path_parent [L paths, I n] = some [I (par paths n)] := fnOf_eq (a := (paths, n)) (by rintro ⟨_, _⟩ ⟨_, _⟩ h; simpa [L_inj] using h) h
theorem c_path_parent {paths : List (List Int)} {n : Int} {k_ : PV → Prop} (h : 0 ≤ n) : CALL ρ 43 [L paths, I n] 1 k_ = k_ (I (par paths n)) := CALL_of (ρ := ρ) (K := 43) (m := 1) (k := k_) (r_path_parent h) rfl
theorem r_path_Whole {t : Int} {paths : List (List Int)} : f_path_Whole [I t, L paths] = some [bb (whole paths)] := fnOf_eq (a := (t, paths)) (by rintro ⟨_, _⟩ ⟨_, _⟩ h; simpa [L_inj] using h) trivial
theorem c_path_Whole {t : Int} {paths : List (List Int)} {k_ : PV → Prop} : CALL ρ 14 [I t, L paths] 1 k_ = k_ (bb (whole paths)) := CALL_of (ρ := ρ) (K := 14) (m := 1) (k := k_) (r_path_Whole) rfl
theorem r_bkeep_TwinInts {l : List Int} (h : l.length ≤ 1000000) : f_bkeep_TwinInts [L l] = some [L l] := fnOf_eq (a := l) (by intro a b h; simpa [L_inj] using h) h
theorem c_bkeep_TwinInts {l : List Int} {k_ : PV → Prop} (h : l.length ≤ 1000000) : CALL ρ 12 [L l] 1 k_ = k_ (L l) := CALL_of (ρ := ρ) (K := 12) (m := 1) (k := k_) (r_bkeep_TwinInts h) rfl
theorem r_bkeep_Ints {a : List Int} {b : List Int} : f_bkeep_Ints [L a, L b] = some [bb (decide (a = b))] := fnOf_eq (a := (a, b)) (by rintro ⟨_, _⟩ ⟨_, _⟩ h; simpa [L_inj] using h) trivial
theorem c_bkeep_Ints {a : List Int} {b : List Int} {k_ : PV → Prop} : CALL ρ 16 [L a, L b] 1 k_ = k_ (bb (decide (a = b))) := CALL_of (ρ := ρ) (K := 16) (m := 1) (k := k_) (r_bkeep_Ints) rfl
theorem r_ref10_Path {t : Int} {self : Int} {l : List Int} {depth : Int} (h : isT t = true ∧ isN self = true) : f_ref10_Path [I t, I self, L l, I depth] = some [I (chkR t self l depth)] := fnOf_eq (a := (t, self, l, depth)) (by rintro ⟨_, _, _, _⟩ ⟨_, _, _, _⟩ h; simpa [L_inj] using h) h
theorem c_ref10_Path {t : Int} {self : Int} {l : List Int} {depth : Int} {k_ : PV → Prop} (h : isT t = true ∧ isN self = true) : CALL ρ 19 [I t, I self, L l, I depth] 1 k_ = k_ (I (chkR t self l depth)) := CALL_of (ρ := ρ) (K := 19) (m := 1) (k := k_) (r_ref10_Path h) rfl
theorem r_ref10_Whole {paths : List (List Int)} (h : ∀ x ∈ paths, x.length ≤ 1000) : f_ref10_Whole [L paths] = some [bb (whole paths)] := fnOf_eq (a := paths) (by intro a b h; simpa [L_inj] using h) h
theorem c_ref10_Whole {paths : List (List Int)} {k_ : PV → Prop} (h : ∀ x ∈ paths, x.length ≤ 1000) : CALL ρ 15 [L paths] 1 k_ = k_ (bb (whole paths)) := CALL_of (ρ := ρ) (K := 15) (m := 1) (k := k_) (r_ref10_Whole h) rfl
theorem r_law12_wakes  : f_law12_wakes [] = some [bb true] := fnOf_eq (a := ()) (fun _ _ _ => rfl) trivial
theorem c_law12_wakes  {k_ : PV → Prop} : CALL ρ 21 [] 1 k_ = k_ (bb true) := CALL_of (ρ := ρ) (K := 21) (m := 1) (k := k_) (r_law12_wakes) rfl
theorem r_law12_PathExact {t : Int} {self : Int} {l : List Int} {depth : Int} {paths : List (List Int)} : f_law12_PathExact [I t, I self, L l, I depth, L paths] = some [bb true] := fnOf_eq (a := (t, self, l, depth, paths)) (by rintro ⟨_, _, _, _, _⟩ ⟨_, _, _, _, _⟩ h; simpa [L_inj] using h) trivial
theorem c_law12_PathExact {t : Int} {self : Int} {l : List Int} {depth : Int} {paths : List (List Int)} {k_ : PV → Prop} : CALL ρ 3 [I t, I self, L l, I depth, L paths] 1 k_ = k_ (bb true) := CALL_of (ρ := ρ) (K := 3) (m := 1) (k := k_) (r_law12_PathExact) rfl
theorem r_law12_PathWhole {t : Int} {paths : List (List Int)} : f_law12_PathWhole [I t, L paths] = some [bb true] := fnOf_eq (a := (t, paths)) (by rintro ⟨_, _⟩ ⟨_, _⟩ h; simpa [L_inj] using h) trivial
theorem c_law12_PathWhole {t : Int} {paths : List (List Int)} {k_ : PV → Prop} : CALL ρ 4 [I t, L paths] 1 k_ = k_ (bb true) := CALL_of (ρ := ρ) (K := 4) (m := 1) (k := k_) (r_law12_PathWhole) rfl
end Go.Xt
