/- What each function comes to. -/
import Derived.Test.YtfcihgjageeglaaSpecs
set_option maxRecDepth 100000
set_option linter.unusedVariables false
set_option linter.unusedSimpArgs false
namespace Go.Xt
noncomputable def f_ring_Is : List PV → Option (List PV) := fnOf (fun (_ : Int) => True) (fun (n : Int) => [I n]) (fun (n : Int) => [bb (isN n)])
noncomputable def f_ring_Node : List PV → Option (List PV) := fnOf (fun (_ : Int) => True) (fun (n : Int) => [I n]) (fun (n : Int) => [I (if isN n = true then nn n else 0), I (if isN n = true then 0 else 1)])
noncomputable def f_ring_Topic : List PV → Option (List PV) := fnOf (fun (_ : Int) => True) (fun (t : Int) => [I t]) (fun (t : Int) => [I (if isT t = true then tt t else 0), I (if isT t = true then 0 else 1)])
noncomputable def f_key_Far : List PV → Option (List PV) := fnOf (fun (((k, n)) : Int × Int) => 0 ≤ k ∧ k < 4611686018427387904 ∧ 0 ≤ n ∧ n < 4611686018427387904) (fun (((k, n)) : Int × Int) => [I k, I n]) (fun (((k, n)) : Int × Int) => [I (far k n)])
noncomputable def f_ref01_Node : List PV → Option (List PV) := fnOf (fun (n : Int) => isN n = true) (fun (n : Int) => [I n]) (fun (n : Int) => [I (nn n)])
noncomputable def f_ref01_Topic : List PV → Option (List PV) := fnOf (fun (t : Int) => isT t = true) (fun (t : Int) => [I t]) (fun (t : Int) => [I (tt t)])
noncomputable def f_ref01_Behind : List PV → Option (List PV) := fnOf (fun (((k, n)) : Int × Int) => 0 ≤ k ∧ k < 4611686018427387904 ∧ 0 ≤ n ∧ n < 4611686018427387904) (fun (((k, n)) : Int × Int) => [I k, I n]) (fun (((k, n)) : Int × Int) => [I (far k n)])
noncomputable def f_ring_Gap : List PV → Option (List PV) := fnOf (fun (_ : Int × Int) => True) (fun (((t, n)) : Int × Int) => [I t, I n]) (fun (((t, n)) : Int × Int) => [I (if (isT t && isN n) = true then gap t n else 0), I (if (isT t && isN n) = true then 0 else 1)])
noncomputable def f_ring_Nearer : List PV → Option (List PV) := fnOf (fun (_ : Int × Int × Int) => True) (fun (((t, a, b)) : Int × Int × Int) => [I t, I a, I b]) (fun (((t, a, b)) : Int × Int × Int) => [bb (near t a b)])
noncomputable def f_ref01_IsTopic : List PV → Option (List PV) := fnOf (fun (_ : Int) => True) (fun (t : Int) => [I t]) (fun (t : Int) => [bb (isT t)])
noncomputable def f_ref01_IsNode : List PV → Option (List PV) := fnOf (fun (_ : Int) => True) (fun (n : Int) => [I n]) (fun (n : Int) => [bb (isN n)])
noncomputable def f_ref01_Gap : List PV → Option (List PV) := fnOf (fun (((t, n)) : Int × Int) => isT t = true ∧ isN n = true) (fun (((t, n)) : Int × Int) => [I t, I n]) (fun (((t, n)) : Int × Int) => [I (gap t n)])
noncomputable def f_ref01_Nearer : List PV → Option (List PV) := fnOf (fun (_ : Int × Int × Int) => True) (fun (((t, a, b)) : Int × Int × Int) => [I t, I a, I b]) (fun (((t, a, b)) : Int × Int × Int) => [bb (near t a b)])
noncomputable def f_ring_All : List PV → Option (List PV) := fnOf (fun (_ : (List Int)) => True) (fun (l : (List Int)) => [L l]) (fun (l : (List Int)) => [bb (l.all isN)])
noncomputable def f_path_rises : List PV → Option (List PV) := fnOf (fun (_ : Int × Int × (List Int)) => True) (fun (((t, self, l)) : Int × Int × (List Int)) => [I t, I self, L l]) (fun (((t, self, l)) : Int × Int × (List Int)) => [bb (rises t self l)])
noncomputable def f_path_Check : List PV → Option (List PV) := fnOf (fun (_ : Int × Int × (List Int) × Int) => True) (fun (((t, self, l, depth)) : Int × Int × (List Int) × Int) => [I t, I self, L l, I depth]) (fun (((t, self, l, depth)) : Int × Int × (List Int) × Int) => [I (chk t self l depth)])
noncomputable def f_path_Add : List PV → Option (List PV) := fnOf (fun (_ : Int × Int × (List Int)) => True) (fun (((t, self, l)) : Int × Int × (List Int)) => [I t, I self, L l]) (fun (((t, self, l)) : Int × Int × (List Int)) => [L (addP t self l).1, I (addP t self l).2])
noncomputable def f_path_parent : List PV → Option (List PV) := fnOf (fun (((paths, n)) : (List (List Int)) × Int) => 0 ≤ n) (fun (((paths, n)) : (List (List Int)) × Int) => [L paths, I n]) (fun (((paths, n)) : (List (List Int)) × Int) => [I (par paths n)])
noncomputable def f_path_Whole : List PV → Option (List PV) := fnOf (fun (_ : Int × (List (List Int))) => True) (fun (((t, paths)) : Int × (List (List Int))) => [I t, L paths]) (fun (((t, paths)) : Int × (List (List Int))) => [bb (whole paths)])
noncomputable def f_bkeep_TwinInts : List PV → Option (List PV) := fnOf (fun (l : (List Int)) => l.length ≤ 1000000) (fun (l : (List Int)) => [L l]) (fun (l : (List Int)) => [L l])
noncomputable def f_bkeep_Ints : List PV → Option (List PV) := fnOf (fun (_ : (List Int) × (List Int)) => True) (fun (((a, b)) : (List Int) × (List Int)) => [L a, L b]) (fun (((a, b)) : (List Int) × (List Int)) => [bb (decide (a = b))])
noncomputable def f_ref10_Path : List PV → Option (List PV) := fnOf (fun (((t, self, l, depth)) : Int × Int × (List Int) × Int) => isT t = true ∧ isN self = true) (fun (((t, self, l, depth)) : Int × Int × (List Int) × Int) => [I t, I self, L l, I depth]) (fun (((t, self, l, depth)) : Int × Int × (List Int) × Int) => [I (chkR t self l depth)])
noncomputable def f_ref10_Whole : List PV → Option (List PV) := fnOf (fun (paths : (List (List Int))) => ∀ x ∈ paths, x.length ≤ 1000) (fun (paths : (List (List Int))) => [L paths]) (fun (paths : (List (List Int))) => [bb (whole paths)])
noncomputable def f_law12_wakes : List PV → Option (List PV) := fnOf (fun (_ : Unit) => True) (fun (_ : Unit) => []) (fun (_ : Unit) => [bb true])
noncomputable def f_law12_PathExact : List PV → Option (List PV) := fnOf (fun (_ : Int × Int × (List Int) × Int × (List (List Int))) => True) (fun (((t, self, l, depth, paths)) : Int × Int × (List Int) × Int × (List (List Int))) => [I t, I self, L l, I depth, L paths]) (fun (((t, self, l, depth, paths)) : Int × Int × (List Int) × Int × (List (List Int))) => [bb true])
noncomputable def f_law12_PathWhole : List PV → Option (List PV) := fnOf (fun (_ : Int × (List (List Int))) => True) (fun (((t, paths)) : Int × (List (List Int))) => [I t, L paths]) (fun (((t, paths)) : Int × (List (List Int))) => [bb true])
noncomputable def f_slices_Contains_int_int : List PV → Option (List PV) := fnOf (fun (_ : (List Int) × Int) => True) (fun (((l, n)) : (List Int) × Int) => [L l, I n]) (fun (((l, n)) : (List Int) × Int) => [bb (l.contains n)])
noncomputable def f_slices_Sort_int_int : List PV → Option (List PV) := fnOf (fun (l : (List Int)) => l.length < 4611686018427387904) (fun (l : (List Int)) => [L l]) (fun (l : (List Int)) => [L (sorted l)])
noncomputable def f_slices_Compact_int_int : List PV → Option (List PV) := fnOf (fun (l : (List Int)) => l.length < 4611686018427387904) (fun (l : (List Int)) => [L l]) (fun (l : (List Int)) => [L (compacted l)])
noncomputable def f_key_is : List PV → Option (List PV) := fnOf (fun (_ : Int) => True) (fun (k : Int) => [I k]) (fun (k : Int) => [bb (isK k)])
noncomputable def f_key_Behind : List PV → Option (List PV) := fnOf (fun (_ : Int × Int) => True) (fun (((k, n)) : Int × Int) => [I k, I n]) (fun (((k, n)) : Int × Int) => [I (if (isK k && isK n) = true then far k n else 0), I (if (isK k && isK n) = true then 0 else 1)])
noncomputable def f_key_Between : List PV → Option (List PV) := fnOf (fun (_ : Int × Int × Int) => True) (fun (((a, k, b)) : Int × Int × Int) => [I a, I k, I b]) (fun (((a, k, b)) : Int × Int × Int) => [bb (betw a k b)])
noncomputable def f_key_Back : List PV → Option (List PV) := fnOf (fun (_ : Int × Int) => True) (fun (((k, bits)) : Int × Int) => [I k, I bits]) (fun (((k, bits)) : Int × Int) => [I (if (isK k && decide (0 ≤ bits) && decide (bits ≤ 61)) = true then far (2 ^ bits.toNat) k else 0), I (if (isK k && decide (0 ≤ bits) && decide (bits ≤ 61)) = true then 0 else 1)])
noncomputable def f_ring_Owner : List PV → Option (List PV) := fnOf (fun (_ : Int × (List Int)) => True) (fun (((t, l)) : Int × (List Int)) => [I t, L l]) (fun (((t, l)) : Int × (List Int)) => [I (owner t l).1, I (owner t l).2])
noncomputable def f_route_Check : List PV → Option (List PV) := fnOf (fun (_ : (List Int) × Int) => True) (fun (((live, self)) : (List Int) × Int) => [L live, I self]) (fun (((live, self)) : (List Int) × Int) => [I (chkL live self)])
noncomputable def f_route_first : List PV → Option (List PV) := fnOf (fun (((live, k)) : (List Int) × Int) => live.all isN = true ∧ 0 ≤ k ∧ k < 4611686018427387904) (fun (((live, k)) : (List Int) × Int) => [L live, I k]) (fun (((live, k)) : (List Int) × Int) => [I (firstN live k)])
noncomputable def f_route_ahead : List PV → Option (List PV) := fnOf (fun (((live, self)) : (List Int) × Int) => live.all isN = true ∧ isN self = true) (fun (((live, self)) : (List Int) × Int) => [L live, I self]) (fun (((live, self)) : (List Int) × Int) => [I (aheadN live self)])
noncomputable def f_route_Ahead : List PV → Option (List PV) := fnOf (fun (_ : (List Int) × Int) => True) (fun (((live, self)) : (List Int) × Int) => [L live, I self]) (fun (((live, self)) : (List Int) × Int) => [I (if chkL live self = 0 then max (aheadN live self) 0 else 0), I (if chkL live self = 0 then (if aheadN live self < 0 then 7 else 0) else chkL live self)])
noncomputable def f_route_fingers : List PV → Option (List PV) := fnOf (fun (((live, self)) : (List Int) × Int) => live.all isN = true ∧ isN self = true ∧ live ≠ []) (fun (((live, self)) : (List Int) × Int) => [L live, I self]) (fun (((live, self)) : (List Int) × Int) => [L (fingers live self)])
noncomputable def f_route_Fingers : List PV → Option (List PV) := fnOf (fun (_ : (List Int) × Int) => True) (fun (((live, self)) : (List Int) × Int) => [L live, I self]) (fun (((live, self)) : (List Int) × Int) => [L (if chkL live self = 0 then fingers live self else []), I (chkL live self)])
noncomputable def f_route_next : List PV → Option (List PV) := fnOf (fun (((t, live, self)) : Int × (List Int) × Int) => live.all isN = true ∧ isN self = true ∧ live ≠ []) (fun (((t, live, self)) : Int × (List Int) × Int) => [I t, L live, I self]) (fun (((t, live, self)) : Int × (List Int) × Int) => [I (nextN t live self)])
noncomputable def f_route_asked : List PV → Option (List PV) := fnOf (fun (_ : Int × (List Int) × Int) => True) (fun (((t, live, self)) : Int × (List Int) × Int) => [I t, L live, I self]) (fun (((t, live, self)) : Int × (List Int) × Int) => [I (askedN t live self)])
noncomputable def f_route_Next : List PV → Option (List PV) := fnOf (fun (_ : Int × (List Int) × Int) => True) (fun (((t, live, self)) : Int × (List Int) × Int) => [I t, L live, I self]) (fun (((t, live, self)) : Int × (List Int) × Int) => [I (if askedN t live self = 0 then max (nextN t live self) 0 else 0), bb (decide (askedN t live self = 0) && decide (0 ≤ nextN t live self)), I (askedN t live self)])
noncomputable def f_route_Way : List PV → Option (List PV) := fnOf (fun (_ : Int × (List Int) × Int) => True) (fun (((t, live, self)) : Int × (List Int) × Int) => [I t, L live, I self]) (fun (((t, live, self)) : Int × (List Int) × Int) => [L (if askedN t live self = 0 then way t live self else []), I (askedN t live self)])
noncomputable def f_ref10_Nodes : List PV → Option (List PV) := fnOf (fun (_ : (List Int) × Int) => True) (fun (((live, self)) : (List Int) × Int) => [L live, I self]) (fun (((live, self)) : (List Int) × Int) => [bb (decide (chkL live self = 0))])
noncomputable def f_ref10_behind : List PV → Option (List PV) := fnOf (fun (((n, self)) : Int × Int) => isN n = true ∧ isN self = true) (fun (((n, self)) : Int × Int) => [I n, I self]) (fun (((n, self)) : Int × Int) => [I (far (nn n) (nn self))])
noncomputable def f_ref10_Ahead : List PV → Option (List PV) := fnOf (fun (((live, self)) : (List Int) × Int) => live.all isN = true ∧ isN self = true) (fun (((live, self)) : (List Int) × Int) => [L live, I self]) (fun (((live, self)) : (List Int) × Int) => [I (aheadN live self)])
noncomputable def f_ref10_Fingers : List PV → Option (List PV) := fnOf (fun (((live, self)) : (List Int) × Int) => live.all isN = true ∧ isN self = true ∧ live ≠ []) (fun (((live, self)) : (List Int) × Int) => [L live, I self]) (fun (((live, self)) : (List Int) × Int) => [L (fingers live self)])
noncomputable def f_ref01_Owner : List PV → Option (List PV) := fnOf (fun (((t, l)) : Int × (List Int)) => isT t = true ∧ l.all isN = true) (fun (((t, l)) : Int × (List Int)) => [I t, L l]) (fun (((t, l)) : Int × (List Int)) => [I (ownerR t l)])
noncomputable def f_ref10_Next : List PV → Option (List PV) := fnOf (fun (((t, live, self)) : Int × (List Int) × Int) => isT t = true ∧ chkL live self = 0) (fun (((t, live, self)) : Int × (List Int) × Int) => [I t, L live, I self]) (fun (((t, live, self)) : Int × (List Int) × Int) => [I (nextN t live self)])
noncomputable def f_ref10_Way : List PV → Option (List PV) := fnOf (fun (((t, live, self)) : Int × (List Int) × Int) => isT t = true ∧ chkL live self = 0) (fun (((t, live, self)) : Int × (List Int) × Int) => [I t, L live, I self]) (fun (((t, live, self)) : Int × (List Int) × Int) => [L (way t live self)])
noncomputable def f_law11_Some : List PV → Option (List PV) := fnOf (fun (_ : Int × Int) => True) (fun (((bits, self)) : Int × Int) => [I bits, I self]) (fun (((bits, self)) : Int × Int) => [L (someN bits self).1, I (someN bits self).2])
noncomputable def f_law11_wakes : List PV → Option (List PV) := fnOf (fun (_ : Unit) => True) (fun (_ : Unit) => []) (fun (_ : Unit) => [bb true])
noncomputable def f_law11_RouteExact : List PV → Option (List PV) := fnOf (fun (_ : Int × (List Int) × Int) => True) (fun (((t, live, self)) : Int × (List Int) × Int) => [I t, L live, I self]) (fun (((t, live, self)) : Int × (List Int) × Int) => [bb true])
noncomputable def f_law11_RouteWay : List PV → Option (List PV) := fnOf (fun (_ : Int × Int × Int) => True) (fun (((t, bits, self)) : Int × Int × Int) => [I t, I bits, I self]) (fun (((t, bits, self)) : Int × Int × Int) => [bb true])
noncomputable def f_law11_RouteKnows : List PV → Option (List PV) := fnOf (fun (_ : Int × Int × Int) => True) (fun (((bits, self, at_)) : Int × Int × Int) => [I bits, I self, I at_]) (fun (((bits, self, at_)) : Int × Int × Int) => [bb true])
noncomputable def f_law11_RouteNext : List PV → Option (List PV) := fnOf (fun (_ : Int × Int × Int) => True) (fun (((t, bits, self)) : Int × Int × Int) => [I t, I bits, I self]) (fun (((t, bits, self)) : Int × Int × Int) => [bb true])
noncomputable def f_law11_RouteLess : List PV → Option (List PV) := fnOf (fun (_ : Int × Int × Int) => True) (fun (((t, bits, self)) : Int × Int × Int) => [I t, I bits, I self]) (fun (((t, bits, self)) : Int × Int × Int) => [bb true])
noncomputable def f_law11_RouteSteps : List PV → Option (List PV) := fnOf (fun (_ : Int × Int × Int × Int) => True) (fun (((t, bits, self, at_)) : Int × Int × Int × Int) => [I t, I bits, I self, I at_]) (fun (((t, bits, self, at_)) : Int × Int × Int × Int) => [bb true])
noncomputable def f_law12_PathRoute : List PV → Option (List PV) := fnOf (fun (_ : Int × Int × Int × Int) => True) (fun (((t, bits, self, depth)) : Int × Int × Int × Int) => [I t, I bits, I self, I depth]) (fun (((t, bits, self, depth)) : Int × Int × Int × Int) => [bb true])
noncomputable def ρ : Fns := fun K => match K with
  | 52 => f_ring_Is
  | 35 => f_ring_Node
  | 61 => f_ring_Topic
  | 60 => f_key_Far
  | 54 => f_ref01_Node
  | 73 => f_ref01_Topic
  | 55 => f_ref01_Behind
  | 46 => f_ring_Gap
  | 22 => f_ring_Nearer
  | 17 => f_ref01_IsTopic
  | 18 => f_ref01_IsNode
  | 65 => f_ref01_Gap
  | 45 => f_ref01_Nearer
  | 42 => f_ring_All
  | 47 => f_path_rises
  | 20 => f_path_Check
  | 13 => f_path_Add
  | 43 => f_path_parent
  | 14 => f_path_Whole
  | 12 => f_bkeep_TwinInts
  | 16 => f_bkeep_Ints
  | 19 => f_ref10_Path
  | 15 => f_ref10_Whole
  | 21 => f_law12_wakes
  | 3 => f_law12_PathExact
  | 4 => f_law12_PathWhole
  | 53 => f_slices_Contains_int_int
  | 67 => f_slices_Sort_int_int
  | 68 => f_slices_Compact_int_int
  | 59 => f_key_is
  | 38 => f_key_Behind
  | 36 => f_key_Between
  | 37 => f_key_Back
  | 39 => f_ring_Owner
  | 28 => f_route_Check
  | 66 => f_route_first
  | 48 => f_route_ahead
  | 23 => f_route_Ahead
  | 49 => f_route_fingers
  | 24 => f_route_Fingers
  | 51 => f_route_next
  | 50 => f_route_asked
  | 25 => f_route_Next
  | 26 => f_route_Way
  | 27 => f_ref10_Nodes
  | 56 => f_ref10_behind
  | 31 => f_ref10_Ahead
  | 30 => f_ref10_Fingers
  | 57 => f_ref01_Owner
  | 32 => f_ref10_Next
  | 33 => f_ref10_Way
  | 34 => f_law11_Some
  | 29 => f_law11_wakes
  | 5 => f_law11_RouteExact
  | 8 => f_law11_RouteWay
  | 7 => f_law11_RouteKnows
  | 9 => f_law11_RouteNext
  | 10 => f_law11_RouteLess
  | 6 => f_law11_RouteSteps
  | 11 => f_law12_PathRoute
  | _ => fun _ => none
theorem r_ring_Is {n : Int} : f_ring_Is [I n] = some [bb (isN n)] := fnOf_eq (a := n) (by intro a b h; simpa [L_inj] using h) trivial
theorem c_ring_Is {n : Int} {k_ : PV → Prop} : CALL ρ 52 [I n] 1 k_ = k_ (bb (isN n)) := CALL_of (ρ := ρ) (K := 52) (m := 1) (k := k_) (r_ring_Is) rfl
theorem r_ring_Node {n : Int} : f_ring_Node [I n] = some [I (if isN n = true then nn n else 0), I (if isN n = true then 0 else 1)] := fnOf_eq (a := n) (by intro a b h; simpa [L_inj] using h) trivial
theorem c_ring_Node {n : Int} {k_ : PV → PV → Prop} : CALL ρ 35 [I n] 2 k_ = k_ (I (if isN n = true then nn n else 0)) (I (if isN n = true then 0 else 1)) := CALL_of (ρ := ρ) (K := 35) (m := 2) (k := k_) (r_ring_Node) rfl
theorem r_ring_Topic {t : Int} : f_ring_Topic [I t] = some [I (if isT t = true then tt t else 0), I (if isT t = true then 0 else 1)] := fnOf_eq (a := t) (by intro a b h; simpa [L_inj] using h) trivial
theorem c_ring_Topic {t : Int} {k_ : PV → PV → Prop} : CALL ρ 61 [I t] 2 k_ = k_ (I (if isT t = true then tt t else 0)) (I (if isT t = true then 0 else 1)) := CALL_of (ρ := ρ) (K := 61) (m := 2) (k := k_) (r_ring_Topic) rfl
theorem r_key_Far {k : Int} {n : Int} (h : 0 ≤ k ∧ k < 4611686018427387904 ∧ 0 ≤ n ∧ n < 4611686018427387904) : f_key_Far [I k, I n] = some [I (far k n)] := fnOf_eq (a := (k, n)) (by rintro ⟨_, _⟩ ⟨_, _⟩ h; simpa [L_inj] using h) h
theorem c_key_Far {k : Int} {n : Int} {k_ : PV → Prop} (h : 0 ≤ k ∧ k < 4611686018427387904 ∧ 0 ≤ n ∧ n < 4611686018427387904) : CALL ρ 60 [I k, I n] 1 k_ = k_ (I (far k n)) := CALL_of (ρ := ρ) (K := 60) (m := 1) (k := k_) (r_key_Far h) rfl
theorem r_ref01_Node {n : Int} (h : isN n = true) : f_ref01_Node [I n] = some [I (nn n)] := fnOf_eq (a := n) (by intro a b h; simpa [L_inj] using h) h
theorem c_ref01_Node {n : Int} {k_ : PV → Prop} (h : isN n = true) : CALL ρ 54 [I n] 1 k_ = k_ (I (nn n)) := CALL_of (ρ := ρ) (K := 54) (m := 1) (k := k_) (r_ref01_Node h) rfl
theorem r_ref01_Topic {t : Int} (h : isT t = true) : f_ref01_Topic [I t] = some [I (tt t)] := fnOf_eq (a := t) (by intro a b h; simpa [L_inj] using h) h
theorem c_ref01_Topic {t : Int} {k_ : PV → Prop} (h : isT t = true) : CALL ρ 73 [I t] 1 k_ = k_ (I (tt t)) := CALL_of (ρ := ρ) (K := 73) (m := 1) (k := k_) (r_ref01_Topic h) rfl
theorem r_ref01_Behind {k : Int} {n : Int} (h : 0 ≤ k ∧ k < 4611686018427387904 ∧ 0 ≤ n ∧ n < 4611686018427387904) : f_ref01_Behind [I k, I n] = some [I (far k n)] := fnOf_eq (a := (k, n)) (by rintro ⟨_, _⟩ ⟨_, _⟩ h; simpa [L_inj] using h) h
theorem c_ref01_Behind {k : Int} {n : Int} {k_ : PV → Prop} (h : 0 ≤ k ∧ k < 4611686018427387904 ∧ 0 ≤ n ∧ n < 4611686018427387904) : CALL ρ 55 [I k, I n] 1 k_ = k_ (I (far k n)) := CALL_of (ρ := ρ) (K := 55) (m := 1) (k := k_) (r_ref01_Behind h) rfl
theorem r_ring_Gap {t : Int} {n : Int} : f_ring_Gap [I t, I n] = some [I (if (isT t && isN n) = true then gap t n else 0), I (if (isT t && isN n) = true then 0 else 1)] := fnOf_eq (a := (t, n)) (by rintro ⟨_, _⟩ ⟨_, _⟩ h; simpa [L_inj] using h) trivial
theorem c_ring_Gap {t : Int} {n : Int} {k_ : PV → PV → Prop} : CALL ρ 46 [I t, I n] 2 k_ = k_ (I (if (isT t && isN n) = true then gap t n else 0)) (I (if (isT t && isN n) = true then 0 else 1)) := CALL_of (ρ := ρ) (K := 46) (m := 2) (k := k_) (r_ring_Gap) rfl
theorem r_ring_Nearer {t : Int} {a : Int} {b : Int} : f_ring_Nearer [I t, I a, I b] = some [bb (near t a b)] := fnOf_eq (a := (t, a, b)) (by rintro ⟨_, _, _⟩ ⟨_, _, _⟩ h; simpa [L_inj] using h) trivial
theorem c_ring_Nearer {t : Int} {a : Int} {b : Int} {k_ : PV → Prop} : CALL ρ 22 [I t, I a, I b] 1 k_ = k_ (bb (near t a b)) := CALL_of (ρ := ρ) (K := 22) (m := 1) (k := k_) (r_ring_Nearer) rfl
theorem r_ref01_IsTopic {t : Int} : f_ref01_IsTopic [I t] = some [bb (isT t)] := fnOf_eq (a := t) (by intro a b h; simpa [L_inj] using h) trivial
theorem c_ref01_IsTopic {t : Int} {k_ : PV → Prop} : CALL ρ 17 [I t] 1 k_ = k_ (bb (isT t)) := CALL_of (ρ := ρ) (K := 17) (m := 1) (k := k_) (r_ref01_IsTopic) rfl
theorem r_ref01_IsNode {n : Int} : f_ref01_IsNode [I n] = some [bb (isN n)] := fnOf_eq (a := n) (by intro a b h; simpa [L_inj] using h) trivial
theorem c_ref01_IsNode {n : Int} {k_ : PV → Prop} : CALL ρ 18 [I n] 1 k_ = k_ (bb (isN n)) := CALL_of (ρ := ρ) (K := 18) (m := 1) (k := k_) (r_ref01_IsNode) rfl
theorem r_ref01_Gap {t : Int} {n : Int} (h : isT t = true ∧ isN n = true) : f_ref01_Gap [I t, I n] = some [I (gap t n)] := fnOf_eq (a := (t, n)) (by rintro ⟨_, _⟩ ⟨_, _⟩ h; simpa [L_inj] using h) h
theorem c_ref01_Gap {t : Int} {n : Int} {k_ : PV → Prop} (h : isT t = true ∧ isN n = true) : CALL ρ 65 [I t, I n] 1 k_ = k_ (I (gap t n)) := CALL_of (ρ := ρ) (K := 65) (m := 1) (k := k_) (r_ref01_Gap h) rfl
theorem r_ref01_Nearer {t : Int} {a : Int} {b : Int} : f_ref01_Nearer [I t, I a, I b] = some [bb (near t a b)] := fnOf_eq (a := (t, a, b)) (by rintro ⟨_, _, _⟩ ⟨_, _, _⟩ h; simpa [L_inj] using h) trivial
theorem c_ref01_Nearer {t : Int} {a : Int} {b : Int} {k_ : PV → Prop} : CALL ρ 45 [I t, I a, I b] 1 k_ = k_ (bb (near t a b)) := CALL_of (ρ := ρ) (K := 45) (m := 1) (k := k_) (r_ref01_Nearer) rfl
theorem r_ring_All {l : List Int} : f_ring_All [L l] = some [bb (l.all isN)] := fnOf_eq (a := l) (by intro a b h; simpa [L_inj] using h) trivial
theorem c_ring_All {l : List Int} {k_ : PV → Prop} : CALL ρ 42 [L l] 1 k_ = k_ (bb (l.all isN)) := CALL_of (ρ := ρ) (K := 42) (m := 1) (k := k_) (r_ring_All) rfl
theorem r_path_rises {t : Int} {self : Int} {l : List Int} : f_path_rises [I t, I self, L l] = some [bb (rises t self l)] := fnOf_eq (a := (t, self, l)) (by rintro ⟨_, _, _⟩ ⟨_, _, _⟩ h; simpa [L_inj] using h) trivial
theorem c_path_rises {t : Int} {self : Int} {l : List Int} {k_ : PV → Prop} : CALL ρ 47 [I t, I self, L l] 1 k_ = k_ (bb (rises t self l)) := CALL_of (ρ := ρ) (K := 47) (m := 1) (k := k_) (r_path_rises) rfl
theorem r_path_Check {t : Int} {self : Int} {l : List Int} {depth : Int} : f_path_Check [I t, I self, L l, I depth] = some [I (chk t self l depth)] := fnOf_eq (a := (t, self, l, depth)) (by rintro ⟨_, _, _, _⟩ ⟨_, _, _, _⟩ h; simpa [L_inj] using h) trivial
theorem c_path_Check {t : Int} {self : Int} {l : List Int} {depth : Int} {k_ : PV → Prop} : CALL ρ 20 [I t, I self, L l, I depth] 1 k_ = k_ (I (chk t self l depth)) := CALL_of (ρ := ρ) (K := 20) (m := 1) (k := k_) (r_path_Check) rfl
theorem r_path_Add {t : Int} {self : Int} {l : List Int} : f_path_Add [I t, I self, L l] = some [L (addP t self l).1, I (addP t self l).2] := fnOf_eq (a := (t, self, l)) (by rintro ⟨_, _, _⟩ ⟨_, _, _⟩ h; simpa [L_inj] using h) trivial
theorem c_path_Add {t : Int} {self : Int} {l : List Int} {k_ : PV → PV → Prop} : CALL ρ 13 [I t, I self, L l] 2 k_ = k_ (L (addP t self l).1) (I (addP t self l).2) := CALL_of (ρ := ρ) (K := 13) (m := 2) (k := k_) (r_path_Add) rfl
theorem r_path_parent {paths : List (List Int)} {n : Int} (h : 0 ≤ n) : f_path_parent [L paths, I n] = some [I (par paths n)] := fnOf_eq (a := (paths, n)) (by rintro ⟨_, _⟩ ⟨_, _⟩ h; simpa [L_inj] using h) h
theorem c_path_parent {paths : List (List Int)} {n : Int} {k_ : PV → Prop} (h : 0 ≤ n) : CALL ρ 43 [L paths, I n] 1 k_ = k_ (I (par paths n)) := CALL_of (ρ := ρ) (K := 43) (m := 1) (k := k_) (r_path_parent h) rfl
theorem r_path_Whole {t : Int} {paths : List (List Int)} : f_path_Whole [I t, L paths] = some [bb (whole paths)] := fnOf_eq (a := (t, paths)) (by rintro ⟨_, _⟩ ⟨_, _⟩ h; simpa [L_inj] using h) trivial
theorem c_path_Whole {t : Int} {paths : List (List Int)} {k_ : PV → Prop} : CALL ρ 14 [I t, L paths] 1 k_ = k_ (bb (whole paths)) := CALL_of (ρ := ρ) (K := 14) (m := 1) (k := k_) (r_path_Whole) rfl
theorem r_bkeep_TwinInts {l : List Int} (h : l.length ≤ 1000000) : f_bkeep_TwinInts [L l] = some [L l] := fnOf_eq (a := l) (by intro a b h; simpa [L_inj] using h) h
theorem c_bkeep_TwinInts {l : List Int} {k_ : PV → Prop} (h : l.length ≤ 1000000) : CALL ρ 12 [L l] 1 k_ = k_ (L l) := CALL_of (ρ := ρ) (K := 12) (m := 1) (k := k_) (r_bkeep_TwinInts h) rfl
theorem r_bkeep_Ints {a : List Int} {b : List Int} : f_bkeep_Ints [L a, L b] = some [bb (decide (a = b))] := fnOf_eq (a := (a, b)) (by rintro ⟨_, _⟩ ⟨_, _⟩ h; simpa [L_inj] using h) trivial
theorem c_bkeep_Ints {a : List Int} {b : List Int} {k_ : PV → Prop} : CALL ρ 16 [L a, L b] 1 k_ = k_ (bb (decide (a = b))) := CALL_of (ρ := ρ) (K := 16) (m := 1) (k := k_) (r_bkeep_Ints) rfl
theorem r_ref10_Path {t : Int} {self : Int} {l : List Int} {depth : Int} (h : isT t = true ∧ isN self = true) : f_ref10_Path [I t, I self, L l, I depth] = some [I (chkR t self l depth)] := fnOf_eq (a := (t, self, l, depth)) (by rintro ⟨_, _, _, _⟩ ⟨_, _, _, _⟩ h; simpa [L_inj] using h) h
theorem c_ref10_Path {t : Int} {self : Int} {l : List Int} {depth : Int} {k_ : PV → Prop} (h : isT t = true ∧ isN self = true) : CALL ρ 19 [I t, I self, L l, I depth] 1 k_ = k_ (I (chkR t self l depth)) := CALL_of (ρ := ρ) (K := 19) (m := 1) (k := k_) (r_ref10_Path h) rfl
theorem r_ref10_Whole {paths : List (List Int)} (h : ∀ x ∈ paths, x.length ≤ 1000) : f_ref10_Whole [L paths] = some [bb (whole paths)] := fnOf_eq (a := paths) (by intro a b h; simpa [L_inj] using h) h
theorem c_ref10_Whole {paths : List (List Int)} {k_ : PV → Prop} (h : ∀ x ∈ paths, x.length ≤ 1000) : CALL ρ 15 [L paths] 1 k_ = k_ (bb (whole paths)) := CALL_of (ρ := ρ) (K := 15) (m := 1) (k := k_) (r_ref10_Whole h) rfl
theorem r_law12_wakes  : f_law12_wakes [] = some [bb true] := fnOf_eq (a := ()) (fun _ _ _ => rfl) trivial
theorem c_law12_wakes  {k_ : PV → Prop} : CALL ρ 21 [] 1 k_ = k_ (bb true) := CALL_of (ρ := ρ) (K := 21) (m := 1) (k := k_) (r_law12_wakes) rfl
theorem r_law12_PathExact {t : Int} {self : Int} {l : List Int} {depth : Int} {paths : List (List Int)} : f_law12_PathExact [I t, I self, L l, I depth, L paths] = some [bb true] := fnOf_eq (a := (t, self, l, depth, paths)) (by rintro ⟨_, _, _, _, _⟩ ⟨_, _, _, _, _⟩ h; simpa [L_inj] using h) trivial
theorem c_law12_PathExact {t : Int} {self : Int} {l : List Int} {depth : Int} {paths : List (List Int)} {k_ : PV → Prop} : CALL ρ 3 [I t, I self, L l, I depth, L paths] 1 k_ = k_ (bb true) := CALL_of (ρ := ρ) (K := 3) (m := 1) (k := k_) (r_law12_PathExact) rfl
theorem r_law12_PathWhole {t : Int} {paths : List (List Int)} : f_law12_PathWhole [I t, L paths] = some [bb true] := fnOf_eq (a := (t, paths)) (by rintro ⟨_, _⟩ ⟨_, _⟩ h; simpa [L_inj] using h) trivial
theorem c_law12_PathWhole {t : Int} {paths : List (List Int)} {k_ : PV → Prop} : CALL ρ 4 [I t, L paths] 1 k_ = k_ (bb true) := CALL_of (ρ := ρ) (K := 4) (m := 1) (k := k_) (r_law12_PathWhole) rfl
theorem r_slices_Contains_int_int {l : List Int} {n : Int} : f_slices_Contains_int_int [L l, I n] = some [bb (l.contains n)] := fnOf_eq (a := (l, n)) (by rintro ⟨_, _⟩ ⟨_, _⟩ h; simpa [L_inj] using h) trivial
theorem c_slices_Contains_int_int {l : List Int} {n : Int} {k_ : PV → Prop} : CALL ρ 53 [L l, I n] 1 k_ = k_ (bb (l.contains n)) := CALL_of (ρ := ρ) (K := 53) (m := 1) (k := k_) (r_slices_Contains_int_int) rfl
theorem r_slices_Sort_int_int {l : List Int} (h : l.length < 4611686018427387904) : f_slices_Sort_int_int [L l] = some [L (sorted l)] := fnOf_eq (a := l) (by intro a b h; simpa [L_inj] using h) h
theorem c_slices_Sort_int_int {l : List Int} {k_ : PV → Prop} (h : l.length < 4611686018427387904) : CALL ρ 67 [L l] 1 k_ = k_ (L (sorted l)) := CALL_of (ρ := ρ) (K := 67) (m := 1) (k := k_) (r_slices_Sort_int_int h) rfl
theorem r_slices_Compact_int_int {l : List Int} (h : l.length < 4611686018427387904) : f_slices_Compact_int_int [L l] = some [L (compacted l)] := fnOf_eq (a := l) (by intro a b h; simpa [L_inj] using h) h
theorem c_slices_Compact_int_int {l : List Int} {k_ : PV → Prop} (h : l.length < 4611686018427387904) : CALL ρ 68 [L l] 1 k_ = k_ (L (compacted l)) := CALL_of (ρ := ρ) (K := 68) (m := 1) (k := k_) (r_slices_Compact_int_int h) rfl
theorem r_key_is {k : Int} : f_key_is [I k] = some [bb (isK k)] := fnOf_eq (a := k) (by intro a b h; simpa [L_inj] using h) trivial
theorem c_key_is {k : Int} {k_ : PV → Prop} : CALL ρ 59 [I k] 1 k_ = k_ (bb (isK k)) := CALL_of (ρ := ρ) (K := 59) (m := 1) (k := k_) (r_key_is) rfl
theorem r_key_Behind {k : Int} {n : Int} : f_key_Behind [I k, I n] = some [I (if (isK k && isK n) = true then far k n else 0), I (if (isK k && isK n) = true then 0 else 1)] := fnOf_eq (a := (k, n)) (by rintro ⟨_, _⟩ ⟨_, _⟩ h; simpa [L_inj] using h) trivial
theorem c_key_Behind {k : Int} {n : Int} {k_ : PV → PV → Prop} : CALL ρ 38 [I k, I n] 2 k_ = k_ (I (if (isK k && isK n) = true then far k n else 0)) (I (if (isK k && isK n) = true then 0 else 1)) := CALL_of (ρ := ρ) (K := 38) (m := 2) (k := k_) (r_key_Behind) rfl
theorem r_key_Between {a : Int} {k : Int} {b : Int} : f_key_Between [I a, I k, I b] = some [bb (betw a k b)] := fnOf_eq (a := (a, k, b)) (by rintro ⟨_, _, _⟩ ⟨_, _, _⟩ h; simpa [L_inj] using h) trivial
theorem c_key_Between {a : Int} {k : Int} {b : Int} {k_ : PV → Prop} : CALL ρ 36 [I a, I k, I b] 1 k_ = k_ (bb (betw a k b)) := CALL_of (ρ := ρ) (K := 36) (m := 1) (k := k_) (r_key_Between) rfl
theorem r_key_Back {k : Int} {bits : Int} : f_key_Back [I k, I bits] = some [I (if (isK k && decide (0 ≤ bits) && decide (bits ≤ 61)) = true then far (2 ^ bits.toNat) k else 0), I (if (isK k && decide (0 ≤ bits) && decide (bits ≤ 61)) = true then 0 else 1)] := fnOf_eq (a := (k, bits)) (by rintro ⟨_, _⟩ ⟨_, _⟩ h; simpa [L_inj] using h) trivial
theorem c_key_Back {k : Int} {bits : Int} {k_ : PV → PV → Prop} : CALL ρ 37 [I k, I bits] 2 k_ = k_ (I (if (isK k && decide (0 ≤ bits) && decide (bits ≤ 61)) = true then far (2 ^ bits.toNat) k else 0)) (I (if (isK k && decide (0 ≤ bits) && decide (bits ≤ 61)) = true then 0 else 1)) := CALL_of (ρ := ρ) (K := 37) (m := 2) (k := k_) (r_key_Back) rfl
theorem r_ring_Owner {t : Int} {l : List Int} : f_ring_Owner [I t, L l] = some [I (owner t l).1, I (owner t l).2] := fnOf_eq (a := (t, l)) (by rintro ⟨_, _⟩ ⟨_, _⟩ h; simpa [L_inj] using h) trivial
theorem c_ring_Owner {t : Int} {l : List Int} {k_ : PV → PV → Prop} : CALL ρ 39 [I t, L l] 2 k_ = k_ (I (owner t l).1) (I (owner t l).2) := CALL_of (ρ := ρ) (K := 39) (m := 2) (k := k_) (r_ring_Owner) rfl
theorem r_route_Check {live : List Int} {self : Int} : f_route_Check [L live, I self] = some [I (chkL live self)] := fnOf_eq (a := (live, self)) (by rintro ⟨_, _⟩ ⟨_, _⟩ h; simpa [L_inj] using h) trivial
theorem c_route_Check {live : List Int} {self : Int} {k_ : PV → Prop} : CALL ρ 28 [L live, I self] 1 k_ = k_ (I (chkL live self)) := CALL_of (ρ := ρ) (K := 28) (m := 1) (k := k_) (r_route_Check) rfl
theorem r_route_first {live : List Int} {k : Int} (h : live.all isN = true ∧ 0 ≤ k ∧ k < 4611686018427387904) : f_route_first [L live, I k] = some [I (firstN live k)] := fnOf_eq (a := (live, k)) (by rintro ⟨_, _⟩ ⟨_, _⟩ h; simpa [L_inj] using h) h
theorem c_route_first {live : List Int} {k : Int} {k_ : PV → Prop} (h : live.all isN = true ∧ 0 ≤ k ∧ k < 4611686018427387904) : CALL ρ 66 [L live, I k] 1 k_ = k_ (I (firstN live k)) := CALL_of (ρ := ρ) (K := 66) (m := 1) (k := k_) (r_route_first h) rfl
theorem r_route_ahead {live : List Int} {self : Int} (h : live.all isN = true ∧ isN self = true) : f_route_ahead [L live, I self] = some [I (aheadN live self)] := fnOf_eq (a := (live, self)) (by rintro ⟨_, _⟩ ⟨_, _⟩ h; simpa [L_inj] using h) h
theorem c_route_ahead {live : List Int} {self : Int} {k_ : PV → Prop} (h : live.all isN = true ∧ isN self = true) : CALL ρ 48 [L live, I self] 1 k_ = k_ (I (aheadN live self)) := CALL_of (ρ := ρ) (K := 48) (m := 1) (k := k_) (r_route_ahead h) rfl
theorem r_route_Ahead {live : List Int} {self : Int} : f_route_Ahead [L live, I self] = some [I (if chkL live self = 0 then max (aheadN live self) 0 else 0), I (if chkL live self = 0 then (if aheadN live self < 0 then 7 else 0) else chkL live self)] := fnOf_eq (a := (live, self)) (by rintro ⟨_, _⟩ ⟨_, _⟩ h; simpa [L_inj] using h) trivial
theorem c_route_Ahead {live : List Int} {self : Int} {k_ : PV → PV → Prop} : CALL ρ 23 [L live, I self] 2 k_ = k_ (I (if chkL live self = 0 then max (aheadN live self) 0 else 0)) (I (if chkL live self = 0 then (if aheadN live self < 0 then 7 else 0) else chkL live self)) := CALL_of (ρ := ρ) (K := 23) (m := 2) (k := k_) (r_route_Ahead) rfl
theorem r_route_fingers {live : List Int} {self : Int} (h : live.all isN = true ∧ isN self = true ∧ live ≠ []) : f_route_fingers [L live, I self] = some [L (fingers live self)] := fnOf_eq (a := (live, self)) (by rintro ⟨_, _⟩ ⟨_, _⟩ h; simpa [L_inj] using h) h
theorem c_route_fingers {live : List Int} {self : Int} {k_ : PV → Prop} (h : live.all isN = true ∧ isN self = true ∧ live ≠ []) : CALL ρ 49 [L live, I self] 1 k_ = k_ (L (fingers live self)) := CALL_of (ρ := ρ) (K := 49) (m := 1) (k := k_) (r_route_fingers h) rfl
theorem r_route_Fingers {live : List Int} {self : Int} : f_route_Fingers [L live, I self] = some [L (if chkL live self = 0 then fingers live self else []), I (chkL live self)] := fnOf_eq (a := (live, self)) (by rintro ⟨_, _⟩ ⟨_, _⟩ h; simpa [L_inj] using h) trivial
theorem c_route_Fingers {live : List Int} {self : Int} {k_ : PV → PV → Prop} : CALL ρ 24 [L live, I self] 2 k_ = k_ (L (if chkL live self = 0 then fingers live self else [])) (I (chkL live self)) := CALL_of (ρ := ρ) (K := 24) (m := 2) (k := k_) (r_route_Fingers) rfl
theorem r_route_next {t : Int} {live : List Int} {self : Int} (h : live.all isN = true ∧ isN self = true ∧ live ≠ []) : f_route_next [I t, L live, I self] = some [I (nextN t live self)] := fnOf_eq (a := (t, live, self)) (by rintro ⟨_, _, _⟩ ⟨_, _, _⟩ h; simpa [L_inj] using h) h
theorem c_route_next {t : Int} {live : List Int} {self : Int} {k_ : PV → Prop} (h : live.all isN = true ∧ isN self = true ∧ live ≠ []) : CALL ρ 51 [I t, L live, I self] 1 k_ = k_ (I (nextN t live self)) := CALL_of (ρ := ρ) (K := 51) (m := 1) (k := k_) (r_route_next h) rfl
theorem r_route_asked {t : Int} {live : List Int} {self : Int} : f_route_asked [I t, L live, I self] = some [I (askedN t live self)] := fnOf_eq (a := (t, live, self)) (by rintro ⟨_, _, _⟩ ⟨_, _, _⟩ h; simpa [L_inj] using h) trivial
theorem c_route_asked {t : Int} {live : List Int} {self : Int} {k_ : PV → Prop} : CALL ρ 50 [I t, L live, I self] 1 k_ = k_ (I (askedN t live self)) := CALL_of (ρ := ρ) (K := 50) (m := 1) (k := k_) (r_route_asked) rfl
theorem r_route_Next {t : Int} {live : List Int} {self : Int} : f_route_Next [I t, L live, I self] = some [I (if askedN t live self = 0 then max (nextN t live self) 0 else 0), bb (decide (askedN t live self = 0) && decide (0 ≤ nextN t live self)), I (askedN t live self)] := fnOf_eq (a := (t, live, self)) (by rintro ⟨_, _, _⟩ ⟨_, _, _⟩ h; simpa [L_inj] using h) trivial
theorem c_route_Next {t : Int} {live : List Int} {self : Int} {k_ : PV → PV → PV → Prop} : CALL ρ 25 [I t, L live, I self] 3 k_ = k_ (I (if askedN t live self = 0 then max (nextN t live self) 0 else 0)) (bb (decide (askedN t live self = 0) && decide (0 ≤ nextN t live self))) (I (askedN t live self)) := CALL_of (ρ := ρ) (K := 25) (m := 3) (k := k_) (r_route_Next) rfl
theorem r_route_Way {t : Int} {live : List Int} {self : Int} : f_route_Way [I t, L live, I self] = some [L (if askedN t live self = 0 then way t live self else []), I (askedN t live self)] := fnOf_eq (a := (t, live, self)) (by rintro ⟨_, _, _⟩ ⟨_, _, _⟩ h; simpa [L_inj] using h) trivial
theorem c_route_Way {t : Int} {live : List Int} {self : Int} {k_ : PV → PV → Prop} : CALL ρ 26 [I t, L live, I self] 2 k_ = k_ (L (if askedN t live self = 0 then way t live self else [])) (I (askedN t live self)) := CALL_of (ρ := ρ) (K := 26) (m := 2) (k := k_) (r_route_Way) rfl
theorem r_ref10_Nodes {live : List Int} {self : Int} : f_ref10_Nodes [L live, I self] = some [bb (decide (chkL live self = 0))] := fnOf_eq (a := (live, self)) (by rintro ⟨_, _⟩ ⟨_, _⟩ h; simpa [L_inj] using h) trivial
theorem c_ref10_Nodes {live : List Int} {self : Int} {k_ : PV → Prop} : CALL ρ 27 [L live, I self] 1 k_ = k_ (bb (decide (chkL live self = 0))) := CALL_of (ρ := ρ) (K := 27) (m := 1) (k := k_) (r_ref10_Nodes) rfl
theorem r_ref10_behind {n : Int} {self : Int} (h : isN n = true ∧ isN self = true) : f_ref10_behind [I n, I self] = some [I (far (nn n) (nn self))] := fnOf_eq (a := (n, self)) (by rintro ⟨_, _⟩ ⟨_, _⟩ h; simpa [L_inj] using h) h
theorem c_ref10_behind {n : Int} {self : Int} {k_ : PV → Prop} (h : isN n = true ∧ isN self = true) : CALL ρ 56 [I n, I self] 1 k_ = k_ (I (far (nn n) (nn self))) := CALL_of (ρ := ρ) (K := 56) (m := 1) (k := k_) (r_ref10_behind h) rfl
theorem r_ref10_Ahead {live : List Int} {self : Int} (h : live.all isN = true ∧ isN self = true) : f_ref10_Ahead [L live, I self] = some [I (aheadN live self)] := fnOf_eq (a := (live, self)) (by rintro ⟨_, _⟩ ⟨_, _⟩ h; simpa [L_inj] using h) h
theorem c_ref10_Ahead {live : List Int} {self : Int} {k_ : PV → Prop} (h : live.all isN = true ∧ isN self = true) : CALL ρ 31 [L live, I self] 1 k_ = k_ (I (aheadN live self)) := CALL_of (ρ := ρ) (K := 31) (m := 1) (k := k_) (r_ref10_Ahead h) rfl
theorem r_ref10_Fingers {live : List Int} {self : Int} (h : live.all isN = true ∧ isN self = true ∧ live ≠ []) : f_ref10_Fingers [L live, I self] = some [L (fingers live self)] := fnOf_eq (a := (live, self)) (by rintro ⟨_, _⟩ ⟨_, _⟩ h; simpa [L_inj] using h) h
theorem c_ref10_Fingers {live : List Int} {self : Int} {k_ : PV → Prop} (h : live.all isN = true ∧ isN self = true ∧ live ≠ []) : CALL ρ 30 [L live, I self] 1 k_ = k_ (L (fingers live self)) := CALL_of (ρ := ρ) (K := 30) (m := 1) (k := k_) (r_ref10_Fingers h) rfl
theorem r_ref01_Owner {t : Int} {l : List Int} (h : isT t = true ∧ l.all isN = true) : f_ref01_Owner [I t, L l] = some [I (ownerR t l)] := fnOf_eq (a := (t, l)) (by rintro ⟨_, _⟩ ⟨_, _⟩ h; simpa [L_inj] using h) h
theorem c_ref01_Owner {t : Int} {l : List Int} {k_ : PV → Prop} (h : isT t = true ∧ l.all isN = true) : CALL ρ 57 [I t, L l] 1 k_ = k_ (I (ownerR t l)) := CALL_of (ρ := ρ) (K := 57) (m := 1) (k := k_) (r_ref01_Owner h) rfl
theorem r_ref10_Next {t : Int} {live : List Int} {self : Int} (h : isT t = true ∧ chkL live self = 0) : f_ref10_Next [I t, L live, I self] = some [I (nextN t live self)] := fnOf_eq (a := (t, live, self)) (by rintro ⟨_, _, _⟩ ⟨_, _, _⟩ h; simpa [L_inj] using h) h
theorem c_ref10_Next {t : Int} {live : List Int} {self : Int} {k_ : PV → Prop} (h : isT t = true ∧ chkL live self = 0) : CALL ρ 32 [I t, L live, I self] 1 k_ = k_ (I (nextN t live self)) := CALL_of (ρ := ρ) (K := 32) (m := 1) (k := k_) (r_ref10_Next h) rfl
theorem r_ref10_Way {t : Int} {live : List Int} {self : Int} (h : isT t = true ∧ chkL live self = 0) : f_ref10_Way [I t, L live, I self] = some [L (way t live self)] := fnOf_eq (a := (t, live, self)) (by rintro ⟨_, _, _⟩ ⟨_, _, _⟩ h; simpa [L_inj] using h) h
theorem c_ref10_Way {t : Int} {live : List Int} {self : Int} {k_ : PV → Prop} (h : isT t = true ∧ chkL live self = 0) : CALL ρ 33 [I t, L live, I self] 1 k_ = k_ (L (way t live self)) := CALL_of (ρ := ρ) (K := 33) (m := 1) (k := k_) (r_ref10_Way h) rfl
theorem r_law11_Some {bits : Int} {self : Int} : f_law11_Some [I bits, I self] = some [L (someN bits self).1, I (someN bits self).2] := fnOf_eq (a := (bits, self)) (by rintro ⟨_, _⟩ ⟨_, _⟩ h; simpa [L_inj] using h) trivial
theorem c_law11_Some {bits : Int} {self : Int} {k_ : PV → PV → Prop} : CALL ρ 34 [I bits, I self] 2 k_ = k_ (L (someN bits self).1) (I (someN bits self).2) := CALL_of (ρ := ρ) (K := 34) (m := 2) (k := k_) (r_law11_Some) rfl
theorem r_law11_wakes  : f_law11_wakes [] = some [bb true] := fnOf_eq (a := ()) (fun _ _ _ => rfl) trivial
theorem c_law11_wakes  {k_ : PV → Prop} : CALL ρ 29 [] 1 k_ = k_ (bb true) := CALL_of (ρ := ρ) (K := 29) (m := 1) (k := k_) (r_law11_wakes) rfl
theorem r_law11_RouteExact {t : Int} {live : List Int} {self : Int} : f_law11_RouteExact [I t, L live, I self] = some [bb true] := fnOf_eq (a := (t, live, self)) (by rintro ⟨_, _, _⟩ ⟨_, _, _⟩ h; simpa [L_inj] using h) trivial
theorem c_law11_RouteExact {t : Int} {live : List Int} {self : Int} {k_ : PV → Prop} : CALL ρ 5 [I t, L live, I self] 1 k_ = k_ (bb true) := CALL_of (ρ := ρ) (K := 5) (m := 1) (k := k_) (r_law11_RouteExact) rfl
theorem r_law11_RouteWay {t : Int} {bits : Int} {self : Int} : f_law11_RouteWay [I t, I bits, I self] = some [bb true] := fnOf_eq (a := (t, bits, self)) (by rintro ⟨_, _, _⟩ ⟨_, _, _⟩ h; simpa [L_inj] using h) trivial
theorem c_law11_RouteWay {t : Int} {bits : Int} {self : Int} {k_ : PV → Prop} : CALL ρ 8 [I t, I bits, I self] 1 k_ = k_ (bb true) := CALL_of (ρ := ρ) (K := 8) (m := 1) (k := k_) (r_law11_RouteWay) rfl
theorem r_law11_RouteKnows {bits : Int} {self : Int} {at_ : Int} : f_law11_RouteKnows [I bits, I self, I at_] = some [bb true] := fnOf_eq (a := (bits, self, at_)) (by rintro ⟨_, _, _⟩ ⟨_, _, _⟩ h; simpa [L_inj] using h) trivial
theorem c_law11_RouteKnows {bits : Int} {self : Int} {at_ : Int} {k_ : PV → Prop} : CALL ρ 7 [I bits, I self, I at_] 1 k_ = k_ (bb true) := CALL_of (ρ := ρ) (K := 7) (m := 1) (k := k_) (r_law11_RouteKnows) rfl
theorem r_law11_RouteNext {t : Int} {bits : Int} {self : Int} : f_law11_RouteNext [I t, I bits, I self] = some [bb true] := fnOf_eq (a := (t, bits, self)) (by rintro ⟨_, _, _⟩ ⟨_, _, _⟩ h; simpa [L_inj] using h) trivial
theorem c_law11_RouteNext {t : Int} {bits : Int} {self : Int} {k_ : PV → Prop} : CALL ρ 9 [I t, I bits, I self] 1 k_ = k_ (bb true) := CALL_of (ρ := ρ) (K := 9) (m := 1) (k := k_) (r_law11_RouteNext) rfl
theorem r_law11_RouteLess {t : Int} {bits : Int} {self : Int} : f_law11_RouteLess [I t, I bits, I self] = some [bb true] := fnOf_eq (a := (t, bits, self)) (by rintro ⟨_, _, _⟩ ⟨_, _, _⟩ h; simpa [L_inj] using h) trivial
theorem c_law11_RouteLess {t : Int} {bits : Int} {self : Int} {k_ : PV → Prop} : CALL ρ 10 [I t, I bits, I self] 1 k_ = k_ (bb true) := CALL_of (ρ := ρ) (K := 10) (m := 1) (k := k_) (r_law11_RouteLess) rfl
theorem r_law11_RouteSteps {t : Int} {bits : Int} {self : Int} {at_ : Int} : f_law11_RouteSteps [I t, I bits, I self, I at_] = some [bb true] := fnOf_eq (a := (t, bits, self, at_)) (by rintro ⟨_, _, _, _⟩ ⟨_, _, _, _⟩ h; simpa [L_inj] using h) trivial
theorem c_law11_RouteSteps {t : Int} {bits : Int} {self : Int} {at_ : Int} {k_ : PV → Prop} : CALL ρ 6 [I t, I bits, I self, I at_] 1 k_ = k_ (bb true) := CALL_of (ρ := ρ) (K := 6) (m := 1) (k := k_) (r_law11_RouteSteps) rfl
theorem r_law12_PathRoute {t : Int} {bits : Int} {self : Int} {depth : Int} : f_law12_PathRoute [I t, I bits, I self, I depth] = some [bb true] := fnOf_eq (a := (t, bits, self, depth)) (by rintro ⟨_, _, _, _⟩ ⟨_, _, _, _⟩ h; simpa [L_inj] using h) trivial
theorem c_law12_PathRoute {t : Int} {bits : Int} {self : Int} {depth : Int} {k_ : PV → Prop} : CALL ρ 11 [I t, I bits, I self, I depth] 1 k_ = k_ (bb true) := CALL_of (ρ := ρ) (K := 11) (m := 1) (k := k_) (r_law12_PathRoute) rfl
end Go.Xt
