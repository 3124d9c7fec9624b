/- Steps towards the statements of this seat; the conditions stand in each theorem. -/
import Derived.Test.YthpnjlaaannaaaaGreatDoorSpecs
/- What each function comes to. -/
set_option maxRecDepth 100000
set_option linter.unusedVariables false
set_option linter.unusedSimpArgs false
namespace Go.Xt
def F_ring_Is : Int → Prop × List PV × List PV := fun z0 => (True, [I z0], [bb (isN z0)])
noncomputable def f_ring_Is := fnT F_ring_Is
def F_ring_Node : Int → Prop × List PV × List PV := fun z0 => (True, [I z0], [I (if isN z0 = true then nn z0 else 0), I (if isN z0 = true then 0 else 1)])
noncomputable def f_ring_Node := fnT F_ring_Node
def F_ring_Topic : Int → Prop × List PV × List PV := fun z0 => (True, [I z0], [I (if isT z0 = true then tt z0 else 0), I (if isT z0 = true then 0 else 1)])
noncomputable def f_ring_Topic := fnT F_ring_Topic
def F_key_Far : Int × Int → Prop × List PV × List PV := fun (z0, z1) => (0 ≤ z0 ∧ z0 < 4611686018427387904 ∧ 0 ≤ z1 ∧ z1 < 4611686018427387904, [I z0, I z1], [I (far z0 z1)])
noncomputable def f_key_Far := fnT F_key_Far
def F_ref01_Node : Int → Prop × List PV × List PV := fun z0 => (isN z0 = true, [I z0], [I (nn z0)])
noncomputable def f_ref01_Node := fnT F_ref01_Node
def F_ref01_Topic : Int → Prop × List PV × List PV := fun z0 => (isT z0 = true, [I z0], [I (tt z0)])
noncomputable def f_ref01_Topic := fnT F_ref01_Topic
def F_ref01_Behind : Int × Int → Prop × List PV × List PV := fun (z0, z1) => (0 ≤ z0 ∧ z0 < 4611686018427387904 ∧ 0 ≤ z1 ∧ z1 < 4611686018427387904, [I z0, I z1], [I (far z0 z1)])
noncomputable def f_ref01_Behind := fnT F_ref01_Behind
def F_ring_Gap : Int × Int → Prop × List PV × List PV := fun (z0, z1) => (True, [I z0, I z1], [I (if (isT z0 && isN z1) = true then gap z0 z1 else 0), I (if (isT z0 && isN z1) = true then 0 else 1)])
noncomputable def f_ring_Gap := fnT F_ring_Gap
def F_ring_Nearer : Int × Int × Int → Prop × List PV × List PV := fun (z0, z1, z2) => (True, [I z0, I z1, I z2], [bb (near z0 z1 z2)])
noncomputable def f_ring_Nearer := fnT F_ring_Nearer
def F_ref01_IsTopic : Int → Prop × List PV × List PV := fun z0 => (True, [I z0], [bb (isT z0)])
noncomputable def f_ref01_IsTopic := fnT F_ref01_IsTopic
def F_ref01_IsNode : Int → Prop × List PV × List PV := fun z0 => (True, [I z0], [bb (isN z0)])
noncomputable def f_ref01_IsNode := fnT F_ref01_IsNode
def F_ref01_Gap : Int × Int → Prop × List PV × List PV := fun (z0, z1) => (isT z0 = true ∧ isN z1 = true, [I z0, I z1], [I (gap z0 z1)])
noncomputable def f_ref01_Gap := fnT F_ref01_Gap
def F_ref01_Nearer : Int × Int × Int → Prop × List PV × List PV := fun (z0, z1, z2) => (True, [I z0, I z1, I z2], [bb (near z0 z1 z2)])
noncomputable def f_ref01_Nearer := fnT F_ref01_Nearer
def F_ring_All : (List Int) → Prop × List PV × List PV := fun z0 => (True, [L z0], [bb (z0.all isN)])
noncomputable def f_ring_All := fnT F_ring_All
def F_path_rises : Int × Int × (List Int) → Prop × List PV × List PV := fun (z0, z1, z2) => (True, [I z0, I z1, L z2], [bb (rises z0 z1 z2)])
noncomputable def f_path_rises := fnT F_path_rises
def F_path_Check : Int × Int × (List Int) × Int → Prop × List PV × List PV := fun (z0, z1, z2, z3) => (True, [I z0, I z1, L z2, I z3], [I (chk z0 z1 z2 z3)])
noncomputable def f_path_Check := fnT F_path_Check
def F_ref10_Path : Int × Int × (List Int) × Int → Prop × List PV × List PV := fun (z0, z1, z2, z3) => (isT z0 = true ∧ isN z1 = true, [I z0, I z1, L z2, I z3], [I (chkR z0 z1 z2 z3)])
noncomputable def f_ref10_Path := fnT F_ref10_Path
def F_slices_Contains_int_int : (List Int) × Int → Prop × List PV × List PV := fun (z0, z1) => (True, [L z0, I z1], [bb (z0.contains z1)])
noncomputable def f_slices_Contains_int_int := fnT F_slices_Contains_int_int
noncomputable def f_slices_Sort_int_int : List PV → Option (List PV) := fnOf (fun (l : (List Int)) => l.length < 4611686018427387904) (fun (l : (List Int)) => [L l]) (fun (l : (List Int)) => [L (sorted l)])
noncomputable def f_slices_Compact_int_int : List PV → Option (List PV) := fnOf (fun (l : (List Int)) => l.length < 4611686018427387904) (fun (l : (List Int)) => [L l]) (fun (l : (List Int)) => [L (compacted l)])
def F_key_is : Int → Prop × List PV × List PV := fun z0 => (True, [I z0], [bb (isK z0)])
noncomputable def f_key_is := fnT F_key_is
def F_key_Back : Int × Int → Prop × List PV × List PV := fun (z0, z1) => (True, [I z0, I z1], [I (if (isK z0 && decide (0 ≤ z1) && decide (z1 ≤ 61)) = true then far (2 ^ z1.toNat) z0 else 0), I (if (isK z0 && decide (0 ≤ z1) && decide (z1 ≤ 61)) = true then 0 else 1)])
noncomputable def f_key_Back := fnT F_key_Back
def F_route_Check : (List Int) × Int → Prop × List PV × List PV := fun (z0, z1) => (True, [L z0, I z1], [I (chkL z0 z1)])
noncomputable def f_route_Check := fnT F_route_Check
def F_route_first : (List Int) × Int → Prop × List PV × List PV := fun (z0, z1) => (z0.all isN = true ∧ 0 ≤ z1 ∧ z1 < 4611686018427387904, [L z0, I z1], [I (firstN z0 z1)])
noncomputable def f_route_first := fnT F_route_first
def F_route_ahead : (List Int) × Int → Prop × List PV × List PV := fun (z0, z1) => (z0.all isN = true ∧ isN z1 = true, [L z0, I z1], [I (aheadN z0 z1)])
noncomputable def f_route_ahead := fnT F_route_ahead
def F_route_fingers : (List Int) × Int → Prop × List PV × List PV := fun (z0, z1) => (z0.all isN = true ∧ isN z1 = true ∧ z0 ≠ [], [L z0, I z1], [L (fingers z0 z1)])
noncomputable def f_route_fingers := fnT F_route_fingers
def F_route_next : Int × (List Int) × Int → Prop × List PV × List PV := fun (z0, z1, z2) => (z1.all isN = true ∧ isN z2 = true ∧ z1 ≠ [], [I z0, L z1, I z2], [I (nextN z0 z1 z2)])
noncomputable def f_route_next := fnT F_route_next
def F_route_asked : Int × (List Int) × Int → Prop × List PV × List PV := fun (z0, z1, z2) => (True, [I z0, L z1, I z2], [I (askedN z0 z1 z2)])
noncomputable def f_route_asked := fnT F_route_asked
def F_route_Next : Int × (List Int) × Int → Prop × List PV × List PV := fun (z0, z1, z2) => (True, [I z0, L z1, I z2], [I (if askedN z0 z1 z2 = 0 then max (nextN z0 z1 z2) 0 else 0), bb (decide (askedN z0 z1 z2 = 0) && decide (0 ≤ nextN z0 z1 z2)), I (askedN z0 z1 z2)])
noncomputable def f_route_Next := fnT F_route_Next
noncomputable def f_script_field : List PV → Option (List PV) := fnOf (fun (_ : ByteArray × Int × Int × Int × Int) => True) (fun (((s, n, lo, hi, why)) : ByteArray × Int × Int × Int × Int) => [.str s, I n, I lo, I hi, I why]) (fun (((s, n, lo, hi, why)) : ByteArray × Int × Int × Int × Int) => [E ⟨false, if n < lo ∨ hi < n then [why] else []⟩])
noncomputable def f_errors_Join : List PV → Option (List PV) := fnOf (fun (xs : (List Er)) => xs ≠ [] ∧ xs.length ≤ 1000 ∧ ∀ x ∈ xs, x.j = false) (fun (xs : (List Er)) => [L xs]) (fun (xs : (List Er)) => [E ⟨true, xs.flatMap (·.l)⟩])
noncomputable def f_script_errno : List PV → Option (List PV) := fnOf (fun (x : Er) => x.l.length ≤ 1000) (fun (x : Er) => [E x]) (fun (x : Er) => [I (errnoOf x.l)])
def F_script_config : Int × Int × Int × Int × Int × Int × Int → Prop × List PV × List PV := fun (z0, z1, z2, z3, z4, z5, z6) => (True, [I z0, I z1, I z2, I z3, I z4, I z5, I z6], [E ⟨true, cfgErrs (Config.mk z0 z1 z2 z3 z4 z5 z6)⟩])
noncomputable def f_script_config := fnT F_script_config
def F_script_Config : Int × Int × Int × Int × Int × Int × Int → Prop × List PV × List PV := fun (z0, z1, z2, z3, z4, z5, z6) => (True, [I z0, I z1, I z2, I z3, I z4, I z5, I z6], [I (if cfgOk (Config.mk z0 z1 z2 z3 z4 z5 z6) = true then 0 else 13)])
noncomputable def f_script_Config := fnT F_script_Config
def F_ref01_In : Int × Int × Int → Prop × List PV × List PV := fun (z0, z1, z2) => (True, [I z0, I z1, I z2], [bb (decide (z1 ≤ z0) && decide (z0 ≤ z2))])
noncomputable def f_ref01_In := fnT F_ref01_In
def F_ref01_Config : Int × Int × Int × Int × Int × Int × Int → Prop × List PV × List PV := fun (z0, z1, z2, z3, z4, z5, z6) => (True, [I z0, I z1, I z2, I z3, I z4, I z5, I z6], [bb (cfgOk (Config.mk z0 z1 z2 z3 z4 z5 z6))])
noncomputable def f_ref01_Config := fnT F_ref01_Config
def F_epoch_Check : Int → Prop × List PV × List PV := fun z0 => (True, [I z0], [I (if ep z0 = true then 0 else 1)])
noncomputable def f_epoch_Check := fnT F_epoch_Check
def F_epoch_Who : Int → Prop × List PV × List PV := fun z0 => (True, [I z0], [I (if ep z0 = true then z0 % 16 else 0), I (if ep z0 = true then 0 else 1)])
noncomputable def f_epoch_Who := fnT F_epoch_Who
def F_msg_in : Int × Int × Int → Prop × List PV × List PV := fun (z0, z1, z2) => (True, [I z0, I z1, I z2], [bb (rng z0 z1 z2)])
noncomputable def f_msg_in := fnT F_msg_in
def F_msg_Counted : Int → Prop × List PV × List PV := fun z0 => (True, [I z0], [bb (cnt z0)])
noncomputable def f_msg_Counted := fnT F_msg_Counted
def F_msg_Value : Int → Prop × List PV × List PV := fun z0 => (True, [I z0], [bb (val z0)])
noncomputable def f_msg_Value := fnT F_msg_Value
def F_cast_in : Int × Int × Int → Prop × List PV × List PV := fun (z0, z1, z2) => (True, [I z0, I z1, I z2], [bb (rng z0 z1 z2)])
noncomputable def f_cast_in := fnT F_cast_in
def F_ref19_in : Int × Int × Int → Prop × List PV × List PV := fun (z0, z1, z2) => (True, [I z0, I z1, I z2], [bb (rng z0 z1 z2)])
noncomputable def f_ref19_in := fnT F_ref19_in
def F_ref10_in : Int × Int × Int → Prop × List PV × List PV := fun (z0, z1, z2) => (True, [I z0, I z1, I z2], [bb (rng z0 z1 z2)])
noncomputable def f_ref10_in := fnT F_ref10_in
def F_ref01_Value : Int → Prop × List PV × List PV := fun z0 => (True, [I z0], [bb (val z0)])
noncomputable def f_ref01_Value := fnT F_ref01_Value
def F_ref10_count : Int → Prop × List PV × List PV := fun z0 => (True, [I z0], [bb (cnt z0)])
noncomputable def f_ref10_count := fnT F_ref10_count
def F_ref10_Epoch : Int → Prop × List PV × List PV := fun z0 => (True, [I z0], [bb (ep z0)])
noncomputable def f_ref10_Epoch := fnT F_ref10_Epoch
def F_view_right : Int × Int → Prop × List PV × List PV := fun (z0, z1) => (True, [I z0, I z1], [bb (peerOk (Peer.mk z0 z1))])
noncomputable def f_view_right := fnT F_view_right
def F_view_Check : (List Peer) → Prop × List PV × List PV := fun z0 => (True, [L z0], [I (if peersOk z0 = true then 0 else 1)])
noncomputable def f_view_Check := fnT F_view_Check
def F_ref10_Peers : (List Peer) → Prop × List PV × List PV := fun z0 => (True, [L z0], [bb (peersOk z0)])
noncomputable def f_ref10_Peers := fnT F_ref10_Peers
def F_kids_right : Int × Int × Int × Int × Int → Prop × List PV × List PV := fun (z0, z1, z2, z3, z4) => (True, [I z0, I z1, I z2, I z3, I z4], [bb (near z0 z1 (Kid.mk z2 z3 z4).node && cnt (Kid.mk z2 z3 z4).inc && rng (Kid.mk z2 z3 z4).age 0 6)])
noncomputable def f_kids_right := fnT F_kids_right
def F_kids_Check : Int × Int × Int × (List Kid) → Prop × List PV × List PV := fun (z0, z1, z2, z3) => (True, [I z0, I z1, I z2, L z3], [I (if kidsOk z0 z1 z2 z3 = true then 0 else 1)])
noncomputable def f_kids_Check := fnT F_kids_Check
def F_ref10_Kids : Int × Int × Int × (List Kid) → Prop × List PV × List PV := fun (z0, z1, z2, z3) => (True, [I z0, I z1, I z2, L z3], [bb (kidsOk z0 z1 z2 z3)])
noncomputable def f_ref10_Kids := fnT F_ref10_Kids
def F_keep_right : (List Item) × Int → Prop × List PV × List PV := fun (z0, z1) => (cnt z1 = true ∧ z0.length ≤ 16, [L z0, I z1], [bb (decide (z0.length < z1) && keptGo (z1 - z0.length) z0)])
noncomputable def f_keep_right := fnT F_keep_right
def F_keep_Check : (List Item) × Int × Int → Prop × List PV × List PV := fun (z0, z1, z2) => (True, [L z0, I z1, I z2], [I (if keptOk z0 z1 z2 = true then 0 else 1)])
noncomputable def f_keep_Check := fnT F_keep_Check
def F_ref10_Kept : (List Item) × Int × Int → Prop × List PV × List PV := fun (z0, z1, z2) => (True, [L z0, I z1, I z2], [bb (keptOk z0 z1 z2)])
noncomputable def f_ref10_Kept := fnT F_ref10_Kept
def F_ahead_fits : Int × Int × Int → Prop × List PV × List PV := fun (z0, z1, z2) => (cnt z1 = true ∧ rng z2 1 16 = true, [I z0, I z1, I z2], [bb (decide (z1 < z0) && decide (z0 < z1 + z2) && decide (z0 < 1073741824))])
noncomputable def f_ahead_fits := fnT F_ahead_fits
def F_ahead_Check : (List Item) × Int × Int → Prop × List PV × List PV := fun (z0, z1, z2) => (True, [L z0, I z1, I z2], [I (if aheadOk z0 z1 z2 = true then 0 else 1)])
noncomputable def f_ahead_Check := fnT F_ahead_Check
def F_ref10_Ahead2 : (List Item) × Int × Int → Prop × List PV × List PV := fun (z0, z1, z2) => (True, [L z0, I z1, I z2], [bb (aheadOk z0 z1 z2)])
noncomputable def f_ref10_Ahead2 := fnT F_ref10_Ahead2
def F_queue_Event : Int × Int × Int × Int × Int × Int → Prop × List PV × List PV := fun (z0, z1, z2, z3, z4, z5) => (True, [I z0, I z1, I z2, I z3, I z4, I z5], [I (if evOk (Event.mk z0 z1 z2 z3 z4 z5) = true then 0 else 1)])
noncomputable def f_queue_Event := fnT F_queue_Event
def F_ref10_Event : Int × Int × Int × Int × Int × Int → Prop × List PV × List PV := fun (z0, z1, z2, z3, z4, z5) => (True, [I z0, I z1, I z2, I z3, I z4, I z5], [bb (evOk (Event.mk z0 z1 z2 z3 z4 z5))])
noncomputable def f_ref10_Event := fnT F_ref10_Event
def F_queue_Check : (List Event) × Int → Prop × List PV × List PV := fun (z0, z1) => (True, [L z0, I z1], [I (if queueOk z0 z1 = true then 0 else 1)])
noncomputable def f_queue_Check := fnT F_queue_Check
def F_ref10_Queue : (List Event) × Int → Prop × List PV × List PV := fun (z0, z1) => (True, [L z0, I z1], [bb (queueOk z0 z1)])
noncomputable def f_ref10_Queue := fnT F_ref10_Queue
def F_flow_zero : Int × Int × Int × (List Item) × (List Item) → Prop × List PV × List PV := fun (z0, z1, z2, z3, z4) => (True, [I z0, I z1, I z2, L z3, L z4], [bb (streamZ (Stream.mk z0 z1 z2 z3 z4))])
noncomputable def f_flow_zero := fnT F_flow_zero
def F_flow_right : Int × Int × Int × Int × Int × Int × Int × Int × Int × Int × (List Item) × (List Item) → Prop × List PV × List PV := fun (z0, z1, z2, z3, z4, z5, z6, z7, z8, z9, y0, y1) => (True, [I z0, I z1, I z2, I z3, I z4, I z5, I z6, I z7, I z8, I z9, L y0, L y1], [bb (streamOk (Config.mk z0 z1 z2 z3 z4 z5 z6) (Stream.mk z7 z8 z9 y0 y1))])
noncomputable def f_flow_right := fnT F_flow_right
def F_flow_Check : Int × Int × Int × Int × Int × Int × Int × Int × Int × Int × (List Item) × (List Item) × (List Event) → Prop × List PV × List PV := fun (z0, z1, z2, z3, z4, z5, z6, z7, z8, z9, y0, y1, y2) => (True, [I z0, I z1, I z2, I z3, I z4, I z5, I z6, I z7, I z8, I z9, L y0, L y1, L y2], [I (if cfgOk (Config.mk z0 z1 z2 z3 z4 z5 z6) = true then (if flowOk (Config.mk z0 z1 z2 z3 z4 z5 z6) (Stream.mk z7 z8 z9 y0 y1) y2 = true then 0 else 1) else 13)])
noncomputable def f_flow_Check := fnT F_flow_Check
def F_ref10_Stream : Int × Int × Int × Int × Int × Int × Int × Int × Int × Int × (List Item) × (List Item) → Prop × List PV × List PV := fun (z0, z1, z2, z3, z4, z5, z6, z7, z8, z9, y0, y1) => (True, [I z0, I z1, I z2, I z3, I z4, I z5, I z6, I z7, I z8, I z9, L y0, L y1], [bb (streamOk (Config.mk z0 z1 z2 z3 z4 z5 z6) (Stream.mk z7 z8 z9 y0 y1))])
noncomputable def f_ref10_Stream := fnT F_ref10_Stream
def F_ref10_Flow : Int × Int × Int × Int × Int × Int × Int × Int × Int × Int × (List Item) × (List Item) × (List Event) → Prop × List PV × List PV := fun (z0, z1, z2, z3, z4, z5, z6, z7, z8, z9, y0, y1, y2) => (True, [I z0, I z1, I z2, I z3, I z4, I z5, I z6, I z7, I z8, I z9, L y0, L y1, L y2], [bb (flowOk (Config.mk z0 z1 z2 z3 z4 z5 z6) (Stream.mk z7 z8 z9 y0 y1) y2)])
noncomputable def f_ref10_Flow := fnT F_ref10_Flow
def F_graft_link : Int × Int × Int → Prop × List PV × List PV := fun (z0, z1, z2) => (True, [I z0, I z1, I z2], [bb (link z0 z1 z2)])
noncomputable def f_graft_link := fnT F_graft_link
def F_ref10_near : Int × Int × Int → Prop × List PV × List PV := fun (z0, z1, z2) => (True, [I z0, I z1, I z2], [bb (link z0 z1 z2)])
noncomputable def f_ref10_near := fnT F_ref10_near
def F_graft_rooted : Int × Bool × Bool × Int × Int × Int × Int × Int × Int × (List Int) × (List Kid) × Int × Int × Int × (List Item) × (List Item) × (List Event) → Prop × List PV × List PV := fun (z0, z1, z2, z3, z4, z5, z6, z7, z8, z9, y0, y1, y2, y3, y4, y5, y6) => (True, [I z0, bb z1, bb z2, I z3, I z4, I z5, I z6, I z7, I z8, L z9, L y0, I y1, I y2, I y3, L y4, L y5, L y6], [bb (rootOk z0 (Topic.mk z1 z2 z3 z4 z5 z6 z7 z8 z9 y0 (Stream.mk y1 y2 y3 y4 y5) y6))])
noncomputable def f_graft_rooted := fnT F_graft_rooted
def F_graft_placed : Bool × Bool × Int × Int × Int × Int × Int × Int × (List Int) × (List Kid) × Int × Int × Int × (List Item) × (List Item) × (List Event) → Prop × List PV × List PV := fun (z0, z1, z2, z3, z4, z5, z6, z7, z8, z9, y0, y1, y2, y3, y4, y5) => (0 ≤ (Topic.mk z0 z1 z2 z3 z4 z5 z6 z7 z8 z9 (Stream.mk y0 y1 y2 y3 y4) y5).parent ∧ (Topic.mk z0 z1 z2 z3 z4 z5 z6 z7 z8 z9 (Stream.mk y0 y1 y2 y3 y4) y5).parent ≤ 8, [bb z0, bb z1, I z2, I z3, I z4, I z5, I z6, I z7, L z8, L z9, I y0, I y1, I y2, L y3, L y4, L y5], [bb (placedOk (Topic.mk z0 z1 z2 z3 z4 z5 z6 z7 z8 z9 (Stream.mk y0 y1 y2 y3 y4) y5))])
noncomputable def f_graft_placed := fnT F_graft_placed
def F_graft_right : Int × Int × Int × Int × Int × Int × Int × Int × Int × Bool × Bool × Int × Int × Int × Int × Int × Int × (List Int) × (List Kid) × Int × Int × Int × (List Item) × (List Item) × (List Event) → Prop × List PV × List PV := fun (z0, z1, z2, z3, z4, z5, z6, z7, z8, z9, y0, y1, y2, y3, y4, y5, y6, y7, y8, y9, x0, x1, x2, x3, x4) => (cfgOk (Config.mk z0 z1 z2 z3 z4 z5 z6) = true, [I z0, I z1, I z2, I z3, I z4, I z5, I z6, I z7, I z8, bb z9, bb y0, I y1, I y2, I y3, I y4, I y5, I y6, L y7, L y8, I y9, I x0, I x1, L x2, L x3, L x4], [bb (topicOk (Config.mk z0 z1 z2 z3 z4 z5 z6) z7 z8 (Topic.mk z9 y0 y1 y2 y3 y4 y5 y6 y7 y8 (Stream.mk y9 x0 x1 x2 x3) x4))])
noncomputable def f_graft_right := fnT F_graft_right
def F_graft_Check : Int × Int × Int × Int × Int × Int × Int × Int × Int × Bool × Bool × Int × Int × Int × Int × Int × Int × (List Int) × (List Kid) × Int × Int × Int × (List Item) × (List Item) × (List Event) → Prop × List PV × List PV := fun (z0, z1, z2, z3, z4, z5, z6, z7, z8, z9, y0, y1, y2, y3, y4, y5, y6, y7, y8, y9, x0, x1, x2, x3, x4) => (True, [I z0, I z1, I z2, I z3, I z4, I z5, I z6, I z7, I z8, bb z9, bb y0, I y1, I y2, I y3, I y4, I y5, I y6, L y7, L y8, I y9, I x0, I x1, L x2, L x3, L x4], [I (if cfgOk (Config.mk z0 z1 z2 z3 z4 z5 z6) = true then (if (place (Config.mk z0 z1 z2 z3 z4 z5 z6) z7 z8 && topicOk (Config.mk z0 z1 z2 z3 z4 z5 z6) z7 z8 (Topic.mk z9 y0 y1 y2 y3 y4 y5 y6 y7 y8 (Stream.mk y9 x0 x1 x2 x3) x4)) = true then 0 else 1) else 13)])
noncomputable def f_graft_Check := fnT F_graft_Check
def F_ref10_Topic : Int × Int × Int × Int × Int × Int × Int × Int × Int × Bool × Bool × Int × Int × Int × Int × Int × Int × (List Int) × (List Kid) × Int × Int × Int × (List Item) × (List Item) × (List Event) → Prop × List PV × List PV := fun (z0, z1, z2, z3, z4, z5, z6, z7, z8, z9, y0, y1, y2, y3, y4, y5, y6, y7, y8, y9, x0, x1, x2, x3, x4) => (cfgOk (Config.mk z0 z1 z2 z3 z4 z5 z6) = true ∧ place (Config.mk z0 z1 z2 z3 z4 z5 z6) z7 z8 = true, [I z0, I z1, I z2, I z3, I z4, I z5, I z6, I z7, I z8, bb z9, bb y0, I y1, I y2, I y3, I y4, I y5, I y6, L y7, L y8, I y9, I x0, I x1, L x2, L x3, L x4], [bb (topicOk (Config.mk z0 z1 z2 z3 z4 z5 z6) z7 z8 (Topic.mk z9 y0 y1 y2 y3 y4 y5 y6 y7 y8 (Stream.mk y9 x0 x1 x2 x3) x4))])
noncomputable def f_ref10_Topic := fnT F_ref10_Topic
def F_cast_calls : Int × Int × Int × Int × Int × Int × Int × Bool × Int × (List Peer) × (List Topic) × (List Call) × Int × Int × (List Mark) × (List Mark2) → Prop × List PV × List PV := fun (z0, z1, z2, z3, z4, z5, z6, z7, z8, z9, y0, y1, y2, y3, y4, y5) => (cfgOk (Config.mk z0 z1 z2 z3 z4 z5 z6) = true, [I z0, I z1, I z2, I z3, I z4, I z5, I z6, bb z7, I z8, L z9, L y0, L y1, I y2, I y3, L y4, L y5], [bb (callsGo (Config.mk z0 z1 z2 z3 z4 z5 z6) (Node.mk z7 z8 z9 y0 y1 y2 y3 y4 y5).asks 0 (Node.mk z7 z8 z9 y0 y1 y2 y3 y4 y5).calls && decide ((Node.mk z7 z8 z9 y0 y1 y2 y3 y4 y5).calls.length ≤ 40))])
noncomputable def f_cast_calls := fnT F_cast_calls
def F_cast_mark : Int × Int × Int → Prop × List PV × List PV := fun (z0, z1, z2) => (True, [I z0, I z1, I z2], [bb (markOk (Mark.mk z0 z1 z2))])
noncomputable def f_cast_mark := fnT F_cast_mark
def F_cast_taken : Int × Int × Int × Int × Int × Int × Int × Int × Int × Int × Int × Int → Prop × List PV × List PV := fun (z0, z1, z2, z3, z4, z5, z6, z7, z8, z9, y0, y1) => (cfgOk (Config.mk z0 z1 z2 z3 z4 z5 z6) = true, [I z0, I z1, I z2, I z3, I z4, I z5, I z6, I z7, I z8, I z9, I y0, I y1], [bb (takenOk (Config.mk z0 z1 z2 z3 z4 z5 z6) (Mark2.mk z7 z8 z9 y0 y1))])
noncomputable def f_cast_taken := fnT F_cast_taken
def F_cast_right : Int × Int × Int × Int × Int × Int × Int × Int × Bool × Int × (List Peer) × (List Topic) × (List Call) × Int × Int × (List Mark) × (List Mark2) → Prop × List PV × List PV := fun (z0, z1, z2, z3, z4, z5, z6, z7, z8, z9, y0, y1, y2, y3, y4, y5, y6) => (cfgOk (Config.mk z0 z1 z2 z3 z4 z5 z6) = true ∧ rng z7 0 ((Config.mk z0 z1 z2 z3 z4 z5 z6).nodes - 1) = true, [I z0, I z1, I z2, I z3, I z4, I z5, I z6, I z7, bb z8, I z9, L y0, L y1, L y2, I y3, I y4, L y5, L y6], [bb (nodeOk (Config.mk z0 z1 z2 z3 z4 z5 z6) z7 (Node.mk z8 z9 y0 y1 y2 y3 y4 y5 y6))])
noncomputable def f_cast_right := fnT F_cast_right
def F_cast_Check : Int × Int × Int × Int × Int × Int × Int × Int × Bool × Int × (List Peer) × (List Topic) × (List Call) × Int × Int × (List Mark) × (List Mark2) → Prop × List PV × List PV := fun (z0, z1, z2, z3, z4, z5, z6, z7, z8, z9, y0, y1, y2, y3, y4, y5, y6) => (True, [I z0, I z1, I z2, I z3, I z4, I z5, I z6, I z7, bb z8, I z9, L y0, L y1, L y2, I y3, I y4, L y5, L y6], [I (nodeWhy (Config.mk z0 z1 z2 z3 z4 z5 z6) z7 (Node.mk z8 z9 y0 y1 y2 y3 y4 y5 y6))])
noncomputable def f_cast_Check := fnT F_cast_Check
def F_ref19_Node : Int × Int × Int × Int × Int × Int × Int × Int × Bool × Int × (List Peer) × (List Topic) × (List Call) × Int × Int × (List Mark) × (List Mark2) → Prop × List PV × List PV := fun (z0, z1, z2, z3, z4, z5, z6, z7, z8, z9, y0, y1, y2, y3, y4, y5, y6) => (cfgOk (Config.mk z0 z1 z2 z3 z4 z5 z6) = true ∧ rng z7 0 ((Config.mk z0 z1 z2 z3 z4 z5 z6).nodes - 1) = true, [I z0, I z1, I z2, I z3, I z4, I z5, I z6, I z7, bb z8, I z9, L y0, L y1, L y2, I y3, I y4, L y5, L y6], [bb (nodeOk (Config.mk z0 z1 z2 z3 z4 z5 z6) z7 (Node.mk z8 z9 y0 y1 y2 y3 y4 y5 y6))])
noncomputable def f_ref19_Node := fnT F_ref19_Node
def F_bkeep_Items : (List Item) × (List Item) → Prop × List PV × List PV := fun (z0, z1) => (True, [L z0, L z1], [bb (decide (z0 = z1))])
noncomputable def f_bkeep_Items := fnT F_bkeep_Items
def F_bkeep_Stream : Int × Int × Int × (List Item) × (List Item) × Int × Int × Int × (List Item) × (List Item) → Prop × List PV × List PV := fun (z0, z1, z2, z3, z4, z5, z6, z7, z8, z9) => (True, [I z0, I z1, I z2, L z3, L z4, I z5, I z6, I z7, L z8, L z9], [bb (decide ((Stream.mk z0 z1 z2 z3 z4) = (Stream.mk z5 z6 z7 z8 z9)))])
noncomputable def f_bkeep_Stream := fnT F_bkeep_Stream
def F_law18_Heavy : Int × Int × Int × (List Item) × (List Item) × (List Event) → Prop × List PV × List PV := fun (z0, z1, z2, z3, z4, z5) => (True, [I z0, I z1, I z2, L z3, L z4, L z5], [bb (heavy18 (Stream.mk z0 z1 z2 z3 z4) z5)])
noncomputable def f_law18_Heavy := fnT F_law18_Heavy
def F_law19_Heavy : Bool × Bool × Int × Int × Int × Int × Int × Int × (List Int) × (List Kid) × Int × Int × Int × (List Item) × (List Item) × (List Event) → Prop × List PV × List PV := fun (z0, z1, z2, z3, z4, z5, z6, z7, z8, z9, y0, y1, y2, y3, y4, y5) => (True, [bb z0, bb z1, I z2, I z3, I z4, I z5, I z6, I z7, L z8, L z9, I y0, I y1, I y2, L y3, L y4, L y5], [bb (heavy19 (Topic.mk z0 z1 z2 z3 z4 z5 z6 z7 z8 z9 (Stream.mk y0 y1 y2 y3 y4) y5))])
noncomputable def f_law19_Heavy := fnT F_law19_Heavy
def F_law21_Heavy : Bool × Int × (List Peer) × (List Topic) × (List Call) × Int × Int × (List Mark) × (List Mark2) → Prop × List PV × List PV := fun (z0, z1, z2, z3, z4, z5, z6, z7, z8) => (True, [bb z0, I z1, L z2, L z3, L z4, I z5, I z6, L z7, L z8], [bb (heavy21 (Node.mk z0 z1 z2 z3 z4 z5 z6 z7 z8))])
noncomputable def f_law21_Heavy := fnT F_law21_Heavy
def F_law19_Full : Unit → Prop × List PV × List PV := fun _ => (True, [], [I 8, I 4, I 2, I 8, I 8, I 8, I 16])
noncomputable def f_law19_Full := fnT F_law19_Full
def F_slices_Clone_api_Peer_api_Peer : (List Peer) → Prop × List PV × List PV := fun z0 => (z0.length ≤ 1000000, [L z0], [L z0])
noncomputable def f_slices_Clone_api_Peer_api_Peer := fnT F_slices_Clone_api_Peer_api_Peer
def F_slices_Clone_api_Call_api_Call : (List Call) → Prop × List PV × List PV := fun z0 => (z0.length ≤ 1000000, [L z0], [L z0])
noncomputable def f_slices_Clone_api_Call_api_Call := fnT F_slices_Clone_api_Call_api_Call
def F_slices_Clone_api_Mark_api_Mark : (List Mark) → Prop × List PV × List PV := fun z0 => (z0.length ≤ 1000000, [L z0], [L z0])
noncomputable def f_slices_Clone_api_Mark_api_Mark := fnT F_slices_Clone_api_Mark_api_Mark
def F_slices_Clone_api_Mark2_api_Mark2 : (List Mark2) → Prop × List PV × List PV := fun z0 => (z0.length ≤ 1000000, [L z0], [L z0])
noncomputable def f_slices_Clone_api_Mark2_api_Mark2 := fnT F_slices_Clone_api_Mark2_api_Mark2
def F_slices_Clone_api_Kid_api_Kid : (List Kid) → Prop × List PV × List PV := fun z0 => (z0.length ≤ 1000000, [L z0], [L z0])
noncomputable def f_slices_Clone_api_Kid_api_Kid := fnT F_slices_Clone_api_Kid_api_Kid
def F_slices_Clone_api_Event_api_Event : (List Event) → Prop × List PV × List PV := fun z0 => (z0.length ≤ 1000000, [L z0], [L z0])
noncomputable def f_slices_Clone_api_Event_api_Event := fnT F_slices_Clone_api_Event_api_Event
def F_slices_Clone_api_Item_api_Item : (List Item) → Prop × List PV × List PV := fun z0 => (z0.length ≤ 1000000, [L z0], [L z0])
noncomputable def f_slices_Clone_api_Item_api_Item := fnT F_slices_Clone_api_Item_api_Item
def F_slices_Clone_int_int : (List Int) → Prop × List PV × List PV := fun z0 => (z0.length ≤ 1000000, [L z0], [L z0])
noncomputable def f_slices_Clone_int_int := fnT F_slices_Clone_int_int
noncomputable def f_slices_Delete_api_Call_api_Call : List PV → Option (List PV) := fnOf (fun (((l, i, j)) : (List Call) × Int × Int) => 0 ≤ i ∧ i ≤ j ∧ j ≤ l.length ∧ l.length < 4611686018427387904) (fun (((l, i, j)) : (List Call) × Int × Int) => [L l, I i, I j]) (fun (((l, i, j)) : (List Call) × Int × Int) => [L (cutL l i.toNat j.toNat)])
def F_graft_Has : Bool × Bool × Int × Int × Int × Int × Int × Int × (List Int) × (List Kid) × Int × Int × Int × (List Item) × (List Item) × (List Event) → Prop × List PV × List PV := fun (z0, z1, z2, z3, z4, z5, z6, z7, z8, z9, y0, y1, y2, y3, y4, y5) => (True, [bb z0, bb z1, I z2, I z3, I z4, I z5, I z6, I z7, L z8, L z9, I y0, I y1, I y2, L y3, L y4, L y5], [bb (hasWay (Topic.mk z0 z1 z2 z3 z4 z5 z6 z7 z8 z9 (Stream.mk y0 y1 y2 y3 y4) y5))])
noncomputable def f_graft_Has := fnT F_graft_Has
def F_graft_Twin : Bool × Bool × Int × Int × Int × Int × Int × Int × (List Int) × (List Kid) × Int × Int × Int × (List Item) × (List Item) × (List Event) → Prop × List PV × List PV := fun (z0, z1, z2, z3, z4, z5, z6, z7, z8, z9, y0, y1, y2, y3, y4, y5) => (heavy19 (Topic.mk z0 z1 z2 z3 z4 z5 z6 z7 z8 z9 (Stream.mk y0 y1 y2 y3 y4) y5) = false, [bb z0, bb z1, I z2, I z3, I z4, I z5, I z6, I z7, L z8, L z9, I y0, I y1, I y2, L y3, L y4, L y5], [bb (Topic.mk z0 z1 z2 z3 z4 z5 z6 z7 z8 z9 (Stream.mk y0 y1 y2 y3 y4) y5).made, bb (Topic.mk z0 z1 z2 z3 z4 z5 z6 z7 z8 z9 (Stream.mk y0 y1 y2 y3 y4) y5).sub, I (Topic.mk z0 z1 z2 z3 z4 z5 z6 z7 z8 z9 (Stream.mk y0 y1 y2 y3 y4) y5).top, I (Topic.mk z0 z1 z2 z3 z4 z5 z6 z7 z8 z9 (Stream.mk y0 y1 y2 y3 y4) y5).root, I (Topic.mk z0 z1 z2 z3 z4 z5 z6 z7 z8 z9 (Stream.mk y0 y1 y2 y3 y4) y5).parent, I (Topic.mk z0 z1 z2 z3 z4 z5 z6 z7 z8 z9 (Stream.mk y0 y1 y2 y3 y4) y5).asked, I (Topic.mk z0 z1 z2 z3 z4 z5 z6 z7 z8 z9 (Stream.mk y0 y1 y2 y3 y4) y5).other, I (Topic.mk z0 z1 z2 z3 z4 z5 z6 z7 z8 z9 (Stream.mk y0 y1 y2 y3 y4) y5).age, L (Topic.mk z0 z1 z2 z3 z4 z5 z6 z7 z8 z9 (Stream.mk y0 y1 y2 y3 y4) y5).path, L (Topic.mk z0 z1 z2 z3 z4 z5 z6 z7 z8 z9 (Stream.mk y0 y1 y2 y3 y4) y5).kids, I (Topic.mk z0 z1 z2 z3 z4 z5 z6 z7 z8 z9 (Stream.mk y0 y1 y2 y3 y4) y5).stream.epoch, I (Topic.mk z0 z1 z2 z3 z4 z5 z6 z7 z8 z9 (Stream.mk y0 y1 y2 y3 y4) y5).stream.want, I (Topic.mk z0 z1 z2 z3 z4 z5 z6 z7 z8 z9 (Stream.mk y0 y1 y2 y3 y4) y5).stream.known, L (Topic.mk z0 z1 z2 z3 z4 z5 z6 z7 z8 z9 (Stream.mk y0 y1 y2 y3 y4) y5).stream.kept, L (Topic.mk z0 z1 z2 z3 z4 z5 z6 z7 z8 z9 (Stream.mk y0 y1 y2 y3 y4) y5).stream.ahead, L (Topic.mk z0 z1 z2 z3 z4 z5 z6 z7 z8 z9 (Stream.mk y0 y1 y2 y3 y4) y5).queue])
noncomputable def f_graft_Twin := fnT F_graft_Twin
def F_queue_gap : Int × Int × Int × Int × Int × Int → Prop × List PV × List PV := fun (z0, z1, z2, z3, z4, z5) => (True, [I z0, I z1, I z2, I z3, I z4, I z5], [I (gapE (Event.mk z0 z1 z2 z3 z4 z5)).kind, I (gapE (Event.mk z0 z1 z2 z3 z4 z5)).epoch, I (gapE (Event.mk z0 z1 z2 z3 z4 z5)).seq, I (gapE (Event.mk z0 z1 z2 z3 z4 z5)).last, I (gapE (Event.mk z0 z1 z2 z3 z4 z5)).value, I (gapE (Event.mk z0 z1 z2 z3 z4 z5)).count, bb (ofStream (Event.mk z0 z1 z2 z3 z4 z5))])
noncomputable def f_queue_gap := fnT F_queue_gap
def F_queue_Put : (List Event) × Int × Int × Int × Int × Int × Int × Int → Prop × List PV × List PV := fun (z0, z1, z2, z3, z4, z5, z6, z7) => (True, [L z0, I z1, I z2, I z3, I z4, I z5, I z6, I z7], [L (putE z0 z1 (Event.mk z2 z3 z4 z5 z6 z7)).1, I (putE z0 z1 (Event.mk z2 z3 z4 z5 z6 z7)).2])
noncomputable def f_queue_Put := fnT F_queue_Put
def F_queue_Fit : (List Event) × Int × Int × Int × Int × Int × Int × Int → Prop × List PV × List PV := fun (z0, z1, z2, z3, z4, z5, z6, z7) => (z0.length ≤ 1000000, [L z0, I z1, I z2, I z3, I z4, I z5, I z6, I z7], [L (fitE z0 z1 (Event.mk z2 z3 z4 z5 z6 z7))])
noncomputable def f_queue_Fit := fnT F_queue_Fit
def F_cast_Heed : Bool × Int × (List Peer) × (List Topic) × (List Call) × Int × Int × (List Mark) × (List Mark2) × Int → Prop × List PV × List PV := fun (z0, z1, z2, z3, z4, z5, z6, z7, z8, z9) => (True, [bb z0, I z1, L z2, L z3, L z4, I z5, I z6, L z7, L z8, I z9], [bb (heed (Node.mk z0 z1 z2 z3 z4 z5 z6 z7 z8) z9)])
noncomputable def f_cast_Heed := fnT F_cast_Heed
def F_view_place : (List Peer) × Int → Prop × List PV × List PV := fun (z0, z1) => (True, [L z0, I z1], [I (placeP z0 z1)])
noncomputable def f_view_place := fnT F_view_place
def F_view_Live : (List Peer) × Int → Prop × List PV × List PV := fun (z0, z1) => (True, [L z0, I z1], [L (if placeP z0 z1 = 0 then liveP z0 z1 else []), I (placeP z0 z1)])
noncomputable def f_view_Live := fnT F_view_Live
def F_cast_Next : Int × Bool × Int × (List Peer) × (List Topic) × (List Call) × Int × Int × (List Mark) × (List Mark2) × Int → Prop × List PV × List PV := fun (z0, z1, z2, z3, z4, z5, z6, z7, z8, z9, y0) => (peersOk (Node.mk z1 z2 z3 z4 z5 z6 z7 z8 z9).peers = true ∧ rng z0 0 ((Node.mk z1 z2 z3 z4 z5 z6 z7 z8 z9).peers.length - 1) = true ∧ isT y0 = true, [I z0, bb z1, I z2, L z3, L z4, L z5, I z6, I z7, L z8, L z9, I y0], [I (nextN y0 (liveP (Node.mk z1 z2 z3 z4 z5 z6 z7 z8 z9).peers z0) z0)])
noncomputable def f_cast_Next := fnT F_cast_Next
def F_cast_near : Int × Bool × Int × (List Peer) × (List Topic) × (List Call) × Int × Int × (List Mark) × (List Mark2) × Int → Prop × List PV × List PV := fun (z0, z1, z2, z3, z4, z5, z6, z7, z8, z9, y0) => (peersOk (Node.mk z1 z2 z3 z4 z5 z6 z7 z8 z9).peers = true ∧ rng z0 0 ((Node.mk z1 z2 z3 z4 z5 z6 z7 z8 z9).peers.length - 1) = true ∧ isT y0 = true ∧ y0 < (Node.mk z1 z2 z3 z4 z5 z6 z7 z8 z9).topics.length ∧ (topAt (Node.mk z1 z2 z3 z4 z5 z6 z7 z8 z9) y0).kids.length ≤ 8 ∧ (topAt (Node.mk z1 z2 z3 z4 z5 z6 z7 z8 z9) y0).parent ≤ 8 ∧ 0 ≤ (topAt (Node.mk z1 z2 z3 z4 z5 z6 z7 z8 z9) y0).parent, [I z0, bb z1, I z2, L z3, L z4, L z5, I z6, I z7, L z8, L z9, I y0], [L (nearL z0 (Node.mk z1 z2 z3 z4 z5 z6 z7 z8 z9) y0)])
noncomputable def f_cast_near := fnT F_cast_near
def F_ref19_Check : Int × Int × Int × Int × Int × Int × Int × Int × Bool × Int × (List Peer) × (List Topic) × (List Call) × Int × Int × (List Mark) × (List Mark2) → Prop × List PV × List PV := fun (z0, z1, z2, z3, z4, z5, z6, z7, z8, z9, y0, y1, y2, y3, y4, y5, y6) => (True, [I z0, I z1, I z2, I z3, I z4, I z5, I z6, I z7, bb z8, I z9, L y0, L y1, L y2, I y3, I y4, L y5, L y6], [I (nodeWhy (Config.mk z0 z1 z2 z3 z4 z5 z6) z7 (Node.mk z8 z9 y0 y1 y2 y3 y4 y5 y6))])
noncomputable def f_ref19_Check := fnT F_ref19_Check
def F_cast_Begin : Int × Int × Int × Int × Int × Int × Int × Int × Bool × Int × (List Peer) × (List Topic) × (List Call) × Int × Int × (List Mark) × (List Mark2) × Int × Int → Prop × List PV × List PV := fun (z0, z1, z2, z3, z4, z5, z6, z7, z8, z9, y0, y1, y2, y3, y4, y5, y6, y7, y8) => (True, [I z0, I z1, I z2, I z3, I z4, I z5, I z6, I z7, bb z8, I z9, L y0, L y1, L y2, I y3, I y4, L y5, L y6, I y7, I y8], [bb (beginN (Config.mk z0 z1 z2 z3 z4 z5 z6) z7 (Node.mk z8 z9 y0 y1 y2 y3 y4 y5 y6) y7 y8).1.up, I (beginN (Config.mk z0 z1 z2 z3 z4 z5 z6) z7 (Node.mk z8 z9 y0 y1 y2 y3 y4 y5 y6) y7 y8).1.inc, L (beginN (Config.mk z0 z1 z2 z3 z4 z5 z6) z7 (Node.mk z8 z9 y0 y1 y2 y3 y4 y5 y6) y7 y8).1.peers, L (beginN (Config.mk z0 z1 z2 z3 z4 z5 z6) z7 (Node.mk z8 z9 y0 y1 y2 y3 y4 y5 y6) y7 y8).1.topics, L (beginN (Config.mk z0 z1 z2 z3 z4 z5 z6) z7 (Node.mk z8 z9 y0 y1 y2 y3 y4 y5 y6) y7 y8).1.calls, I (beginN (Config.mk z0 z1 z2 z3 z4 z5 z6) z7 (Node.mk z8 z9 y0 y1 y2 y3 y4 y5 y6) y7 y8).1.pubs, I (beginN (Config.mk z0 z1 z2 z3 z4 z5 z6) z7 (Node.mk z8 z9 y0 y1 y2 y3 y4 y5 y6) y7 y8).1.asks, L (beginN (Config.mk z0 z1 z2 z3 z4 z5 z6) z7 (Node.mk z8 z9 y0 y1 y2 y3 y4 y5 y6) y7 y8).1.marks, L (beginN (Config.mk z0 z1 z2 z3 z4 z5 z6) z7 (Node.mk z8 z9 y0 y1 y2 y3 y4 y5 y6) y7 y8).1.taken, L (beginN (Config.mk z0 z1 z2 z3 z4 z5 z6) z7 (Node.mk z8 z9 y0 y1 y2 y3 y4 y5 y6) y7 y8).2.1, I (beginN (Config.mk z0 z1 z2 z3 z4 z5 z6) z7 (Node.mk z8 z9 y0 y1 y2 y3 y4 y5 y6) y7 y8).2.2.1, I (beginN (Config.mk z0 z1 z2 z3 z4 z5 z6) z7 (Node.mk z8 z9 y0 y1 y2 y3 y4 y5 y6) y7 y8).2.2.2])
noncomputable def f_cast_Begin := fnT F_cast_Begin
def F_law21_wakes : Unit → Prop × List PV × List PV := fun _ => (True, [], [bb true])
noncomputable def f_law21_wakes := fnT F_law21_wakes
def F_law21_CastCalls : Int × Int × Int × Int × Int × Int × Int × Int × Bool × Int × (List Peer) × (List Topic) × (List Call) × Int × Int × (List Mark) × (List Mark2) × Int × Int × Int → Prop × List PV × List PV := fun (z0, z1, z2, z3, z4, z5, z6, z7, z8, z9, y0, y1, y2, y3, y4, y5, y6, y7, y8, y9) => (True, [I z0, I z1, I z2, I z3, I z4, I z5, I z6, I z7, bb z8, I z9, L y0, L y1, L y2, I y3, I y4, L y5, L y6, I y7, I y8, I y9], [bb true])
noncomputable def f_law21_CastCalls := fnT F_law21_CastCalls
noncomputable def ρ : Fns := fun K => match K with
  | 135 => f_ring_Is
  | 174 => f_ring_Node
  | 103 => f_ring_Topic
  | 175 => f_key_Far
  | 177 => f_ref01_Node
  | 197 => f_ref01_Topic
  | 178 => f_ref01_Behind
  | 145 => f_ring_Gap
  | 105 => f_ring_Nearer
  | 61 => f_ref01_IsTopic
  | 59 => f_ref01_IsNode
  | 176 => f_ref01_Gap
  | 150 => f_ref01_Nearer
  | 104 => f_ring_All
  | 190 => f_path_rises
  | 167 => f_path_Check
  | 116 => f_ref10_Path
  | 44 => f_slices_Contains_int_int
  | 210 => f_slices_Sort_int_int
  | 211 => f_slices_Compact_int_int
  | 214 => f_key_is
  | 208 => f_key_Back
  | 198 => f_route_Check
  | 209 => f_route_first
  | 200 => f_route_ahead
  | 199 => f_route_fingers
  | 186 => f_route_next
  | 185 => f_route_asked
  | 157 => f_route_Next
  | 127 => f_script_field
  | 126 => f_errors_Join
  | 78 => f_script_errno
  | 79 => f_script_config
  | 39 => f_script_Config
  | 53 => f_ref01_In
  | 31 => f_ref01_Config
  | 201 => f_epoch_Check
  | 189 => f_epoch_Who
  | 68 => f_msg_in
  | 80 => f_msg_Counted
  | 35 => f_msg_Value
  | 34 => f_cast_in
  | 32 => f_ref19_in
  | 113 => f_ref10_in
  | 23 => f_ref01_Value
  | 180 => f_ref10_count
  | 114 => f_ref10_Epoch
  | 132 => f_view_right
  | 86 => f_view_Check
  | 66 => f_ref10_Peers
  | 191 => f_kids_right
  | 168 => f_kids_Check
  | 117 => f_ref10_Kids
  | 212 => f_keep_right
  | 203 => f_keep_Check
  | 181 => f_ref10_Kept
  | 213 => f_ahead_fits
  | 204 => f_ahead_Check
  | 182 => f_ref10_Ahead2
  | 172 => f_queue_Event
  | 183 => f_ref10_Event
  | 171 => f_queue_Check
  | 154 => f_ref10_Queue
  | 202 => f_flow_zero
  | 192 => f_flow_right
  | 169 => f_flow_Check
  | 153 => f_ref10_Stream
  | 118 => f_ref10_Flow
  | 164 => f_graft_link
  | 115 => f_ref10_near
  | 165 => f_graft_rooted
  | 166 => f_graft_placed
  | 128 => f_graft_right
  | 82 => f_graft_Check
  | 67 => f_ref10_Topic
  | 81 => f_cast_calls
  | 85 => f_cast_mark
  | 89 => f_cast_taken
  | 40 => f_cast_right
  | 12 => f_cast_Check
  | 33 => f_ref19_Node
  | 140 => f_bkeep_Items
  | 97 => f_bkeep_Stream
  | 65 => f_law18_Heavy
  | 30 => f_law19_Heavy
  | 8 => f_law21_Heavy
  | 19 => f_law19_Full
  | 70 => f_slices_Clone_api_Peer_api_Peer
  | 71 => f_slices_Clone_api_Call_api_Call
  | 72 => f_slices_Clone_api_Mark_api_Mark
  | 73 => f_slices_Clone_api_Mark2_api_Mark2
  | 119 => f_slices_Clone_api_Kid_api_Kid
  | 120 => f_slices_Clone_api_Event_api_Event
  | 155 => f_slices_Clone_api_Item_api_Item
  | 75 => f_slices_Clone_int_int
  | 101 => f_slices_Delete_api_Call_api_Call
  | 122 => f_graft_Has
  | 69 => f_graft_Twin
  | 173 => f_queue_gap
  | 141 => f_queue_Put
  | 102 => f_queue_Fit
  | 77 => f_cast_Heed
  | 184 => f_view_place
  | 156 => f_view_Live
  | 123 => f_cast_Next
  | 76 => f_cast_near
  | 9 => f_ref19_Check
  | 10 => f_cast_Begin
  | 11 => f_law21_wakes
  | 3 => f_law21_CastCalls
  | _ => fun _ => none
theorem c_ring_Is {z0 : Int} {k_ : PV → Prop} : CALL ρ 135 [I z0] 1 k_ = k_ (bb (isN z0)) := CALL_T (F := F_ring_Is) rfl (by intro a b h; simpa [F_ring_Is, L_inj, E_inj] using h) z0 trivial rfl
theorem c_ring_Node {z0 : Int} {k_ : PV → PV → Prop} : CALL ρ 174 [I z0] 2 k_ = k_ (I (if isN z0 = true then nn z0 else 0)) (I (if isN z0 = true then 0 else 1)) := CALL_T (F := F_ring_Node) rfl (by intro a b h; simpa [F_ring_Node, L_inj, E_inj] using h) z0 trivial rfl
theorem c_ring_Topic {z0 : Int} {k_ : PV → PV → Prop} : CALL ρ 103 [I z0] 2 k_ = k_ (I (if isT z0 = true then tt z0 else 0)) (I (if isT z0 = true then 0 else 1)) := CALL_T (F := F_ring_Topic) rfl (by intro a b h; simpa [F_ring_Topic, L_inj, E_inj] using h) z0 trivial rfl
theorem c_key_Far {z0 z1 : Int} {k_ : PV → Prop} (h : 0 ≤ z0 ∧ z0 < 4611686018427387904 ∧ 0 ≤ z1 ∧ z1 < 4611686018427387904) : CALL ρ 175 [I z0, I z1] 1 k_ = k_ (I (far z0 z1)) := CALL_T (F := F_key_Far) rfl (by rintro ⟨_, _⟩ ⟨_, _⟩ h; simpa [F_key_Far, L_inj, E_inj] using h) (z0, z1) h rfl
theorem c_ref01_Node {z0 : Int} {k_ : PV → Prop} (h : isN z0 = true) : CALL ρ 177 [I z0] 1 k_ = k_ (I (nn z0)) := CALL_T (F := F_ref01_Node) rfl (by intro a b h; simpa [F_ref01_Node, L_inj, E_inj] using h) z0 h rfl
theorem c_ref01_Topic {z0 : Int} {k_ : PV → Prop} (h : isT z0 = true) : CALL ρ 197 [I z0] 1 k_ = k_ (I (tt z0)) := CALL_T (F := F_ref01_Topic) rfl (by intro a b h; simpa [F_ref01_Topic, L_inj, E_inj] using h) z0 h rfl
theorem c_ref01_Behind {z0 z1 : Int} {k_ : PV → Prop} (h : 0 ≤ z0 ∧ z0 < 4611686018427387904 ∧ 0 ≤ z1 ∧ z1 < 4611686018427387904) : CALL ρ 178 [I z0, I z1] 1 k_ = k_ (I (far z0 z1)) := CALL_T (F := F_ref01_Behind) rfl (by rintro ⟨_, _⟩ ⟨_, _⟩ h; simpa [F_ref01_Behind, L_inj, E_inj] using h) (z0, z1) h rfl
theorem c_ring_Gap {z0 z1 : Int} {k_ : PV → PV → Prop} : CALL ρ 145 [I z0, I z1] 2 k_ = k_ (I (if (isT z0 && isN z1) = true then gap z0 z1 else 0)) (I (if (isT z0 && isN z1) = true then 0 else 1)) := CALL_T (F := F_ring_Gap) rfl (by rintro ⟨_, _⟩ ⟨_, _⟩ h; simpa [F_ring_Gap, L_inj, E_inj] using h) (z0, z1) trivial rfl
theorem c_ring_Nearer {z0 z1 z2 : Int} {k_ : PV → Prop} : CALL ρ 105 [I z0, I z1, I z2] 1 k_ = k_ (bb (near z0 z1 z2)) := CALL_T (F := F_ring_Nearer) rfl (by rintro ⟨_, _, _⟩ ⟨_, _, _⟩ h; simpa [F_ring_Nearer, L_inj, E_inj] using h) (z0, z1, z2) trivial rfl
theorem c_ref01_IsTopic {z0 : Int} {k_ : PV → Prop} : CALL ρ 61 [I z0] 1 k_ = k_ (bb (isT z0)) := CALL_T (F := F_ref01_IsTopic) rfl (by intro a b h; simpa [F_ref01_IsTopic, L_inj, E_inj] using h) z0 trivial rfl
theorem c_ref01_IsNode {z0 : Int} {k_ : PV → Prop} : CALL ρ 59 [I z0] 1 k_ = k_ (bb (isN z0)) := CALL_T (F := F_ref01_IsNode) rfl (by intro a b h; simpa [F_ref01_IsNode, L_inj, E_inj] using h) z0 trivial rfl
theorem c_ref01_Gap {z0 z1 : Int} {k_ : PV → Prop} (h : isT z0 = true ∧ isN z1 = true) : CALL ρ 176 [I z0, I z1] 1 k_ = k_ (I (gap z0 z1)) := CALL_T (F := F_ref01_Gap) rfl (by rintro ⟨_, _⟩ ⟨_, _⟩ h; simpa [F_ref01_Gap, L_inj, E_inj] using h) (z0, z1) h rfl
theorem c_ref01_Nearer {z0 z1 z2 : Int} {k_ : PV → Prop} : CALL ρ 150 [I z0, I z1, I z2] 1 k_ = k_ (bb (near z0 z1 z2)) := CALL_T (F := F_ref01_Nearer) rfl (by rintro ⟨_, _, _⟩ ⟨_, _, _⟩ h; simpa [F_ref01_Nearer, L_inj, E_inj] using h) (z0, z1, z2) trivial rfl
theorem c_ring_All {z0 : List Int} {k_ : PV → Prop} : CALL ρ 104 [L z0] 1 k_ = k_ (bb (z0.all isN)) := CALL_T (F := F_ring_All) rfl (by intro a b h; simpa [F_ring_All, L_inj, E_inj] using h) z0 trivial rfl
theorem c_path_rises {z0 z1 : Int} {z2 : List Int} {k_ : PV → Prop} : CALL ρ 190 [I z0, I z1, L z2] 1 k_ = k_ (bb (rises z0 z1 z2)) := CALL_T (F := F_path_rises) rfl (by rintro ⟨_, _, _⟩ ⟨_, _, _⟩ h; simpa [F_path_rises, L_inj, E_inj] using h) (z0, z1, z2) trivial rfl
theorem c_path_Check {z0 z1 : Int} {z2 : List Int} {z3 : Int} {k_ : PV → Prop} : CALL ρ 167 [I z0, I z1, L z2, I z3] 1 k_ = k_ (I (chk z0 z1 z2 z3)) := CALL_T (F := F_path_Check) rfl (by rintro ⟨_, _, _, _⟩ ⟨_, _, _, _⟩ h; simpa [F_path_Check, L_inj, E_inj] using h) (z0, z1, z2, z3) trivial rfl
theorem c_ref10_Path {z0 z1 : Int} {z2 : List Int} {z3 : Int} {k_ : PV → Prop} (h : isT z0 = true ∧ isN z1 = true) : CALL ρ 116 [I z0, I z1, L z2, I z3] 1 k_ = k_ (I (chkR z0 z1 z2 z3)) := CALL_T (F := F_ref10_Path) rfl (by rintro ⟨_, _, _, _⟩ ⟨_, _, _, _⟩ h; simpa [F_ref10_Path, L_inj, E_inj] using h) (z0, z1, z2, z3) h rfl
theorem c_slices_Contains_int_int {z0 : List Int} {z1 : Int} {k_ : PV → Prop} : CALL ρ 44 [L z0, I z1] 1 k_ = k_ (bb (z0.contains z1)) := CALL_T (F := F_slices_Contains_int_int) rfl (by rintro ⟨_, _⟩ ⟨_, _⟩ h; simpa [F_slices_Contains_int_int, L_inj, E_inj] using h) (z0, z1) trivial rfl
theorem r_slices_Sort_int_int {l : List Int} (h : l.length < 4611686018427387904) : f_slices_Sort_int_int [L l] = some [L (sorted l)] := fnOf_eq (a := l) (by intro a b h; simpa [L_inj, E_inj] using h) h
theorem c_slices_Sort_int_int {l : List Int} {k_ : PV → Prop} (h : l.length < 4611686018427387904) : CALL ρ 210 [L l] 1 k_ = k_ (L (sorted l)) := CALL_of (ρ := ρ) (K := 210) (m := 1) (k := k_) (r_slices_Sort_int_int h) rfl
theorem r_slices_Compact_int_int {l : List Int} (h : l.length < 4611686018427387904) : f_slices_Compact_int_int [L l] = some [L (compacted l)] := fnOf_eq (a := l) (by intro a b h; simpa [L_inj, E_inj] using h) h
theorem c_slices_Compact_int_int {l : List Int} {k_ : PV → Prop} (h : l.length < 4611686018427387904) : CALL ρ 211 [L l] 1 k_ = k_ (L (compacted l)) := CALL_of (ρ := ρ) (K := 211) (m := 1) (k := k_) (r_slices_Compact_int_int h) rfl
theorem c_key_is {z0 : Int} {k_ : PV → Prop} : CALL ρ 214 [I z0] 1 k_ = k_ (bb (isK z0)) := CALL_T (F := F_key_is) rfl (by intro a b h; simpa [F_key_is, L_inj, E_inj] using h) z0 trivial rfl
theorem c_key_Back {z0 z1 : Int} {k_ : PV → PV → Prop} : CALL ρ 208 [I z0, I z1] 2 k_ = k_ (I (if (isK z0 && decide (0 ≤ z1) && decide (z1 ≤ 61)) = true then far (2 ^ z1.toNat) z0 else 0)) (I (if (isK z0 && decide (0 ≤ z1) && decide (z1 ≤ 61)) = true then 0 else 1)) := CALL_T (F := F_key_Back) rfl (by rintro ⟨_, _⟩ ⟨_, _⟩ h; simpa [F_key_Back, L_inj, E_inj] using h) (z0, z1) trivial rfl
theorem c_route_Check {z0 : List Int} {z1 : Int} {k_ : PV → Prop} : CALL ρ 198 [L z0, I z1] 1 k_ = k_ (I (chkL z0 z1)) := CALL_T (F := F_route_Check) rfl (by rintro ⟨_, _⟩ ⟨_, _⟩ h; simpa [F_route_Check, L_inj, E_inj] using h) (z0, z1) trivial rfl
theorem c_route_first {z0 : List Int} {z1 : Int} {k_ : PV → Prop} (h : z0.all isN = true ∧ 0 ≤ z1 ∧ z1 < 4611686018427387904) : CALL ρ 209 [L z0, I z1] 1 k_ = k_ (I (firstN z0 z1)) := CALL_T (F := F_route_first) rfl (by rintro ⟨_, _⟩ ⟨_, _⟩ h; simpa [F_route_first, L_inj, E_inj] using h) (z0, z1) h rfl
theorem c_route_ahead {z0 : List Int} {z1 : Int} {k_ : PV → Prop} (h : z0.all isN = true ∧ isN z1 = true) : CALL ρ 200 [L z0, I z1] 1 k_ = k_ (I (aheadN z0 z1)) := CALL_T (F := F_route_ahead) rfl (by rintro ⟨_, _⟩ ⟨_, _⟩ h; simpa [F_route_ahead, L_inj, E_inj] using h) (z0, z1) h rfl
theorem c_route_fingers {z0 : List Int} {z1 : Int} {k_ : PV → Prop} (h : z0.all isN = true ∧ isN z1 = true ∧ z0 ≠ []) : CALL ρ 199 [L z0, I z1] 1 k_ = k_ (L (fingers z0 z1)) := CALL_T (F := F_route_fingers) rfl (by rintro ⟨_, _⟩ ⟨_, _⟩ h; simpa [F_route_fingers, L_inj, E_inj] using h) (z0, z1) h rfl
theorem c_route_next {z0 : Int} {z1 : List Int} {z2 : Int} {k_ : PV → Prop} (h : z1.all isN = true ∧ isN z2 = true ∧ z1 ≠ []) : CALL ρ 186 [I z0, L z1, I z2] 1 k_ = k_ (I (nextN z0 z1 z2)) := CALL_T (F := F_route_next) rfl (by rintro ⟨_, _, _⟩ ⟨_, _, _⟩ h; simpa [F_route_next, L_inj, E_inj] using h) (z0, z1, z2) h rfl
theorem c_route_asked {z0 : Int} {z1 : List Int} {z2 : Int} {k_ : PV → Prop} : CALL ρ 185 [I z0, L z1, I z2] 1 k_ = k_ (I (askedN z0 z1 z2)) := CALL_T (F := F_route_asked) rfl (by rintro ⟨_, _, _⟩ ⟨_, _, _⟩ h; simpa [F_route_asked, L_inj, E_inj] using h) (z0, z1, z2) trivial rfl
theorem c_route_Next {z0 : Int} {z1 : List Int} {z2 : Int} {k_ : PV → PV → PV → Prop} : CALL ρ 157 [I z0, L z1, I z2] 3 k_ = k_ (I (if askedN z0 z1 z2 = 0 then max (nextN z0 z1 z2) 0 else 0)) (bb (decide (askedN z0 z1 z2 = 0) && decide (0 ≤ nextN z0 z1 z2))) (I (askedN z0 z1 z2)) := CALL_T (F := F_route_Next) rfl (by rintro ⟨_, _, _⟩ ⟨_, _, _⟩ h; simpa [F_route_Next, L_inj, E_inj] using h) (z0, z1, z2) trivial rfl
theorem r_script_field {s : ByteArray} {n lo hi why : Int} : f_script_field [.str s, I n, I lo, I hi, I why] = some [E ⟨false, if n < lo ∨ hi < n then [why] else []⟩] := fnOf_eq (a := (s, n, lo, hi, why)) (by rintro ⟨_, _, _, _, _⟩ ⟨_, _, _, _, _⟩ h; simpa [L_inj, E_inj] using h) trivial
theorem c_script_field {s : ByteArray} {n lo hi why : Int} {k_ : PV → Prop} : CALL ρ 127 [.str s, I n, I lo, I hi, I why] 1 k_ = k_ (E ⟨false, if n < lo ∨ hi < n then [why] else []⟩) := CALL_of (ρ := ρ) (K := 127) (m := 1) (k := k_) (r_script_field) rfl
theorem r_errors_Join {xs : List Er} (h : xs ≠ [] ∧ xs.length ≤ 1000 ∧ ∀ x ∈ xs, x.j = false) : f_errors_Join [L xs] = some [E ⟨true, xs.flatMap (·.l)⟩] := fnOf_eq (a := xs) (by intro a b h; simpa [L_inj, E_inj] using h) h
theorem c_errors_Join {xs : List Er} {k_ : PV → Prop} (h : xs ≠ [] ∧ xs.length ≤ 1000 ∧ ∀ x ∈ xs, x.j = false) : CALL ρ 126 [L xs] 1 k_ = k_ (E ⟨true, xs.flatMap (·.l)⟩) := CALL_of (ρ := ρ) (K := 126) (m := 1) (k := k_) (r_errors_Join h) rfl
theorem r_script_errno {x : Er} (h : x.l.length ≤ 1000) : f_script_errno [E x] = some [I (errnoOf x.l)] := fnOf_eq (a := x) (by intro a b h; simpa [L_inj, E_inj] using h) h
theorem c_script_errno {x : Er} {k_ : PV → Prop} (h : x.l.length ≤ 1000) : CALL ρ 78 [E x] 1 k_ = k_ (I (errnoOf x.l)) := CALL_of (ρ := ρ) (K := 78) (m := 1) (k := k_) (r_script_errno h) rfl
theorem c_script_config {z0 z1 z2 z3 z4 z5 z6 : Int} {k_ : PV → Prop} : CALL ρ 79 [I z0, I z1, I z2, I z3, I z4, I z5, I z6] 1 k_ = k_ (E ⟨true, cfgErrs (Config.mk z0 z1 z2 z3 z4 z5 z6)⟩) := CALL_T (F := F_script_config) rfl (by rintro ⟨_, _, _, _, _, _, _⟩ ⟨_, _, _, _, _, _, _⟩ h; simpa [F_script_config, L_inj, E_inj] using h) (z0, z1, z2, z3, z4, z5, z6) trivial rfl
theorem c_script_Config {z0 z1 z2 z3 z4 z5 z6 : Int} {k_ : PV → Prop} : CALL ρ 39 [I z0, I z1, I z2, I z3, I z4, I z5, I z6] 1 k_ = k_ (I (if cfgOk (Config.mk z0 z1 z2 z3 z4 z5 z6) = true then 0 else 13)) := CALL_T (F := F_script_Config) rfl (by rintro ⟨_, _, _, _, _, _, _⟩ ⟨_, _, _, _, _, _, _⟩ h; simpa [F_script_Config, L_inj, E_inj] using h) (z0, z1, z2, z3, z4, z5, z6) trivial rfl
theorem c_ref01_In {z0 z1 z2 : Int} {k_ : PV → Prop} : CALL ρ 53 [I z0, I z1, I z2] 1 k_ = k_ (bb (decide (z1 ≤ z0) && decide (z0 ≤ z2))) := CALL_T (F := F_ref01_In) rfl (by rintro ⟨_, _, _⟩ ⟨_, _, _⟩ h; simpa [F_ref01_In, L_inj, E_inj] using h) (z0, z1, z2) trivial rfl
theorem c_ref01_Config {z0 z1 z2 z3 z4 z5 z6 : Int} {k_ : PV → Prop} : CALL ρ 31 [I z0, I z1, I z2, I z3, I z4, I z5, I z6] 1 k_ = k_ (bb (cfgOk (Config.mk z0 z1 z2 z3 z4 z5 z6))) := CALL_T (F := F_ref01_Config) rfl (by rintro ⟨_, _, _, _, _, _, _⟩ ⟨_, _, _, _, _, _, _⟩ h; simpa [F_ref01_Config, L_inj, E_inj] using h) (z0, z1, z2, z3, z4, z5, z6) trivial rfl
theorem c_epoch_Check {z0 : Int} {k_ : PV → Prop} : CALL ρ 201 [I z0] 1 k_ = k_ (I (if ep z0 = true then 0 else 1)) := CALL_T (F := F_epoch_Check) rfl (by intro a b h; simpa [F_epoch_Check, L_inj, E_inj] using h) z0 trivial rfl
theorem c_epoch_Who {z0 : Int} {k_ : PV → PV → Prop} : CALL ρ 189 [I z0] 2 k_ = k_ (I (if ep z0 = true then z0 % 16 else 0)) (I (if ep z0 = true then 0 else 1)) := CALL_T (F := F_epoch_Who) rfl (by intro a b h; simpa [F_epoch_Who, L_inj, E_inj] using h) z0 trivial rfl
theorem c_msg_in {z0 z1 z2 : Int} {k_ : PV → Prop} : CALL ρ 68 [I z0, I z1, I z2] 1 k_ = k_ (bb (rng z0 z1 z2)) := CALL_T (F := F_msg_in) rfl (by rintro ⟨_, _, _⟩ ⟨_, _, _⟩ h; simpa [F_msg_in, L_inj, E_inj] using h) (z0, z1, z2) trivial rfl
theorem c_msg_Counted {z0 : Int} {k_ : PV → Prop} : CALL ρ 80 [I z0] 1 k_ = k_ (bb (cnt z0)) := CALL_T (F := F_msg_Counted) rfl (by intro a b h; simpa [F_msg_Counted, L_inj, E_inj] using h) z0 trivial rfl
theorem c_msg_Value {z0 : Int} {k_ : PV → Prop} : CALL ρ 35 [I z0] 1 k_ = k_ (bb (val z0)) := CALL_T (F := F_msg_Value) rfl (by intro a b h; simpa [F_msg_Value, L_inj, E_inj] using h) z0 trivial rfl
theorem c_cast_in {z0 z1 z2 : Int} {k_ : PV → Prop} : CALL ρ 34 [I z0, I z1, I z2] 1 k_ = k_ (bb (rng z0 z1 z2)) := CALL_T (F := F_cast_in) rfl (by rintro ⟨_, _, _⟩ ⟨_, _, _⟩ h; simpa [F_cast_in, L_inj, E_inj] using h) (z0, z1, z2) trivial rfl
theorem c_ref19_in {z0 z1 z2 : Int} {k_ : PV → Prop} : CALL ρ 32 [I z0, I z1, I z2] 1 k_ = k_ (bb (rng z0 z1 z2)) := CALL_T (F := F_ref19_in) rfl (by rintro ⟨_, _, _⟩ ⟨_, _, _⟩ h; simpa [F_ref19_in, L_inj, E_inj] using h) (z0, z1, z2) trivial rfl
theorem c_ref10_in {z0 z1 z2 : Int} {k_ : PV → Prop} : CALL ρ 113 [I z0, I z1, I z2] 1 k_ = k_ (bb (rng z0 z1 z2)) := CALL_T (F := F_ref10_in) rfl (by rintro ⟨_, _, _⟩ ⟨_, _, _⟩ h; simpa [F_ref10_in, L_inj, E_inj] using h) (z0, z1, z2) trivial rfl
theorem c_ref01_Value {z0 : Int} {k_ : PV → Prop} : CALL ρ 23 [I z0] 1 k_ = k_ (bb (val z0)) := CALL_T (F := F_ref01_Value) rfl (by intro a b h; simpa [F_ref01_Value, L_inj, E_inj] using h) z0 trivial rfl
theorem c_ref10_count {z0 : Int} {k_ : PV → Prop} : CALL ρ 180 [I z0] 1 k_ = k_ (bb (cnt z0)) := CALL_T (F := F_ref10_count) rfl (by intro a b h; simpa [F_ref10_count, L_inj, E_inj] using h) z0 trivial rfl
theorem c_ref10_Epoch {z0 : Int} {k_ : PV → Prop} : CALL ρ 114 [I z0] 1 k_ = k_ (bb (ep z0)) := CALL_T (F := F_ref10_Epoch) rfl (by intro a b h; simpa [F_ref10_Epoch, L_inj, E_inj] using h) z0 trivial rfl
theorem c_view_right {z0 z1 : Int} {k_ : PV → Prop} : CALL ρ 132 [I z0, I z1] 1 k_ = k_ (bb (peerOk (Peer.mk z0 z1))) := CALL_T (F := F_view_right) rfl (by rintro ⟨_, _⟩ ⟨_, _⟩ h; simpa [F_view_right, L_inj, E_inj] using h) (z0, z1) trivial rfl
theorem c_view_Check {z0 : List Peer} {k_ : PV → Prop} : CALL ρ 86 [L z0] 1 k_ = k_ (I (if peersOk z0 = true then 0 else 1)) := CALL_T (F := F_view_Check) rfl (by intro a b h; simpa [F_view_Check, L_inj, E_inj] using h) z0 trivial rfl
theorem c_ref10_Peers {z0 : List Peer} {k_ : PV → Prop} : CALL ρ 66 [L z0] 1 k_ = k_ (bb (peersOk z0)) := CALL_T (F := F_ref10_Peers) rfl (by intro a b h; simpa [F_ref10_Peers, L_inj, E_inj] using h) z0 trivial rfl
theorem c_kids_right {z0 z1 z2 z3 z4 : Int} {k_ : PV → Prop} : CALL ρ 191 [I z0, I z1, I z2, I z3, I z4] 1 k_ = k_ (bb (near z0 z1 (Kid.mk z2 z3 z4).node && cnt (Kid.mk z2 z3 z4).inc && rng (Kid.mk z2 z3 z4).age 0 6)) := CALL_T (F := F_kids_right) rfl (by rintro ⟨_, _, _, _, _⟩ ⟨_, _, _, _, _⟩ h; simpa [F_kids_right, L_inj, E_inj] using h) (z0, z1, z2, z3, z4) trivial rfl
theorem c_kids_Check {z0 z1 z2 : Int} {z3 : List Kid} {k_ : PV → Prop} : CALL ρ 168 [I z0, I z1, I z2, L z3] 1 k_ = k_ (I (if kidsOk z0 z1 z2 z3 = true then 0 else 1)) := CALL_T (F := F_kids_Check) rfl (by rintro ⟨_, _, _, _⟩ ⟨_, _, _, _⟩ h; simpa [F_kids_Check, L_inj, E_inj] using h) (z0, z1, z2, z3) trivial rfl
theorem c_ref10_Kids {z0 z1 z2 : Int} {z3 : List Kid} {k_ : PV → Prop} : CALL ρ 117 [I z0, I z1, I z2, L z3] 1 k_ = k_ (bb (kidsOk z0 z1 z2 z3)) := CALL_T (F := F_ref10_Kids) rfl (by rintro ⟨_, _, _, _⟩ ⟨_, _, _, _⟩ h; simpa [F_ref10_Kids, L_inj, E_inj] using h) (z0, z1, z2, z3) trivial rfl
theorem c_keep_right {z0 : List Item} {z1 : Int} {k_ : PV → Prop} (h : cnt z1 = true ∧ z0.length ≤ 16) : CALL ρ 212 [L z0, I z1] 1 k_ = k_ (bb (decide (z0.length < z1) && keptGo (z1 - z0.length) z0)) := CALL_T (F := F_keep_right) rfl (by rintro ⟨_, _⟩ ⟨_, _⟩ h; simpa [F_keep_right, L_inj, E_inj] using h) (z0, z1) h rfl
theorem c_keep_Check {z0 : List Item} {z1 z2 : Int} {k_ : PV → Prop} : CALL ρ 203 [L z0, I z1, I z2] 1 k_ = k_ (I (if keptOk z0 z1 z2 = true then 0 else 1)) := CALL_T (F := F_keep_Check) rfl (by rintro ⟨_, _, _⟩ ⟨_, _, _⟩ h; simpa [F_keep_Check, L_inj, E_inj] using h) (z0, z1, z2) trivial rfl
theorem c_ref10_Kept {z0 : List Item} {z1 z2 : Int} {k_ : PV → Prop} : CALL ρ 181 [L z0, I z1, I z2] 1 k_ = k_ (bb (keptOk z0 z1 z2)) := CALL_T (F := F_ref10_Kept) rfl (by rintro ⟨_, _, _⟩ ⟨_, _, _⟩ h; simpa [F_ref10_Kept, L_inj, E_inj] using h) (z0, z1, z2) trivial rfl
theorem c_ahead_fits {z0 z1 z2 : Int} {k_ : PV → Prop} (h : cnt z1 = true ∧ rng z2 1 16 = true) : CALL ρ 213 [I z0, I z1, I z2] 1 k_ = k_ (bb (decide (z1 < z0) && decide (z0 < z1 + z2) && decide (z0 < 1073741824))) := CALL_T (F := F_ahead_fits) rfl (by rintro ⟨_, _, _⟩ ⟨_, _, _⟩ h; simpa [F_ahead_fits, L_inj, E_inj] using h) (z0, z1, z2) h rfl
theorem c_ahead_Check {z0 : List Item} {z1 z2 : Int} {k_ : PV → Prop} : CALL ρ 204 [L z0, I z1, I z2] 1 k_ = k_ (I (if aheadOk z0 z1 z2 = true then 0 else 1)) := CALL_T (F := F_ahead_Check) rfl (by rintro ⟨_, _, _⟩ ⟨_, _, _⟩ h; simpa [F_ahead_Check, L_inj, E_inj] using h) (z0, z1, z2) trivial rfl
theorem c_ref10_Ahead2 {z0 : List Item} {z1 z2 : Int} {k_ : PV → Prop} : CALL ρ 182 [L z0, I z1, I z2] 1 k_ = k_ (bb (aheadOk z0 z1 z2)) := CALL_T (F := F_ref10_Ahead2) rfl (by rintro ⟨_, _, _⟩ ⟨_, _, _⟩ h; simpa [F_ref10_Ahead2, L_inj, E_inj] using h) (z0, z1, z2) trivial rfl
theorem c_queue_Event {z0 z1 z2 z3 z4 z5 : Int} {k_ : PV → Prop} : CALL ρ 172 [I z0, I z1, I z2, I z3, I z4, I z5] 1 k_ = k_ (I (if evOk (Event.mk z0 z1 z2 z3 z4 z5) = true then 0 else 1)) := CALL_T (F := F_queue_Event) rfl (by rintro ⟨_, _, _, _, _, _⟩ ⟨_, _, _, _, _, _⟩ h; simpa [F_queue_Event, L_inj, E_inj] using h) (z0, z1, z2, z3, z4, z5) trivial rfl
theorem c_ref10_Event {z0 z1 z2 z3 z4 z5 : Int} {k_ : PV → Prop} : CALL ρ 183 [I z0, I z1, I z2, I z3, I z4, I z5] 1 k_ = k_ (bb (evOk (Event.mk z0 z1 z2 z3 z4 z5))) := CALL_T (F := F_ref10_Event) rfl (by rintro ⟨_, _, _, _, _, _⟩ ⟨_, _, _, _, _, _⟩ h; simpa [F_ref10_Event, L_inj, E_inj] using h) (z0, z1, z2, z3, z4, z5) trivial rfl
theorem c_queue_Check {z0 : List Event} {z1 : Int} {k_ : PV → Prop} : CALL ρ 171 [L z0, I z1] 1 k_ = k_ (I (if queueOk z0 z1 = true then 0 else 1)) := CALL_T (F := F_queue_Check) rfl (by rintro ⟨_, _⟩ ⟨_, _⟩ h; simpa [F_queue_Check, L_inj, E_inj] using h) (z0, z1) trivial rfl
theorem c_ref10_Queue {z0 : List Event} {z1 : Int} {k_ : PV → Prop} : CALL ρ 154 [L z0, I z1] 1 k_ = k_ (bb (queueOk z0 z1)) := CALL_T (F := F_ref10_Queue) rfl (by rintro ⟨_, _⟩ ⟨_, _⟩ h; simpa [F_ref10_Queue, L_inj, E_inj] using h) (z0, z1) trivial rfl
theorem c_flow_zero {z0 z1 z2 : Int} {z3 z4 : List Item} {k_ : PV → Prop} : CALL ρ 202 [I z0, I z1, I z2, L z3, L z4] 1 k_ = k_ (bb (streamZ (Stream.mk z0 z1 z2 z3 z4))) := CALL_T (F := F_flow_zero) rfl (by rintro ⟨_, _, _, _, _⟩ ⟨_, _, _, _, _⟩ h; simpa [F_flow_zero, L_inj, E_inj] using h) (z0, z1, z2, z3, z4) trivial rfl
theorem c_flow_right {z0 z1 z2 z3 z4 z5 z6 z7 z8 z9 : Int} {y0 y1 : List Item} {k_ : PV → Prop} : CALL ρ 192 [I z0, I z1, I z2, I z3, I z4, I z5, I z6, I z7, I z8, I z9, L y0, L y1] 1 k_ = k_ (bb (streamOk (Config.mk z0 z1 z2 z3 z4 z5 z6) (Stream.mk z7 z8 z9 y0 y1))) := CALL_T (F := F_flow_right) rfl (by rintro ⟨_, _, _, _, _, _, _, _, _, _, _, _⟩ ⟨_, _, _, _, _, _, _, _, _, _, _, _⟩ h; simpa [F_flow_right, L_inj, E_inj] using h) (z0, z1, z2, z3, z4, z5, z6, z7, z8, z9, y0, y1) trivial rfl
theorem c_flow_Check {z0 z1 z2 z3 z4 z5 z6 z7 z8 z9 : Int} {y0 y1 : List Item} {y2 : List Event} {k_ : PV → Prop} : CALL ρ 169 [I z0, I z1, I z2, I z3, I z4, I z5, I z6, I z7, I z8, I z9, L y0, L y1, L y2] 1 k_ = k_ (I (if cfgOk (Config.mk z0 z1 z2 z3 z4 z5 z6) = true then (if flowOk (Config.mk z0 z1 z2 z3 z4 z5 z6) (Stream.mk z7 z8 z9 y0 y1) y2 = true then 0 else 1) else 13)) := CALL_T (F := F_flow_Check) rfl (by rintro ⟨_, _, _, _, _, _, _, _, _, _, _, _, _⟩ ⟨_, _, _, _, _, _, _, _, _, _, _, _, _⟩ h; simpa [F_flow_Check, L_inj, E_inj] using h) (z0, z1, z2, z3, z4, z5, z6, z7, z8, z9, y0, y1, y2) trivial rfl
theorem c_ref10_Stream {z0 z1 z2 z3 z4 z5 z6 z7 z8 z9 : Int} {y0 y1 : List Item} {k_ : PV → Prop} : CALL ρ 153 [I z0, I z1, I z2, I z3, I z4, I z5, I z6, I z7, I z8, I z9, L y0, L y1] 1 k_ = k_ (bb (streamOk (Config.mk z0 z1 z2 z3 z4 z5 z6) (Stream.mk z7 z8 z9 y0 y1))) := CALL_T (F := F_ref10_Stream) rfl (by rintro ⟨_, _, _, _, _, _, _, _, _, _, _, _⟩ ⟨_, _, _, _, _, _, _, _, _, _, _, _⟩ h; simpa [F_ref10_Stream, L_inj, E_inj] using h) (z0, z1, z2, z3, z4, z5, z6, z7, z8, z9, y0, y1) trivial rfl
theorem c_ref10_Flow {z0 z1 z2 z3 z4 z5 z6 z7 z8 z9 : Int} {y0 y1 : List Item} {y2 : List Event} {k_ : PV → Prop} : CALL ρ 118 [I z0, I z1, I z2, I z3, I z4, I z5, I z6, I z7, I z8, I z9, L y0, L y1, L y2] 1 k_ = k_ (bb (flowOk (Config.mk z0 z1 z2 z3 z4 z5 z6) (Stream.mk z7 z8 z9 y0 y1) y2)) := CALL_T (F := F_ref10_Flow) rfl (by rintro ⟨_, _, _, _, _, _, _, _, _, _, _, _, _⟩ ⟨_, _, _, _, _, _, _, _, _, _, _, _, _⟩ h; simpa [F_ref10_Flow, L_inj, E_inj] using h) (z0, z1, z2, z3, z4, z5, z6, z7, z8, z9, y0, y1, y2) trivial rfl
theorem c_graft_link {z0 z1 z2 : Int} {k_ : PV → Prop} : CALL ρ 164 [I z0, I z1, I z2] 1 k_ = k_ (bb (link z0 z1 z2)) := CALL_T (F := F_graft_link) rfl (by rintro ⟨_, _, _⟩ ⟨_, _, _⟩ h; simpa [F_graft_link, L_inj, E_inj] using h) (z0, z1, z2) trivial rfl
theorem c_ref10_near {z0 z1 z2 : Int} {k_ : PV → Prop} : CALL ρ 115 [I z0, I z1, I z2] 1 k_ = k_ (bb (link z0 z1 z2)) := CALL_T (F := F_ref10_near) rfl (by rintro ⟨_, _, _⟩ ⟨_, _, _⟩ h; simpa [F_ref10_near, L_inj, E_inj] using h) (z0, z1, z2) trivial rfl
theorem c_graft_rooted {z0 : Int} {z1 z2 : Bool} {z3 z4 z5 z6 z7 z8 : Int} {z9 : List Int} {y0 : List Kid} {y1 y2 y3 : Int} {y4 y5 : List Item} {y6 : List Event} {k_ : PV → Prop} : CALL ρ 165 [I z0, bb z1, bb z2, I z3, I z4, I z5, I z6, I z7, I z8, L z9, L y0, I y1, I y2, I y3, L y4, L y5, L y6] 1 k_ = k_ (bb (rootOk z0 (Topic.mk z1 z2 z3 z4 z5 z6 z7 z8 z9 y0 (Stream.mk y1 y2 y3 y4 y5) y6))) := CALL_T (F := F_graft_rooted) rfl (by rintro ⟨_, _, _, _, _, _, _, _, _, _, _, _, _, _, _, _, _⟩ ⟨_, _, _, _, _, _, _, _, _, _, _, _, _, _, _, _, _⟩ h; simpa [F_graft_rooted, L_inj, E_inj] using h) (z0, z1, z2, z3, z4, z5, z6, z7, z8, z9, y0, y1, y2, y3, y4, y5, y6) trivial rfl
theorem c_graft_placed {z0 z1 : Bool} {z2 z3 z4 z5 z6 z7 : Int} {z8 : List Int} {z9 : List Kid} {y0 y1 y2 : Int} {y3 y4 : List Item} {y5 : List Event} {k_ : PV → Prop} (h : 0 ≤ (Topic.mk z0 z1 z2 z3 z4 z5 z6 z7 z8 z9 (Stream.mk y0 y1 y2 y3 y4) y5).parent ∧ (Topic.mk z0 z1 z2 z3 z4 z5 z6 z7 z8 z9 (Stream.mk y0 y1 y2 y3 y4) y5).parent ≤ 8) : CALL ρ 166 [bb z0, bb z1, I z2, I z3, I z4, I z5, I z6, I z7, L z8, L z9, I y0, I y1, I y2, L y3, L y4, L y5] 1 k_ = k_ (bb (placedOk (Topic.mk z0 z1 z2 z3 z4 z5 z6 z7 z8 z9 (Stream.mk y0 y1 y2 y3 y4) y5))) := CALL_T (F := F_graft_placed) rfl (by rintro ⟨_, _, _, _, _, _, _, _, _, _, _, _, _, _, _, _⟩ ⟨_, _, _, _, _, _, _, _, _, _, _, _, _, _, _, _⟩ h; simpa [F_graft_placed, L_inj, E_inj] using h) (z0, z1, z2, z3, z4, z5, z6, z7, z8, z9, y0, y1, y2, y3, y4, y5) h rfl
theorem c_graft_right {z0 z1 z2 z3 z4 z5 z6 z7 z8 : Int} {z9 y0 : Bool} {y1 y2 y3 y4 y5 y6 : Int} {y7 : List Int} {y8 : List Kid} {y9 x0 x1 : Int} {x2 x3 : List Item} {x4 : List Event} {k_ : PV → Prop} (h : cfgOk (Config.mk z0 z1 z2 z3 z4 z5 z6) = true) : CALL ρ 128 [I z0, I z1, I z2, I z3, I z4, I z5, I z6, I z7, I z8, bb z9, bb y0, I y1, I y2, I y3, I y4, I y5, I y6, L y7, L y8, I y9, I x0, I x1, L x2, L x3, L x4] 1 k_ = k_ (bb (topicOk (Config.mk z0 z1 z2 z3 z4 z5 z6) z7 z8 (Topic.mk z9 y0 y1 y2 y3 y4 y5 y6 y7 y8 (Stream.mk y9 x0 x1 x2 x3) x4))) := CALL_T (F := F_graft_right) rfl (by rintro ⟨_, _, _, _, _, _, _, _, _, _, _, _, _, _, _, _, _, _, _, _, _, _, _, _, _⟩ ⟨_, _, _, _, _, _, _, _, _, _, _, _, _, _, _, _, _, _, _, _, _, _, _, _, _⟩ h; simpa [F_graft_right, L_inj, E_inj] using h) (z0, z1, z2, z3, z4, z5, z6, z7, z8, z9, y0, y1, y2, y3, y4, y5, y6, y7, y8, y9, x0, x1, x2, x3, x4) h rfl
theorem c_graft_Check {z0 z1 z2 z3 z4 z5 z6 z7 z8 : Int} {z9 y0 : Bool} {y1 y2 y3 y4 y5 y6 : Int} {y7 : List Int} {y8 : List Kid} {y9 x0 x1 : Int} {x2 x3 : List Item} {x4 : List Event} {k_ : PV → Prop} : CALL ρ 82 [I z0, I z1, I z2, I z3, I z4, I z5, I z6, I z7, I z8, bb z9, bb y0, I y1, I y2, I y3, I y4, I y5, I y6, L y7, L y8, I y9, I x0, I x1, L x2, L x3, L x4] 1 k_ = k_ (I (if cfgOk (Config.mk z0 z1 z2 z3 z4 z5 z6) = true then (if (place (Config.mk z0 z1 z2 z3 z4 z5 z6) z7 z8 && topicOk (Config.mk z0 z1 z2 z3 z4 z5 z6) z7 z8 (Topic.mk z9 y0 y1 y2 y3 y4 y5 y6 y7 y8 (Stream.mk y9 x0 x1 x2 x3) x4)) = true then 0 else 1) else 13)) := CALL_T (F := F_graft_Check) rfl (by rintro ⟨_, _, _, _, _, _, _, _, _, _, _, _, _, _, _, _, _, _, _, _, _, _, _, _, _⟩ ⟨_, _, _, _, _, _, _, _, _, _, _, _, _, _, _, _, _, _, _, _, _, _, _, _, _⟩ h; simpa [F_graft_Check, L_inj, E_inj] using h) (z0, z1, z2, z3, z4, z5, z6, z7, z8, z9, y0, y1, y2, y3, y4, y5, y6, y7, y8, y9, x0, x1, x2, x3, x4) trivial rfl
theorem c_ref10_Topic {z0 z1 z2 z3 z4 z5 z6 z7 z8 : Int} {z9 y0 : Bool} {y1 y2 y3 y4 y5 y6 : Int} {y7 : List Int} {y8 : List Kid} {y9 x0 x1 : Int} {x2 x3 : List Item} {x4 : List Event} {k_ : PV → Prop} (h : cfgOk (Config.mk z0 z1 z2 z3 z4 z5 z6) = true ∧ place (Config.mk z0 z1 z2 z3 z4 z5 z6) z7 z8 = true) : CALL ρ 67 [I z0, I z1, I z2, I z3, I z4, I z5, I z6, I z7, I z8, bb z9, bb y0, I y1, I y2, I y3, I y4, I y5, I y6, L y7, L y8, I y9, I x0, I x1, L x2, L x3, L x4] 1 k_ = k_ (bb (topicOk (Config.mk z0 z1 z2 z3 z4 z5 z6) z7 z8 (Topic.mk z9 y0 y1 y2 y3 y4 y5 y6 y7 y8 (Stream.mk y9 x0 x1 x2 x3) x4))) := CALL_T (F := F_ref10_Topic) rfl (by rintro ⟨_, _, _, _, _, _, _, _, _, _, _, _, _, _, _, _, _, _, _, _, _, _, _, _, _⟩ ⟨_, _, _, _, _, _, _, _, _, _, _, _, _, _, _, _, _, _, _, _, _, _, _, _, _⟩ h; simpa [F_ref10_Topic, L_inj, E_inj] using h) (z0, z1, z2, z3, z4, z5, z6, z7, z8, z9, y0, y1, y2, y3, y4, y5, y6, y7, y8, y9, x0, x1, x2, x3, x4) h rfl
theorem c_cast_calls {z0 z1 z2 z3 z4 z5 z6 : Int} {z7 : Bool} {z8 : Int} {z9 : List Peer} {y0 : List Topic} {y1 : List Call} {y2 y3 : Int} {y4 : List Mark} {y5 : List Mark2} {k_ : PV → Prop} (h : cfgOk (Config.mk z0 z1 z2 z3 z4 z5 z6) = true) : CALL ρ 81 [I z0, I z1, I z2, I z3, I z4, I z5, I z6, bb z7, I z8, L z9, L y0, L y1, I y2, I y3, L y4, L y5] 1 k_ = k_ (bb (callsGo (Config.mk z0 z1 z2 z3 z4 z5 z6) (Node.mk z7 z8 z9 y0 y1 y2 y3 y4 y5).asks 0 (Node.mk z7 z8 z9 y0 y1 y2 y3 y4 y5).calls && decide ((Node.mk z7 z8 z9 y0 y1 y2 y3 y4 y5).calls.length ≤ 40))) := CALL_T (F := F_cast_calls) rfl (by rintro ⟨_, _, _, _, _, _, _, _, _, _, _, _, _, _, _, _⟩ ⟨_, _, _, _, _, _, _, _, _, _, _, _, _, _, _, _⟩ h; simpa [F_cast_calls, L_inj, E_inj] using h) (z0, z1, z2, z3, z4, z5, z6, z7, z8, z9, y0, y1, y2, y3, y4, y5) h rfl
theorem c_cast_mark {z0 z1 z2 : Int} {k_ : PV → Prop} : CALL ρ 85 [I z0, I z1, I z2] 1 k_ = k_ (bb (markOk (Mark.mk z0 z1 z2))) := CALL_T (F := F_cast_mark) rfl (by rintro ⟨_, _, _⟩ ⟨_, _, _⟩ h; simpa [F_cast_mark, L_inj, E_inj] using h) (z0, z1, z2) trivial rfl
theorem c_cast_taken {z0 z1 z2 z3 z4 z5 z6 z7 z8 z9 y0 y1 : Int} {k_ : PV → Prop} (h : cfgOk (Config.mk z0 z1 z2 z3 z4 z5 z6) = true) : CALL ρ 89 [I z0, I z1, I z2, I z3, I z4, I z5, I z6, I z7, I z8, I z9, I y0, I y1] 1 k_ = k_ (bb (takenOk (Config.mk z0 z1 z2 z3 z4 z5 z6) (Mark2.mk z7 z8 z9 y0 y1))) := CALL_T (F := F_cast_taken) rfl (by rintro ⟨_, _, _, _, _, _, _, _, _, _, _, _⟩ ⟨_, _, _, _, _, _, _, _, _, _, _, _⟩ h; simpa [F_cast_taken, L_inj, E_inj] using h) (z0, z1, z2, z3, z4, z5, z6, z7, z8, z9, y0, y1) h rfl
theorem c_cast_right {z0 z1 z2 z3 z4 z5 z6 z7 : Int} {z8 : Bool} {z9 : Int} {y0 : List Peer} {y1 : List Topic} {y2 : List Call} {y3 y4 : Int} {y5 : List Mark} {y6 : List Mark2} {k_ : PV → Prop} (h : cfgOk (Config.mk z0 z1 z2 z3 z4 z5 z6) = true ∧ rng z7 0 ((Config.mk z0 z1 z2 z3 z4 z5 z6).nodes - 1) = true) : CALL ρ 40 [I z0, I z1, I z2, I z3, I z4, I z5, I z6, I z7, bb z8, I z9, L y0, L y1, L y2, I y3, I y4, L y5, L y6] 1 k_ = k_ (bb (nodeOk (Config.mk z0 z1 z2 z3 z4 z5 z6) z7 (Node.mk z8 z9 y0 y1 y2 y3 y4 y5 y6))) := CALL_T (F := F_cast_right) rfl (by rintro ⟨_, _, _, _, _, _, _, _, _, _, _, _, _, _, _, _, _⟩ ⟨_, _, _, _, _, _, _, _, _, _, _, _, _, _, _, _, _⟩ h; simpa [F_cast_right, L_inj, E_inj] using h) (z0, z1, z2, z3, z4, z5, z6, z7, z8, z9, y0, y1, y2, y3, y4, y5, y6) h rfl
theorem c_cast_Check {z0 z1 z2 z3 z4 z5 z6 z7 : Int} {z8 : Bool} {z9 : Int} {y0 : List Peer} {y1 : List Topic} {y2 : List Call} {y3 y4 : Int} {y5 : List Mark} {y6 : List Mark2} {k_ : PV → Prop} : CALL ρ 12 [I z0, I z1, I z2, I z3, I z4, I z5, I z6, I z7, bb z8, I z9, L y0, L y1, L y2, I y3, I y4, L y5, L y6] 1 k_ = k_ (I (nodeWhy (Config.mk z0 z1 z2 z3 z4 z5 z6) z7 (Node.mk z8 z9 y0 y1 y2 y3 y4 y5 y6))) := CALL_T (F := F_cast_Check) rfl (by rintro ⟨_, _, _, _, _, _, _, _, _, _, _, _, _, _, _, _, _⟩ ⟨_, _, _, _, _, _, _, _, _, _, _, _, _, _, _, _, _⟩ h; simpa [F_cast_Check, L_inj, E_inj] using h) (z0, z1, z2, z3, z4, z5, z6, z7, z8, z9, y0, y1, y2, y3, y4, y5, y6) trivial rfl
theorem c_ref19_Node {z0 z1 z2 z3 z4 z5 z6 z7 : Int} {z8 : Bool} {z9 : Int} {y0 : List Peer} {y1 : List Topic} {y2 : List Call} {y3 y4 : Int} {y5 : List Mark} {y6 : List Mark2} {k_ : PV → Prop} (h : cfgOk (Config.mk z0 z1 z2 z3 z4 z5 z6) = true ∧ rng z7 0 ((Config.mk z0 z1 z2 z3 z4 z5 z6).nodes - 1) = true) : CALL ρ 33 [I z0, I z1, I z2, I z3, I z4, I z5, I z6, I z7, bb z8, I z9, L y0, L y1, L y2, I y3, I y4, L y5, L y6] 1 k_ = k_ (bb (nodeOk (Config.mk z0 z1 z2 z3 z4 z5 z6) z7 (Node.mk z8 z9 y0 y1 y2 y3 y4 y5 y6))) := CALL_T (F := F_ref19_Node) rfl (by rintro ⟨_, _, _, _, _, _, _, _, _, _, _, _, _, _, _, _, _⟩ ⟨_, _, _, _, _, _, _, _, _, _, _, _, _, _, _, _, _⟩ h; simpa [F_ref19_Node, L_inj, E_inj] using h) (z0, z1, z2, z3, z4, z5, z6, z7, z8, z9, y0, y1, y2, y3, y4, y5, y6) h rfl
theorem c_bkeep_Items {z0 z1 : List Item} {k_ : PV → Prop} : CALL ρ 140 [L z0, L z1] 1 k_ = k_ (bb (decide (z0 = z1))) := CALL_T (F := F_bkeep_Items) rfl (by rintro ⟨_, _⟩ ⟨_, _⟩ h; simpa [F_bkeep_Items, L_inj, E_inj] using h) (z0, z1) trivial rfl
theorem c_bkeep_Stream {z0 z1 z2 : Int} {z3 z4 : List Item} {z5 z6 z7 : Int} {z8 z9 : List Item} {k_ : PV → Prop} : CALL ρ 97 [I z0, I z1, I z2, L z3, L z4, I z5, I z6, I z7, L z8, L z9] 1 k_ = k_ (bb (decide ((Stream.mk z0 z1 z2 z3 z4) = (Stream.mk z5 z6 z7 z8 z9)))) := CALL_T (F := F_bkeep_Stream) rfl (by rintro ⟨_, _, _, _, _, _, _, _, _, _⟩ ⟨_, _, _, _, _, _, _, _, _, _⟩ h; simpa [F_bkeep_Stream, L_inj, E_inj] using h) (z0, z1, z2, z3, z4, z5, z6, z7, z8, z9) trivial rfl
theorem c_law18_Heavy {z0 z1 z2 : Int} {z3 z4 : List Item} {z5 : List Event} {k_ : PV → Prop} : CALL ρ 65 [I z0, I z1, I z2, L z3, L z4, L z5] 1 k_ = k_ (bb (heavy18 (Stream.mk z0 z1 z2 z3 z4) z5)) := CALL_T (F := F_law18_Heavy) rfl (by rintro ⟨_, _, _, _, _, _⟩ ⟨_, _, _, _, _, _⟩ h; simpa [F_law18_Heavy, L_inj, E_inj] using h) (z0, z1, z2, z3, z4, z5) trivial rfl
theorem c_law19_Heavy {z0 z1 : Bool} {z2 z3 z4 z5 z6 z7 : Int} {z8 : List Int} {z9 : List Kid} {y0 y1 y2 : Int} {y3 y4 : List Item} {y5 : List Event} {k_ : PV → Prop} : CALL ρ 30 [bb z0, bb z1, I z2, I z3, I z4, I z5, I z6, I z7, L z8, L z9, I y0, I y1, I y2, L y3, L y4, L y5] 1 k_ = k_ (bb (heavy19 (Topic.mk z0 z1 z2 z3 z4 z5 z6 z7 z8 z9 (Stream.mk y0 y1 y2 y3 y4) y5))) := CALL_T (F := F_law19_Heavy) rfl (by rintro ⟨_, _, _, _, _, _, _, _, _, _, _, _, _, _, _, _⟩ ⟨_, _, _, _, _, _, _, _, _, _, _, _, _, _, _, _⟩ h; simpa [F_law19_Heavy, L_inj, E_inj] using h) (z0, z1, z2, z3, z4, z5, z6, z7, z8, z9, y0, y1, y2, y3, y4, y5) trivial rfl
theorem c_law21_Heavy {z0 : Bool} {z1 : Int} {z2 : List Peer} {z3 : List Topic} {z4 : List Call} {z5 z6 : Int} {z7 : List Mark} {z8 : List Mark2} {k_ : PV → Prop} : CALL ρ 8 [bb z0, I z1, L z2, L z3, L z4, I z5, I z6, L z7, L z8] 1 k_ = k_ (bb (heavy21 (Node.mk z0 z1 z2 z3 z4 z5 z6 z7 z8))) := CALL_T (F := F_law21_Heavy) rfl (by rintro ⟨_, _, _, _, _, _, _, _, _⟩ ⟨_, _, _, _, _, _, _, _, _⟩ h; simpa [F_law21_Heavy, L_inj, E_inj] using h) (z0, z1, z2, z3, z4, z5, z6, z7, z8) trivial rfl
theorem c_law19_Full  {k_ : PV → PV → PV → PV → PV → PV → PV → Prop} : CALL ρ 19 [] 7 k_ = k_ (I 8) (I 4) (I 2) (I 8) (I 8) (I 8) (I 16) := CALL_T (F := F_law19_Full) rfl (fun _ _ _ => rfl) () trivial rfl
theorem c_slices_Clone_api_Peer_api_Peer {z0 : List Peer} {k_ : PV → Prop} (h : z0.length ≤ 1000000) : CALL ρ 70 [L z0] 1 k_ = k_ (L z0) := CALL_T (F := F_slices_Clone_api_Peer_api_Peer) rfl (by intro a b h; simpa [F_slices_Clone_api_Peer_api_Peer, L_inj, E_inj] using h) z0 h rfl
theorem c_slices_Clone_api_Call_api_Call {z0 : List Call} {k_ : PV → Prop} (h : z0.length ≤ 1000000) : CALL ρ 71 [L z0] 1 k_ = k_ (L z0) := CALL_T (F := F_slices_Clone_api_Call_api_Call) rfl (by intro a b h; simpa [F_slices_Clone_api_Call_api_Call, L_inj, E_inj] using h) z0 h rfl
theorem c_slices_Clone_api_Mark_api_Mark {z0 : List Mark} {k_ : PV → Prop} (h : z0.length ≤ 1000000) : CALL ρ 72 [L z0] 1 k_ = k_ (L z0) := CALL_T (F := F_slices_Clone_api_Mark_api_Mark) rfl (by intro a b h; simpa [F_slices_Clone_api_Mark_api_Mark, L_inj, E_inj] using h) z0 h rfl
theorem c_slices_Clone_api_Mark2_api_Mark2 {z0 : List Mark2} {k_ : PV → Prop} (h : z0.length ≤ 1000000) : CALL ρ 73 [L z0] 1 k_ = k_ (L z0) := CALL_T (F := F_slices_Clone_api_Mark2_api_Mark2) rfl (by intro a b h; simpa [F_slices_Clone_api_Mark2_api_Mark2, L_inj, E_inj] using h) z0 h rfl
theorem c_slices_Clone_api_Kid_api_Kid {z0 : List Kid} {k_ : PV → Prop} (h : z0.length ≤ 1000000) : CALL ρ 119 [L z0] 1 k_ = k_ (L z0) := CALL_T (F := F_slices_Clone_api_Kid_api_Kid) rfl (by intro a b h; simpa [F_slices_Clone_api_Kid_api_Kid, L_inj, E_inj] using h) z0 h rfl
theorem c_slices_Clone_api_Event_api_Event {z0 : List Event} {k_ : PV → Prop} (h : z0.length ≤ 1000000) : CALL ρ 120 [L z0] 1 k_ = k_ (L z0) := CALL_T (F := F_slices_Clone_api_Event_api_Event) rfl (by intro a b h; simpa [F_slices_Clone_api_Event_api_Event, L_inj, E_inj] using h) z0 h rfl
theorem c_slices_Clone_api_Item_api_Item {z0 : List Item} {k_ : PV → Prop} (h : z0.length ≤ 1000000) : CALL ρ 155 [L z0] 1 k_ = k_ (L z0) := CALL_T (F := F_slices_Clone_api_Item_api_Item) rfl (by intro a b h; simpa [F_slices_Clone_api_Item_api_Item, L_inj, E_inj] using h) z0 h rfl
theorem c_slices_Clone_int_int {z0 : List Int} {k_ : PV → Prop} (h : z0.length ≤ 1000000) : CALL ρ 75 [L z0] 1 k_ = k_ (L z0) := CALL_T (F := F_slices_Clone_int_int) rfl (by intro a b h; simpa [F_slices_Clone_int_int, L_inj, E_inj] using h) z0 h rfl
theorem r_slices_Delete_api_Call_api_Call {l : List Call} {i j : Int} (h : 0 ≤ i ∧ i ≤ j ∧ j ≤ l.length ∧ l.length < 4611686018427387904) : f_slices_Delete_api_Call_api_Call [L l, I i, I j] = some [L (cutL l i.toNat j.toNat)] := fnOf_eq (a := (l, i, j)) (by rintro ⟨_, _, _⟩ ⟨_, _, _⟩ h; simpa [L_inj, E_inj] using h) h
theorem c_slices_Delete_api_Call_api_Call {l : List Call} {i j : Int} {k_ : PV → Prop} (h : 0 ≤ i ∧ i ≤ j ∧ j ≤ l.length ∧ l.length < 4611686018427387904) : CALL ρ 101 [L l, I i, I j] 1 k_ = k_ (L (cutL l i.toNat j.toNat)) := CALL_of (ρ := ρ) (K := 101) (m := 1) (k := k_) (r_slices_Delete_api_Call_api_Call h) rfl
theorem c_graft_Has {z0 z1 : Bool} {z2 z3 z4 z5 z6 z7 : Int} {z8 : List Int} {z9 : List Kid} {y0 y1 y2 : Int} {y3 y4 : List Item} {y5 : List Event} {k_ : PV → Prop} : CALL ρ 122 [bb z0, bb z1, I z2, I z3, I z4, I z5, I z6, I z7, L z8, L z9, I y0, I y1, I y2, L y3, L y4, L y5] 1 k_ = k_ (bb (hasWay (Topic.mk z0 z1 z2 z3 z4 z5 z6 z7 z8 z9 (Stream.mk y0 y1 y2 y3 y4) y5))) := CALL_T (F := F_graft_Has) rfl (by rintro ⟨_, _, _, _, _, _, _, _, _, _, _, _, _, _, _, _⟩ ⟨_, _, _, _, _, _, _, _, _, _, _, _, _, _, _, _⟩ h; simpa [F_graft_Has, L_inj, E_inj] using h) (z0, z1, z2, z3, z4, z5, z6, z7, z8, z9, y0, y1, y2, y3, y4, y5) trivial rfl
theorem c_graft_Twin {z0 z1 : Bool} {z2 z3 z4 z5 z6 z7 : Int} {z8 : List Int} {z9 : List Kid} {y0 y1 y2 : Int} {y3 y4 : List Item} {y5 : List Event} {k_ : PV → PV → PV → PV → PV → PV → PV → PV → PV → PV → PV → PV → PV → PV → PV → PV → Prop} (h : heavy19 (Topic.mk z0 z1 z2 z3 z4 z5 z6 z7 z8 z9 (Stream.mk y0 y1 y2 y3 y4) y5) = false) : CALL ρ 69 [bb z0, bb z1, I z2, I z3, I z4, I z5, I z6, I z7, L z8, L z9, I y0, I y1, I y2, L y3, L y4, L y5] 16 k_ = k_ (bb (Topic.mk z0 z1 z2 z3 z4 z5 z6 z7 z8 z9 (Stream.mk y0 y1 y2 y3 y4) y5).made) (bb (Topic.mk z0 z1 z2 z3 z4 z5 z6 z7 z8 z9 (Stream.mk y0 y1 y2 y3 y4) y5).sub) (I (Topic.mk z0 z1 z2 z3 z4 z5 z6 z7 z8 z9 (Stream.mk y0 y1 y2 y3 y4) y5).top) (I (Topic.mk z0 z1 z2 z3 z4 z5 z6 z7 z8 z9 (Stream.mk y0 y1 y2 y3 y4) y5).root) (I (Topic.mk z0 z1 z2 z3 z4 z5 z6 z7 z8 z9 (Stream.mk y0 y1 y2 y3 y4) y5).parent) (I (Topic.mk z0 z1 z2 z3 z4 z5 z6 z7 z8 z9 (Stream.mk y0 y1 y2 y3 y4) y5).asked) (I (Topic.mk z0 z1 z2 z3 z4 z5 z6 z7 z8 z9 (Stream.mk y0 y1 y2 y3 y4) y5).other) (I (Topic.mk z0 z1 z2 z3 z4 z5 z6 z7 z8 z9 (Stream.mk y0 y1 y2 y3 y4) y5).age) (L (Topic.mk z0 z1 z2 z3 z4 z5 z6 z7 z8 z9 (Stream.mk y0 y1 y2 y3 y4) y5).path) (L (Topic.mk z0 z1 z2 z3 z4 z5 z6 z7 z8 z9 (Stream.mk y0 y1 y2 y3 y4) y5).kids) (I (Topic.mk z0 z1 z2 z3 z4 z5 z6 z7 z8 z9 (Stream.mk y0 y1 y2 y3 y4) y5).stream.epoch) (I (Topic.mk z0 z1 z2 z3 z4 z5 z6 z7 z8 z9 (Stream.mk y0 y1 y2 y3 y4) y5).stream.want) (I (Topic.mk z0 z1 z2 z3 z4 z5 z6 z7 z8 z9 (Stream.mk y0 y1 y2 y3 y4) y5).stream.known) (L (Topic.mk z0 z1 z2 z3 z4 z5 z6 z7 z8 z9 (Stream.mk y0 y1 y2 y3 y4) y5).stream.kept) (L (Topic.mk z0 z1 z2 z3 z4 z5 z6 z7 z8 z9 (Stream.mk y0 y1 y2 y3 y4) y5).stream.ahead) (L (Topic.mk z0 z1 z2 z3 z4 z5 z6 z7 z8 z9 (Stream.mk y0 y1 y2 y3 y4) y5).queue) := CALL_T (F := F_graft_Twin) rfl (by rintro ⟨_, _, _, _, _, _, _, _, _, _, _, _, _, _, _, _⟩ ⟨_, _, _, _, _, _, _, _, _, _, _, _, _, _, _, _⟩ h; simpa [F_graft_Twin, L_inj, E_inj] using h) (z0, z1, z2, z3, z4, z5, z6, z7, z8, z9, y0, y1, y2, y3, y4, y5) h rfl
theorem c_queue_gap {z0 z1 z2 z3 z4 z5 : Int} {k_ : PV → PV → PV → PV → PV → PV → PV → Prop} : CALL ρ 173 [I z0, I z1, I z2, I z3, I z4, I z5] 7 k_ = k_ (I (gapE (Event.mk z0 z1 z2 z3 z4 z5)).kind) (I (gapE (Event.mk z0 z1 z2 z3 z4 z5)).epoch) (I (gapE (Event.mk z0 z1 z2 z3 z4 z5)).seq) (I (gapE (Event.mk z0 z1 z2 z3 z4 z5)).last) (I (gapE (Event.mk z0 z1 z2 z3 z4 z5)).value) (I (gapE (Event.mk z0 z1 z2 z3 z4 z5)).count) (bb (ofStream (Event.mk z0 z1 z2 z3 z4 z5))) := CALL_T (F := F_queue_gap) rfl (by rintro ⟨_, _, _, _, _, _⟩ ⟨_, _, _, _, _, _⟩ h; simpa [F_queue_gap, L_inj, E_inj] using h) (z0, z1, z2, z3, z4, z5) trivial rfl
theorem c_queue_Put {z0 : List Event} {z1 z2 z3 z4 z5 z6 z7 : Int} {k_ : PV → PV → Prop} : CALL ρ 141 [L z0, I z1, I z2, I z3, I z4, I z5, I z6, I z7] 2 k_ = k_ (L (putE z0 z1 (Event.mk z2 z3 z4 z5 z6 z7)).1) (I (putE z0 z1 (Event.mk z2 z3 z4 z5 z6 z7)).2) := CALL_T (F := F_queue_Put) rfl (by rintro ⟨_, _, _, _, _, _, _, _⟩ ⟨_, _, _, _, _, _, _, _⟩ h; simpa [F_queue_Put, L_inj, E_inj] using h) (z0, z1, z2, z3, z4, z5, z6, z7) trivial rfl
theorem c_queue_Fit {z0 : List Event} {z1 z2 z3 z4 z5 z6 z7 : Int} {k_ : PV → Prop} (h : z0.length ≤ 1000000) : CALL ρ 102 [L z0, I z1, I z2, I z3, I z4, I z5, I z6, I z7] 1 k_ = k_ (L (fitE z0 z1 (Event.mk z2 z3 z4 z5 z6 z7))) := CALL_T (F := F_queue_Fit) rfl (by rintro ⟨_, _, _, _, _, _, _, _⟩ ⟨_, _, _, _, _, _, _, _⟩ h; simpa [F_queue_Fit, L_inj, E_inj] using h) (z0, z1, z2, z3, z4, z5, z6, z7) h rfl
theorem c_cast_Heed {z0 : Bool} {z1 : Int} {z2 : List Peer} {z3 : List Topic} {z4 : List Call} {z5 z6 : Int} {z7 : List Mark} {z8 : List Mark2} {z9 : Int} {k_ : PV → Prop} : CALL ρ 77 [bb z0, I z1, L z2, L z3, L z4, I z5, I z6, L z7, L z8, I z9] 1 k_ = k_ (bb (heed (Node.mk z0 z1 z2 z3 z4 z5 z6 z7 z8) z9)) := CALL_T (F := F_cast_Heed) rfl (by rintro ⟨_, _, _, _, _, _, _, _, _, _⟩ ⟨_, _, _, _, _, _, _, _, _, _⟩ h; simpa [F_cast_Heed, L_inj, E_inj] using h) (z0, z1, z2, z3, z4, z5, z6, z7, z8, z9) trivial rfl
theorem c_view_place {z0 : List Peer} {z1 : Int} {k_ : PV → Prop} : CALL ρ 184 [L z0, I z1] 1 k_ = k_ (I (placeP z0 z1)) := CALL_T (F := F_view_place) rfl (by rintro ⟨_, _⟩ ⟨_, _⟩ h; simpa [F_view_place, L_inj, E_inj] using h) (z0, z1) trivial rfl
theorem c_view_Live {z0 : List Peer} {z1 : Int} {k_ : PV → PV → Prop} : CALL ρ 156 [L z0, I z1] 2 k_ = k_ (L (if placeP z0 z1 = 0 then liveP z0 z1 else [])) (I (placeP z0 z1)) := CALL_T (F := F_view_Live) rfl (by rintro ⟨_, _⟩ ⟨_, _⟩ h; simpa [F_view_Live, L_inj, E_inj] using h) (z0, z1) trivial rfl
theorem c_cast_Next {z0 : Int} {z1 : Bool} {z2 : Int} {z3 : List Peer} {z4 : List Topic} {z5 : List Call} {z6 z7 : Int} {z8 : List Mark} {z9 : List Mark2} {y0 : Int} {k_ : PV → Prop} (h : peersOk (Node.mk z1 z2 z3 z4 z5 z6 z7 z8 z9).peers = true ∧ rng z0 0 ((Node.mk z1 z2 z3 z4 z5 z6 z7 z8 z9).peers.length - 1) = true ∧ isT y0 = true) : CALL ρ 123 [I z0, bb z1, I z2, L z3, L z4, L z5, I z6, I z7, L z8, L z9, I y0] 1 k_ = k_ (I (nextN y0 (liveP (Node.mk z1 z2 z3 z4 z5 z6 z7 z8 z9).peers z0) z0)) := CALL_T (F := F_cast_Next) rfl (by rintro ⟨_, _, _, _, _, _, _, _, _, _, _⟩ ⟨_, _, _, _, _, _, _, _, _, _, _⟩ h; simpa [F_cast_Next, L_inj, E_inj] using h) (z0, z1, z2, z3, z4, z5, z6, z7, z8, z9, y0) h rfl
theorem c_cast_near {z0 : Int} {z1 : Bool} {z2 : Int} {z3 : List Peer} {z4 : List Topic} {z5 : List Call} {z6 z7 : Int} {z8 : List Mark} {z9 : List Mark2} {y0 : Int} {k_ : PV → Prop} (h : peersOk (Node.mk z1 z2 z3 z4 z5 z6 z7 z8 z9).peers = true ∧ rng z0 0 ((Node.mk z1 z2 z3 z4 z5 z6 z7 z8 z9).peers.length - 1) = true ∧ isT y0 = true ∧ y0 < (Node.mk z1 z2 z3 z4 z5 z6 z7 z8 z9).topics.length ∧ (topAt (Node.mk z1 z2 z3 z4 z5 z6 z7 z8 z9) y0).kids.length ≤ 8 ∧ (topAt (Node.mk z1 z2 z3 z4 z5 z6 z7 z8 z9) y0).parent ≤ 8 ∧ 0 ≤ (topAt (Node.mk z1 z2 z3 z4 z5 z6 z7 z8 z9) y0).parent) : CALL ρ 76 [I z0, bb z1, I z2, L z3, L z4, L z5, I z6, I z7, L z8, L z9, I y0] 1 k_ = k_ (L (nearL z0 (Node.mk z1 z2 z3 z4 z5 z6 z7 z8 z9) y0)) := CALL_T (F := F_cast_near) rfl (by rintro ⟨_, _, _, _, _, _, _, _, _, _, _⟩ ⟨_, _, _, _, _, _, _, _, _, _, _⟩ h; simpa [F_cast_near, L_inj, E_inj] using h) (z0, z1, z2, z3, z4, z5, z6, z7, z8, z9, y0) h rfl
theorem c_ref19_Check {z0 z1 z2 z3 z4 z5 z6 z7 : Int} {z8 : Bool} {z9 : Int} {y0 : List Peer} {y1 : List Topic} {y2 : List Call} {y3 y4 : Int} {y5 : List Mark} {y6 : List Mark2} {k_ : PV → Prop} : CALL ρ 9 [I z0, I z1, I z2, I z3, I z4, I z5, I z6, I z7, bb z8, I z9, L y0, L y1, L y2, I y3, I y4, L y5, L y6] 1 k_ = k_ (I (nodeWhy (Config.mk z0 z1 z2 z3 z4 z5 z6) z7 (Node.mk z8 z9 y0 y1 y2 y3 y4 y5 y6))) := CALL_T (F := F_ref19_Check) rfl (by rintro ⟨_, _, _, _, _, _, _, _, _, _, _, _, _, _, _, _, _⟩ ⟨_, _, _, _, _, _, _, _, _, _, _, _, _, _, _, _, _⟩ h; simpa [F_ref19_Check, L_inj, E_inj] using h) (z0, z1, z2, z3, z4, z5, z6, z7, z8, z9, y0, y1, y2, y3, y4, y5, y6) trivial rfl
theorem c_cast_Begin {z0 z1 z2 z3 z4 z5 z6 z7 : Int} {z8 : Bool} {z9 : Int} {y0 : List Peer} {y1 : List Topic} {y2 : List Call} {y3 y4 : Int} {y5 : List Mark} {y6 : List Mark2} {y7 y8 : Int} {k_ : PV → PV → PV → PV → PV → PV → PV → PV → PV → PV → PV → PV → Prop} : CALL ρ 10 [I z0, I z1, I z2, I z3, I z4, I z5, I z6, I z7, bb z8, I z9, L y0, L y1, L y2, I y3, I y4, L y5, L y6, I y7, I y8] 12 k_ = k_ (bb (beginN (Config.mk z0 z1 z2 z3 z4 z5 z6) z7 (Node.mk z8 z9 y0 y1 y2 y3 y4 y5 y6) y7 y8).1.up) (I (beginN (Config.mk z0 z1 z2 z3 z4 z5 z6) z7 (Node.mk z8 z9 y0 y1 y2 y3 y4 y5 y6) y7 y8).1.inc) (L (beginN (Config.mk z0 z1 z2 z3 z4 z5 z6) z7 (Node.mk z8 z9 y0 y1 y2 y3 y4 y5 y6) y7 y8).1.peers) (L (beginN (Config.mk z0 z1 z2 z3 z4 z5 z6) z7 (Node.mk z8 z9 y0 y1 y2 y3 y4 y5 y6) y7 y8).1.topics) (L (beginN (Config.mk z0 z1 z2 z3 z4 z5 z6) z7 (Node.mk z8 z9 y0 y1 y2 y3 y4 y5 y6) y7 y8).1.calls) (I (beginN (Config.mk z0 z1 z2 z3 z4 z5 z6) z7 (Node.mk z8 z9 y0 y1 y2 y3 y4 y5 y6) y7 y8).1.pubs) (I (beginN (Config.mk z0 z1 z2 z3 z4 z5 z6) z7 (Node.mk z8 z9 y0 y1 y2 y3 y4 y5 y6) y7 y8).1.asks) (L (beginN (Config.mk z0 z1 z2 z3 z4 z5 z6) z7 (Node.mk z8 z9 y0 y1 y2 y3 y4 y5 y6) y7 y8).1.marks) (L (beginN (Config.mk z0 z1 z2 z3 z4 z5 z6) z7 (Node.mk z8 z9 y0 y1 y2 y3 y4 y5 y6) y7 y8).1.taken) (L (beginN (Config.mk z0 z1 z2 z3 z4 z5 z6) z7 (Node.mk z8 z9 y0 y1 y2 y3 y4 y5 y6) y7 y8).2.1) (I (beginN (Config.mk z0 z1 z2 z3 z4 z5 z6) z7 (Node.mk z8 z9 y0 y1 y2 y3 y4 y5 y6) y7 y8).2.2.1) (I (beginN (Config.mk z0 z1 z2 z3 z4 z5 z6) z7 (Node.mk z8 z9 y0 y1 y2 y3 y4 y5 y6) y7 y8).2.2.2) := CALL_T (F := F_cast_Begin) rfl (by rintro ⟨_, _, _, _, _, _, _, _, _, _, _, _, _, _, _, _, _, _, _⟩ ⟨_, _, _, _, _, _, _, _, _, _, _, _, _, _, _, _, _, _, _⟩ h; simpa [F_cast_Begin, L_inj, E_inj] using h) (z0, z1, z2, z3, z4, z5, z6, z7, z8, z9, y0, y1, y2, y3, y4, y5, y6, y7, y8) trivial rfl
theorem r_law21_wakes  : f_law21_wakes [] = some [bb true] := fnT_eq (F := F_law21_wakes) (a := ()) (fun _ _ _ => rfl) trivial
theorem c_law21_wakes  {k_ : PV → Prop} : CALL ρ 11 [] 1 k_ = k_ (bb true) := CALL_T (F := F_law21_wakes) rfl (fun _ _ _ => rfl) () trivial rfl
theorem r_law21_CastCalls {z0 z1 z2 z3 z4 z5 z6 z7 : Int} {z8 : Bool} {z9 : Int} {y0 : List Peer} {y1 : List Topic} {y2 : List Call} {y3 y4 : Int} {y5 : List Mark} {y6 : List Mark2} {y7 y8 y9 : Int} : f_law21_CastCalls [I z0, I z1, I z2, I z3, I z4, I z5, I z6, I z7, bb z8, I z9, L y0, L y1, L y2, I y3, I y4, L y5, L y6, I y7, I y8, I y9] = some [bb true] := fnT_eq (F := F_law21_CastCalls) (a := (z0, z1, z2, z3, z4, z5, z6, z7, z8, z9, y0, y1, y2, y3, y4, y5, y6, y7, y8, y9)) (by rintro ⟨_, _, _, _, _, _, _, _, _, _, _, _, _, _, _, _, _, _, _, _⟩ ⟨_, _, _, _, _, _, _, _, _, _, _, _, _, _, _, _, _, _, _, _⟩ h; simpa [F_law21_CastCalls, L_inj, E_inj] using h) trivial
theorem c_law21_CastCalls {z0 z1 z2 z3 z4 z5 z6 z7 : Int} {z8 : Bool} {z9 : Int} {y0 : List Peer} {y1 : List Topic} {y2 : List Call} {y3 y4 : Int} {y5 : List Mark} {y6 : List Mark2} {y7 y8 y9 : Int} {k_ : PV → Prop} : CALL ρ 3 [I z0, I z1, I z2, I z3, I z4, I z5, I z6, I z7, bb z8, I z9, L y0, L y1, L y2, I y3, I y4, L y5, L y6, I y7, I y8, I y9] 1 k_ = k_ (bb true) := CALL_T (F := F_law21_CastCalls) rfl (by rintro ⟨_, _, _, _, _, _, _, _, _, _, _, _, _, _, _, _, _, _, _, _⟩ ⟨_, _, _, _, _, _, _, _, _, _, _, _, _, _, _, _, _, _, _, _⟩ h; simpa [F_law21_CastCalls, L_inj, E_inj] using h) (z0, z1, z2, z3, z4, z5, z6, z7, z8, z9, y0, y1, y2, y3, y4, y5, y6, y7, y8, y9) trivial rfl
end Go.Xt
