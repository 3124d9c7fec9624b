/- Steps towards the statements of this seat; the conditions stand in each theorem. -/
import Derived.Test.YtbahjmohodgadaaGreatDoorSpecs
/- What each function comes to. -/
set_option maxRecDepth 100000
set_option linter.unusedVariables false
set_option linter.unusedSimpArgs false
namespace Go.Xt
def F_ring_Is : Int → Prop × List PV × List PV := fun z0 => (True, [I z0], [bb (isN z0)])
noncomputable def f_ring_Is := fnT F_ring_Is
def F_ring_Node : Int → Prop × List PV × List PV := fun z0 => (True, [I z0], [I (if isN z0 = true then nn z0 else 0), I (if isN z0 = true then 0 else 1)])
noncomputable def f_ring_Node := fnT F_ring_Node
def F_ring_Topic : Int → Prop × List PV × List PV := fun z0 => (True, [I z0], [I (if isT z0 = true then tt z0 else 0), I (if isT z0 = true then 0 else 1)])
noncomputable def f_ring_Topic := fnT F_ring_Topic
def F_key_Far : Int × Int → Prop × List PV × List PV := fun (z0, z1) => (0 ≤ z0 ∧ z0 < 4611686018427387904 ∧ 0 ≤ z1 ∧ z1 < 4611686018427387904, [I z0, I z1], [I (far z0 z1)])
noncomputable def f_key_Far := fnT F_key_Far
def F_ref01_Node : Int → Prop × List PV × List PV := fun z0 => (isN z0 = true, [I z0], [I (nn z0)])
noncomputable def f_ref01_Node := fnT F_ref01_Node
def F_ref01_Topic : Int → Prop × List PV × List PV := fun z0 => (isT z0 = true, [I z0], [I (tt z0)])
noncomputable def f_ref01_Topic := fnT F_ref01_Topic
def F_ref01_Behind : Int × Int → Prop × List PV × List PV := fun (z0, z1) => (0 ≤ z0 ∧ z0 < 4611686018427387904 ∧ 0 ≤ z1 ∧ z1 < 4611686018427387904, [I z0, I z1], [I (far z0 z1)])
noncomputable def f_ref01_Behind := fnT F_ref01_Behind
def F_ring_Gap : Int × Int → Prop × List PV × List PV := fun (z0, z1) => (True, [I z0, I z1], [I (if (isT z0 && isN z1) = true then gap z0 z1 else 0), I (if (isT z0 && isN z1) = true then 0 else 1)])
noncomputable def f_ring_Gap := fnT F_ring_Gap
def F_ring_Nearer : Int × Int × Int → Prop × List PV × List PV := fun (z0, z1, z2) => (True, [I z0, I z1, I z2], [bb (near z0 z1 z2)])
noncomputable def f_ring_Nearer := fnT F_ring_Nearer
def F_ref01_IsTopic : Int → Prop × List PV × List PV := fun z0 => (True, [I z0], [bb (isT z0)])
noncomputable def f_ref01_IsTopic := fnT F_ref01_IsTopic
def F_ref01_IsNode : Int → Prop × List PV × List PV := fun z0 => (True, [I z0], [bb (isN z0)])
noncomputable def f_ref01_IsNode := fnT F_ref01_IsNode
def F_ref01_Gap : Int × Int → Prop × List PV × List PV := fun (z0, z1) => (isT z0 = true ∧ isN z1 = true, [I z0, I z1], [I (gap z0 z1)])
noncomputable def f_ref01_Gap := fnT F_ref01_Gap
def F_ref01_Nearer : Int × Int × Int → Prop × List PV × List PV := fun (z0, z1, z2) => (True, [I z0, I z1, I z2], [bb (near z0 z1 z2)])
noncomputable def f_ref01_Nearer := fnT F_ref01_Nearer
def F_ring_All : (List Int) → Prop × List PV × List PV := fun z0 => (True, [L z0], [bb (z0.all isN)])
noncomputable def f_ring_All := fnT F_ring_All
def F_path_rises : Int × Int × (List Int) → Prop × List PV × List PV := fun (z0, z1, z2) => (True, [I z0, I z1, L z2], [bb (rises z0 z1 z2)])
noncomputable def f_path_rises := fnT F_path_rises
def F_path_Check : Int × Int × (List Int) × Int → Prop × List PV × List PV := fun (z0, z1, z2, z3) => (True, [I z0, I z1, L z2, I z3], [I (chk z0 z1 z2 z3)])
noncomputable def f_path_Check := fnT F_path_Check
def F_path_parent : (List (List Int)) × Int → Prop × List PV × List PV := fun (z0, z1) => (0 ≤ z1, [L z0, I z1], [I (par z0 z1)])
noncomputable def f_path_parent := fnT F_path_parent
def F_path_Whole : Int × (List (List Int)) → Prop × List PV × List PV := fun (z0, z1) => (True, [I z0, L z1], [bb (whole z1)])
noncomputable def f_path_Whole := fnT F_path_Whole
def F_bkeep_TwinInts : (List Int) → Prop × List PV × List PV := fun z0 => (z0.length ≤ 1000000, [L z0], [L z0])
noncomputable def f_bkeep_TwinInts := fnT F_bkeep_TwinInts
def F_bkeep_Ints : (List Int) × (List Int) → Prop × List PV × List PV := fun (z0, z1) => (True, [L z0, L z1], [bb (decide (z0 = z1))])
noncomputable def f_bkeep_Ints := fnT F_bkeep_Ints
def F_ref10_Path : Int × Int × (List Int) × Int → Prop × List PV × List PV := fun (z0, z1, z2, z3) => (isT z0 = true ∧ isN z1 = true, [I z0, I z1, L z2, I z3], [I (chkR z0 z1 z2 z3)])
noncomputable def f_ref10_Path := fnT F_ref10_Path
def F_ref10_Whole : (List (List Int)) → Prop × List PV × List PV := fun z0 => (∀ x ∈ z0, x.length ≤ 1000, [L z0], [bb (whole z0)])
noncomputable def f_ref10_Whole := fnT F_ref10_Whole
noncomputable def f_script_field : List PV → Option (List PV) := fnOf (fun (_ : ByteArray × Int × Int × Int × Int) => True) (fun (((s, n, lo, hi, why)) : ByteArray × Int × Int × Int × Int) => [.str s, I n, I lo, I hi, I why]) (fun (((s, n, lo, hi, why)) : ByteArray × Int × Int × Int × Int) => [E ⟨false, if n < lo ∨ hi < n then [why] else []⟩])
noncomputable def f_errors_Join : List PV → Option (List PV) := fnOf (fun (xs : (List Er)) => xs ≠ [] ∧ xs.length ≤ 1000 ∧ ∀ x ∈ xs, x.j = false) (fun (xs : (List Er)) => [L xs]) (fun (xs : (List Er)) => [E ⟨true, xs.flatMap (·.l)⟩])
noncomputable def f_script_errno : List PV → Option (List PV) := fnOf (fun (x : Er) => x.l.length ≤ 1000) (fun (x : Er) => [E x]) (fun (x : Er) => [I (errnoOf x.l)])
def F_script_config : Int × Int × Int × Int × Int × Int × Int → Prop × List PV × List PV := fun (z0, z1, z2, z3, z4, z5, z6) => (True, [I z0, I z1, I z2, I z3, I z4, I z5, I z6], [E ⟨true, cfgErrs (Config.mk z0 z1 z2 z3 z4 z5 z6)⟩])
noncomputable def f_script_config := fnT F_script_config
def F_script_Config : Int × Int × Int × Int × Int × Int × Int → Prop × List PV × List PV := fun (z0, z1, z2, z3, z4, z5, z6) => (True, [I z0, I z1, I z2, I z3, I z4, I z5, I z6], [I (if cfgOk (Config.mk z0 z1 z2 z3 z4 z5 z6) = true then 0 else 13)])
noncomputable def f_script_Config := fnT F_script_Config
def F_ref01_In : Int × Int × Int → Prop × List PV × List PV := fun (z0, z1, z2) => (True, [I z0, I z1, I z2], [bb (decide (z1 ≤ z0) && decide (z0 ≤ z2))])
noncomputable def f_ref01_In := fnT F_ref01_In
def F_ref01_Config : Int × Int × Int × Int × Int × Int × Int → Prop × List PV × List PV := fun (z0, z1, z2, z3, z4, z5, z6) => (True, [I z0, I z1, I z2, I z3, I z4, I z5, I z6], [bb (cfgOk (Config.mk z0 z1 z2 z3 z4 z5 z6))])
noncomputable def f_ref01_Config := fnT F_ref01_Config
def F_epoch_Check : Int → Prop × List PV × List PV := fun z0 => (True, [I z0], [I (if ep z0 = true then 0 else 1)])
noncomputable def f_epoch_Check := fnT F_epoch_Check
def F_epoch_Who : Int → Prop × List PV × List PV := fun z0 => (True, [I z0], [I (if ep z0 = true then z0 % 16 else 0), I (if ep z0 = true then 0 else 1)])
noncomputable def f_epoch_Who := fnT F_epoch_Who
def F_msg_in : Int × Int × Int → Prop × List PV × List PV := fun (z0, z1, z2) => (True, [I z0, I z1, I z2], [bb (rng z0 z1 z2)])
noncomputable def f_msg_in := fnT F_msg_in
def F_msg_Counted : Int → Prop × List PV × List PV := fun z0 => (True, [I z0], [bb (cnt z0)])
noncomputable def f_msg_Counted := fnT F_msg_Counted
def F_msg_Value : Int → Prop × List PV × List PV := fun z0 => (True, [I z0], [bb (val z0)])
noncomputable def f_msg_Value := fnT F_msg_Value
def F_cast_in : Int × Int × Int → Prop × List PV × List PV := fun (z0, z1, z2) => (True, [I z0, I z1, I z2], [bb (rng z0 z1 z2)])
noncomputable def f_cast_in := fnT F_cast_in
def F_ref19_in : Int × Int × Int → Prop × List PV × List PV := fun (z0, z1, z2) => (True, [I z0, I z1, I z2], [bb (rng z0 z1 z2)])
noncomputable def f_ref19_in := fnT F_ref19_in
def F_ref10_in : Int × Int × Int → Prop × List PV × List PV := fun (z0, z1, z2) => (True, [I z0, I z1, I z2], [bb (rng z0 z1 z2)])
noncomputable def f_ref10_in := fnT F_ref10_in
def F_ref01_Value : Int → Prop × List PV × List PV := fun z0 => (True, [I z0], [bb (val z0)])
noncomputable def f_ref01_Value := fnT F_ref01_Value
def F_ref10_count : Int → Prop × List PV × List PV := fun z0 => (True, [I z0], [bb (cnt z0)])
noncomputable def f_ref10_count := fnT F_ref10_count
def F_ref10_Epoch : Int → Prop × List PV × List PV := fun z0 => (True, [I z0], [bb (ep z0)])
noncomputable def f_ref10_Epoch := fnT F_ref10_Epoch
def F_view_right : Int × Int → Prop × List PV × List PV := fun (z0, z1) => (True, [I z0, I z1], [bb (peerOk (Peer.mk z0 z1))])
noncomputable def f_view_right := fnT F_view_right
def F_view_Check : (List Peer) → Prop × List PV × List PV := fun z0 => (True, [L z0], [I (if peersOk z0 = true then 0 else 1)])
noncomputable def f_view_Check := fnT F_view_Check
def F_ref10_Peers : (List Peer) → Prop × List PV × List PV := fun z0 => (True, [L z0], [bb (peersOk z0)])
noncomputable def f_ref10_Peers := fnT F_ref10_Peers
def F_kids_right : Int × Int × Int × Int × Int → Prop × List PV × List PV := fun (z0, z1, z2, z3, z4) => (True, [I z0, I z1, I z2, I z3, I z4], [bb (near z0 z1 (Kid.mk z2 z3 z4).node && cnt (Kid.mk z2 z3 z4).inc && rng (Kid.mk z2 z3 z4).age 0 6)])
noncomputable def f_kids_right := fnT F_kids_right
def F_kids_Check : Int × Int × Int × (List Kid) → Prop × List PV × List PV := fun (z0, z1, z2, z3) => (True, [I z0, I z1, I z2, L z3], [I (if kidsOk z0 z1 z2 z3 = true then 0 else 1)])
noncomputable def f_kids_Check := fnT F_kids_Check
def F_ref10_Kids : Int × Int × Int × (List Kid) → Prop × List PV × List PV := fun (z0, z1, z2, z3) => (True, [I z0, I z1, I z2, L z3], [bb (kidsOk z0 z1 z2 z3)])
noncomputable def f_ref10_Kids := fnT F_ref10_Kids
def F_keep_right : (List Item) × Int → Prop × List PV × List PV := fun (z0, z1) => (cnt z1 = true ∧ z0.length ≤ 16, [L z0, I z1], [bb (decide (z0.length < z1) && keptGo (z1 - z0.length) z0)])
noncomputable def f_keep_right := fnT F_keep_right
def F_keep_Check : (List Item) × Int × Int → Prop × List PV × List PV := fun (z0, z1, z2) => (True, [L z0, I z1, I z2], [I (if keptOk z0 z1 z2 = true then 0 else 1)])
noncomputable def f_keep_Check := fnT F_keep_Check
def F_ref10_Kept : (List Item) × Int × Int → Prop × List PV × List PV := fun (z0, z1, z2) => (True, [L z0, I z1, I z2], [bb (keptOk z0 z1 z2)])
noncomputable def f_ref10_Kept := fnT F_ref10_Kept
def F_ahead_fits : Int × Int × Int → Prop × List PV × List PV := fun (z0, z1, z2) => (cnt z1 = true ∧ rng z2 1 16 = true, [I z0, I z1, I z2], [bb (decide (z1 < z0) && decide (z0 < z1 + z2) && decide (z0 < 1073741824))])
noncomputable def f_ahead_fits := fnT F_ahead_fits
def F_ahead_Check : (List Item) × Int × Int → Prop × List PV × List PV := fun (z0, z1, z2) => (True, [L z0, I z1, I z2], [I (if aheadOk z0 z1 z2 = true then 0 else 1)])
noncomputable def f_ahead_Check := fnT F_ahead_Check
def F_ref10_Ahead2 : (List Item) × Int × Int → Prop × List PV × List PV := fun (z0, z1, z2) => (True, [L z0, I z1, I z2], [bb (aheadOk z0 z1 z2)])
noncomputable def f_ref10_Ahead2 := fnT F_ref10_Ahead2
def F_queue_Event : Int × Int × Int × Int × Int × Int → Prop × List PV × List PV := fun (z0, z1, z2, z3, z4, z5) => (True, [I z0, I z1, I z2, I z3, I z4, I z5], [I (if evOk (Event.mk z0 z1 z2 z3 z4 z5) = true then 0 else 1)])
noncomputable def f_queue_Event := fnT F_queue_Event
def F_ref10_Event : Int × Int × Int × Int × Int × Int → Prop × List PV × List PV := fun (z0, z1, z2, z3, z4, z5) => (True, [I z0, I z1, I z2, I z3, I z4, I z5], [bb (evOk (Event.mk z0 z1 z2 z3 z4 z5))])
noncomputable def f_ref10_Event := fnT F_ref10_Event
def F_queue_Check : (List Event) × Int → Prop × List PV × List PV := fun (z0, z1) => (True, [L z0, I z1], [I (if queueOk z0 z1 = true then 0 else 1)])
noncomputable def f_queue_Check := fnT F_queue_Check
def F_ref10_Queue : (List Event) × Int → Prop × List PV × List PV := fun (z0, z1) => (True, [L z0, I z1], [bb (queueOk z0 z1)])
noncomputable def f_ref10_Queue := fnT F_ref10_Queue
def F_flow_zero : Int × Int × Int × (List Item) × (List Item) → Prop × List PV × List PV := fun (z0, z1, z2, z3, z4) => (True, [I z0, I z1, I z2, L z3, L z4], [bb (streamZ (Stream.mk z0 z1 z2 z3 z4))])
noncomputable def f_flow_zero := fnT F_flow_zero
def F_flow_right : Int × Int × Int × Int × Int × Int × Int × Int × Int × Int × (List Item) × (List Item) → Prop × List PV × List PV := fun (z0, z1, z2, z3, z4, z5, z6, z7, z8, z9, y0, y1) => (True, [I z0, I z1, I z2, I z3, I z4, I z5, I z6, I z7, I z8, I z9, L y0, L y1], [bb (streamOk (Config.mk z0 z1 z2 z3 z4 z5 z6) (Stream.mk z7 z8 z9 y0 y1))])
noncomputable def f_flow_right := fnT F_flow_right
def F_flow_Check : Int × Int × Int × Int × Int × Int × Int × Int × Int × Int × (List Item) × (List Item) × (List Event) → Prop × List PV × List PV := fun (z0, z1, z2, z3, z4, z5, z6, z7, z8, z9, y0, y1, y2) => (True, [I z0, I z1, I z2, I z3, I z4, I z5, I z6, I z7, I z8, I z9, L y0, L y1, L y2], [I (if cfgOk (Config.mk z0 z1 z2 z3 z4 z5 z6) = true then (if flowOk (Config.mk z0 z1 z2 z3 z4 z5 z6) (Stream.mk z7 z8 z9 y0 y1) y2 = true then 0 else 1) else 13)])
noncomputable def f_flow_Check := fnT F_flow_Check
def F_ref10_Stream : Int × Int × Int × Int × Int × Int × Int × Int × Int × Int × (List Item) × (List Item) → Prop × List PV × List PV := fun (z0, z1, z2, z3, z4, z5, z6, z7, z8, z9, y0, y1) => (True, [I z0, I z1, I z2, I z3, I z4, I z5, I z6, I z7, I z8, I z9, L y0, L y1], [bb (streamOk (Config.mk z0 z1 z2 z3 z4 z5 z6) (Stream.mk z7 z8 z9 y0 y1))])
noncomputable def f_ref10_Stream := fnT F_ref10_Stream
def F_ref10_Flow : Int × Int × Int × Int × Int × Int × Int × Int × Int × Int × (List Item) × (List Item) × (List Event) → Prop × List PV × List PV := fun (z0, z1, z2, z3, z4, z5, z6, z7, z8, z9, y0, y1, y2) => (True, [I z0, I z1, I z2, I z3, I z4, I z5, I z6, I z7, I z8, I z9, L y0, L y1, L y2], [bb (flowOk (Config.mk z0 z1 z2 z3 z4 z5 z6) (Stream.mk z7 z8 z9 y0 y1) y2)])
noncomputable def f_ref10_Flow := fnT F_ref10_Flow
def F_graft_link : Int × Int × Int → Prop × List PV × List PV := fun (z0, z1, z2) => (True, [I z0, I z1, I z2], [bb (link z0 z1 z2)])
noncomputable def f_graft_link := fnT F_graft_link
def F_ref10_near : Int × Int × Int → Prop × List PV × List PV := fun (z0, z1, z2) => (True, [I z0, I z1, I z2], [bb (link z0 z1 z2)])
noncomputable def f_ref10_near := fnT F_ref10_near
def F_graft_rooted : Int × Bool × Bool × Int × Int × Int × Int × Int × Int × (List Int) × (List Kid) × Int × Int × Int × (List Item) × (List Item) × (List Event) → Prop × List PV × List PV := fun (z0, z1, z2, z3, z4, z5, z6, z7, z8, z9, y0, y1, y2, y3, y4, y5, y6) => (True, [I z0, bb z1, bb z2, I z3, I z4, I z5, I z6, I z7, I z8, L z9, L y0, I y1, I y2, I y3, L y4, L y5, L y6], [bb (rootOk z0 (Topic.mk z1 z2 z3 z4 z5 z6 z7 z8 z9 y0 (Stream.mk y1 y2 y3 y4 y5) y6))])
noncomputable def f_graft_rooted := fnT F_graft_rooted
def F_graft_placed : Bool × Bool × Int × Int × Int × Int × Int × Int × (List Int) × (List Kid) × Int × Int × Int × (List Item) × (List Item) × (List Event) → Prop × List PV × List PV := fun (z0, z1, z2, z3, z4, z5, z6, z7, z8, z9, y0, y1, y2, y3, y4, y5) => (0 ≤ (Topic.mk z0 z1 z2 z3 z4 z5 z6 z7 z8 z9 (Stream.mk y0 y1 y2 y3 y4) y5).parent ∧ (Topic.mk z0 z1 z2 z3 z4 z5 z6 z7 z8 z9 (Stream.mk y0 y1 y2 y3 y4) y5).parent ≤ 8, [bb z0, bb z1, I z2, I z3, I z4, I z5, I z6, I z7, L z8, L z9, I y0, I y1, I y2, L y3, L y4, L y5], [bb (placedOk (Topic.mk z0 z1 z2 z3 z4 z5 z6 z7 z8 z9 (Stream.mk y0 y1 y2 y3 y4) y5))])
noncomputable def f_graft_placed := fnT F_graft_placed
def F_graft_right : Int × Int × Int × Int × Int × Int × Int × Int × Int × Bool × Bool × Int × Int × Int × Int × Int × Int × (List Int) × (List Kid) × Int × Int × Int × (List Item) × (List Item) × (List Event) → Prop × List PV × List PV := fun (z0, z1, z2, z3, z4, z5, z6, z7, z8, z9, y0, y1, y2, y3, y4, y5, y6, y7, y8, y9, x0, x1, x2, x3, x4) => (cfgOk (Config.mk z0 z1 z2 z3 z4 z5 z6) = true, [I z0, I z1, I z2, I z3, I z4, I z5, I z6, I z7, I z8, bb z9, bb y0, I y1, I y2, I y3, I y4, I y5, I y6, L y7, L y8, I y9, I x0, I x1, L x2, L x3, L x4], [bb (topicOk (Config.mk z0 z1 z2 z3 z4 z5 z6) z7 z8 (Topic.mk z9 y0 y1 y2 y3 y4 y5 y6 y7 y8 (Stream.mk y9 x0 x1 x2 x3) x4))])
noncomputable def f_graft_right := fnT F_graft_right
def F_graft_Check : Int × Int × Int × Int × Int × Int × Int × Int × Int × Bool × Bool × Int × Int × Int × Int × Int × Int × (List Int) × (List Kid) × Int × Int × Int × (List Item) × (List Item) × (List Event) → Prop × List PV × List PV := fun (z0, z1, z2, z3, z4, z5, z6, z7, z8, z9, y0, y1, y2, y3, y4, y5, y6, y7, y8, y9, x0, x1, x2, x3, x4) => (True, [I z0, I z1, I z2, I z3, I z4, I z5, I z6, I z7, I z8, bb z9, bb y0, I y1, I y2, I y3, I y4, I y5, I y6, L y7, L y8, I y9, I x0, I x1, L x2, L x3, L x4], [I (if cfgOk (Config.mk z0 z1 z2 z3 z4 z5 z6) = true then (if (place (Config.mk z0 z1 z2 z3 z4 z5 z6) z7 z8 && topicOk (Config.mk z0 z1 z2 z3 z4 z5 z6) z7 z8 (Topic.mk z9 y0 y1 y2 y3 y4 y5 y6 y7 y8 (Stream.mk y9 x0 x1 x2 x3) x4)) = true then 0 else 1) else 13)])
noncomputable def f_graft_Check := fnT F_graft_Check
def F_ref10_Topic : Int × Int × Int × Int × Int × Int × Int × Int × Int × Bool × Bool × Int × Int × Int × Int × Int × Int × (List Int) × (List Kid) × Int × Int × Int × (List Item) × (List Item) × (List Event) → Prop × List PV × List PV := fun (z0, z1, z2, z3, z4, z5, z6, z7, z8, z9, y0, y1, y2, y3, y4, y5, y6, y7, y8, y9, x0, x1, x2, x3, x4) => (cfgOk (Config.mk z0 z1 z2 z3 z4 z5 z6) = true ∧ place (Config.mk z0 z1 z2 z3 z4 z5 z6) z7 z8 = true, [I z0, I z1, I z2, I z3, I z4, I z5, I z6, I z7, I z8, bb z9, bb y0, I y1, I y2, I y3, I y4, I y5, I y6, L y7, L y8, I y9, I x0, I x1, L x2, L x3, L x4], [bb (topicOk (Config.mk z0 z1 z2 z3 z4 z5 z6) z7 z8 (Topic.mk z9 y0 y1 y2 y3 y4 y5 y6 y7 y8 (Stream.mk y9 x0 x1 x2 x3) x4))])
noncomputable def f_ref10_Topic := fnT F_ref10_Topic
def F_cast_calls : Int × Int × Int × Int × Int × Int × Int × Bool × Int × (List Peer) × (List Topic) × (List Call) × Int × Int × (List Mark) × (List Mark2) → Prop × List PV × List PV := fun (z0, z1, z2, z3, z4, z5, z6, z7, z8, z9, y0, y1, y2, y3, y4, y5) => (cfgOk (Config.mk z0 z1 z2 z3 z4 z5 z6) = true, [I z0, I z1, I z2, I z3, I z4, I z5, I z6, bb z7, I z8, L z9, L y0, L y1, I y2, I y3, L y4, L y5], [bb (callsGo (Config.mk z0 z1 z2 z3 z4 z5 z6) (Node.mk z7 z8 z9 y0 y1 y2 y3 y4 y5).asks 0 (Node.mk z7 z8 z9 y0 y1 y2 y3 y4 y5).calls && decide ((Node.mk z7 z8 z9 y0 y1 y2 y3 y4 y5).calls.length ≤ 40))])
noncomputable def f_cast_calls := fnT F_cast_calls
def F_cast_mark : Int × Int × Int → Prop × List PV × List PV := fun (z0, z1, z2) => (True, [I z0, I z1, I z2], [bb (markOk (Mark.mk z0 z1 z2))])
noncomputable def f_cast_mark := fnT F_cast_mark
def F_cast_taken : Int × Int × Int × Int × Int × Int × Int × Int × Int × Int × Int × Int → Prop × List PV × List PV := fun (z0, z1, z2, z3, z4, z5, z6, z7, z8, z9, y0, y1) => (cfgOk (Config.mk z0 z1 z2 z3 z4 z5 z6) = true, [I z0, I z1, I z2, I z3, I z4, I z5, I z6, I z7, I z8, I z9, I y0, I y1], [bb (takenOk (Config.mk z0 z1 z2 z3 z4 z5 z6) (Mark2.mk z7 z8 z9 y0 y1))])
noncomputable def f_cast_taken := fnT F_cast_taken
def F_cast_right : Int × Int × Int × Int × Int × Int × Int × Int × Bool × Int × (List Peer) × (List Topic) × (List Call) × Int × Int × (List Mark) × (List Mark2) → Prop × List PV × List PV := fun (z0, z1, z2, z3, z4, z5, z6, z7, z8, z9, y0, y1, y2, y3, y4, y5, y6) => (cfgOk (Config.mk z0 z1 z2 z3 z4 z5 z6) = true ∧ rng z7 0 ((Config.mk z0 z1 z2 z3 z4 z5 z6).nodes - 1) = true, [I z0, I z1, I z2, I z3, I z4, I z5, I z6, I z7, bb z8, I z9, L y0, L y1, L y2, I y3, I y4, L y5, L y6], [bb (nodeOk (Config.mk z0 z1 z2 z3 z4 z5 z6) z7 (Node.mk z8 z9 y0 y1 y2 y3 y4 y5 y6))])
noncomputable def f_cast_right := fnT F_cast_right
def F_cast_Check : Int × Int × Int × Int × Int × Int × Int × Int × Bool × Int × (List Peer) × (List Topic) × (List Call) × Int × Int × (List Mark) × (List Mark2) → Prop × List PV × List PV := fun (z0, z1, z2, z3, z4, z5, z6, z7, z8, z9, y0, y1, y2, y3, y4, y5, y6) => (True, [I z0, I z1, I z2, I z3, I z4, I z5, I z6, I z7, bb z8, I z9, L y0, L y1, L y2, I y3, I y4, L y5, L y6], [I (nodeWhy (Config.mk z0 z1 z2 z3 z4 z5 z6) z7 (Node.mk z8 z9 y0 y1 y2 y3 y4 y5 y6))])
noncomputable def f_cast_Check := fnT F_cast_Check
def F_ref19_Node : Int × Int × Int × Int × Int × Int × Int × Int × Bool × Int × (List Peer) × (List Topic) × (List Call) × Int × Int × (List Mark) × (List Mark2) → Prop × List PV × List PV := fun (z0, z1, z2, z3, z4, z5, z6, z7, z8, z9, y0, y1, y2, y3, y4, y5, y6) => (cfgOk (Config.mk z0 z1 z2 z3 z4 z5 z6) = true ∧ rng z7 0 ((Config.mk z0 z1 z2 z3 z4 z5 z6).nodes - 1) = true, [I z0, I z1, I z2, I z3, I z4, I z5, I z6, I z7, bb z8, I z9, L y0, L y1, L y2, I y3, I y4, L y5, L y6], [bb (nodeOk (Config.mk z0 z1 z2 z3 z4 z5 z6) z7 (Node.mk z8 z9 y0 y1 y2 y3 y4 y5 y6))])
noncomputable def f_ref19_Node := fnT F_ref19_Node
def F_bkeep_Peers : (List Peer) × (List Peer) → Prop × List PV × List PV := fun (z0, z1) => (True, [L z0, L z1], [bb (decide (z0 = z1))])
noncomputable def f_bkeep_Peers := fnT F_bkeep_Peers
def F_bkeep_Kids : (List Kid) × (List Kid) → Prop × List PV × List PV := fun (z0, z1) => (True, [L z0, L z1], [bb (decide (z0 = z1))])
noncomputable def f_bkeep_Kids := fnT F_bkeep_Kids
def F_bkeep_Items : (List Item) × (List Item) → Prop × List PV × List PV := fun (z0, z1) => (True, [L z0, L z1], [bb (decide (z0 = z1))])
noncomputable def f_bkeep_Items := fnT F_bkeep_Items
def F_bkeep_Events : (List Event) × (List Event) → Prop × List PV × List PV := fun (z0, z1) => (True, [L z0, L z1], [bb (decide (z0 = z1))])
noncomputable def f_bkeep_Events := fnT F_bkeep_Events
def F_bkeep_Bytes : (List By) × (List By) → Prop × List PV × List PV := fun (z0, z1) => (True, [L z0, L z1], [bb (decide (z0 = z1))])
noncomputable def f_bkeep_Bytes := fnT F_bkeep_Bytes
def F_bkeep_Frame : Int × (List By) × Int × (List By) → Prop × List PV × List PV := fun (z0, z1, z2, z3) => (True, [I z0, L z1, I z2, L z3], [bb (decide ((Frame.mk z0 z1) = (Frame.mk z2 z3)))])
noncomputable def f_bkeep_Frame := fnT F_bkeep_Frame
def F_bkeep_Frames : (List Frame) × (List Frame) → Prop × List PV × List PV := fun (z0, z1) => (True, [L z0, L z1], [bb (decide (z0 = z1))])
noncomputable def f_bkeep_Frames := fnT F_bkeep_Frames
def F_bkeep_Stream : Int × Int × Int × (List Item) × (List Item) × Int × Int × Int × (List Item) × (List Item) → Prop × List PV × List PV := fun (z0, z1, z2, z3, z4, z5, z6, z7, z8, z9) => (True, [I z0, I z1, I z2, L z3, L z4, I z5, I z6, I z7, L z8, L z9], [bb (decide ((Stream.mk z0 z1 z2 z3 z4) = (Stream.mk z5 z6 z7 z8 z9)))])
noncomputable def f_bkeep_Stream := fnT F_bkeep_Stream
def F_bkeep_Topic : Bool × Bool × Int × Int × Int × Int × Int × Int × (List Int) × (List Kid) × Int × Int × Int × (List Item) × (List Item) × (List Event) × Bool × Bool × Int × Int × Int × Int × Int × Int × (List Int) × (List Kid) × Int × Int × Int × (List Item) × (List Item) × (List Event) → Prop × List PV × List PV := fun (z0, z1, z2, z3, z4, z5, z6, z7, z8, z9, y0, y1, y2, y3, y4, y5, y6, y7, y8, y9, x0, x1, x2, x3, x4, x5, x6, x7, x8, x9, w0, w1) => (True, [bb z0, bb z1, I z2, I z3, I z4, I z5, I z6, I z7, L z8, L z9, I y0, I y1, I y2, L y3, L y4, L y5, bb y6, bb y7, I y8, I y9, I x0, I x1, I x2, I x3, L x4, L x5, I x6, I x7, I x8, L x9, L w0, L w1], [bb (decide ((Topic.mk z0 z1 z2 z3 z4 z5 z6 z7 z8 z9 (Stream.mk y0 y1 y2 y3 y4) y5) = (Topic.mk y6 y7 y8 y9 x0 x1 x2 x3 x4 x5 (Stream.mk x6 x7 x8 x9 w0) w1)))])
noncomputable def f_bkeep_Topic := fnT F_bkeep_Topic
def F_bkeep_Node : Bool × Int × (List Peer) × (List Topic) × (List Call) × Int × Int × (List Mark) × (List Mark2) × Bool × Int × (List Peer) × (List Topic) × (List Call) × Int × Int × (List Mark) × (List Mark2) → Prop × List PV × List PV := fun (z0, z1, z2, z3, z4, z5, z6, z7, z8, z9, y0, y1, y2, y3, y4, y5, y6, y7) => (True, [bb z0, I z1, L z2, L z3, L z4, I z5, I z6, L z7, L z8, bb z9, I y0, L y1, L y2, L y3, I y4, I y5, L y6, L y7], [bb (decide ((Node.mk z0 z1 z2 z3 z4 z5 z6 z7 z8) = (Node.mk z9 y0 y1 y2 y3 y4 y5 y6 y7)))])
noncomputable def f_bkeep_Node := fnT F_bkeep_Node
def F_bkeep_World : (List Node) × (List Frame) × (List Node) × (List Frame) → Prop × List PV × List PV := fun (z0, z1, z2, z3) => (True, [L z0, L z1, L z2, L z3], [bb (decide ((World.mk z0 z1) = (World.mk z2 z3)))])
noncomputable def f_bkeep_World := fnT F_bkeep_World
def F_bkeep_TwinKids : (List Kid) → Prop × List PV × List PV := fun z0 => (z0.length ≤ 1000000, [L z0], [L z0])
noncomputable def f_bkeep_TwinKids := fnT F_bkeep_TwinKids
def F_bkeep_TwinItems : (List Item) → Prop × List PV × List PV := fun z0 => (z0.length ≤ 1000000, [L z0], [L z0])
noncomputable def f_bkeep_TwinItems := fnT F_bkeep_TwinItems
def F_bkeep_TwinEvents : (List Event) → Prop × List PV × List PV := fun z0 => (z0.length ≤ 1000000, [L z0], [L z0])
noncomputable def f_bkeep_TwinEvents := fnT F_bkeep_TwinEvents
def F_bkeep_TwinPeers : (List Peer) → Prop × List PV × List PV := fun z0 => (z0.length ≤ 1000000, [L z0], [L z0])
noncomputable def f_bkeep_TwinPeers := fnT F_bkeep_TwinPeers
def F_bkeep_Twin : (List By) → Prop × List PV × List PV := fun z0 => (z0.length ≤ 140737488355328, [L z0], [L z0])
noncomputable def f_bkeep_Twin := fnT F_bkeep_Twin
def F_bkeep_TwinStream : Int × Int × Int × (List Item) × (List Item) → Prop × List PV × List PV := fun (z0, z1, z2, z3, z4) => ((Stream.mk z0 z1 z2 z3 z4).kept.length ≤ 1000000 ∧ (Stream.mk z0 z1 z2 z3 z4).ahead.length ≤ 1000000, [I z0, I z1, I z2, L z3, L z4], [I (Stream.mk z0 z1 z2 z3 z4).epoch, I (Stream.mk z0 z1 z2 z3 z4).want, I (Stream.mk z0 z1 z2 z3 z4).known, L (Stream.mk z0 z1 z2 z3 z4).kept, L (Stream.mk z0 z1 z2 z3 z4).ahead])
noncomputable def f_bkeep_TwinStream := fnT F_bkeep_TwinStream
def F_bkeep_TwinTopic : Bool × Bool × Int × Int × Int × Int × Int × Int × (List Int) × (List Kid) × Int × Int × Int × (List Item) × (List Item) × (List Event) → Prop × List PV × List PV := fun (z0, z1, z2, z3, z4, z5, z6, z7, z8, z9, y0, y1, y2, y3, y4, y5) => (heavy19 (Topic.mk z0 z1 z2 z3 z4 z5 z6 z7 z8 z9 (Stream.mk y0 y1 y2 y3 y4) y5) = false, [bb z0, bb z1, I z2, I z3, I z4, I z5, I z6, I z7, L z8, L z9, I y0, I y1, I y2, L y3, L y4, L y5], [bb (Topic.mk z0 z1 z2 z3 z4 z5 z6 z7 z8 z9 (Stream.mk y0 y1 y2 y3 y4) y5).made, bb (Topic.mk z0 z1 z2 z3 z4 z5 z6 z7 z8 z9 (Stream.mk y0 y1 y2 y3 y4) y5).sub, I (Topic.mk z0 z1 z2 z3 z4 z5 z6 z7 z8 z9 (Stream.mk y0 y1 y2 y3 y4) y5).top, I (Topic.mk z0 z1 z2 z3 z4 z5 z6 z7 z8 z9 (Stream.mk y0 y1 y2 y3 y4) y5).root, I (Topic.mk z0 z1 z2 z3 z4 z5 z6 z7 z8 z9 (Stream.mk y0 y1 y2 y3 y4) y5).parent, I (Topic.mk z0 z1 z2 z3 z4 z5 z6 z7 z8 z9 (Stream.mk y0 y1 y2 y3 y4) y5).asked, I (Topic.mk z0 z1 z2 z3 z4 z5 z6 z7 z8 z9 (Stream.mk y0 y1 y2 y3 y4) y5).other, I (Topic.mk z0 z1 z2 z3 z4 z5 z6 z7 z8 z9 (Stream.mk y0 y1 y2 y3 y4) y5).age, L (Topic.mk z0 z1 z2 z3 z4 z5 z6 z7 z8 z9 (Stream.mk y0 y1 y2 y3 y4) y5).path, L (Topic.mk z0 z1 z2 z3 z4 z5 z6 z7 z8 z9 (Stream.mk y0 y1 y2 y3 y4) y5).kids, I (Topic.mk z0 z1 z2 z3 z4 z5 z6 z7 z8 z9 (Stream.mk y0 y1 y2 y3 y4) y5).stream.epoch, I (Topic.mk z0 z1 z2 z3 z4 z5 z6 z7 z8 z9 (Stream.mk y0 y1 y2 y3 y4) y5).stream.want, I (Topic.mk z0 z1 z2 z3 z4 z5 z6 z7 z8 z9 (Stream.mk y0 y1 y2 y3 y4) y5).stream.known, L (Topic.mk z0 z1 z2 z3 z4 z5 z6 z7 z8 z9 (Stream.mk y0 y1 y2 y3 y4) y5).stream.kept, L (Topic.mk z0 z1 z2 z3 z4 z5 z6 z7 z8 z9 (Stream.mk y0 y1 y2 y3 y4) y5).stream.ahead, L (Topic.mk z0 z1 z2 z3 z4 z5 z6 z7 z8 z9 (Stream.mk y0 y1 y2 y3 y4) y5).queue])
noncomputable def f_bkeep_TwinTopic := fnT F_bkeep_TwinTopic
def F_bkeep_TwinNode : Bool × Int × (List Peer) × (List Topic) × (List Call) × Int × Int × (List Mark) × (List Mark2) → Prop × List PV × List PV := fun (z0, z1, z2, z3, z4, z5, z6, z7, z8) => (heavy21 (Node.mk z0 z1 z2 z3 z4 z5 z6 z7 z8) = false, [bb z0, I z1, L z2, L z3, L z4, I z5, I z6, L z7, L z8], [bb (Node.mk z0 z1 z2 z3 z4 z5 z6 z7 z8).up, I (Node.mk z0 z1 z2 z3 z4 z5 z6 z7 z8).inc, L (Node.mk z0 z1 z2 z3 z4 z5 z6 z7 z8).peers, L (Node.mk z0 z1 z2 z3 z4 z5 z6 z7 z8).topics, L (Node.mk z0 z1 z2 z3 z4 z5 z6 z7 z8).calls, I (Node.mk z0 z1 z2 z3 z4 z5 z6 z7 z8).pubs, I (Node.mk z0 z1 z2 z3 z4 z5 z6 z7 z8).asks, L (Node.mk z0 z1 z2 z3 z4 z5 z6 z7 z8).marks, L (Node.mk z0 z1 z2 z3 z4 z5 z6 z7 z8).taken])
noncomputable def f_bkeep_TwinNode := fnT F_bkeep_TwinNode
def F_bkeep_TwinFrames : (List Frame) → Prop × List PV × List PV := fun z0 => (z0.length ≤ 1000 ∧ ∀ f ∈ z0, f.bytes.length ≤ 140737488355328, [L z0], [L z0])
noncomputable def f_bkeep_TwinFrames := fnT F_bkeep_TwinFrames
def F_bkeep_TwinWorld : (List Node) × (List Frame) → Prop × List PV × List PV := fun (z0, z1) => ((World.mk z0 z1).nodes.length ≤ 10 ∧ (World.mk z0 z1).nodes.any heavy21 = false ∧ (World.mk z0 z1).bag.length ≤ 1000 ∧ ∀ f ∈ (World.mk z0 z1).bag, f.bytes.length ≤ 140737488355328, [L z0, L z1], [L (World.mk z0 z1).nodes, L (World.mk z0 z1).bag])
noncomputable def f_bkeep_TwinWorld := fnT F_bkeep_TwinWorld
def F_law18_Heavy : Int × Int × Int × (List Item) × (List Item) × (List Event) → Prop × List PV × List PV := fun (z0, z1, z2, z3, z4, z5) => (True, [I z0, I z1, I z2, L z3, L z4, L z5], [bb (heavy18 (Stream.mk z0 z1 z2 z3 z4) z5)])
noncomputable def f_law18_Heavy := fnT F_law18_Heavy
def F_law19_Heavy : Bool × Bool × Int × Int × Int × Int × Int × Int × (List Int) × (List Kid) × Int × Int × Int × (List Item) × (List Item) × (List Event) → Prop × List PV × List PV := fun (z0, z1, z2, z3, z4, z5, z6, z7, z8, z9, y0, y1, y2, y3, y4, y5) => (True, [bb z0, bb z1, I z2, I z3, I z4, I z5, I z6, I z7, L z8, L z9, I y0, I y1, I y2, L y3, L y4, L y5], [bb (heavy19 (Topic.mk z0 z1 z2 z3 z4 z5 z6 z7 z8 z9 (Stream.mk y0 y1 y2 y3 y4) y5))])
noncomputable def f_law19_Heavy := fnT F_law19_Heavy
def F_law21_Heavy : Bool × Int × (List Peer) × (List Topic) × (List Call) × Int × Int × (List Mark) × (List Mark2) → Prop × List PV × List PV := fun (z0, z1, z2, z3, z4, z5, z6, z7, z8) => (True, [bb z0, I z1, L z2, L z3, L z4, I z5, I z6, L z7, L z8], [bb (heavy21 (Node.mk z0 z1 z2 z3 z4 z5 z6 z7 z8))])
noncomputable def f_law21_Heavy := fnT F_law21_Heavy
def F_law08_Heavy : (List Frame) → Prop × List PV × List PV := fun z0 => (True, [L z0], [bb (heavy08 z0)])
noncomputable def f_law08_Heavy := fnT F_law08_Heavy
def F_law25_Heavy : (List Node) × (List Frame) → Prop × List PV × List PV := fun (z0, z1) => (True, [L z0, L z1], [bb (heavy25 (World.mk z0 z1))])
noncomputable def f_law25_Heavy := fnT F_law25_Heavy
def F_bag_right : Int × (List By) → Prop × List PV × List PV := fun (z0, z1) => (True, [I z0, L z1], [bb (frameOk (Frame.mk z0 z1))])
noncomputable def f_bag_right := fnT F_bag_right
def F_bag_Check : (List Frame) → Prop × List PV × List PV := fun z0 => (True, [L z0], [I (bagWhy z0)])
noncomputable def f_bag_Check := fnT F_bag_Check
def F_ref01_Frame : Int × (List By) → Prop × List PV × List PV := fun (z0, z1) => (True, [I z0, L z1], [bb (frameOk (Frame.mk z0 z1))])
noncomputable def f_ref01_Frame := fnT F_ref01_Frame
def F_ref01_Bag : (List Frame) → Prop × List PV × List PV := fun z0 => (True, [L z0], [I (bagWhy z0)])
noncomputable def f_ref01_Bag := fnT F_ref01_Bag
def F_world_bare : Bool × Bool × Int × Int × Int × Int × Int × Int × (List Int) × (List Kid) × Int × Int × Int × (List Item) × (List Item) × (List Event) → Prop × List PV × List PV := fun (z0, z1, z2, z3, z4, z5, z6, z7, z8, z9, y0, y1, y2, y3, y4, y5) => (True, [bb z0, bb z1, I z2, I z3, I z4, I z5, I z6, I z7, L z8, L z9, I y0, I y1, I y2, L y3, L y4, L y5], [bb (topZ (Topic.mk z0 z1 z2 z3 z4 z5 z6 z7 z8 z9 (Stream.mk y0 y1 y2 y3 y4) y5))])
noncomputable def f_world_bare := fnT F_world_bare
def F_world_down : Int × Int × Int × Int × Int × Int × Int × Bool × Int × (List Peer) × (List Topic) × (List Call) × Int × Int × (List Mark) × (List Mark2) → Prop × List PV × List PV := fun (z0, z1, z2, z3, z4, z5, z6, z7, z8, z9, y0, y1, y2, y3, y4, y5) => (cfgOk (Config.mk z0 z1 z2 z3 z4 z5 z6) = true, [I z0, I z1, I z2, I z3, I z4, I z5, I z6, bb z7, I z8, L z9, L y0, L y1, I y2, I y3, L y4, L y5], [bb (downOk (Config.mk z0 z1 z2 z3 z4 z5 z6) (Node.mk z7 z8 z9 y0 y1 y2 y3 y4 y5))])
noncomputable def f_world_down := fnT F_world_down
def F_world_Check : Int × Int × Int × Int × Int × Int × Int × (List Node) × (List Frame) → Prop × List PV × List PV := fun (z0, z1, z2, z3, z4, z5, z6, z7, z8) => (True, [I z0, I z1, I z2, I z3, I z4, I z5, I z6, L z7, L z8], [I (worldWhy (Config.mk z0 z1 z2 z3 z4 z5 z6) (World.mk z7 z8))])
noncomputable def f_world_Check := fnT F_world_Check
def F_ref19_down : Int × Int × Int × Int × Int × Int × Int × Bool × Int × (List Peer) × (List Topic) × (List Call) × Int × Int × (List Mark) × (List Mark2) → Prop × List PV × List PV := fun (z0, z1, z2, z3, z4, z5, z6, z7, z8, z9, y0, y1, y2, y3, y4, y5) => (cfgOk (Config.mk z0 z1 z2 z3 z4 z5 z6) = true ∧ (Config.mk z0 z1 z2 z3 z4 z5 z6).topics ≤ (Node.mk z7 z8 z9 y0 y1 y2 y3 y4 y5).topics.length, [I z0, I z1, I z2, I z3, I z4, I z5, I z6, bb z7, I z8, L z9, L y0, L y1, I y2, I y3, L y4, L y5], [bb false, I (Node.mk z7 z8 z9 y0 y1 y2 y3 y4 y5).inc, L (blankN (Config.mk z0 z1 z2 z3 z4 z5 z6) (Node.mk z7 z8 z9 y0 y1 y2 y3 y4 y5).inc (Node.mk z7 z8 z9 y0 y1 y2 y3 y4 y5).topics).peers, L (blankN (Config.mk z0 z1 z2 z3 z4 z5 z6) (Node.mk z7 z8 z9 y0 y1 y2 y3 y4 y5).inc (Node.mk z7 z8 z9 y0 y1 y2 y3 y4 y5).topics).topics, L (blankN (Config.mk z0 z1 z2 z3 z4 z5 z6) (Node.mk z7 z8 z9 y0 y1 y2 y3 y4 y5).inc (Node.mk z7 z8 z9 y0 y1 y2 y3 y4 y5).topics).calls, I 0, I 0, L (blankN (Config.mk z0 z1 z2 z3 z4 z5 z6) (Node.mk z7 z8 z9 y0 y1 y2 y3 y4 y5).inc (Node.mk z7 z8 z9 y0 y1 y2 y3 y4 y5).topics).marks, L (blankN (Config.mk z0 z1 z2 z3 z4 z5 z6) (Node.mk z7 z8 z9 y0 y1 y2 y3 y4 y5).inc (Node.mk z7 z8 z9 y0 y1 y2 y3 y4 y5).topics).taken])
noncomputable def f_ref19_down := fnT F_ref19_down
def F_ref19_World : Int × Int × Int × Int × Int × Int × Int × (List Node) × (List Frame) → Prop × List PV × List PV := fun (z0, z1, z2, z3, z4, z5, z6, z7, z8) => (cfgOk (Config.mk z0 z1 z2 z3 z4 z5 z6) = true, [I z0, I z1, I z2, I z3, I z4, I z5, I z6, L z7, L z8], [bb (worldOk (Config.mk z0 z1 z2 z3 z4 z5 z6) (World.mk z7 z8))])
noncomputable def f_ref19_World := fnT F_ref19_World
def F_world_blank : Int × Int × Int × Int × Int × Int × Int × Int × (List Topic) → Prop × List PV × List PV := fun (z0, z1, z2, z3, z4, z5, z6, z7, z8) => (cfgOk (Config.mk z0 z1 z2 z3 z4 z5 z6) = true ∧ z8.length ≤ (Config.mk z0 z1 z2 z3 z4 z5 z6).topics, [I z0, I z1, I z2, I z3, I z4, I z5, I z6, I z7, L z8], [bb false, I z7, L (blankN (Config.mk z0 z1 z2 z3 z4 z5 z6) z7 z8).peers, L (blankN (Config.mk z0 z1 z2 z3 z4 z5 z6) z7 z8).topics, L (blankN (Config.mk z0 z1 z2 z3 z4 z5 z6) z7 z8).calls, I 0, I 0, L (blankN (Config.mk z0 z1 z2 z3 z4 z5 z6) z7 z8).marks, L (blankN (Config.mk z0 z1 z2 z3 z4 z5 z6) z7 z8).taken])
noncomputable def f_world_blank := fnT F_world_blank
def F_world_up : Bool × Int × (List Peer) × (List Topic) × (List Call) × Int × Int × (List Mark) × (List Mark2) → Prop × List PV × List PV := fun (z0, z1, z2, z3, z4, z5, z6, z7, z8) => (True, [bb z0, I z1, L z2, L z3, L z4, I z5, I z6, L z7, L z8], [bb true, I (Node.mk z0 z1 z2 z3 z4 z5 z6 z7 z8).inc, L (Node.mk z0 z1 z2 z3 z4 z5 z6 z7 z8).peers, L (Node.mk z0 z1 z2 z3 z4 z5 z6 z7 z8).topics, L (Node.mk z0 z1 z2 z3 z4 z5 z6 z7 z8).calls, I (Node.mk z0 z1 z2 z3 z4 z5 z6 z7 z8).pubs, I (Node.mk z0 z1 z2 z3 z4 z5 z6 z7 z8).asks, L (Node.mk z0 z1 z2 z3 z4 z5 z6 z7 z8).marks, L (Node.mk z0 z1 z2 z3 z4 z5 z6 z7 z8).taken])
noncomputable def f_world_up := fnT F_world_up
def F_world_New : Int × Int × Int × Int × Int × Int × Int → Prop × List PV × List PV := fun (z0, z1, z2, z3, z4, z5, z6) => (True, [I z0, I z1, I z2, I z3, I z4, I z5, I z6], [L (if cfgOk (Config.mk z0 z1 z2 z3 z4 z5 z6) = true then newW (Config.mk z0 z1 z2 z3 z4 z5 z6) else ⟨[], []⟩).nodes, L (if cfgOk (Config.mk z0 z1 z2 z3 z4 z5 z6) = true then newW (Config.mk z0 z1 z2 z3 z4 z5 z6) else ⟨[], []⟩).bag, I (if cfgOk (Config.mk z0 z1 z2 z3 z4 z5 z6) = true then 0 else 13)])
noncomputable def f_world_New := fnT F_world_New
def F_check_asked : Int × Int × Int × Int × Int × Int × Int × (List Node) × (List Frame) × Int → Prop × List PV × List PV := fun (z0, z1, z2, z3, z4, z5, z6, z7, z8, z9) => (True, [I z0, I z1, I z2, I z3, I z4, I z5, I z6, L z7, L z8, I z9], [I (askedW (Config.mk z0 z1 z2 z3 z4 z5 z6) (World.mk z7 z8) z9)])
noncomputable def f_check_asked := fnT F_check_asked
def F_check_Parents : Int × Int × Int × Int × Int × Int × Int × (List Node) × (List Frame) × Int → Prop × List PV × List PV := fun (z0, z1, z2, z3, z4, z5, z6, z7, z8, z9) => (True, [I z0, I z1, I z2, I z3, I z4, I z5, I z6, L z7, L z8, I z9], [L (if askedW (Config.mk z0 z1 z2 z3 z4 z5 z6) (World.mk z7 z8) z9 = 0 then parentsW (World.mk z7 z8) z9 else []), I (askedW (Config.mk z0 z1 z2 z3 z4 z5 z6) (World.mk z7 z8) z9)])
noncomputable def f_check_Parents := fnT F_check_Parents
def F_check_Roots : Int × Int × Int × Int × Int × Int × Int × (List Node) × (List Frame) × Int → Prop × List PV × List PV := fun (z0, z1, z2, z3, z4, z5, z6, z7, z8, z9) => (True, [I z0, I z1, I z2, I z3, I z4, I z5, I z6, L z7, L z8, I z9], [L (if askedW (Config.mk z0 z1 z2 z3 z4 z5 z6) (World.mk z7 z8) z9 = 0 then rootsW (World.mk z7 z8) z9 else []), I (askedW (Config.mk z0 z1 z2 z3 z4 z5 z6) (World.mk z7 z8) z9)])
noncomputable def f_check_Roots := fnT F_check_Roots
def F_check_whole : (List Node) × (List Frame) × Int → Prop × List PV × List PV := fun (z0, z1, z2) => (0 ≤ z2 ∧ (World.mk z0 z1).nodes.length ≤ 8 ∧ ∀ n ∈ (World.mk z0 z1).nodes, z2 < n.topics.length, [L z0, L z1, I z2], [bb (whole (pathsW (World.mk z0 z1) z2))])
noncomputable def f_check_whole := fnT F_check_whole
def F_check_Whole : Int × Int × Int × Int × Int × Int × Int × (List Node) × (List Frame) × Int → Prop × List PV × List PV := fun (z0, z1, z2, z3, z4, z5, z6, z7, z8, z9) => (True, [I z0, I z1, I z2, I z3, I z4, I z5, I z6, L z7, L z8, I z9], [bb (decide (askedW (Config.mk z0 z1 z2 z3 z4 z5 z6) (World.mk z7 z8) z9 = 0) && whole (pathsW (World.mk z7 z8) z9)), I (askedW (Config.mk z0 z1 z2 z3 z4 z5 z6) (World.mk z7 z8) z9)])
noncomputable def f_check_Whole := fnT F_check_Whole
def F_check_last : Int × Int × Int × Int × Int × Int → Prop × List PV × List PV := fun (z0, z1, z2, z3, z4, z5) => (True, [I z0, I z1, I z2, I z3, I z4, I z5], [I (endOf (Event.mk z0 z1 z2 z3 z4 z5)), bb (ofStream (Event.mk z0 z1 z2 z3 z4 z5))])
noncomputable def f_check_last := fnT F_check_last
def F_check_Rises : (List Event) → Prop × List PV × List PV := fun z0 => (True, [L z0], [bb (risesE none z0)])
noncomputable def f_check_Rises := fnT F_check_Rises
def F_check_deep : Int × Int × Int × Int × Int × Int × Int × Bool × Int × (List Peer) × (List Topic) × (List Call) × Int × Int × (List Mark) × (List Mark2) → Prop × List PV × List PV := fun (z0, z1, z2, z3, z4, z5, z6, z7, z8, z9, y0, y1, y2, y3, y4, y5) => (True, [I z0, I z1, I z2, I z3, I z4, I z5, I z6, bb z7, I z8, L z9, L y0, L y1, I y2, I y3, L y4, L y5], [bb (deepN (Config.mk z0 z1 z2 z3 z4 z5 z6) (Node.mk z7 z8 z9 y0 y1 y2 y3 y4 y5))])
noncomputable def f_check_deep := fnT F_check_deep
def F_check_full : Int × Int × Int × Int × Int × Int × Int × Bool × Bool × Int × Int × Int × Int × Int × Int × (List Int) × (List Kid) × Int × Int × Int × (List Item) × (List Item) × (List Event) → Prop × List PV × List PV := fun (z0, z1, z2, z3, z4, z5, z6, z7, z8, z9, y0, y1, y2, y3, y4, y5, y6, y7, y8, y9, x0, x1, x2) => (True, [I z0, I z1, I z2, I z3, I z4, I z5, I z6, bb z7, bb z8, I z9, I y0, I y1, I y2, I y3, I y4, L y5, L y6, I y7, I y8, I y9, L x0, L x1, L x2], [bb (fullT (Config.mk z0 z1 z2 z3 z4 z5 z6) (Topic.mk z7 z8 z9 y0 y1 y2 y3 y4 y5 y6 (Stream.mk y7 y8 y9 x0 x1) x2))])
noncomputable def f_check_full := fnT F_check_full
def F_slices_Contains_int_int : (List Int) × Int → Prop × List PV × List PV := fun (z0, z1) => (True, [L z0, I z1], [bb (z0.contains z1)])
noncomputable def f_slices_Contains_int_int := fnT F_slices_Contains_int_int
def F_check_rooted : (List Node) × (List Frame) × Int → Prop × List PV × List PV := fun (z0, z1, z2) => (∃ c : Config, cfgOk c = true ∧ worldOk c (World.mk z0 z1) = true ∧ rng z2 0 (c.topics - 1) = true, [L z0, L z1, I z2], [bb true])
noncomputable def f_check_rooted := fnT F_check_rooted
def F_check_Holds : Int × Int × Int × Int × Int × Int × Int × (List Node) × (List Frame) → Prop × List PV × List PV := fun (z0, z1, z2, z3, z4, z5, z6, z7, z8) => (True, [I z0, I z1, I z2, I z3, I z4, I z5, I z6, L z7, L z8], [I (holdsW (Config.mk z0 z1 z2 z3 z4 z5 z6) (World.mk z7 z8))])
noncomputable def f_check_Holds := fnT F_check_Holds
def F_ref19_Holds : Int × Int × Int × Int × Int × Int × Int × (List Node) × (List Frame) → Prop × List PV × List PV := fun (z0, z1, z2, z3, z4, z5, z6, z7, z8) => (cfgOk (Config.mk z0 z1 z2 z3 z4 z5 z6) = true ∧ worldOk (Config.mk z0 z1 z2 z3 z4 z5 z6) (World.mk z7 z8) = true, [I z0, I z1, I z2, I z3, I z4, I z5, I z6, L z7, L z8], [I (holdsW (Config.mk z0 z1 z2 z3 z4 z5 z6) (World.mk z7 z8))])
noncomputable def f_ref19_Holds := fnT F_ref19_Holds
def F_law19_Full : Unit → Prop × List PV × List PV := fun _ => (True, [], [I 8, I 4, I 2, I 8, I 8, I 8, I 16])
noncomputable def f_law19_Full := fnT F_law19_Full
def F_law27_wakes : Unit → Prop × List PV × List PV := fun _ => (True, [], [bb true])
noncomputable def f_law27_wakes := fnT F_law27_wakes
def F_law27_CheckExact : Int × Int × Int × Int × Int × Int × Int × (List Node) × (List Frame) × Int × (List Event) → Prop × List PV × List PV := fun (z0, z1, z2, z3, z4, z5, z6, z7, z8, z9, y0) => (∀ f ∈ (World.mk z7 z8).bag, f.bytes.length ≤ 140737488355328, [I z0, I z1, I z2, I z3, I z4, I z5, I z6, L z7, L z8, I z9, L y0], [bb true])
noncomputable def f_law27_CheckExact := fnT F_law27_CheckExact
noncomputable def ρ : Fns := fun K => match K with
  | 108 => f_ring_Is
  | 166 => f_ring_Node
  | 165 => f_ring_Topic
  | 167 => f_key_Far
  | 158 => f_ref01_Node
  | 157 => f_ref01_Topic
  | 156 => f_ref01_Behind
  | 160 => f_ring_Gap
  | 159 => f_ring_Nearer
  | 127 => f_ref01_IsTopic
  | 43 => f_ref01_IsNode
  | 143 => f_ref01_Gap
  | 126 => f_ref01_Nearer
  | 76 => f_ring_All
  | 161 => f_path_rises
  | 153 => f_path_Check
  | 77 => f_path_parent
  | 48 => f_path_Whole
  | 70 => f_bkeep_TwinInts
  | 17 => f_bkeep_Ints
  | 101 => f_ref10_Path
  | 18 => f_ref10_Whole
  | 112 => f_script_field
  | 111 => f_errors_Join
  | 78 => f_script_errno
  | 79 => f_script_config
  | 49 => f_script_Config
  | 37 => f_ref01_In
  | 13 => f_ref01_Config
  | 92 => f_epoch_Check
  | 55 => f_epoch_Who
  | 124 => f_msg_in
  | 91 => f_msg_Counted
  | 142 => f_msg_Value
  | 83 => f_cast_in
  | 62 => f_ref19_in
  | 98 => f_ref10_in
  | 65 => f_ref01_Value
  | 144 => f_ref10_count
  | 99 => f_ref10_Epoch
  | 140 => f_view_right
  | 118 => f_view_Check
  | 63 => f_ref10_Peers
  | 162 => f_kids_right
  | 154 => f_kids_Check
  | 102 => f_ref10_Kids
  | 176 => f_keep_right
  | 169 => f_keep_Check
  | 145 => f_ref10_Kept
  | 177 => f_ahead_fits
  | 170 => f_ahead_Check
  | 146 => f_ref10_Ahead2
  | 173 => f_queue_Event
  | 147 => f_ref10_Event
  | 164 => f_queue_Check
  | 129 => f_ref10_Queue
  | 168 => f_flow_zero
  | 163 => f_flow_right
  | 155 => f_flow_Check
  | 128 => f_ref10_Stream
  | 103 => f_ref10_Flow
  | 150 => f_graft_link
  | 100 => f_ref10_near
  | 151 => f_graft_rooted
  | 152 => f_graft_placed
  | 138 => f_graft_right
  | 115 => f_graft_Check
  | 64 => f_ref10_Topic
  | 114 => f_cast_calls
  | 117 => f_cast_mark
  | 121 => f_cast_taken
  | 84 => f_cast_right
  | 51 => f_cast_Check
  | 39 => f_ref19_Node
  | 59 => f_bkeep_Peers
  | 95 => f_bkeep_Kids
  | 125 => f_bkeep_Items
  | 97 => f_bkeep_Events
  | 94 => f_bkeep_Bytes
  | 58 => f_bkeep_Frame
  | 35 => f_bkeep_Frames
  | 96 => f_bkeep_Stream
  | 60 => f_bkeep_Topic
  | 36 => f_bkeep_Node
  | 12 => f_bkeep_World
  | 71 => f_bkeep_TwinKids
  | 104 => f_bkeep_TwinItems
  | 73 => f_bkeep_TwinEvents
  | 45 => f_bkeep_TwinPeers
  | 47 => f_bkeep_Twin
  | 72 => f_bkeep_TwinStream
  | 46 => f_bkeep_TwinTopic
  | 22 => f_bkeep_TwinNode
  | 23 => f_bkeep_TwinFrames
  | 6 => f_bkeep_TwinWorld
  | 69 => f_law18_Heavy
  | 44 => f_law19_Heavy
  | 20 => f_law21_Heavy
  | 21 => f_law08_Heavy
  | 5 => f_law25_Heavy
  | 82 => f_bag_right
  | 50 => f_bag_Check
  | 61 => f_ref01_Frame
  | 38 => f_ref01_Bag
  | 90 => f_world_bare
  | 52 => f_world_down
  | 26 => f_world_Check
  | 40 => f_ref19_down
  | 14 => f_ref19_World
  | 68 => f_world_blank
  | 67 => f_world_up
  | 42 => f_world_New
  | 24 => f_check_asked
  | 7 => f_check_Parents
  | 8 => f_check_Roots
  | 25 => f_check_whole
  | 9 => f_check_Whole
  | 34 => f_check_last
  | 11 => f_check_Rises
  | 29 => f_check_deep
  | 33 => f_check_full
  | 56 => f_slices_Contains_int_int
  | 30 => f_check_rooted
  | 10 => f_check_Holds
  | 16 => f_ref19_Holds
  | 41 => f_law19_Full
  | 15 => f_law27_wakes
  | 3 => f_law27_CheckExact
  | _ => fun _ => none
theorem c_ring_Is {z0 : Int} {k_ : PV → Prop} : CALL ρ 108 [I z0] 1 k_ = k_ (bb (isN z0)) := CALL_T (F := F_ring_Is) rfl (by intro a b h; simpa [F_ring_Is, L_inj, E_inj] using h) z0 trivial rfl
theorem c_ring_Node {z0 : Int} {k_ : PV → PV → Prop} : CALL ρ 166 [I z0] 2 k_ = k_ (I (if isN z0 = true then nn z0 else 0)) (I (if isN z0 = true then 0 else 1)) := CALL_T (F := F_ring_Node) rfl (by intro a b h; simpa [F_ring_Node, L_inj, E_inj] using h) z0 trivial rfl
theorem c_ring_Topic {z0 : Int} {k_ : PV → PV → Prop} : CALL ρ 165 [I z0] 2 k_ = k_ (I (if isT z0 = true then tt z0 else 0)) (I (if isT z0 = true then 0 else 1)) := CALL_T (F := F_ring_Topic) rfl (by intro a b h; simpa [F_ring_Topic, L_inj, E_inj] using h) z0 trivial rfl
theorem c_key_Far {z0 z1 : Int} {k_ : PV → Prop} (h : 0 ≤ z0 ∧ z0 < 4611686018427387904 ∧ 0 ≤ z1 ∧ z1 < 4611686018427387904) : CALL ρ 167 [I z0, I z1] 1 k_ = k_ (I (far z0 z1)) := CALL_T (F := F_key_Far) rfl (by rintro ⟨_, _⟩ ⟨_, _⟩ h; simpa [F_key_Far, L_inj, E_inj] using h) (z0, z1) h rfl
theorem c_ref01_Node {z0 : Int} {k_ : PV → Prop} (h : isN z0 = true) : CALL ρ 158 [I z0] 1 k_ = k_ (I (nn z0)) := CALL_T (F := F_ref01_Node) rfl (by intro a b h; simpa [F_ref01_Node, L_inj, E_inj] using h) z0 h rfl
theorem c_ref01_Topic {z0 : Int} {k_ : PV → Prop} (h : isT z0 = true) : CALL ρ 157 [I z0] 1 k_ = k_ (I (tt z0)) := CALL_T (F := F_ref01_Topic) rfl (by intro a b h; simpa [F_ref01_Topic, L_inj, E_inj] using h) z0 h rfl
theorem c_ref01_Behind {z0 z1 : Int} {k_ : PV → Prop} (h : 0 ≤ z0 ∧ z0 < 4611686018427387904 ∧ 0 ≤ z1 ∧ z1 < 4611686018427387904) : CALL ρ 156 [I z0, I z1] 1 k_ = k_ (I (far z0 z1)) := CALL_T (F := F_ref01_Behind) rfl (by rintro ⟨_, _⟩ ⟨_, _⟩ h; simpa [F_ref01_Behind, L_inj, E_inj] using h) (z0, z1) h rfl
theorem c_ring_Gap {z0 z1 : Int} {k_ : PV → PV → Prop} : CALL ρ 160 [I z0, I z1] 2 k_ = k_ (I (if (isT z0 && isN z1) = true then gap z0 z1 else 0)) (I (if (isT z0 && isN z1) = true then 0 else 1)) := CALL_T (F := F_ring_Gap) rfl (by rintro ⟨_, _⟩ ⟨_, _⟩ h; simpa [F_ring_Gap, L_inj, E_inj] using h) (z0, z1) trivial rfl
theorem c_ring_Nearer {z0 z1 z2 : Int} {k_ : PV → Prop} : CALL ρ 159 [I z0, I z1, I z2] 1 k_ = k_ (bb (near z0 z1 z2)) := CALL_T (F := F_ring_Nearer) rfl (by rintro ⟨_, _, _⟩ ⟨_, _, _⟩ h; simpa [F_ring_Nearer, L_inj, E_inj] using h) (z0, z1, z2) trivial rfl
theorem c_ref01_IsTopic {z0 : Int} {k_ : PV → Prop} : CALL ρ 127 [I z0] 1 k_ = k_ (bb (isT z0)) := CALL_T (F := F_ref01_IsTopic) rfl (by intro a b h; simpa [F_ref01_IsTopic, L_inj, E_inj] using h) z0 trivial rfl
theorem c_ref01_IsNode {z0 : Int} {k_ : PV → Prop} : CALL ρ 43 [I z0] 1 k_ = k_ (bb (isN z0)) := CALL_T (F := F_ref01_IsNode) rfl (by intro a b h; simpa [F_ref01_IsNode, L_inj, E_inj] using h) z0 trivial rfl
theorem c_ref01_Gap {z0 z1 : Int} {k_ : PV → Prop} (h : isT z0 = true ∧ isN z1 = true) : CALL ρ 143 [I z0, I z1] 1 k_ = k_ (I (gap z0 z1)) := CALL_T (F := F_ref01_Gap) rfl (by rintro ⟨_, _⟩ ⟨_, _⟩ h; simpa [F_ref01_Gap, L_inj, E_inj] using h) (z0, z1) h rfl
theorem c_ref01_Nearer {z0 z1 z2 : Int} {k_ : PV → Prop} : CALL ρ 126 [I z0, I z1, I z2] 1 k_ = k_ (bb (near z0 z1 z2)) := CALL_T (F := F_ref01_Nearer) rfl (by rintro ⟨_, _, _⟩ ⟨_, _, _⟩ h; simpa [F_ref01_Nearer, L_inj, E_inj] using h) (z0, z1, z2) trivial rfl
theorem c_ring_All {z0 : List Int} {k_ : PV → Prop} : CALL ρ 76 [L z0] 1 k_ = k_ (bb (z0.all isN)) := CALL_T (F := F_ring_All) rfl (by intro a b h; simpa [F_ring_All, L_inj, E_inj] using h) z0 trivial rfl
theorem c_path_rises {z0 z1 : Int} {z2 : List Int} {k_ : PV → Prop} : CALL ρ 161 [I z0, I z1, L z2] 1 k_ = k_ (bb (rises z0 z1 z2)) := CALL_T (F := F_path_rises) rfl (by rintro ⟨_, _, _⟩ ⟨_, _, _⟩ h; simpa [F_path_rises, L_inj, E_inj] using h) (z0, z1, z2) trivial rfl
theorem c_path_Check {z0 z1 : Int} {z2 : List Int} {z3 : Int} {k_ : PV → Prop} : CALL ρ 153 [I z0, I z1, L z2, I z3] 1 k_ = k_ (I (chk z0 z1 z2 z3)) := CALL_T (F := F_path_Check) rfl (by rintro ⟨_, _, _, _⟩ ⟨_, _, _, _⟩ h; simpa [F_path_Check, L_inj, E_inj] using h) (z0, z1, z2, z3) trivial rfl
theorem c_path_parent {z0 : List (List Int)} {z1 : Int} {k_ : PV → Prop} (h : 0 ≤ z1) : CALL ρ 77 [L z0, I z1] 1 k_ = k_ (I (par z0 z1)) := CALL_T (F := F_path_parent) rfl (by rintro ⟨_, _⟩ ⟨_, _⟩ h; simpa [F_path_parent, L_inj, E_inj] using h) (z0, z1) h rfl
theorem c_path_Whole {z0 : Int} {z1 : List (List Int)} {k_ : PV → Prop} : CALL ρ 48 [I z0, L z1] 1 k_ = k_ (bb (whole z1)) := CALL_T (F := F_path_Whole) rfl (by rintro ⟨_, _⟩ ⟨_, _⟩ h; simpa [F_path_Whole, L_inj, E_inj] using h) (z0, z1) trivial rfl
theorem c_bkeep_TwinInts {z0 : List Int} {k_ : PV → Prop} (h : z0.length ≤ 1000000) : CALL ρ 70 [L z0] 1 k_ = k_ (L z0) := CALL_T (F := F_bkeep_TwinInts) rfl (by intro a b h; simpa [F_bkeep_TwinInts, L_inj, E_inj] using h) z0 h rfl
theorem c_bkeep_Ints {z0 z1 : List Int} {k_ : PV → Prop} : CALL ρ 17 [L z0, L z1] 1 k_ = k_ (bb (decide (z0 = z1))) := CALL_T (F := F_bkeep_Ints) rfl (by rintro ⟨_, _⟩ ⟨_, _⟩ h; simpa [F_bkeep_Ints, L_inj, E_inj] using h) (z0, z1) trivial rfl
theorem c_ref10_Path {z0 z1 : Int} {z2 : List Int} {z3 : Int} {k_ : PV → Prop} (h : isT z0 = true ∧ isN z1 = true) : CALL ρ 101 [I z0, I z1, L z2, I z3] 1 k_ = k_ (I (chkR z0 z1 z2 z3)) := CALL_T (F := F_ref10_Path) rfl (by rintro ⟨_, _, _, _⟩ ⟨_, _, _, _⟩ h; simpa [F_ref10_Path, L_inj, E_inj] using h) (z0, z1, z2, z3) h rfl
theorem c_ref10_Whole {z0 : List (List Int)} {k_ : PV → Prop} (h : ∀ x ∈ z0, x.length ≤ 1000) : CALL ρ 18 [L z0] 1 k_ = k_ (bb (whole z0)) := CALL_T (F := F_ref10_Whole) rfl (by intro a b h; simpa [F_ref10_Whole, L_inj, E_inj] using h) z0 h rfl
theorem r_script_field {s : ByteArray} {n lo hi why : Int} : f_script_field [.str s, I n, I lo, I hi, I why] = some [E ⟨false, if n < lo ∨ hi < n then [why] else []⟩] := fnOf_eq (a := (s, n, lo, hi, why)) (by rintro ⟨_, _, _, _, _⟩ ⟨_, _, _, _, _⟩ h; simpa [L_inj, E_inj] using h) trivial
theorem c_script_field {s : ByteArray} {n lo hi why : Int} {k_ : PV → Prop} : CALL ρ 112 [.str s, I n, I lo, I hi, I why] 1 k_ = k_ (E ⟨false, if n < lo ∨ hi < n then [why] else []⟩) := CALL_of (ρ := ρ) (K := 112) (m := 1) (k := k_) (r_script_field) rfl
theorem r_errors_Join {xs : List Er} (h : xs ≠ [] ∧ xs.length ≤ 1000 ∧ ∀ x ∈ xs, x.j = false) : f_errors_Join [L xs] = some [E ⟨true, xs.flatMap (·.l)⟩] := fnOf_eq (a := xs) (by intro a b h; simpa [L_inj, E_inj] using h) h
theorem c_errors_Join {xs : List Er} {k_ : PV → Prop} (h : xs ≠ [] ∧ xs.length ≤ 1000 ∧ ∀ x ∈ xs, x.j = false) : CALL ρ 111 [L xs] 1 k_ = k_ (E ⟨true, xs.flatMap (·.l)⟩) := CALL_of (ρ := ρ) (K := 111) (m := 1) (k := k_) (r_errors_Join h) rfl
theorem r_script_errno {x : Er} (h : x.l.length ≤ 1000) : f_script_errno [E x] = some [I (errnoOf x.l)] := fnOf_eq (a := x) (by intro a b h; simpa [L_inj, E_inj] using h) h
theorem c_script_errno {x : Er} {k_ : PV → Prop} (h : x.l.length ≤ 1000) : CALL ρ 78 [E x] 1 k_ = k_ (I (errnoOf x.l)) := CALL_of (ρ := ρ) (K := 78) (m := 1) (k := k_) (r_script_errno h) rfl
theorem c_script_config {z0 z1 z2 z3 z4 z5 z6 : Int} {k_ : PV → Prop} : CALL ρ 79 [I z0, I z1, I z2, I z3, I z4, I z5, I z6] 1 k_ = k_ (E ⟨true, cfgErrs (Config.mk z0 z1 z2 z3 z4 z5 z6)⟩) := CALL_T (F := F_script_config) rfl (by rintro ⟨_, _, _, _, _, _, _⟩ ⟨_, _, _, _, _, _, _⟩ h; simpa [F_script_config, L_inj, E_inj] using h) (z0, z1, z2, z3, z4, z5, z6) trivial rfl
theorem c_script_Config {z0 z1 z2 z3 z4 z5 z6 : Int} {k_ : PV → Prop} : CALL ρ 49 [I z0, I z1, I z2, I z3, I z4, I z5, I z6] 1 k_ = k_ (I (if cfgOk (Config.mk z0 z1 z2 z3 z4 z5 z6) = true then 0 else 13)) := CALL_T (F := F_script_Config) rfl (by rintro ⟨_, _, _, _, _, _, _⟩ ⟨_, _, _, _, _, _, _⟩ h; simpa [F_script_Config, L_inj, E_inj] using h) (z0, z1, z2, z3, z4, z5, z6) trivial rfl
theorem c_ref01_In {z0 z1 z2 : Int} {k_ : PV → Prop} : CALL ρ 37 [I z0, I z1, I z2] 1 k_ = k_ (bb (decide (z1 ≤ z0) && decide (z0 ≤ z2))) := CALL_T (F := F_ref01_In) rfl (by rintro ⟨_, _, _⟩ ⟨_, _, _⟩ h; simpa [F_ref01_In, L_inj, E_inj] using h) (z0, z1, z2) trivial rfl
theorem c_ref01_Config {z0 z1 z2 z3 z4 z5 z6 : Int} {k_ : PV → Prop} : CALL ρ 13 [I z0, I z1, I z2, I z3, I z4, I z5, I z6] 1 k_ = k_ (bb (cfgOk (Config.mk z0 z1 z2 z3 z4 z5 z6))) := CALL_T (F := F_ref01_Config) rfl (by rintro ⟨_, _, _, _, _, _, _⟩ ⟨_, _, _, _, _, _, _⟩ h; simpa [F_ref01_Config, L_inj, E_inj] using h) (z0, z1, z2, z3, z4, z5, z6) trivial rfl
theorem c_epoch_Check {z0 : Int} {k_ : PV → Prop} : CALL ρ 92 [I z0] 1 k_ = k_ (I (if ep z0 = true then 0 else 1)) := CALL_T (F := F_epoch_Check) rfl (by intro a b h; simpa [F_epoch_Check, L_inj, E_inj] using h) z0 trivial rfl
theorem c_epoch_Who {z0 : Int} {k_ : PV → PV → Prop} : CALL ρ 55 [I z0] 2 k_ = k_ (I (if ep z0 = true then z0 % 16 else 0)) (I (if ep z0 = true then 0 else 1)) := CALL_T (F := F_epoch_Who) rfl (by intro a b h; simpa [F_epoch_Who, L_inj, E_inj] using h) z0 trivial rfl
theorem c_msg_in {z0 z1 z2 : Int} {k_ : PV → Prop} : CALL ρ 124 [I z0, I z1, I z2] 1 k_ = k_ (bb (rng z0 z1 z2)) := CALL_T (F := F_msg_in) rfl (by rintro ⟨_, _, _⟩ ⟨_, _, _⟩ h; simpa [F_msg_in, L_inj, E_inj] using h) (z0, z1, z2) trivial rfl
theorem c_msg_Counted {z0 : Int} {k_ : PV → Prop} : CALL ρ 91 [I z0] 1 k_ = k_ (bb (cnt z0)) := CALL_T (F := F_msg_Counted) rfl (by intro a b h; simpa [F_msg_Counted, L_inj, E_inj] using h) z0 trivial rfl
theorem c_msg_Value {z0 : Int} {k_ : PV → Prop} : CALL ρ 142 [I z0] 1 k_ = k_ (bb (val z0)) := CALL_T (F := F_msg_Value) rfl (by intro a b h; simpa [F_msg_Value, L_inj, E_inj] using h) z0 trivial rfl
theorem c_cast_in {z0 z1 z2 : Int} {k_ : PV → Prop} : CALL ρ 83 [I z0, I z1, I z2] 1 k_ = k_ (bb (rng z0 z1 z2)) := CALL_T (F := F_cast_in) rfl (by rintro ⟨_, _, _⟩ ⟨_, _, _⟩ h; simpa [F_cast_in, L_inj, E_inj] using h) (z0, z1, z2) trivial rfl
theorem c_ref19_in {z0 z1 z2 : Int} {k_ : PV → Prop} : CALL ρ 62 [I z0, I z1, I z2] 1 k_ = k_ (bb (rng z0 z1 z2)) := CALL_T (F := F_ref19_in) rfl (by rintro ⟨_, _, _⟩ ⟨_, _, _⟩ h; simpa [F_ref19_in, L_inj, E_inj] using h) (z0, z1, z2) trivial rfl
theorem c_ref10_in {z0 z1 z2 : Int} {k_ : PV → Prop} : CALL ρ 98 [I z0, I z1, I z2] 1 k_ = k_ (bb (rng z0 z1 z2)) := CALL_T (F := F_ref10_in) rfl (by rintro ⟨_, _, _⟩ ⟨_, _, _⟩ h; simpa [F_ref10_in, L_inj, E_inj] using h) (z0, z1, z2) trivial rfl
theorem c_ref01_Value {z0 : Int} {k_ : PV → Prop} : CALL ρ 65 [I z0] 1 k_ = k_ (bb (val z0)) := CALL_T (F := F_ref01_Value) rfl (by intro a b h; simpa [F_ref01_Value, L_inj, E_inj] using h) z0 trivial rfl
theorem c_ref10_count {z0 : Int} {k_ : PV → Prop} : CALL ρ 144 [I z0] 1 k_ = k_ (bb (cnt z0)) := CALL_T (F := F_ref10_count) rfl (by intro a b h; simpa [F_ref10_count, L_inj, E_inj] using h) z0 trivial rfl
theorem c_ref10_Epoch {z0 : Int} {k_ : PV → Prop} : CALL ρ 99 [I z0] 1 k_ = k_ (bb (ep z0)) := CALL_T (F := F_ref10_Epoch) rfl (by intro a b h; simpa [F_ref10_Epoch, L_inj, E_inj] using h) z0 trivial rfl
theorem c_view_right {z0 z1 : Int} {k_ : PV → Prop} : CALL ρ 140 [I z0, I z1] 1 k_ = k_ (bb (peerOk (Peer.mk z0 z1))) := CALL_T (F := F_view_right) rfl (by rintro ⟨_, _⟩ ⟨_, _⟩ h; simpa [F_view_right, L_inj, E_inj] using h) (z0, z1) trivial rfl
theorem c_view_Check {z0 : List Peer} {k_ : PV → Prop} : CALL ρ 118 [L z0] 1 k_ = k_ (I (if peersOk z0 = true then 0 else 1)) := CALL_T (F := F_view_Check) rfl (by intro a b h; simpa [F_view_Check, L_inj, E_inj] using h) z0 trivial rfl
theorem c_ref10_Peers {z0 : List Peer} {k_ : PV → Prop} : CALL ρ 63 [L z0] 1 k_ = k_ (bb (peersOk z0)) := CALL_T (F := F_ref10_Peers) rfl (by intro a b h; simpa [F_ref10_Peers, L_inj, E_inj] using h) z0 trivial rfl
theorem c_kids_right {z0 z1 z2 z3 z4 : Int} {k_ : PV → Prop} : CALL ρ 162 [I z0, I z1, I z2, I z3, I z4] 1 k_ = k_ (bb (near z0 z1 (Kid.mk z2 z3 z4).node && cnt (Kid.mk z2 z3 z4).inc && rng (Kid.mk z2 z3 z4).age 0 6)) := CALL_T (F := F_kids_right) rfl (by rintro ⟨_, _, _, _, _⟩ ⟨_, _, _, _, _⟩ h; simpa [F_kids_right, L_inj, E_inj] using h) (z0, z1, z2, z3, z4) trivial rfl
theorem c_kids_Check {z0 z1 z2 : Int} {z3 : List Kid} {k_ : PV → Prop} : CALL ρ 154 [I z0, I z1, I z2, L z3] 1 k_ = k_ (I (if kidsOk z0 z1 z2 z3 = true then 0 else 1)) := CALL_T (F := F_kids_Check) rfl (by rintro ⟨_, _, _, _⟩ ⟨_, _, _, _⟩ h; simpa [F_kids_Check, L_inj, E_inj] using h) (z0, z1, z2, z3) trivial rfl
theorem c_ref10_Kids {z0 z1 z2 : Int} {z3 : List Kid} {k_ : PV → Prop} : CALL ρ 102 [I z0, I z1, I z2, L z3] 1 k_ = k_ (bb (kidsOk z0 z1 z2 z3)) := CALL_T (F := F_ref10_Kids) rfl (by rintro ⟨_, _, _, _⟩ ⟨_, _, _, _⟩ h; simpa [F_ref10_Kids, L_inj, E_inj] using h) (z0, z1, z2, z3) trivial rfl
theorem c_keep_right {z0 : List Item} {z1 : Int} {k_ : PV → Prop} (h : cnt z1 = true ∧ z0.length ≤ 16) : CALL ρ 176 [L z0, I z1] 1 k_ = k_ (bb (decide (z0.length < z1) && keptGo (z1 - z0.length) z0)) := CALL_T (F := F_keep_right) rfl (by rintro ⟨_, _⟩ ⟨_, _⟩ h; simpa [F_keep_right, L_inj, E_inj] using h) (z0, z1) h rfl
theorem c_keep_Check {z0 : List Item} {z1 z2 : Int} {k_ : PV → Prop} : CALL ρ 169 [L z0, I z1, I z2] 1 k_ = k_ (I (if keptOk z0 z1 z2 = true then 0 else 1)) := CALL_T (F := F_keep_Check) rfl (by rintro ⟨_, _, _⟩ ⟨_, _, _⟩ h; simpa [F_keep_Check, L_inj, E_inj] using h) (z0, z1, z2) trivial rfl
theorem c_ref10_Kept {z0 : List Item} {z1 z2 : Int} {k_ : PV → Prop} : CALL ρ 145 [L z0, I z1, I z2] 1 k_ = k_ (bb (keptOk z0 z1 z2)) := CALL_T (F := F_ref10_Kept) rfl (by rintro ⟨_, _, _⟩ ⟨_, _, _⟩ h; simpa [F_ref10_Kept, L_inj, E_inj] using h) (z0, z1, z2) trivial rfl
theorem c_ahead_fits {z0 z1 z2 : Int} {k_ : PV → Prop} (h : cnt z1 = true ∧ rng z2 1 16 = true) : CALL ρ 177 [I z0, I z1, I z2] 1 k_ = k_ (bb (decide (z1 < z0) && decide (z0 < z1 + z2) && decide (z0 < 1073741824))) := CALL_T (F := F_ahead_fits) rfl (by rintro ⟨_, _, _⟩ ⟨_, _, _⟩ h; simpa [F_ahead_fits, L_inj, E_inj] using h) (z0, z1, z2) h rfl
theorem c_ahead_Check {z0 : List Item} {z1 z2 : Int} {k_ : PV → Prop} : CALL ρ 170 [L z0, I z1, I z2] 1 k_ = k_ (I (if aheadOk z0 z1 z2 = true then 0 else 1)) := CALL_T (F := F_ahead_Check) rfl (by rintro ⟨_, _, _⟩ ⟨_, _, _⟩ h; simpa [F_ahead_Check, L_inj, E_inj] using h) (z0, z1, z2) trivial rfl
theorem c_ref10_Ahead2 {z0 : List Item} {z1 z2 : Int} {k_ : PV → Prop} : CALL ρ 146 [L z0, I z1, I z2] 1 k_ = k_ (bb (aheadOk z0 z1 z2)) := CALL_T (F := F_ref10_Ahead2) rfl (by rintro ⟨_, _, _⟩ ⟨_, _, _⟩ h; simpa [F_ref10_Ahead2, L_inj, E_inj] using h) (z0, z1, z2) trivial rfl
theorem c_queue_Event {z0 z1 z2 z3 z4 z5 : Int} {k_ : PV → Prop} : CALL ρ 173 [I z0, I z1, I z2, I z3, I z4, I z5] 1 k_ = k_ (I (if evOk (Event.mk z0 z1 z2 z3 z4 z5) = true then 0 else 1)) := CALL_T (F := F_queue_Event) rfl (by rintro ⟨_, _, _, _, _, _⟩ ⟨_, _, _, _, _, _⟩ h; simpa [F_queue_Event, L_inj, E_inj] using h) (z0, z1, z2, z3, z4, z5) trivial rfl
theorem c_ref10_Event {z0 z1 z2 z3 z4 z5 : Int} {k_ : PV → Prop} : CALL ρ 147 [I z0, I z1, I z2, I z3, I z4, I z5] 1 k_ = k_ (bb (evOk (Event.mk z0 z1 z2 z3 z4 z5))) := CALL_T (F := F_ref10_Event) rfl (by rintro ⟨_, _, _, _, _, _⟩ ⟨_, _, _, _, _, _⟩ h; simpa [F_ref10_Event, L_inj, E_inj] using h) (z0, z1, z2, z3, z4, z5) trivial rfl
theorem c_queue_Check {z0 : List Event} {z1 : Int} {k_ : PV → Prop} : CALL ρ 164 [L z0, I z1] 1 k_ = k_ (I (if queueOk z0 z1 = true then 0 else 1)) := CALL_T (F := F_queue_Check) rfl (by rintro ⟨_, _⟩ ⟨_, _⟩ h; simpa [F_queue_Check, L_inj, E_inj] using h) (z0, z1) trivial rfl
theorem c_ref10_Queue {z0 : List Event} {z1 : Int} {k_ : PV → Prop} : CALL ρ 129 [L z0, I z1] 1 k_ = k_ (bb (queueOk z0 z1)) := CALL_T (F := F_ref10_Queue) rfl (by rintro ⟨_, _⟩ ⟨_, _⟩ h; simpa [F_ref10_Queue, L_inj, E_inj] using h) (z0, z1) trivial rfl
theorem c_flow_zero {z0 z1 z2 : Int} {z3 z4 : List Item} {k_ : PV → Prop} : CALL ρ 168 [I z0, I z1, I z2, L z3, L z4] 1 k_ = k_ (bb (streamZ (Stream.mk z0 z1 z2 z3 z4))) := CALL_T (F := F_flow_zero) rfl (by rintro ⟨_, _, _, _, _⟩ ⟨_, _, _, _, _⟩ h; simpa [F_flow_zero, L_inj, E_inj] using h) (z0, z1, z2, z3, z4) trivial rfl
theorem c_flow_right {z0 z1 z2 z3 z4 z5 z6 z7 z8 z9 : Int} {y0 y1 : List Item} {k_ : PV → Prop} : CALL ρ 163 [I z0, I z1, I z2, I z3, I z4, I z5, I z6, I z7, I z8, I z9, L y0, L y1] 1 k_ = k_ (bb (streamOk (Config.mk z0 z1 z2 z3 z4 z5 z6) (Stream.mk z7 z8 z9 y0 y1))) := CALL_T (F := F_flow_right) rfl (by rintro ⟨_, _, _, _, _, _, _, _, _, _, _, _⟩ ⟨_, _, _, _, _, _, _, _, _, _, _, _⟩ h; simpa [F_flow_right, L_inj, E_inj] using h) (z0, z1, z2, z3, z4, z5, z6, z7, z8, z9, y0, y1) trivial rfl
theorem c_flow_Check {z0 z1 z2 z3 z4 z5 z6 z7 z8 z9 : Int} {y0 y1 : List Item} {y2 : List Event} {k_ : PV → Prop} : CALL ρ 155 [I z0, I z1, I z2, I z3, I z4, I z5, I z6, I z7, I z8, I z9, L y0, L y1, L y2] 1 k_ = k_ (I (if cfgOk (Config.mk z0 z1 z2 z3 z4 z5 z6) = true then (if flowOk (Config.mk z0 z1 z2 z3 z4 z5 z6) (Stream.mk z7 z8 z9 y0 y1) y2 = true then 0 else 1) else 13)) := CALL_T (F := F_flow_Check) rfl (by rintro ⟨_, _, _, _, _, _, _, _, _, _, _, _, _⟩ ⟨_, _, _, _, _, _, _, _, _, _, _, _, _⟩ h; simpa [F_flow_Check, L_inj, E_inj] using h) (z0, z1, z2, z3, z4, z5, z6, z7, z8, z9, y0, y1, y2) trivial rfl
theorem c_ref10_Stream {z0 z1 z2 z3 z4 z5 z6 z7 z8 z9 : Int} {y0 y1 : List Item} {k_ : PV → Prop} : CALL ρ 128 [I z0, I z1, I z2, I z3, I z4, I z5, I z6, I z7, I z8, I z9, L y0, L y1] 1 k_ = k_ (bb (streamOk (Config.mk z0 z1 z2 z3 z4 z5 z6) (Stream.mk z7 z8 z9 y0 y1))) := CALL_T (F := F_ref10_Stream) rfl (by rintro ⟨_, _, _, _, _, _, _, _, _, _, _, _⟩ ⟨_, _, _, _, _, _, _, _, _, _, _, _⟩ h; simpa [F_ref10_Stream, L_inj, E_inj] using h) (z0, z1, z2, z3, z4, z5, z6, z7, z8, z9, y0, y1) trivial rfl
theorem c_ref10_Flow {z0 z1 z2 z3 z4 z5 z6 z7 z8 z9 : Int} {y0 y1 : List Item} {y2 : List Event} {k_ : PV → Prop} : CALL ρ 103 [I z0, I z1, I z2, I z3, I z4, I z5, I z6, I z7, I z8, I z9, L y0, L y1, L y2] 1 k_ = k_ (bb (flowOk (Config.mk z0 z1 z2 z3 z4 z5 z6) (Stream.mk z7 z8 z9 y0 y1) y2)) := CALL_T (F := F_ref10_Flow) rfl (by rintro ⟨_, _, _, _, _, _, _, _, _, _, _, _, _⟩ ⟨_, _, _, _, _, _, _, _, _, _, _, _, _⟩ h; simpa [F_ref10_Flow, L_inj, E_inj] using h) (z0, z1, z2, z3, z4, z5, z6, z7, z8, z9, y0, y1, y2) trivial rfl
theorem c_graft_link {z0 z1 z2 : Int} {k_ : PV → Prop} : CALL ρ 150 [I z0, I z1, I z2] 1 k_ = k_ (bb (link z0 z1 z2)) := CALL_T (F := F_graft_link) rfl (by rintro ⟨_, _, _⟩ ⟨_, _, _⟩ h; simpa [F_graft_link, L_inj, E_inj] using h) (z0, z1, z2) trivial rfl
theorem c_ref10_near {z0 z1 z2 : Int} {k_ : PV → Prop} : CALL ρ 100 [I z0, I z1, I z2] 1 k_ = k_ (bb (link z0 z1 z2)) := CALL_T (F := F_ref10_near) rfl (by rintro ⟨_, _, _⟩ ⟨_, _, _⟩ h; simpa [F_ref10_near, L_inj, E_inj] using h) (z0, z1, z2) trivial rfl
theorem c_graft_rooted {z0 : Int} {z1 z2 : Bool} {z3 z4 z5 z6 z7 z8 : Int} {z9 : List Int} {y0 : List Kid} {y1 y2 y3 : Int} {y4 y5 : List Item} {y6 : List Event} {k_ : PV → Prop} : CALL ρ 151 [I z0, bb z1, bb z2, I z3, I z4, I z5, I z6, I z7, I z8, L z9, L y0, I y1, I y2, I y3, L y4, L y5, L y6] 1 k_ = k_ (bb (rootOk z0 (Topic.mk z1 z2 z3 z4 z5 z6 z7 z8 z9 y0 (Stream.mk y1 y2 y3 y4 y5) y6))) := CALL_T (F := F_graft_rooted) rfl (by rintro ⟨_, _, _, _, _, _, _, _, _, _, _, _, _, _, _, _, _⟩ ⟨_, _, _, _, _, _, _, _, _, _, _, _, _, _, _, _, _⟩ h; simpa [F_graft_rooted, L_inj, E_inj] using h) (z0, z1, z2, z3, z4, z5, z6, z7, z8, z9, y0, y1, y2, y3, y4, y5, y6) trivial rfl
theorem c_graft_placed {z0 z1 : Bool} {z2 z3 z4 z5 z6 z7 : Int} {z8 : List Int} {z9 : List Kid} {y0 y1 y2 : Int} {y3 y4 : List Item} {y5 : List Event} {k_ : PV → Prop} (h : 0 ≤ (Topic.mk z0 z1 z2 z3 z4 z5 z6 z7 z8 z9 (Stream.mk y0 y1 y2 y3 y4) y5).parent ∧ (Topic.mk z0 z1 z2 z3 z4 z5 z6 z7 z8 z9 (Stream.mk y0 y1 y2 y3 y4) y5).parent ≤ 8) : CALL ρ 152 [bb z0, bb z1, I z2, I z3, I z4, I z5, I z6, I z7, L z8, L z9, I y0, I y1, I y2, L y3, L y4, L y5] 1 k_ = k_ (bb (placedOk (Topic.mk z0 z1 z2 z3 z4 z5 z6 z7 z8 z9 (Stream.mk y0 y1 y2 y3 y4) y5))) := CALL_T (F := F_graft_placed) rfl (by rintro ⟨_, _, _, _, _, _, _, _, _, _, _, _, _, _, _, _⟩ ⟨_, _, _, _, _, _, _, _, _, _, _, _, _, _, _, _⟩ h; simpa [F_graft_placed, L_inj, E_inj] using h) (z0, z1, z2, z3, z4, z5, z6, z7, z8, z9, y0, y1, y2, y3, y4, y5) h rfl
theorem c_graft_right {z0 z1 z2 z3 z4 z5 z6 z7 z8 : Int} {z9 y0 : Bool} {y1 y2 y3 y4 y5 y6 : Int} {y7 : List Int} {y8 : List Kid} {y9 x0 x1 : Int} {x2 x3 : List Item} {x4 : List Event} {k_ : PV → Prop} (h : cfgOk (Config.mk z0 z1 z2 z3 z4 z5 z6) = true) : CALL ρ 138 [I z0, I z1, I z2, I z3, I z4, I z5, I z6, I z7, I z8, bb z9, bb y0, I y1, I y2, I y3, I y4, I y5, I y6, L y7, L y8, I y9, I x0, I x1, L x2, L x3, L x4] 1 k_ = k_ (bb (topicOk (Config.mk z0 z1 z2 z3 z4 z5 z6) z7 z8 (Topic.mk z9 y0 y1 y2 y3 y4 y5 y6 y7 y8 (Stream.mk y9 x0 x1 x2 x3) x4))) := CALL_T (F := F_graft_right) rfl (by rintro ⟨_, _, _, _, _, _, _, _, _, _, _, _, _, _, _, _, _, _, _, _, _, _, _, _, _⟩ ⟨_, _, _, _, _, _, _, _, _, _, _, _, _, _, _, _, _, _, _, _, _, _, _, _, _⟩ h; simpa [F_graft_right, L_inj, E_inj] using h) (z0, z1, z2, z3, z4, z5, z6, z7, z8, z9, y0, y1, y2, y3, y4, y5, y6, y7, y8, y9, x0, x1, x2, x3, x4) h rfl
theorem c_graft_Check {z0 z1 z2 z3 z4 z5 z6 z7 z8 : Int} {z9 y0 : Bool} {y1 y2 y3 y4 y5 y6 : Int} {y7 : List Int} {y8 : List Kid} {y9 x0 x1 : Int} {x2 x3 : List Item} {x4 : List Event} {k_ : PV → Prop} : CALL ρ 115 [I z0, I z1, I z2, I z3, I z4, I z5, I z6, I z7, I z8, bb z9, bb y0, I y1, I y2, I y3, I y4, I y5, I y6, L y7, L y8, I y9, I x0, I x1, L x2, L x3, L x4] 1 k_ = k_ (I (if cfgOk (Config.mk z0 z1 z2 z3 z4 z5 z6) = true then (if (place (Config.mk z0 z1 z2 z3 z4 z5 z6) z7 z8 && topicOk (Config.mk z0 z1 z2 z3 z4 z5 z6) z7 z8 (Topic.mk z9 y0 y1 y2 y3 y4 y5 y6 y7 y8 (Stream.mk y9 x0 x1 x2 x3) x4)) = true then 0 else 1) else 13)) := CALL_T (F := F_graft_Check) rfl (by rintro ⟨_, _, _, _, _, _, _, _, _, _, _, _, _, _, _, _, _, _, _, _, _, _, _, _, _⟩ ⟨_, _, _, _, _, _, _, _, _, _, _, _, _, _, _, _, _, _, _, _, _, _, _, _, _⟩ h; simpa [F_graft_Check, L_inj, E_inj] using h) (z0, z1, z2, z3, z4, z5, z6, z7, z8, z9, y0, y1, y2, y3, y4, y5, y6, y7, y8, y9, x0, x1, x2, x3, x4) trivial rfl
theorem c_ref10_Topic {z0 z1 z2 z3 z4 z5 z6 z7 z8 : Int} {z9 y0 : Bool} {y1 y2 y3 y4 y5 y6 : Int} {y7 : List Int} {y8 : List Kid} {y9 x0 x1 : Int} {x2 x3 : List Item} {x4 : List Event} {k_ : PV → Prop} (h : cfgOk (Config.mk z0 z1 z2 z3 z4 z5 z6) = true ∧ place (Config.mk z0 z1 z2 z3 z4 z5 z6) z7 z8 = true) : CALL ρ 64 [I z0, I z1, I z2, I z3, I z4, I z5, I z6, I z7, I z8, bb z9, bb y0, I y1, I y2, I y3, I y4, I y5, I y6, L y7, L y8, I y9, I x0, I x1, L x2, L x3, L x4] 1 k_ = k_ (bb (topicOk (Config.mk z0 z1 z2 z3 z4 z5 z6) z7 z8 (Topic.mk z9 y0 y1 y2 y3 y4 y5 y6 y7 y8 (Stream.mk y9 x0 x1 x2 x3) x4))) := CALL_T (F := F_ref10_Topic) rfl (by rintro ⟨_, _, _, _, _, _, _, _, _, _, _, _, _, _, _, _, _, _, _, _, _, _, _, _, _⟩ ⟨_, _, _, _, _, _, _, _, _, _, _, _, _, _, _, _, _, _, _, _, _, _, _, _, _⟩ h; simpa [F_ref10_Topic, L_inj, E_inj] using h) (z0, z1, z2, z3, z4, z5, z6, z7, z8, z9, y0, y1, y2, y3, y4, y5, y6, y7, y8, y9, x0, x1, x2, x3, x4) h rfl
theorem c_cast_calls {z0 z1 z2 z3 z4 z5 z6 : Int} {z7 : Bool} {z8 : Int} {z9 : List Peer} {y0 : List Topic} {y1 : List Call} {y2 y3 : Int} {y4 : List Mark} {y5 : List Mark2} {k_ : PV → Prop} (h : cfgOk (Config.mk z0 z1 z2 z3 z4 z5 z6) = true) : CALL ρ 114 [I z0, I z1, I z2, I z3, I z4, I z5, I z6, bb z7, I z8, L z9, L y0, L y1, I y2, I y3, L y4, L y5] 1 k_ = k_ (bb (callsGo (Config.mk z0 z1 z2 z3 z4 z5 z6) (Node.mk z7 z8 z9 y0 y1 y2 y3 y4 y5).asks 0 (Node.mk z7 z8 z9 y0 y1 y2 y3 y4 y5).calls && decide ((Node.mk z7 z8 z9 y0 y1 y2 y3 y4 y5).calls.length ≤ 40))) := CALL_T (F := F_cast_calls) rfl (by rintro ⟨_, _, _, _, _, _, _, _, _, _, _, _, _, _, _, _⟩ ⟨_, _, _, _, _, _, _, _, _, _, _, _, _, _, _, _⟩ h; simpa [F_cast_calls, L_inj, E_inj] using h) (z0, z1, z2, z3, z4, z5, z6, z7, z8, z9, y0, y1, y2, y3, y4, y5) h rfl
theorem c_cast_mark {z0 z1 z2 : Int} {k_ : PV → Prop} : CALL ρ 117 [I z0, I z1, I z2] 1 k_ = k_ (bb (markOk (Mark.mk z0 z1 z2))) := CALL_T (F := F_cast_mark) rfl (by rintro ⟨_, _, _⟩ ⟨_, _, _⟩ h; simpa [F_cast_mark, L_inj, E_inj] using h) (z0, z1, z2) trivial rfl
theorem c_cast_taken {z0 z1 z2 z3 z4 z5 z6 z7 z8 z9 y0 y1 : Int} {k_ : PV → Prop} (h : cfgOk (Config.mk z0 z1 z2 z3 z4 z5 z6) = true) : CALL ρ 121 [I z0, I z1, I z2, I z3, I z4, I z5, I z6, I z7, I z8, I z9, I y0, I y1] 1 k_ = k_ (bb (takenOk (Config.mk z0 z1 z2 z3 z4 z5 z6) (Mark2.mk z7 z8 z9 y0 y1))) := CALL_T (F := F_cast_taken) rfl (by rintro ⟨_, _, _, _, _, _, _, _, _, _, _, _⟩ ⟨_, _, _, _, _, _, _, _, _, _, _, _⟩ h; simpa [F_cast_taken, L_inj, E_inj] using h) (z0, z1, z2, z3, z4, z5, z6, z7, z8, z9, y0, y1) h rfl
theorem c_cast_right {z0 z1 z2 z3 z4 z5 z6 z7 : Int} {z8 : Bool} {z9 : Int} {y0 : List Peer} {y1 : List Topic} {y2 : List Call} {y3 y4 : Int} {y5 : List Mark} {y6 : List Mark2} {k_ : PV → Prop} (h : cfgOk (Config.mk z0 z1 z2 z3 z4 z5 z6) = true ∧ rng z7 0 ((Config.mk z0 z1 z2 z3 z4 z5 z6).nodes - 1) = true) : CALL ρ 84 [I z0, I z1, I z2, I z3, I z4, I z5, I z6, I z7, bb z8, I z9, L y0, L y1, L y2, I y3, I y4, L y5, L y6] 1 k_ = k_ (bb (nodeOk (Config.mk z0 z1 z2 z3 z4 z5 z6) z7 (Node.mk z8 z9 y0 y1 y2 y3 y4 y5 y6))) := CALL_T (F := F_cast_right) rfl (by rintro ⟨_, _, _, _, _, _, _, _, _, _, _, _, _, _, _, _, _⟩ ⟨_, _, _, _, _, _, _, _, _, _, _, _, _, _, _, _, _⟩ h; simpa [F_cast_right, L_inj, E_inj] using h) (z0, z1, z2, z3, z4, z5, z6, z7, z8, z9, y0, y1, y2, y3, y4, y5, y6) h rfl
theorem c_cast_Check {z0 z1 z2 z3 z4 z5 z6 z7 : Int} {z8 : Bool} {z9 : Int} {y0 : List Peer} {y1 : List Topic} {y2 : List Call} {y3 y4 : Int} {y5 : List Mark} {y6 : List Mark2} {k_ : PV → Prop} : CALL ρ 51 [I z0, I z1, I z2, I z3, I z4, I z5, I z6, I z7, bb z8, I z9, L y0, L y1, L y2, I y3, I y4, L y5, L y6] 1 k_ = k_ (I (nodeWhy (Config.mk z0 z1 z2 z3 z4 z5 z6) z7 (Node.mk z8 z9 y0 y1 y2 y3 y4 y5 y6))) := CALL_T (F := F_cast_Check) rfl (by rintro ⟨_, _, _, _, _, _, _, _, _, _, _, _, _, _, _, _, _⟩ ⟨_, _, _, _, _, _, _, _, _, _, _, _, _, _, _, _, _⟩ h; simpa [F_cast_Check, L_inj, E_inj] using h) (z0, z1, z2, z3, z4, z5, z6, z7, z8, z9, y0, y1, y2, y3, y4, y5, y6) trivial rfl
theorem c_ref19_Node {z0 z1 z2 z3 z4 z5 z6 z7 : Int} {z8 : Bool} {z9 : Int} {y0 : List Peer} {y1 : List Topic} {y2 : List Call} {y3 y4 : Int} {y5 : List Mark} {y6 : List Mark2} {k_ : PV → Prop} (h : cfgOk (Config.mk z0 z1 z2 z3 z4 z5 z6) = true ∧ rng z7 0 ((Config.mk z0 z1 z2 z3 z4 z5 z6).nodes - 1) = true) : CALL ρ 39 [I z0, I z1, I z2, I z3, I z4, I z5, I z6, I z7, bb z8, I z9, L y0, L y1, L y2, I y3, I y4, L y5, L y6] 1 k_ = k_ (bb (nodeOk (Config.mk z0 z1 z2 z3 z4 z5 z6) z7 (Node.mk z8 z9 y0 y1 y2 y3 y4 y5 y6))) := CALL_T (F := F_ref19_Node) rfl (by rintro ⟨_, _, _, _, _, _, _, _, _, _, _, _, _, _, _, _, _⟩ ⟨_, _, _, _, _, _, _, _, _, _, _, _, _, _, _, _, _⟩ h; simpa [F_ref19_Node, L_inj, E_inj] using h) (z0, z1, z2, z3, z4, z5, z6, z7, z8, z9, y0, y1, y2, y3, y4, y5, y6) h rfl
theorem c_bkeep_Peers {z0 z1 : List Peer} {k_ : PV → Prop} : CALL ρ 59 [L z0, L z1] 1 k_ = k_ (bb (decide (z0 = z1))) := CALL_T (F := F_bkeep_Peers) rfl (by rintro ⟨_, _⟩ ⟨_, _⟩ h; simpa [F_bkeep_Peers, L_inj, E_inj] using h) (z0, z1) trivial rfl
theorem c_bkeep_Kids {z0 z1 : List Kid} {k_ : PV → Prop} : CALL ρ 95 [L z0, L z1] 1 k_ = k_ (bb (decide (z0 = z1))) := CALL_T (F := F_bkeep_Kids) rfl (by rintro ⟨_, _⟩ ⟨_, _⟩ h; simpa [F_bkeep_Kids, L_inj, E_inj] using h) (z0, z1) trivial rfl
theorem c_bkeep_Items {z0 z1 : List Item} {k_ : PV → Prop} : CALL ρ 125 [L z0, L z1] 1 k_ = k_ (bb (decide (z0 = z1))) := CALL_T (F := F_bkeep_Items) rfl (by rintro ⟨_, _⟩ ⟨_, _⟩ h; simpa [F_bkeep_Items, L_inj, E_inj] using h) (z0, z1) trivial rfl
theorem c_bkeep_Events {z0 z1 : List Event} {k_ : PV → Prop} : CALL ρ 97 [L z0, L z1] 1 k_ = k_ (bb (decide (z0 = z1))) := CALL_T (F := F_bkeep_Events) rfl (by rintro ⟨_, _⟩ ⟨_, _⟩ h; simpa [F_bkeep_Events, L_inj, E_inj] using h) (z0, z1) trivial rfl
theorem c_bkeep_Bytes {z0 z1 : List By} {k_ : PV → Prop} : CALL ρ 94 [L z0, L z1] 1 k_ = k_ (bb (decide (z0 = z1))) := CALL_T (F := F_bkeep_Bytes) rfl (by rintro ⟨_, _⟩ ⟨_, _⟩ h; simpa [F_bkeep_Bytes, L_inj, E_inj] using h) (z0, z1) trivial rfl
theorem c_bkeep_Frame {z0 : Int} {z1 : List By} {z2 : Int} {z3 : List By} {k_ : PV → Prop} : CALL ρ 58 [I z0, L z1, I z2, L z3] 1 k_ = k_ (bb (decide ((Frame.mk z0 z1) = (Frame.mk z2 z3)))) := CALL_T (F := F_bkeep_Frame) rfl (by rintro ⟨_, _, _, _⟩ ⟨_, _, _, _⟩ h; simpa [F_bkeep_Frame, L_inj, E_inj] using h) (z0, z1, z2, z3) trivial rfl
theorem c_bkeep_Frames {z0 z1 : List Frame} {k_ : PV → Prop} : CALL ρ 35 [L z0, L z1] 1 k_ = k_ (bb (decide (z0 = z1))) := CALL_T (F := F_bkeep_Frames) rfl (by rintro ⟨_, _⟩ ⟨_, _⟩ h; simpa [F_bkeep_Frames, L_inj, E_inj] using h) (z0, z1) trivial rfl
theorem c_bkeep_Stream {z0 z1 z2 : Int} {z3 z4 : List Item} {z5 z6 z7 : Int} {z8 z9 : List Item} {k_ : PV → Prop} : CALL ρ 96 [I z0, I z1, I z2, L z3, L z4, I z5, I z6, I z7, L z8, L z9] 1 k_ = k_ (bb (decide ((Stream.mk z0 z1 z2 z3 z4) = (Stream.mk z5 z6 z7 z8 z9)))) := CALL_T (F := F_bkeep_Stream) rfl (by rintro ⟨_, _, _, _, _, _, _, _, _, _⟩ ⟨_, _, _, _, _, _, _, _, _, _⟩ h; simpa [F_bkeep_Stream, L_inj, E_inj] using h) (z0, z1, z2, z3, z4, z5, z6, z7, z8, z9) trivial rfl
theorem c_bkeep_Topic {z0 z1 : Bool} {z2 z3 z4 z5 z6 z7 : Int} {z8 : List Int} {z9 : List Kid} {y0 y1 y2 : Int} {y3 y4 : List Item} {y5 : List Event} {y6 y7 : Bool} {y8 y9 x0 x1 x2 x3 : Int} {x4 : List Int} {x5 : List Kid} {x6 x7 x8 : Int} {x9 w0 : List Item} {w1 : List Event} {k_ : PV → Prop} : CALL ρ 60 [bb z0, bb z1, I z2, I z3, I z4, I z5, I z6, I z7, L z8, L z9, I y0, I y1, I y2, L y3, L y4, L y5, bb y6, bb y7, I y8, I y9, I x0, I x1, I x2, I x3, L x4, L x5, I x6, I x7, I x8, L x9, L w0, L w1] 1 k_ = k_ (bb (decide ((Topic.mk z0 z1 z2 z3 z4 z5 z6 z7 z8 z9 (Stream.mk y0 y1 y2 y3 y4) y5) = (Topic.mk y6 y7 y8 y9 x0 x1 x2 x3 x4 x5 (Stream.mk x6 x7 x8 x9 w0) w1)))) := CALL_T (F := F_bkeep_Topic) rfl (by rintro ⟨_, _, _, _, _, _, _, _, _, _, _, _, _, _, _, _, _, _, _, _, _, _, _, _, _, _, _, _, _, _, _, _⟩ ⟨_, _, _, _, _, _, _, _, _, _, _, _, _, _, _, _, _, _, _, _, _, _, _, _, _, _, _, _, _, _, _, _⟩ h; simpa [F_bkeep_Topic, L_inj, E_inj] using h) (z0, z1, z2, z3, z4, z5, z6, z7, z8, z9, y0, y1, y2, y3, y4, y5, y6, y7, y8, y9, x0, x1, x2, x3, x4, x5, x6, x7, x8, x9, w0, w1) trivial rfl
theorem c_bkeep_Node {z0 : Bool} {z1 : Int} {z2 : List Peer} {z3 : List Topic} {z4 : List Call} {z5 z6 : Int} {z7 : List Mark} {z8 : List Mark2} {z9 : Bool} {y0 : Int} {y1 : List Peer} {y2 : List Topic} {y3 : List Call} {y4 y5 : Int} {y6 : List Mark} {y7 : List Mark2} {k_ : PV → Prop} : CALL ρ 36 [bb z0, I z1, L z2, L z3, L z4, I z5, I z6, L z7, L z8, bb z9, I y0, L y1, L y2, L y3, I y4, I y5, L y6, L y7] 1 k_ = k_ (bb (decide ((Node.mk z0 z1 z2 z3 z4 z5 z6 z7 z8) = (Node.mk z9 y0 y1 y2 y3 y4 y5 y6 y7)))) := CALL_T (F := F_bkeep_Node) rfl (by rintro ⟨_, _, _, _, _, _, _, _, _, _, _, _, _, _, _, _, _, _⟩ ⟨_, _, _, _, _, _, _, _, _, _, _, _, _, _, _, _, _, _⟩ h; simpa [F_bkeep_Node, L_inj, E_inj] using h) (z0, z1, z2, z3, z4, z5, z6, z7, z8, z9, y0, y1, y2, y3, y4, y5, y6, y7) trivial rfl
theorem c_bkeep_World {z0 : List Node} {z1 : List Frame} {z2 : List Node} {z3 : List Frame} {k_ : PV → Prop} : CALL ρ 12 [L z0, L z1, L z2, L z3] 1 k_ = k_ (bb (decide ((World.mk z0 z1) = (World.mk z2 z3)))) := CALL_T (F := F_bkeep_World) rfl (by rintro ⟨_, _, _, _⟩ ⟨_, _, _, _⟩ h; simpa [F_bkeep_World, L_inj, E_inj] using h) (z0, z1, z2, z3) trivial rfl
theorem c_bkeep_TwinKids {z0 : List Kid} {k_ : PV → Prop} (h : z0.length ≤ 1000000) : CALL ρ 71 [L z0] 1 k_ = k_ (L z0) := CALL_T (F := F_bkeep_TwinKids) rfl (by intro a b h; simpa [F_bkeep_TwinKids, L_inj, E_inj] using h) z0 h rfl
theorem c_bkeep_TwinItems {z0 : List Item} {k_ : PV → Prop} (h : z0.length ≤ 1000000) : CALL ρ 104 [L z0] 1 k_ = k_ (L z0) := CALL_T (F := F_bkeep_TwinItems) rfl (by intro a b h; simpa [F_bkeep_TwinItems, L_inj, E_inj] using h) z0 h rfl
theorem c_bkeep_TwinEvents {z0 : List Event} {k_ : PV → Prop} (h : z0.length ≤ 1000000) : CALL ρ 73 [L z0] 1 k_ = k_ (L z0) := CALL_T (F := F_bkeep_TwinEvents) rfl (by intro a b h; simpa [F_bkeep_TwinEvents, L_inj, E_inj] using h) z0 h rfl
theorem c_bkeep_TwinPeers {z0 : List Peer} {k_ : PV → Prop} (h : z0.length ≤ 1000000) : CALL ρ 45 [L z0] 1 k_ = k_ (L z0) := CALL_T (F := F_bkeep_TwinPeers) rfl (by intro a b h; simpa [F_bkeep_TwinPeers, L_inj, E_inj] using h) z0 h rfl
theorem c_bkeep_Twin {z0 : List By} {k_ : PV → Prop} (h : z0.length ≤ 140737488355328) : CALL ρ 47 [L z0] 1 k_ = k_ (L z0) := CALL_T (F := F_bkeep_Twin) rfl (by intro a b h; simpa [F_bkeep_Twin, L_inj, E_inj] using h) z0 h rfl
theorem c_bkeep_TwinStream {z0 z1 z2 : Int} {z3 z4 : List Item} {k_ : PV → PV → PV → PV → PV → Prop} (h : (Stream.mk z0 z1 z2 z3 z4).kept.length ≤ 1000000 ∧ (Stream.mk z0 z1 z2 z3 z4).ahead.length ≤ 1000000) : CALL ρ 72 [I z0, I z1, I z2, L z3, L z4] 5 k_ = k_ (I (Stream.mk z0 z1 z2 z3 z4).epoch) (I (Stream.mk z0 z1 z2 z3 z4).want) (I (Stream.mk z0 z1 z2 z3 z4).known) (L (Stream.mk z0 z1 z2 z3 z4).kept) (L (Stream.mk z0 z1 z2 z3 z4).ahead) := CALL_T (F := F_bkeep_TwinStream) rfl (by rintro ⟨_, _, _, _, _⟩ ⟨_, _, _, _, _⟩ h; simpa [F_bkeep_TwinStream, L_inj, E_inj] using h) (z0, z1, z2, z3, z4) h rfl
theorem c_bkeep_TwinTopic {z0 z1 : Bool} {z2 z3 z4 z5 z6 z7 : Int} {z8 : List Int} {z9 : List Kid} {y0 y1 y2 : Int} {y3 y4 : List Item} {y5 : List Event} {k_ : PV → PV → PV → PV → PV → PV → PV → PV → PV → PV → PV → PV → PV → PV → PV → PV → Prop} (h : heavy19 (Topic.mk z0 z1 z2 z3 z4 z5 z6 z7 z8 z9 (Stream.mk y0 y1 y2 y3 y4) y5) = false) : CALL ρ 46 [bb z0, bb z1, I z2, I z3, I z4, I z5, I z6, I z7, L z8, L z9, I y0, I y1, I y2, L y3, L y4, L y5] 16 k_ = k_ (bb (Topic.mk z0 z1 z2 z3 z4 z5 z6 z7 z8 z9 (Stream.mk y0 y1 y2 y3 y4) y5).made) (bb (Topic.mk z0 z1 z2 z3 z4 z5 z6 z7 z8 z9 (Stream.mk y0 y1 y2 y3 y4) y5).sub) (I (Topic.mk z0 z1 z2 z3 z4 z5 z6 z7 z8 z9 (Stream.mk y0 y1 y2 y3 y4) y5).top) (I (Topic.mk z0 z1 z2 z3 z4 z5 z6 z7 z8 z9 (Stream.mk y0 y1 y2 y3 y4) y5).root) (I (Topic.mk z0 z1 z2 z3 z4 z5 z6 z7 z8 z9 (Stream.mk y0 y1 y2 y3 y4) y5).parent) (I (Topic.mk z0 z1 z2 z3 z4 z5 z6 z7 z8 z9 (Stream.mk y0 y1 y2 y3 y4) y5).asked) (I (Topic.mk z0 z1 z2 z3 z4 z5 z6 z7 z8 z9 (Stream.mk y0 y1 y2 y3 y4) y5).other) (I (Topic.mk z0 z1 z2 z3 z4 z5 z6 z7 z8 z9 (Stream.mk y0 y1 y2 y3 y4) y5).age) (L (Topic.mk z0 z1 z2 z3 z4 z5 z6 z7 z8 z9 (Stream.mk y0 y1 y2 y3 y4) y5).path) (L (Topic.mk z0 z1 z2 z3 z4 z5 z6 z7 z8 z9 (Stream.mk y0 y1 y2 y3 y4) y5).kids) (I (Topic.mk z0 z1 z2 z3 z4 z5 z6 z7 z8 z9 (Stream.mk y0 y1 y2 y3 y4) y5).stream.epoch) (I (Topic.mk z0 z1 z2 z3 z4 z5 z6 z7 z8 z9 (Stream.mk y0 y1 y2 y3 y4) y5).stream.want) (I (Topic.mk z0 z1 z2 z3 z4 z5 z6 z7 z8 z9 (Stream.mk y0 y1 y2 y3 y4) y5).stream.known) (L (Topic.mk z0 z1 z2 z3 z4 z5 z6 z7 z8 z9 (Stream.mk y0 y1 y2 y3 y4) y5).stream.kept) (L (Topic.mk z0 z1 z2 z3 z4 z5 z6 z7 z8 z9 (Stream.mk y0 y1 y2 y3 y4) y5).stream.ahead) (L (Topic.mk z0 z1 z2 z3 z4 z5 z6 z7 z8 z9 (Stream.mk y0 y1 y2 y3 y4) y5).queue) := CALL_T (F := F_bkeep_TwinTopic) rfl (by rintro ⟨_, _, _, _, _, _, _, _, _, _, _, _, _, _, _, _⟩ ⟨_, _, _, _, _, _, _, _, _, _, _, _, _, _, _, _⟩ h; simpa [F_bkeep_TwinTopic, L_inj, E_inj] using h) (z0, z1, z2, z3, z4, z5, z6, z7, z8, z9, y0, y1, y2, y3, y4, y5) h rfl
theorem c_bkeep_TwinNode {z0 : Bool} {z1 : Int} {z2 : List Peer} {z3 : List Topic} {z4 : List Call} {z5 z6 : Int} {z7 : List Mark} {z8 : List Mark2} {k_ : PV → PV → PV → PV → PV → PV → PV → PV → PV → Prop} (h : heavy21 (Node.mk z0 z1 z2 z3 z4 z5 z6 z7 z8) = false) : CALL ρ 22 [bb z0, I z1, L z2, L z3, L z4, I z5, I z6, L z7, L z8] 9 k_ = k_ (bb (Node.mk z0 z1 z2 z3 z4 z5 z6 z7 z8).up) (I (Node.mk z0 z1 z2 z3 z4 z5 z6 z7 z8).inc) (L (Node.mk z0 z1 z2 z3 z4 z5 z6 z7 z8).peers) (L (Node.mk z0 z1 z2 z3 z4 z5 z6 z7 z8).topics) (L (Node.mk z0 z1 z2 z3 z4 z5 z6 z7 z8).calls) (I (Node.mk z0 z1 z2 z3 z4 z5 z6 z7 z8).pubs) (I (Node.mk z0 z1 z2 z3 z4 z5 z6 z7 z8).asks) (L (Node.mk z0 z1 z2 z3 z4 z5 z6 z7 z8).marks) (L (Node.mk z0 z1 z2 z3 z4 z5 z6 z7 z8).taken) := CALL_T (F := F_bkeep_TwinNode) rfl (by rintro ⟨_, _, _, _, _, _, _, _, _⟩ ⟨_, _, _, _, _, _, _, _, _⟩ h; simpa [F_bkeep_TwinNode, L_inj, E_inj] using h) (z0, z1, z2, z3, z4, z5, z6, z7, z8) h rfl
theorem c_bkeep_TwinFrames {z0 : List Frame} {k_ : PV → Prop} (h : z0.length ≤ 1000 ∧ ∀ f ∈ z0, f.bytes.length ≤ 140737488355328) : CALL ρ 23 [L z0] 1 k_ = k_ (L z0) := CALL_T (F := F_bkeep_TwinFrames) rfl (by intro a b h; simpa [F_bkeep_TwinFrames, L_inj, E_inj] using h) z0 h rfl
theorem c_bkeep_TwinWorld {z0 : List Node} {z1 : List Frame} {k_ : PV → PV → Prop} (h : (World.mk z0 z1).nodes.length ≤ 10 ∧ (World.mk z0 z1).nodes.any heavy21 = false ∧ (World.mk z0 z1).bag.length ≤ 1000 ∧ ∀ f ∈ (World.mk z0 z1).bag, f.bytes.length ≤ 140737488355328) : CALL ρ 6 [L z0, L z1] 2 k_ = k_ (L (World.mk z0 z1).nodes) (L (World.mk z0 z1).bag) := CALL_T (F := F_bkeep_TwinWorld) rfl (by rintro ⟨_, _⟩ ⟨_, _⟩ h; simpa [F_bkeep_TwinWorld, L_inj, E_inj] using h) (z0, z1) h rfl
theorem c_law18_Heavy {z0 z1 z2 : Int} {z3 z4 : List Item} {z5 : List Event} {k_ : PV → Prop} : CALL ρ 69 [I z0, I z1, I z2, L z3, L z4, L z5] 1 k_ = k_ (bb (heavy18 (Stream.mk z0 z1 z2 z3 z4) z5)) := CALL_T (F := F_law18_Heavy) rfl (by rintro ⟨_, _, _, _, _, _⟩ ⟨_, _, _, _, _, _⟩ h; simpa [F_law18_Heavy, L_inj, E_inj] using h) (z0, z1, z2, z3, z4, z5) trivial rfl
theorem c_law19_Heavy {z0 z1 : Bool} {z2 z3 z4 z5 z6 z7 : Int} {z8 : List Int} {z9 : List Kid} {y0 y1 y2 : Int} {y3 y4 : List Item} {y5 : List Event} {k_ : PV → Prop} : CALL ρ 44 [bb z0, bb z1, I z2, I z3, I z4, I z5, I z6, I z7, L z8, L z9, I y0, I y1, I y2, L y3, L y4, L y5] 1 k_ = k_ (bb (heavy19 (Topic.mk z0 z1 z2 z3 z4 z5 z6 z7 z8 z9 (Stream.mk y0 y1 y2 y3 y4) y5))) := CALL_T (F := F_law19_Heavy) rfl (by rintro ⟨_, _, _, _, _, _, _, _, _, _, _, _, _, _, _, _⟩ ⟨_, _, _, _, _, _, _, _, _, _, _, _, _, _, _, _⟩ h; simpa [F_law19_Heavy, L_inj, E_inj] using h) (z0, z1, z2, z3, z4, z5, z6, z7, z8, z9, y0, y1, y2, y3, y4, y5) trivial rfl
theorem c_law21_Heavy {z0 : Bool} {z1 : Int} {z2 : List Peer} {z3 : List Topic} {z4 : List Call} {z5 z6 : Int} {z7 : List Mark} {z8 : List Mark2} {k_ : PV → Prop} : CALL ρ 20 [bb z0, I z1, L z2, L z3, L z4, I z5, I z6, L z7, L z8] 1 k_ = k_ (bb (heavy21 (Node.mk z0 z1 z2 z3 z4 z5 z6 z7 z8))) := CALL_T (F := F_law21_Heavy) rfl (by rintro ⟨_, _, _, _, _, _, _, _, _⟩ ⟨_, _, _, _, _, _, _, _, _⟩ h; simpa [F_law21_Heavy, L_inj, E_inj] using h) (z0, z1, z2, z3, z4, z5, z6, z7, z8) trivial rfl
theorem c_law08_Heavy {z0 : List Frame} {k_ : PV → Prop} : CALL ρ 21 [L z0] 1 k_ = k_ (bb (heavy08 z0)) := CALL_T (F := F_law08_Heavy) rfl (by intro a b h; simpa [F_law08_Heavy, L_inj, E_inj] using h) z0 trivial rfl
theorem c_law25_Heavy {z0 : List Node} {z1 : List Frame} {k_ : PV → Prop} : CALL ρ 5 [L z0, L z1] 1 k_ = k_ (bb (heavy25 (World.mk z0 z1))) := CALL_T (F := F_law25_Heavy) rfl (by rintro ⟨_, _⟩ ⟨_, _⟩ h; simpa [F_law25_Heavy, L_inj, E_inj] using h) (z0, z1) trivial rfl
theorem c_bag_right {z0 : Int} {z1 : List By} {k_ : PV → Prop} : CALL ρ 82 [I z0, L z1] 1 k_ = k_ (bb (frameOk (Frame.mk z0 z1))) := CALL_T (F := F_bag_right) rfl (by rintro ⟨_, _⟩ ⟨_, _⟩ h; simpa [F_bag_right, L_inj, E_inj] using h) (z0, z1) trivial rfl
theorem c_bag_Check {z0 : List Frame} {k_ : PV → Prop} : CALL ρ 50 [L z0] 1 k_ = k_ (I (bagWhy z0)) := CALL_T (F := F_bag_Check) rfl (by intro a b h; simpa [F_bag_Check, L_inj, E_inj] using h) z0 trivial rfl
theorem c_ref01_Frame {z0 : Int} {z1 : List By} {k_ : PV → Prop} : CALL ρ 61 [I z0, L z1] 1 k_ = k_ (bb (frameOk (Frame.mk z0 z1))) := CALL_T (F := F_ref01_Frame) rfl (by rintro ⟨_, _⟩ ⟨_, _⟩ h; simpa [F_ref01_Frame, L_inj, E_inj] using h) (z0, z1) trivial rfl
theorem c_ref01_Bag {z0 : List Frame} {k_ : PV → Prop} : CALL ρ 38 [L z0] 1 k_ = k_ (I (bagWhy z0)) := CALL_T (F := F_ref01_Bag) rfl (by intro a b h; simpa [F_ref01_Bag, L_inj, E_inj] using h) z0 trivial rfl
theorem c_world_bare {z0 z1 : Bool} {z2 z3 z4 z5 z6 z7 : Int} {z8 : List Int} {z9 : List Kid} {y0 y1 y2 : Int} {y3 y4 : List Item} {y5 : List Event} {k_ : PV → Prop} : CALL ρ 90 [bb z0, bb z1, I z2, I z3, I z4, I z5, I z6, I z7, L z8, L z9, I y0, I y1, I y2, L y3, L y4, L y5] 1 k_ = k_ (bb (topZ (Topic.mk z0 z1 z2 z3 z4 z5 z6 z7 z8 z9 (Stream.mk y0 y1 y2 y3 y4) y5))) := CALL_T (F := F_world_bare) rfl (by rintro ⟨_, _, _, _, _, _, _, _, _, _, _, _, _, _, _, _⟩ ⟨_, _, _, _, _, _, _, _, _, _, _, _, _, _, _, _⟩ h; simpa [F_world_bare, L_inj, E_inj] using h) (z0, z1, z2, z3, z4, z5, z6, z7, z8, z9, y0, y1, y2, y3, y4, y5) trivial rfl
theorem c_world_down {z0 z1 z2 z3 z4 z5 z6 : Int} {z7 : Bool} {z8 : Int} {z9 : List Peer} {y0 : List Topic} {y1 : List Call} {y2 y3 : Int} {y4 : List Mark} {y5 : List Mark2} {k_ : PV → Prop} (h : cfgOk (Config.mk z0 z1 z2 z3 z4 z5 z6) = true) : CALL ρ 52 [I z0, I z1, I z2, I z3, I z4, I z5, I z6, bb z7, I z8, L z9, L y0, L y1, I y2, I y3, L y4, L y5] 1 k_ = k_ (bb (downOk (Config.mk z0 z1 z2 z3 z4 z5 z6) (Node.mk z7 z8 z9 y0 y1 y2 y3 y4 y5))) := CALL_T (F := F_world_down) rfl (by rintro ⟨_, _, _, _, _, _, _, _, _, _, _, _, _, _, _, _⟩ ⟨_, _, _, _, _, _, _, _, _, _, _, _, _, _, _, _⟩ h; simpa [F_world_down, L_inj, E_inj] using h) (z0, z1, z2, z3, z4, z5, z6, z7, z8, z9, y0, y1, y2, y3, y4, y5) h rfl
theorem c_world_Check {z0 z1 z2 z3 z4 z5 z6 : Int} {z7 : List Node} {z8 : List Frame} {k_ : PV → Prop} : CALL ρ 26 [I z0, I z1, I z2, I z3, I z4, I z5, I z6, L z7, L z8] 1 k_ = k_ (I (worldWhy (Config.mk z0 z1 z2 z3 z4 z5 z6) (World.mk z7 z8))) := CALL_T (F := F_world_Check) rfl (by rintro ⟨_, _, _, _, _, _, _, _, _⟩ ⟨_, _, _, _, _, _, _, _, _⟩ h; simpa [F_world_Check, L_inj, E_inj] using h) (z0, z1, z2, z3, z4, z5, z6, z7, z8) trivial rfl
theorem c_ref19_down {z0 z1 z2 z3 z4 z5 z6 : Int} {z7 : Bool} {z8 : Int} {z9 : List Peer} {y0 : List Topic} {y1 : List Call} {y2 y3 : Int} {y4 : List Mark} {y5 : List Mark2} {k_ : PV → PV → PV → PV → PV → PV → PV → PV → PV → Prop} (h : cfgOk (Config.mk z0 z1 z2 z3 z4 z5 z6) = true ∧ (Config.mk z0 z1 z2 z3 z4 z5 z6).topics ≤ (Node.mk z7 z8 z9 y0 y1 y2 y3 y4 y5).topics.length) : CALL ρ 40 [I z0, I z1, I z2, I z3, I z4, I z5, I z6, bb z7, I z8, L z9, L y0, L y1, I y2, I y3, L y4, L y5] 9 k_ = k_ (bb false) (I (Node.mk z7 z8 z9 y0 y1 y2 y3 y4 y5).inc) (L (blankN (Config.mk z0 z1 z2 z3 z4 z5 z6) (Node.mk z7 z8 z9 y0 y1 y2 y3 y4 y5).inc (Node.mk z7 z8 z9 y0 y1 y2 y3 y4 y5).topics).peers) (L (blankN (Config.mk z0 z1 z2 z3 z4 z5 z6) (Node.mk z7 z8 z9 y0 y1 y2 y3 y4 y5).inc (Node.mk z7 z8 z9 y0 y1 y2 y3 y4 y5).topics).topics) (L (blankN (Config.mk z0 z1 z2 z3 z4 z5 z6) (Node.mk z7 z8 z9 y0 y1 y2 y3 y4 y5).inc (Node.mk z7 z8 z9 y0 y1 y2 y3 y4 y5).topics).calls) (I 0) (I 0) (L (blankN (Config.mk z0 z1 z2 z3 z4 z5 z6) (Node.mk z7 z8 z9 y0 y1 y2 y3 y4 y5).inc (Node.mk z7 z8 z9 y0 y1 y2 y3 y4 y5).topics).marks) (L (blankN (Config.mk z0 z1 z2 z3 z4 z5 z6) (Node.mk z7 z8 z9 y0 y1 y2 y3 y4 y5).inc (Node.mk z7 z8 z9 y0 y1 y2 y3 y4 y5).topics).taken) := CALL_T (F := F_ref19_down) rfl (by rintro ⟨_, _, _, _, _, _, _, _, _, _, _, _, _, _, _, _⟩ ⟨_, _, _, _, _, _, _, _, _, _, _, _, _, _, _, _⟩ h; simpa [F_ref19_down, L_inj, E_inj] using h) (z0, z1, z2, z3, z4, z5, z6, z7, z8, z9, y0, y1, y2, y3, y4, y5) h rfl
theorem c_ref19_World {z0 z1 z2 z3 z4 z5 z6 : Int} {z7 : List Node} {z8 : List Frame} {k_ : PV → Prop} (h : cfgOk (Config.mk z0 z1 z2 z3 z4 z5 z6) = true) : CALL ρ 14 [I z0, I z1, I z2, I z3, I z4, I z5, I z6, L z7, L z8] 1 k_ = k_ (bb (worldOk (Config.mk z0 z1 z2 z3 z4 z5 z6) (World.mk z7 z8))) := CALL_T (F := F_ref19_World) rfl (by rintro ⟨_, _, _, _, _, _, _, _, _⟩ ⟨_, _, _, _, _, _, _, _, _⟩ h; simpa [F_ref19_World, L_inj, E_inj] using h) (z0, z1, z2, z3, z4, z5, z6, z7, z8) h rfl
theorem c_world_blank {z0 z1 z2 z3 z4 z5 z6 z7 : Int} {z8 : List Topic} {k_ : PV → PV → PV → PV → PV → PV → PV → PV → PV → Prop} (h : cfgOk (Config.mk z0 z1 z2 z3 z4 z5 z6) = true ∧ z8.length ≤ (Config.mk z0 z1 z2 z3 z4 z5 z6).topics) : CALL ρ 68 [I z0, I z1, I z2, I z3, I z4, I z5, I z6, I z7, L z8] 9 k_ = k_ (bb false) (I z7) (L (blankN (Config.mk z0 z1 z2 z3 z4 z5 z6) z7 z8).peers) (L (blankN (Config.mk z0 z1 z2 z3 z4 z5 z6) z7 z8).topics) (L (blankN (Config.mk z0 z1 z2 z3 z4 z5 z6) z7 z8).calls) (I 0) (I 0) (L (blankN (Config.mk z0 z1 z2 z3 z4 z5 z6) z7 z8).marks) (L (blankN (Config.mk z0 z1 z2 z3 z4 z5 z6) z7 z8).taken) := CALL_T (F := F_world_blank) rfl (by rintro ⟨_, _, _, _, _, _, _, _, _⟩ ⟨_, _, _, _, _, _, _, _, _⟩ h; simpa [F_world_blank, L_inj, E_inj] using h) (z0, z1, z2, z3, z4, z5, z6, z7, z8) h rfl
theorem c_world_up {z0 : Bool} {z1 : Int} {z2 : List Peer} {z3 : List Topic} {z4 : List Call} {z5 z6 : Int} {z7 : List Mark} {z8 : List Mark2} {k_ : PV → PV → PV → PV → PV → PV → PV → PV → PV → Prop} : CALL ρ 67 [bb z0, I z1, L z2, L z3, L z4, I z5, I z6, L z7, L z8] 9 k_ = k_ (bb true) (I (Node.mk z0 z1 z2 z3 z4 z5 z6 z7 z8).inc) (L (Node.mk z0 z1 z2 z3 z4 z5 z6 z7 z8).peers) (L (Node.mk z0 z1 z2 z3 z4 z5 z6 z7 z8).topics) (L (Node.mk z0 z1 z2 z3 z4 z5 z6 z7 z8).calls) (I (Node.mk z0 z1 z2 z3 z4 z5 z6 z7 z8).pubs) (I (Node.mk z0 z1 z2 z3 z4 z5 z6 z7 z8).asks) (L (Node.mk z0 z1 z2 z3 z4 z5 z6 z7 z8).marks) (L (Node.mk z0 z1 z2 z3 z4 z5 z6 z7 z8).taken) := CALL_T (F := F_world_up) rfl (by rintro ⟨_, _, _, _, _, _, _, _, _⟩ ⟨_, _, _, _, _, _, _, _, _⟩ h; simpa [F_world_up, L_inj, E_inj] using h) (z0, z1, z2, z3, z4, z5, z6, z7, z8) trivial rfl
theorem c_world_New {z0 z1 z2 z3 z4 z5 z6 : Int} {k_ : PV → PV → PV → Prop} : CALL ρ 42 [I z0, I z1, I z2, I z3, I z4, I z5, I z6] 3 k_ = k_ (L (if cfgOk (Config.mk z0 z1 z2 z3 z4 z5 z6) = true then newW (Config.mk z0 z1 z2 z3 z4 z5 z6) else ⟨[], []⟩).nodes) (L (if cfgOk (Config.mk z0 z1 z2 z3 z4 z5 z6) = true then newW (Config.mk z0 z1 z2 z3 z4 z5 z6) else ⟨[], []⟩).bag) (I (if cfgOk (Config.mk z0 z1 z2 z3 z4 z5 z6) = true then 0 else 13)) := CALL_T (F := F_world_New) rfl (by rintro ⟨_, _, _, _, _, _, _⟩ ⟨_, _, _, _, _, _, _⟩ h; simpa [F_world_New, L_inj, E_inj] using h) (z0, z1, z2, z3, z4, z5, z6) trivial rfl
theorem c_check_asked {z0 z1 z2 z3 z4 z5 z6 : Int} {z7 : List Node} {z8 : List Frame} {z9 : Int} {k_ : PV → Prop} : CALL ρ 24 [I z0, I z1, I z2, I z3, I z4, I z5, I z6, L z7, L z8, I z9] 1 k_ = k_ (I (askedW (Config.mk z0 z1 z2 z3 z4 z5 z6) (World.mk z7 z8) z9)) := CALL_T (F := F_check_asked) rfl (by rintro ⟨_, _, _, _, _, _, _, _, _, _⟩ ⟨_, _, _, _, _, _, _, _, _, _⟩ h; simpa [F_check_asked, L_inj, E_inj] using h) (z0, z1, z2, z3, z4, z5, z6, z7, z8, z9) trivial rfl
theorem c_check_Parents {z0 z1 z2 z3 z4 z5 z6 : Int} {z7 : List Node} {z8 : List Frame} {z9 : Int} {k_ : PV → PV → Prop} : CALL ρ 7 [I z0, I z1, I z2, I z3, I z4, I z5, I z6, L z7, L z8, I z9] 2 k_ = k_ (L (if askedW (Config.mk z0 z1 z2 z3 z4 z5 z6) (World.mk z7 z8) z9 = 0 then parentsW (World.mk z7 z8) z9 else [])) (I (askedW (Config.mk z0 z1 z2 z3 z4 z5 z6) (World.mk z7 z8) z9)) := CALL_T (F := F_check_Parents) rfl (by rintro ⟨_, _, _, _, _, _, _, _, _, _⟩ ⟨_, _, _, _, _, _, _, _, _, _⟩ h; simpa [F_check_Parents, L_inj, E_inj] using h) (z0, z1, z2, z3, z4, z5, z6, z7, z8, z9) trivial rfl
theorem c_check_Roots {z0 z1 z2 z3 z4 z5 z6 : Int} {z7 : List Node} {z8 : List Frame} {z9 : Int} {k_ : PV → PV → Prop} : CALL ρ 8 [I z0, I z1, I z2, I z3, I z4, I z5, I z6, L z7, L z8, I z9] 2 k_ = k_ (L (if askedW (Config.mk z0 z1 z2 z3 z4 z5 z6) (World.mk z7 z8) z9 = 0 then rootsW (World.mk z7 z8) z9 else [])) (I (askedW (Config.mk z0 z1 z2 z3 z4 z5 z6) (World.mk z7 z8) z9)) := CALL_T (F := F_check_Roots) rfl (by rintro ⟨_, _, _, _, _, _, _, _, _, _⟩ ⟨_, _, _, _, _, _, _, _, _, _⟩ h; simpa [F_check_Roots, L_inj, E_inj] using h) (z0, z1, z2, z3, z4, z5, z6, z7, z8, z9) trivial rfl
theorem c_check_whole {z0 : List Node} {z1 : List Frame} {z2 : Int} {k_ : PV → Prop} (h : 0 ≤ z2 ∧ (World.mk z0 z1).nodes.length ≤ 8 ∧ ∀ n ∈ (World.mk z0 z1).nodes, z2 < n.topics.length) : CALL ρ 25 [L z0, L z1, I z2] 1 k_ = k_ (bb (whole (pathsW (World.mk z0 z1) z2))) := CALL_T (F := F_check_whole) rfl (by rintro ⟨_, _, _⟩ ⟨_, _, _⟩ h; simpa [F_check_whole, L_inj, E_inj] using h) (z0, z1, z2) h rfl
theorem c_check_Whole {z0 z1 z2 z3 z4 z5 z6 : Int} {z7 : List Node} {z8 : List Frame} {z9 : Int} {k_ : PV → PV → Prop} : CALL ρ 9 [I z0, I z1, I z2, I z3, I z4, I z5, I z6, L z7, L z8, I z9] 2 k_ = k_ (bb (decide (askedW (Config.mk z0 z1 z2 z3 z4 z5 z6) (World.mk z7 z8) z9 = 0) && whole (pathsW (World.mk z7 z8) z9))) (I (askedW (Config.mk z0 z1 z2 z3 z4 z5 z6) (World.mk z7 z8) z9)) := CALL_T (F := F_check_Whole) rfl (by rintro ⟨_, _, _, _, _, _, _, _, _, _⟩ ⟨_, _, _, _, _, _, _, _, _, _⟩ h; simpa [F_check_Whole, L_inj, E_inj] using h) (z0, z1, z2, z3, z4, z5, z6, z7, z8, z9) trivial rfl
theorem c_check_last {z0 z1 z2 z3 z4 z5 : Int} {k_ : PV → PV → Prop} : CALL ρ 34 [I z0, I z1, I z2, I z3, I z4, I z5] 2 k_ = k_ (I (endOf (Event.mk z0 z1 z2 z3 z4 z5))) (bb (ofStream (Event.mk z0 z1 z2 z3 z4 z5))) := CALL_T (F := F_check_last) rfl (by rintro ⟨_, _, _, _, _, _⟩ ⟨_, _, _, _, _, _⟩ h; simpa [F_check_last, L_inj, E_inj] using h) (z0, z1, z2, z3, z4, z5) trivial rfl
theorem c_check_Rises {z0 : List Event} {k_ : PV → Prop} : CALL ρ 11 [L z0] 1 k_ = k_ (bb (risesE none z0)) := CALL_T (F := F_check_Rises) rfl (by intro a b h; simpa [F_check_Rises, L_inj, E_inj] using h) z0 trivial rfl
theorem c_check_deep {z0 z1 z2 z3 z4 z5 z6 : Int} {z7 : Bool} {z8 : Int} {z9 : List Peer} {y0 : List Topic} {y1 : List Call} {y2 y3 : Int} {y4 : List Mark} {y5 : List Mark2} {k_ : PV → Prop} : CALL ρ 29 [I z0, I z1, I z2, I z3, I z4, I z5, I z6, bb z7, I z8, L z9, L y0, L y1, I y2, I y3, L y4, L y5] 1 k_ = k_ (bb (deepN (Config.mk z0 z1 z2 z3 z4 z5 z6) (Node.mk z7 z8 z9 y0 y1 y2 y3 y4 y5))) := CALL_T (F := F_check_deep) rfl (by rintro ⟨_, _, _, _, _, _, _, _, _, _, _, _, _, _, _, _⟩ ⟨_, _, _, _, _, _, _, _, _, _, _, _, _, _, _, _⟩ h; simpa [F_check_deep, L_inj, E_inj] using h) (z0, z1, z2, z3, z4, z5, z6, z7, z8, z9, y0, y1, y2, y3, y4, y5) trivial rfl
theorem c_check_full {z0 z1 z2 z3 z4 z5 z6 : Int} {z7 z8 : Bool} {z9 y0 y1 y2 y3 y4 : Int} {y5 : List Int} {y6 : List Kid} {y7 y8 y9 : Int} {x0 x1 : List Item} {x2 : List Event} {k_ : PV → Prop} : CALL ρ 33 [I z0, I z1, I z2, I z3, I z4, I z5, I z6, bb z7, bb z8, I z9, I y0, I y1, I y2, I y3, I y4, L y5, L y6, I y7, I y8, I y9, L x0, L x1, L x2] 1 k_ = k_ (bb (fullT (Config.mk z0 z1 z2 z3 z4 z5 z6) (Topic.mk z7 z8 z9 y0 y1 y2 y3 y4 y5 y6 (Stream.mk y7 y8 y9 x0 x1) x2))) := CALL_T (F := F_check_full) rfl (by rintro ⟨_, _, _, _, _, _, _, _, _, _, _, _, _, _, _, _, _, _, _, _, _, _, _⟩ ⟨_, _, _, _, _, _, _, _, _, _, _, _, _, _, _, _, _, _, _, _, _, _, _⟩ h; simpa [F_check_full, L_inj, E_inj] using h) (z0, z1, z2, z3, z4, z5, z6, z7, z8, z9, y0, y1, y2, y3, y4, y5, y6, y7, y8, y9, x0, x1, x2) trivial rfl
theorem c_slices_Contains_int_int {z0 : List Int} {z1 : Int} {k_ : PV → Prop} : CALL ρ 56 [L z0, I z1] 1 k_ = k_ (bb (z0.contains z1)) := CALL_T (F := F_slices_Contains_int_int) rfl (by rintro ⟨_, _⟩ ⟨_, _⟩ h; simpa [F_slices_Contains_int_int, L_inj, E_inj] using h) (z0, z1) trivial rfl
theorem c_check_rooted {z0 : List Node} {z1 : List Frame} {z2 : Int} {k_ : PV → Prop} (h : ∃ c : Config, cfgOk c = true ∧ worldOk c (World.mk z0 z1) = true ∧ rng z2 0 (c.topics - 1) = true) : CALL ρ 30 [L z0, L z1, I z2] 1 k_ = k_ (bb true) := CALL_T (F := F_check_rooted) rfl (by rintro ⟨_, _, _⟩ ⟨_, _, _⟩ h; simpa [F_check_rooted, L_inj, E_inj] using h) (z0, z1, z2) h rfl
theorem c_check_Holds {z0 z1 z2 z3 z4 z5 z6 : Int} {z7 : List Node} {z8 : List Frame} {k_ : PV → Prop} : CALL ρ 10 [I z0, I z1, I z2, I z3, I z4, I z5, I z6, L z7, L z8] 1 k_ = k_ (I (holdsW (Config.mk z0 z1 z2 z3 z4 z5 z6) (World.mk z7 z8))) := CALL_T (F := F_check_Holds) rfl (by rintro ⟨_, _, _, _, _, _, _, _, _⟩ ⟨_, _, _, _, _, _, _, _, _⟩ h; simpa [F_check_Holds, L_inj, E_inj] using h) (z0, z1, z2, z3, z4, z5, z6, z7, z8) trivial rfl
theorem c_ref19_Holds {z0 z1 z2 z3 z4 z5 z6 : Int} {z7 : List Node} {z8 : List Frame} {k_ : PV → Prop} (h : cfgOk (Config.mk z0 z1 z2 z3 z4 z5 z6) = true ∧ worldOk (Config.mk z0 z1 z2 z3 z4 z5 z6) (World.mk z7 z8) = true) : CALL ρ 16 [I z0, I z1, I z2, I z3, I z4, I z5, I z6, L z7, L z8] 1 k_ = k_ (I (holdsW (Config.mk z0 z1 z2 z3 z4 z5 z6) (World.mk z7 z8))) := CALL_T (F := F_ref19_Holds) rfl (by rintro ⟨_, _, _, _, _, _, _, _, _⟩ ⟨_, _, _, _, _, _, _, _, _⟩ h; simpa [F_ref19_Holds, L_inj, E_inj] using h) (z0, z1, z2, z3, z4, z5, z6, z7, z8) h rfl
theorem c_law19_Full  {k_ : PV → PV → PV → PV → PV → PV → PV → Prop} : CALL ρ 41 [] 7 k_ = k_ (I 8) (I 4) (I 2) (I 8) (I 8) (I 8) (I 16) := CALL_T (F := F_law19_Full) rfl (fun _ _ _ => rfl) () trivial rfl
theorem r_law27_wakes  : f_law27_wakes [] = some [bb true] := fnT_eq (F := F_law27_wakes) (a := ()) (fun _ _ _ => rfl) trivial
theorem c_law27_wakes  {k_ : PV → Prop} : CALL ρ 15 [] 1 k_ = k_ (bb true) := CALL_T (F := F_law27_wakes) rfl (fun _ _ _ => rfl) () trivial rfl
theorem r_law27_CheckExact {z0 z1 z2 z3 z4 z5 z6 : Int} {z7 : List Node} {z8 : List Frame} {z9 : Int} {y0 : List Event} (h : ∀ f ∈ (World.mk z7 z8).bag, f.bytes.length ≤ 140737488355328) : f_law27_CheckExact [I z0, I z1, I z2, I z3, I z4, I z5, I z6, L z7, L z8, I z9, L y0] = some [bb true] := fnT_eq (F := F_law27_CheckExact) (a := (z0, z1, z2, z3, z4, z5, z6, z7, z8, z9, y0)) (by rintro ⟨_, _, _, _, _, _, _, _, _, _, _⟩ ⟨_, _, _, _, _, _, _, _, _, _, _⟩ h; simpa [F_law27_CheckExact, L_inj, E_inj] using h) h
theorem c_law27_CheckExact {z0 z1 z2 z3 z4 z5 z6 : Int} {z7 : List Node} {z8 : List Frame} {z9 : Int} {y0 : List Event} {k_ : PV → Prop} (h : ∀ f ∈ (World.mk z7 z8).bag, f.bytes.length ≤ 140737488355328) : CALL ρ 3 [I z0, I z1, I z2, I z3, I z4, I z5, I z6, L z7, L z8, I z9, L y0] 1 k_ = k_ (bb true) := CALL_T (F := F_law27_CheckExact) rfl (by rintro ⟨_, _, _, _, _, _, _, _, _, _, _⟩ ⟨_, _, _, _, _, _, _, _, _, _, _⟩ h; simpa [F_law27_CheckExact, L_inj, E_inj] using h) (z0, z1, z2, z3, z4, z5, z6, z7, z8, z9, y0) h rfl
end Go.Xt
