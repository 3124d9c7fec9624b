/- Steps towards the statements of this seat; the conditions stand in each theorem. -/
import Derived.Test.YtbobikmalojafaaGreatDoorSpecs
set_option maxRecDepth 100000
set_option linter.unusedVariables false
set_option linter.unusedSimpArgs false
namespace Go.Xt
def F_ring_Is : Int → Prop × List PV × List PV := fun n => (True,[I n],[bb (isN n)])
def F_ring_Node : Int → Prop × List PV × List PV := fun n => (True,[I n],[I (if isN n = true then nn n else 0),I (if isN n = true then 0 else 1)])
def F_ring_Topic : Int → Prop × List PV × List PV := fun t => (True,[I t],[I (if isT t = true then tt t else 0),I (if isT t = true then 0 else 1)])
def F_key_Far : Int × Int → Prop × List PV × List PV := fun (k,n) => (0 ≤ k ∧ k < 4611686018427387904 ∧ 0 ≤ n ∧ n < 4611686018427387904,[I k,I n],[I (far k n)])
def F_ref01_Node : Int → Prop × List PV × List PV := fun n => (isN n = true,[I n],[I (nn n)])
def F_ref01_Topic : Int → Prop × List PV × List PV := fun t => (isT t = true,[I t],[I (tt t)])
def F_ref01_Behind : Int × Int → Prop × List PV × List PV := fun (k,n) => (0 ≤ k ∧ k < 4611686018427387904 ∧ 0 ≤ n ∧ n < 4611686018427387904,[I k,I n],[I (far k n)])
def F_ring_Gap : Int × Int → Prop × List PV × List PV := fun (t,n) => (True,[I t,I n],[I (if (isT t && isN n) = true then gap t n else 0),I (if (isT t && isN n) = true then 0 else 1)])
def F_ring_Nearer : Int × Int × Int → Prop × List PV × List PV := fun (t,a,b) => (True,[I t,I a,I b],[bb (near t a b)])
def F_ref01_IsTopic : Int → Prop × List PV × List PV := fun t => (True,[I t],[bb (isT t)])
def F_ref01_IsNode : Int → Prop × List PV × List PV := fun n => (True,[I n],[bb (isN n)])
def F_ref01_Gap : Int × Int → Prop × List PV × List PV := fun (t,n) => (isT t = true ∧ isN n = true,[I t,I n],[I (gap t n)])
def F_ref01_Nearer : Int × Int × Int → Prop × List PV × List PV := fun (t,a,b) => (True,[I t,I a,I b],[bb (near t a b)])
def F_ring_All : (List Int) → Prop × List PV × List PV := fun l => (True,[L l],[bb (l.all isN)])
def F_path_rises : Int × Int × (List Int) → Prop × List PV × List PV := fun (t,self,l) => (True,[I t,I self,L l],[bb (rises t self l)])
def F_path_Check : Int × Int × (List Int) × Int → Prop × List PV × List PV := fun (t,self,l,depth) => (True,[I t,I self,L l,I depth],[I (chk t self l depth)])
def F_bkeep_TwinInts : (List Int) → Prop × List PV × List PV := fun l => (l.length ≤ 1000000,[L l],[L l])
def F_bkeep_Ints : (List Int) × (List Int) → Prop × List PV × List PV := fun (a,b) => (True,[L a,L b],[bb (decide (a = b))])
def F_ref10_Path : Int × Int × (List Int) × Int → Prop × List PV × List PV := fun (t,self,l,depth) => (isT t = true ∧ isN self = true,[I t,I self,L l,I depth],[I (chkR t self l depth)])
def F_slices_Contains_int_int : (List Int) × Int → Prop × List PV × List PV := fun (l,n) => (True,[L l,I n],[bb (l.contains n)])
noncomputable def f_slices_Sort_int_int : List PV → Option (List PV) := fnOf (fun (l : (List Int)) => l.length < 4611686018427387904) (fun (l : (List Int)) => [L l]) (fun (l : (List Int)) => [L (sorted l)])
noncomputable def f_slices_Compact_int_int : List PV → Option (List PV) := fnOf (fun (l : (List Int)) => l.length < 4611686018427387904) (fun (l : (List Int)) => [L l]) (fun (l : (List Int)) => [L (compacted l)])
def F_key_is : Int → Prop × List PV × List PV := fun k => (True,[I k],[bb (isK k)])
def F_key_Back : Int × Int → Prop × List PV × List PV := fun (k,bits) => (True,[I k,I bits],[I (if (isK k && decide (0 ≤ bits) && decide (bits ≤ 61)) = true then far (2 ^ bits.toNat) k else 0),I (if (isK k && decide (0 ≤ bits) && decide (bits ≤ 61)) = true then 0 else 1)])
def F_ring_Owner : Int × (List Int) → Prop × List PV × List PV := fun (t,l) => (True,[I t,L l],[I (owner t l).1,I (owner t l).2])
def F_route_Check : (List Int) × Int → Prop × List PV × List PV := fun (live,self) => (True,[L live,I self],[I (chkL live self)])
def F_route_first : (List Int) × Int → Prop × List PV × List PV := fun (live,k) => (live.all isN = true ∧ 0 ≤ k ∧ k < 4611686018427387904,[L live,I k],[I (firstN live k)])
def F_route_ahead : (List Int) × Int → Prop × List PV × List PV := fun (live,self) => (live.all isN = true ∧ isN self = true,[L live,I self],[I (aheadN live self)])
def F_route_fingers : (List Int) × Int → Prop × List PV × List PV := fun (live,self) => (live.all isN = true ∧ isN self = true ∧ live ≠ [],[L live,I self],[L (fingers live self)])
def F_route_next : Int × (List Int) × Int → Prop × List PV × List PV := fun (t,live,self) => (live.all isN = true ∧ isN self = true ∧ live ≠ [],[I t,L live,I self],[I (nextN t live self)])
def F_route_asked : Int × (List Int) × Int → Prop × List PV × List PV := fun (t,live,self) => (True,[I t,L live,I self],[I (askedN t live self)])
def F_route_Next : Int × (List Int) × Int → Prop × List PV × List PV := fun (t,live,self) => (True,[I t,L live,I self],[I (if askedN t live self = 0 then max (nextN t live self) 0 else 0),bb (decide (askedN t live self = 0) && decide (0 ≤ nextN t live self)),I (askedN t live self)])
def F_ref10_behind : Int × Int → Prop × List PV × List PV := fun (n,self) => (isN n = true ∧ isN self = true,[I n,I self],[I (far (nn n) (nn self))])
def F_ref10_Ahead : (List Int) × Int → Prop × List PV × List PV := fun (live,self) => (live.all isN = true ∧ isN self = true,[L live,I self],[I (aheadN live self)])
def F_ref10_Fingers : (List Int) × Int → Prop × List PV × List PV := fun (live,self) => (live.all isN = true ∧ isN self = true ∧ live ≠ [],[L live,I self],[L (fingers live self)])
def F_ref01_Owner : Int × (List Int) → Prop × List PV × List PV := fun (t,l) => (isT t = true ∧ l.all isN = true,[I t,L l],[I (ownerR t l)])
def F_ref10_Next : Int × (List Int) × Int → Prop × List PV × List PV := fun (t,live,self) => (isT t = true ∧ chkL live self = 0,[I t,L live,I self],[I (nextN t live self)])
noncomputable def f_script_field : List PV → Option (List PV) := fnOf (fun (_ : ByteArray × Int × Int × Int × Int) => True) (fun (((s,n,lo,hi,why)) : ByteArray × Int × Int × Int × Int) => [.str s,I n,I lo,I hi,I why]) (fun (((s,n,lo,hi,why)) : ByteArray × Int × Int × Int × Int) => [E ⟨false,if n < lo ∨ hi < n then [why] else []⟩])
noncomputable def f_errors_Join : List PV → Option (List PV) := fnOf (fun (xs : (List Er)) => xs ≠ [] ∧ xs.length ≤ 1000 ∧ ∀ x ∈ xs,x.j = false) (fun (xs : (List Er)) => [L xs]) (fun (xs : (List Er)) => [E ⟨true,xs.flatMap (·.l)⟩])
noncomputable def f_script_errno : List PV → Option (List PV) := fnOf (fun (x : Er) => x.l.length ≤ 1000) (fun (x : Er) => [E x]) (fun (x : Er) => [I (errnoOf x.l)])
def F_script_config : Config → Prop × List PV × List PV := fun c => (True,[I c.nodes,I c.topics,I c.kids,I c.depth,I c.keep,I c.window,I c.queue],[E ⟨true,cfgErrs c⟩])
def F_script_Config : Config → Prop × List PV × List PV := fun c => (True,[I c.nodes,I c.topics,I c.kids,I c.depth,I c.keep,I c.window,I c.queue],[I (if cfgOk c = true then 0 else 13)])
def F_ref01_In : Int × Int × Int → Prop × List PV × List PV := fun (n,lo,hi) => (True,[I n,I lo,I hi],[bb (decide (lo ≤ n) && decide (n ≤ hi))])
def F_ref01_Config : Config → Prop × List PV × List PV := fun c => (True,[I c.nodes,I c.topics,I c.kids,I c.depth,I c.keep,I c.window,I c.queue],[bb (cfgOk c)])
def F_epoch_Check : Int → Prop × List PV × List PV := fun e => (True,[I e],[I (if ep e = true then 0 else 1)])
def F_epoch_Who : Int → Prop × List PV × List PV := fun e => (True,[I e],[I (if ep e = true then e % 16 else 0),I (if ep e = true then 0 else 1)])
def F_msg_in : Int × Int × Int → Prop × List PV × List PV := fun (n,lo,hi) => (True,[I n,I lo,I hi],[bb (rng n lo hi)])
def F_msg_Counted : Int → Prop × List PV × List PV := fun n => (True,[I n],[bb (cnt n)])
def F_msg_Value : Int → Prop × List PV × List PV := fun n => (True,[I n],[bb (val n)])
def F_cast_in : Int × Int × Int → Prop × List PV × List PV := fun (n,lo,hi) => (True,[I n,I lo,I hi],[bb (rng n lo hi)])
def F_ref19_in : Int × Int × Int → Prop × List PV × List PV := fun (n,lo,hi) => (True,[I n,I lo,I hi],[bb (rng n lo hi)])
def F_ref10_in : Int × Int × Int → Prop × List PV × List PV := fun (n,lo,hi) => (True,[I n,I lo,I hi],[bb (rng n lo hi)])
def F_ref01_Value : Int → Prop × List PV × List PV := fun n => (True,[I n],[bb (val n)])
def F_ref10_count : Int → Prop × List PV × List PV := fun n => (True,[I n],[bb (cnt n)])
def F_ref10_Epoch : Int → Prop × List PV × List PV := fun e => (True,[I e],[bb (ep e)])
def F_view_right : Peer → Prop × List PV × List PV := fun p => (True,[I p.inc,I p.age],[bb (peerOk p)])
def F_view_Check : (List Peer) → Prop × List PV × List PV := fun l => (True,[L l],[I (if peersOk l = true then 0 else 1)])
def F_ref10_Peers : (List Peer) → Prop × List PV × List PV := fun l => (True,[L l],[bb (peersOk l)])
def F_kids_right : Int × Int × Kid → Prop × List PV × List PV := fun (t,self,k) => (True,[I t,I self,I k.node,I k.inc,I k.age],[bb (near t self k.node && cnt k.inc && rng k.age 0 6)])
def F_kids_Check : Int × Int × Int × (List Kid) → Prop × List PV × List PV := fun (t,self,limit,l) => (True,[I t,I self,I limit,L l],[I (if kidsOk t self limit l = true then 0 else 1)])
def F_ref10_Kids : Int × Int × Int × (List Kid) → Prop × List PV × List PV := fun (t,self,limit,l) => (True,[I t,I self,I limit,L l],[bb (kidsOk t self limit l)])
def F_keep_right : (List Item) × Int → Prop × List PV × List PV := fun (l,want) => (cnt want = true ∧ l.length ≤ 16,[L l,I want],[bb (decide (l.length < want) && keptGo (want - l.length) l)])
def F_keep_Check : (List Item) × Int × Int → Prop × List PV × List PV := fun (l,want,limit) => (True,[L l,I want,I limit],[I (if keptOk l want limit = true then 0 else 1)])
def F_ref10_Kept : (List Item) × Int × Int → Prop × List PV × List PV := fun (l,want,limit) => (True,[L l,I want,I limit],[bb (keptOk l want limit)])
def F_ahead_fits : Int × Int × Int → Prop × List PV × List PV := fun (seq,want,window) => (cnt want = true ∧ rng window 1 16 = true,[I seq,I want,I window],[bb (decide (want < seq) && decide (seq < want + window) && decide (seq < 1073741824))])
def F_ahead_Check : (List Item) × Int × Int → Prop × List PV × List PV := fun (l,want,window) => (True,[L l,I want,I window],[I (if aheadOk l want window = true then 0 else 1)])
def F_ref10_Ahead2 : (List Item) × Int × Int → Prop × List PV × List PV := fun (l,want,window) => (True,[L l,I want,I window],[bb (aheadOk l want window)])
def F_queue_Event : Event → Prop × List PV × List PV := fun x => (True,[I x.kind,I x.epoch,I x.seq,I x.last,I x.value,I x.count],[I (if evOk x = true then 0 else 1)])
def F_ref10_Event : Event → Prop × List PV × List PV := fun x => (True,[I x.kind,I x.epoch,I x.seq,I x.last,I x.value,I x.count],[bb (evOk x)])
def F_queue_Check : (List Event) × Int → Prop × List PV × List PV := fun (l,limit) => (True,[L l,I limit],[I (if queueOk l limit = true then 0 else 1)])
def F_ref10_Queue : (List Event) × Int → Prop × List PV × List PV := fun (l,limit) => (True,[L l,I limit],[bb (queueOk l limit)])
def F_flow_zero : Stream → Prop × List PV × List PV := fun s => (True,[I s.epoch,I s.want,I s.known,L s.kept,L s.ahead],[bb (streamZ s)])
def F_flow_right : Config × Stream → Prop × List PV × List PV := fun (c,s) => (True,[I c.nodes,I c.topics,I c.kids,I c.depth,I c.keep,I c.window,I c.queue,I s.epoch,I s.want,I s.known,L s.kept,L s.ahead],[bb (streamOk c s)])
def F_flow_Check : Config × Stream × (List Event) → Prop × List PV × List PV := fun (c,s,q) => (True,[I c.nodes,I c.topics,I c.kids,I c.depth,I c.keep,I c.window,I c.queue,I s.epoch,I s.want,I s.known,L s.kept,L s.ahead,L q],[I (if cfgOk c = true then (if flowOk c s q = true then 0 else 1) else 13)])
def F_ref10_Stream : Config × Stream → Prop × List PV × List PV := fun (c,s) => (True,[I c.nodes,I c.topics,I c.kids,I c.depth,I c.keep,I c.window,I c.queue,I s.epoch,I s.want,I s.known,L s.kept,L s.ahead],[bb (streamOk c s)])
def F_ref10_Flow : Config × Stream × (List Event) → Prop × List PV × List PV := fun (c,s,q) => (True,[I c.nodes,I c.topics,I c.kids,I c.depth,I c.keep,I c.window,I c.queue,I s.epoch,I s.want,I s.known,L s.kept,L s.ahead,L q],[bb (flowOk c s q)])
def F_graft_link : Int × Int × Int → Prop × List PV × List PV := fun (t,self,n) => (True,[I t,I self,I n],[bb (link t self n)])
def F_ref10_near : Int × Int × Int → Prop × List PV × List PV := fun (t,self,n) => (True,[I t,I self,I n],[bb (link t self n)])
def F_graft_rooted : Int × Topic → Prop × List PV × List PV := fun (self,x) => (True,[I self,bb x.made,bb x.sub,I x.top,I x.root,I x.parent,I x.asked,I x.other,I x.age,L x.path,L x.kids,I x.stream.epoch,I x.stream.want,I x.stream.known,L x.stream.kept,L x.stream.ahead,L x.queue],[bb (rootOk self x)])
def F_graft_placed : Topic → Prop × List PV × List PV := fun x => (0 ≤ x.parent ∧ x.parent ≤ 8,[bb x.made,bb x.sub,I x.top,I x.root,I x.parent,I x.asked,I x.other,I x.age,L x.path,L x.kids,I x.stream.epoch,I x.stream.want,I x.stream.known,L x.stream.kept,L x.stream.ahead,L x.queue],[bb (placedOk x)])
def F_graft_right : Config × Int × Int × Topic → Prop × List PV × List PV := fun (c,t,self,x) => (cfgOk c = true,[I c.nodes,I c.topics,I c.kids,I c.depth,I c.keep,I c.window,I c.queue,I t,I self,bb x.made,bb x.sub,I x.top,I x.root,I x.parent,I x.asked,I x.other,I x.age,L x.path,L x.kids,I x.stream.epoch,I x.stream.want,I x.stream.known,L x.stream.kept,L x.stream.ahead,L x.queue],[bb (topicOk c t self x)])
def F_graft_Check : Config × Int × Int × Topic → Prop × List PV × List PV := fun (c,t,self,x) => (True,[I c.nodes,I c.topics,I c.kids,I c.depth,I c.keep,I c.window,I c.queue,I t,I self,bb x.made,bb x.sub,I x.top,I x.root,I x.parent,I x.asked,I x.other,I x.age,L x.path,L x.kids,I x.stream.epoch,I x.stream.want,I x.stream.known,L x.stream.kept,L x.stream.ahead,L x.queue],[I (if cfgOk c = true then (if (place c t self && topicOk c t self x) = true then 0 else 1) else 13)])
def F_ref10_Topic : Config × Int × Int × Topic → Prop × List PV × List PV := fun (c,t,self,x) => (cfgOk c = true ∧ place c t self = true,[I c.nodes,I c.topics,I c.kids,I c.depth,I c.keep,I c.window,I c.queue,I t,I self,bb x.made,bb x.sub,I x.top,I x.root,I x.parent,I x.asked,I x.other,I x.age,L x.path,L x.kids,I x.stream.epoch,I x.stream.want,I x.stream.known,L x.stream.kept,L x.stream.ahead,L x.queue],[bb (topicOk c t self x)])
def F_cast_calls : Config × Node → Prop × List PV × List PV := fun (c,n) => (cfgOk c = true,[I c.nodes,I c.topics,I c.kids,I c.depth,I c.keep,I c.window,I c.queue,bb n.up,I n.inc,L n.peers,L n.topics,L n.calls,I n.pubs,I n.asks,L n.marks,L n.taken],[bb (callsGo c n.asks 0 n.calls && decide (n.calls.length ≤ 40))])
def F_cast_mark : Mark → Prop × List PV × List PV := fun m => (True,[I m.inc,I m.pubs,I m.met],[bb (markOk m)])
def F_cast_taken : Config × Mark2 → Prop × List PV × List PV := fun (c,x) => (cfgOk c = true,[I c.nodes,I c.topics,I c.kids,I c.depth,I c.keep,I c.window,I c.queue,I x.node,I x.inc,I x.count,I x.topic,I x.value],[bb (takenOk c x)])
def F_cast_right : Config × Int × Node → Prop × List PV × List PV := fun (c,self,n) => (cfgOk c = true ∧ rng self 0 (c.nodes - 1) = true,[I c.nodes,I c.topics,I c.kids,I c.depth,I c.keep,I c.window,I c.queue,I self,bb n.up,I n.inc,L n.peers,L n.topics,L n.calls,I n.pubs,I n.asks,L n.marks,L n.taken],[bb (nodeOk c self n)])
def F_cast_Check : Config × Int × Node → Prop × List PV × List PV := fun (c,self,n) => (True,[I c.nodes,I c.topics,I c.kids,I c.depth,I c.keep,I c.window,I c.queue,I self,bb n.up,I n.inc,L n.peers,L n.topics,L n.calls,I n.pubs,I n.asks,L n.marks,L n.taken],[I (nodeWhy c self n)])
def F_ref19_Node : Config × Int × Node → Prop × List PV × List PV := fun (c,self,n) => (cfgOk c = true ∧ rng self 0 (c.nodes - 1) = true,[I c.nodes,I c.topics,I c.kids,I c.depth,I c.keep,I c.window,I c.queue,I self,bb n.up,I n.inc,L n.peers,L n.topics,L n.calls,I n.pubs,I n.asks,L n.marks,L n.taken],[bb (nodeOk c self n)])
def F_bkeep_Peers : (List Peer) × (List Peer) → Prop × List PV × List PV := fun (a,b) => (True,[L a,L b],[bb (decide (a = b))])
def F_bkeep_Kids : (List Kid) × (List Kid) → Prop × List PV × List PV := fun (a,b) => (True,[L a,L b],[bb (decide (a = b))])
def F_bkeep_Items : (List Item) × (List Item) → Prop × List PV × List PV := fun (a,b) => (True,[L a,L b],[bb (decide (a = b))])
def F_bkeep_Events : (List Event) × (List Event) → Prop × List PV × List PV := fun (a,b) => (True,[L a,L b],[bb (decide (a = b))])
def F_bkeep_Stream : Stream × Stream → Prop × List PV × List PV := fun (a,b) => (True,[I a.epoch,I a.want,I a.known,L a.kept,L a.ahead,I b.epoch,I b.want,I b.known,L b.kept,L b.ahead],[bb (decide (a = b))])
def F_bkeep_Topic : Topic × Topic → Prop × List PV × List PV := fun (a,b) => (True,[bb a.made,bb a.sub,I a.top,I a.root,I a.parent,I a.asked,I a.other,I a.age,L a.path,L a.kids,I a.stream.epoch,I a.stream.want,I a.stream.known,L a.stream.kept,L a.stream.ahead,L a.queue,bb b.made,bb b.sub,I b.top,I b.root,I b.parent,I b.asked,I b.other,I b.age,L b.path,L b.kids,I b.stream.epoch,I b.stream.want,I b.stream.known,L b.stream.kept,L b.stream.ahead,L b.queue],[bb (decide (a = b))])
def F_bkeep_Node : Node × Node → Prop × List PV × List PV := fun (a,b) => (True,[bb a.up,I a.inc,L a.peers,L a.topics,L a.calls,I a.pubs,I a.asks,L a.marks,L a.taken,bb b.up,I b.inc,L b.peers,L b.topics,L b.calls,I b.pubs,I b.asks,L b.marks,L b.taken],[bb (decide (a = b))])
def F_bkeep_TwinKids : (List Kid) → Prop × List PV × List PV := fun l => (l.length ≤ 1000000,[L l],[L l])
def F_bkeep_TwinItems : (List Item) → Prop × List PV × List PV := fun l => (l.length ≤ 1000000,[L l],[L l])
def F_bkeep_TwinEvents : (List Event) → Prop × List PV × List PV := fun l => (l.length ≤ 1000000,[L l],[L l])
def F_bkeep_TwinPeers : (List Peer) → Prop × List PV × List PV := fun l => (l.length ≤ 1000000,[L l],[L l])
def F_bkeep_TwinStream : Stream → Prop × List PV × List PV := fun s => (s.kept.length ≤ 1000000 ∧ s.ahead.length ≤ 1000000,[I s.epoch,I s.want,I s.known,L s.kept,L s.ahead],[I s.epoch,I s.want,I s.known,L s.kept,L s.ahead])
def F_bkeep_TwinTopic : Topic → Prop × List PV × List PV := fun x => (heavy19 x = false,[bb x.made,bb x.sub,I x.top,I x.root,I x.parent,I x.asked,I x.other,I x.age,L x.path,L x.kids,I x.stream.epoch,I x.stream.want,I x.stream.known,L x.stream.kept,L x.stream.ahead,L x.queue],[bb x.made,bb x.sub,I x.top,I x.root,I x.parent,I x.asked,I x.other,I x.age,L x.path,L x.kids,I x.stream.epoch,I x.stream.want,I x.stream.known,L x.stream.kept,L x.stream.ahead,L x.queue])
def F_law18_Heavy : Stream × (List Event) → Prop × List PV × List PV := fun (s,q) => (True,[I s.epoch,I s.want,I s.known,L s.kept,L s.ahead,L q],[bb (heavy18 s q)])
noncomputable def f_law18_Heavy := fnT F_law18_Heavy
def F_law19_Heavy : Topic → Prop × List PV × List PV := fun x => (True,[bb x.made,bb x.sub,I x.top,I x.root,I x.parent,I x.asked,I x.other,I x.age,L x.path,L x.kids,I x.stream.epoch,I x.stream.want,I x.stream.known,L x.stream.kept,L x.stream.ahead,L x.queue],[bb (heavy19 x)])
noncomputable def f_law19_Heavy := fnT F_law19_Heavy
def F_law21_Heavy : Node → Prop × List PV × List PV := fun n => (True,[bb n.up,I n.inc,L n.peers,L n.topics,L n.calls,I n.pubs,I n.asks,L n.marks,L n.taken],[bb (heavy21 n)])
noncomputable def f_law21_Heavy := fnT F_law21_Heavy
def F_law19_Full : Unit → Prop × List PV × List PV := fun _ => (True,[],[I 8,I 4,I 2,I 8,I 8,I 8,I 16])
noncomputable def f_law19_Full := fnT F_law19_Full
def F_slices_Clone_api_Peer_api_Peer : (List Peer) → Prop × List PV × List PV := fun l => (l.length ≤ 1000000,[L l],[L l])
def F_slices_Clone_api_Call_api_Call : (List Call) → Prop × List PV × List PV := fun l => (l.length ≤ 1000000,[L l],[L l])
def F_slices_Clone_api_Mark_api_Mark : (List Mark) → Prop × List PV × List PV := fun l => (l.length ≤ 1000000,[L l],[L l])
def F_slices_Clone_api_Mark2_api_Mark2 : (List Mark2) → Prop × List PV × List PV := fun l => (l.length ≤ 1000000,[L l],[L l])
def F_slices_Clone_api_Kid_api_Kid : (List Kid) → Prop × List PV × List PV := fun l => (l.length ≤ 1000000,[L l],[L l])
def F_slices_Clone_api_Event_api_Event : (List Event) → Prop × List PV × List PV := fun l => (l.length ≤ 1000000,[L l],[L l])
def F_slices_Clone_api_Item_api_Item : (List Item) → Prop × List PV × List PV := fun l => (l.length ≤ 1000000,[L l],[L l])
def F_slices_Clone_int_int : (List Int) → Prop × List PV × List PV := fun l => (l.length ≤ 1000000,[L l],[L l])
def F_graft_Twin : Topic → Prop × List PV × List PV := fun x => (heavy19 x = false,[bb x.made,bb x.sub,I x.top,I x.root,I x.parent,I x.asked,I x.other,I x.age,L x.path,L x.kids,I x.stream.epoch,I x.stream.want,I x.stream.known,L x.stream.kept,L x.stream.ahead,L x.queue],[bb x.made,bb x.sub,I x.top,I x.root,I x.parent,I x.asked,I x.other,I x.age,L x.path,L x.kids,I x.stream.epoch,I x.stream.want,I x.stream.known,L x.stream.kept,L x.stream.ahead,L x.queue])
def F_queue_gap : Event → Prop × List PV × List PV := fun x => (True,[I x.kind,I x.epoch,I x.seq,I x.last,I x.value,I x.count],[I (gapE x).kind,I (gapE x).epoch,I (gapE x).seq,I (gapE x).last,I (gapE x).value,I (gapE x).count,bb (ofStream x)])
def F_queue_Put : (List Event) × Int × Event → Prop × List PV × List PV := fun (l,limit,x) => (True,[L l,I limit,I x.kind,I x.epoch,I x.seq,I x.last,I x.value,I x.count],[L (putE l limit x).1,I (putE l limit x).2])
def F_queue_Fit : (List Event) × Int × Event → Prop × List PV × List PV := fun (l,limit,x) => (l.length ≤ 1000000,[L l,I limit,I x.kind,I x.epoch,I x.seq,I x.last,I x.value,I x.count],[L (fitE l limit x)])
def F_cast_Heed : Node × Int → Prop × List PV × List PV := fun (n,o) => (True,[bb n.up,I n.inc,L n.peers,L n.topics,L n.calls,I n.pubs,I n.asks,L n.marks,L n.taken,I o],[bb (heed n o)])
def F_view_place : (List Peer) × Int → Prop × List PV × List PV := fun (l,n) => (True,[L l,I n],[I (placeP l n)])
def F_view_Live : (List Peer) × Int → Prop × List PV × List PV := fun (l,self) => (True,[L l,I self],[L (if placeP l self = 0 then liveP l self else []),I (placeP l self)])
def F_cast_Next : Int × Node × Int → Prop × List PV × List PV := fun (self,n,t) => (peersOk n.peers = true ∧ rng self 0 (n.peers.length - 1) = true ∧ isT t = true,[I self,bb n.up,I n.inc,L n.peers,L n.topics,L n.calls,I n.pubs,I n.asks,L n.marks,L n.taken,I t],[I (nextN t (liveP n.peers self) self)])
def F_ref19_Check : Config × Int × Node → Prop × List PV × List PV := fun (c,self,n) => (True,[I c.nodes,I c.topics,I c.kids,I c.depth,I c.keep,I c.window,I c.queue,I self,bb n.up,I n.inc,L n.peers,L n.topics,L n.calls,I n.pubs,I n.asks,L n.marks,L n.taken],[I (nodeWhy c self n)])
def F_msg_ends : Msg → Prop × List PV × List PV := fun m => (True,[I m.kind,I m.frm,I m.fromInc,I m.to,I m.toInc,I m.topic,I m.epoch,I m.seq,I m.last,I m.value,I m.node,I m.inc,I m.count,I m.hops,L m.path,L m.todo],[bb (endsOk m)])
def F_msg_Unlike : (List Int) → Prop × List PV × List PV := fun l => (True,[L l],[bb (decide l.Nodup)])
def F_msg_way : (List Int) → Prop × List PV × List PV := fun l => (True,[L l],[bb (wayOk l)])
def F_msg_place : Msg → Prop × List PV × List PV := fun m => (True,[I m.kind,I m.frm,I m.fromInc,I m.to,I m.toInc,I m.topic,I m.epoch,I m.seq,I m.last,I m.value,I m.node,I m.inc,I m.count,I m.hops,L m.path,L m.todo],[bb (placeM m)])
def F_msg_whose : Msg → Prop × List PV × List PV := fun m => (True,[I m.kind,I m.frm,I m.fromInc,I m.to,I m.toInc,I m.topic,I m.epoch,I m.seq,I m.last,I m.value,I m.node,I m.inc,I m.count,I m.hops,L m.path,L m.todo],[bb (whoseM m)])
noncomputable def f_slices_Grow_int_int : List PV → Option (List PV) := fnOf (fun (((l,n)) : (List Int) × Int) => l = [] ∧ 0 ≤ n ∧ n ≤ 1000000) (fun (((l,n)) : (List Int) × Int) => [L l,I n]) (fun (((l,n)) : (List Int) × Int) => [L l])
def F_slices_Concat_int_int : (List (List Int)) → Prop × List PV × List PV := fun ls => (ls.flatten.length ≤ 1000000,[L ls],[L ls.flatten])
def F_msg_bare : Msg → Prop × List PV × List PV := fun m => (True,[I m.kind,I m.frm,I m.fromInc,I m.to,I m.toInc,I m.topic,I m.epoch,I m.seq,I m.last,I m.value,I m.node,I m.inc,I m.count,I m.hops,L m.path,L m.todo],[I (bareM m).1.kind,I (bareM m).1.frm,I (bareM m).1.fromInc,I (bareM m).1.to,I (bareM m).1.toInc,I (bareM m).1.topic,I (bareM m).1.epoch,I (bareM m).1.seq,I (bareM m).1.last,I (bareM m).1.value,I (bareM m).1.node,I (bareM m).1.inc,I (bareM m).1.count,I (bareM m).1.hops,L (bareM m).1.path,L (bareM m).1.todo,bb (bareM m).2])
def F_msg_Check : Msg → Prop × List PV × List PV := fun m => (True,[I m.kind,I m.frm,I m.fromInc,I m.to,I m.toInc,I m.topic,I m.epoch,I m.seq,I m.last,I m.value,I m.node,I m.inc,I m.count,I m.hops,L m.path,L m.todo],[I (if msgOk m = true then 0 else 5)])
def F_law06_Heavy : Msg → Prop × List PV × List PV := fun m => (True,[I m.kind,I m.frm,I m.fromInc,I m.to,I m.toInc,I m.topic,I m.epoch,I m.seq,I m.last,I m.value,I m.node,I m.inc,I m.count,I m.hops,L m.path,L m.todo],[bb (decide (m.path.length > 30) || decide (m.todo.length > 30))])
noncomputable def f_law06_Heavy := fnT F_law06_Heavy
def F_ref19_has : (List Int) × Int → Prop × List PV × List PV := fun (l,n) => (True,[L l,I n],[bb (l.contains n)])
def F_ref01_Unlike : (List Int) → Prop × List PV × List PV := fun l => (True,[L l],[bb (decide l.Nodup)])
def F_ref01_nodes : (List Int) → Prop × List PV × List PV := fun l => (True,[L l],[bb (l.all isN && decide (l.length ≤ 8))])
def F_ref01_count : Int → Prop × List PV × List PV := fun n => (True,[I n],[bb (cnt n)])
def F_ref10_Live : (List Peer) × Int → Prop × List PV × List PV := fun (l,self) => (l.length ≤ 1000,[L l,I self],[L (liveP l self)])
def F_ref10_Put : (List Event) × Int × Event → Prop × List PV × List PV := fun (l,limit,x) => (l.length ≤ 1000 ∧ 2 ≤ limit ∧ limit ≤ 32 ∧ (x.kind = 3 ∨ x.kind = 4),[L l,I limit,I x.kind,I x.epoch,I x.seq,I x.last,I x.value,I x.count],[L (if (l.length : Int) < limit - 1 then l ++ [x] else l),bb (decide ((l.length : Int) < limit - 1))])
def F_bkeep_Msg : Msg × Msg → Prop × List PV × List PV := fun (a,b) => (True,[I a.kind,I a.frm,I a.fromInc,I a.to,I a.toInc,I a.topic,I a.epoch,I a.seq,I a.last,I a.value,I a.node,I a.inc,I a.count,I a.hops,L a.path,L a.todo,I b.kind,I b.frm,I b.fromInc,I b.to,I b.toInc,I b.topic,I b.epoch,I b.seq,I b.last,I b.value,I b.node,I b.inc,I b.count,I b.hops,L b.path,L b.todo],[bb (decide (a = b))])
def F_bkeep_Msgs : (List Msg) × (List Msg) → Prop × List PV × List PV := fun (a,b) => (True,[L a,L b],[bb (decide (a = b))])
def F_ref01_Msg : Msg → Prop × List PV × List PV := fun m => (m.path.length ≤ 30 ∧ m.todo.length ≤ 30,[I m.kind,I m.frm,I m.fromInc,I m.to,I m.toInc,I m.topic,I m.epoch,I m.seq,I m.last,I m.value,I m.node,I m.inc,I m.count,I m.hops,L m.path,L m.todo],[bb (msgOk m)])
def F_kids_Older : Int × Int × Int × (List Kid) → Prop × List PV × List PV := fun (t,self,limit,l) => (kidsOk t self limit l = true,[I t,I self,I limit,L l],[L (olderK l),I 0])
def F_ref10_OlderKids : (List Kid) → Prop × List PV × List PV := fun l => (l.length ≤ 1000 ∧ ∀ k ∈ l,0 ≤ k.age ∧ k.age ≤ 1000,[L l],[L (olderK l)])
def F_view_Older : (List Peer) → Prop × List PV × List PV := fun l => (peersOk l = true,[L l],[L (olderP l),I 0])
def F_ref10_Older : (List Peer) → Prop × List PV × List PV := fun l => (peersOk l = true,[L l],[L (olderP l)])
def F_epoch_Next : Int × Int → Prop × List PV × List PV := fun (n,top) => (isN n = true ∧ 0 ≤ top ∧ top ≤ 1073741824,[I n,I top],[I (nextW n top),I (if nextW n top = 0 then 11 else 0)])
def F_ref10_NextEpoch : Int × Int → Prop × List PV × List PV := fun (n,top) => (isN n = true ∧ 0 ≤ top ∧ top ≤ 1073741824,[I n,I top],[I (nextW n top)])
def F_flow_Begun : Int × Int → Prop × List PV × List PV := fun (e,n) => (True,[I e,I n],[I (begun e n).epoch,I (begun e n).want,I (begun e n).known,L (begun e n).kept,L (begun e n).ahead])
def F_ref10_Begun : Int × Int → Prop × List PV × List PV := fun (epoch,n) => (True,[I epoch,I n],[I (begun epoch n).epoch,I (begun epoch n).want,I (begun epoch n).known,L (begun epoch n).kept,L (begun epoch n).ahead])
def F_flow_Lacks : Stream → Prop × List PV × List PV := fun s => (True,[I s.epoch,I s.want,I s.known,L s.kept,L s.ahead],[bb (decide (s.want < s.known))])
def F_graft_without : Topic → Prop × List PV × List PV := fun x => (heavy19 x = false,[bb x.made,bb x.sub,I x.top,I x.root,I x.parent,I x.asked,I x.other,I x.age,L x.path,L x.kids,I x.stream.epoch,I x.stream.want,I x.stream.known,L x.stream.kept,L x.stream.ahead,L x.queue],[bb (lostT x).made,bb (lostT x).sub,I (lostT x).top,I (lostT x).root,I (lostT x).parent,I (lostT x).asked,I (lostT x).other,I (lostT x).age,L (lostT x).path,L (lostT x).kids,I (lostT x).stream.epoch,I (lostT x).stream.want,I (lostT x).stream.known,L (lostT x).stream.kept,L (lostT x).stream.ahead,L (lostT x).queue])
def F_ref10_Lost : Topic → Prop × List PV × List PV := fun x => (heavy19 x = false,[bb x.made,bb x.sub,I x.top,I x.root,I x.parent,I x.asked,I x.other,I x.age,L x.path,L x.kids,I x.stream.epoch,I x.stream.want,I x.stream.known,L x.stream.kept,L x.stream.ahead,L x.queue],[bb (lostT x).made,bb (lostT x).sub,I (lostT x).top,I (lostT x).root,I (lostT x).parent,I (lostT x).asked,I (lostT x).other,I (lostT x).age,L (lostT x).path,L (lostT x).kids,I (lostT x).stream.epoch,I (lostT x).stream.want,I (lostT x).stream.known,L (lostT x).stream.kept,L (lostT x).stream.ahead,L (lostT x).queue])
def F_graft_Lost : Config × Int × Int × Topic → Prop × List PV × List PV := fun (c,t,self,x) => (tWhy c t self x = 0,[I c.nodes,I c.topics,I c.kids,I c.depth,I c.keep,I c.window,I c.queue,I t,I self,bb x.made,bb x.sub,I x.top,I x.root,I x.parent,I x.asked,I x.other,I x.age,L x.path,L x.kids,I x.stream.epoch,I x.stream.want,I x.stream.known,L x.stream.kept,L x.stream.ahead,L x.queue],[bb (lostT x).made,bb (lostT x).sub,I (lostT x).top,I (lostT x).root,I (lostT x).parent,I (lostT x).asked,I (lostT x).other,I (lostT x).age,L (lostT x).path,L (lostT x).kids,I (lostT x).stream.epoch,I (lostT x).stream.want,I (lostT x).stream.known,L (lostT x).stream.kept,L (lostT x).stream.ahead,L (lostT x).queue,I 0])
def F_root_Become : Config × Int × Int × Topic → Prop × List PV × List PV := fun (c,t,self,x) => (tWhy c t self x = 0,[I c.nodes,I c.topics,I c.kids,I c.depth,I c.keep,I c.window,I c.queue,I t,I self,bb x.made,bb x.sub,I x.top,I x.root,I x.parent,I x.asked,I x.other,I x.age,L x.path,L x.kids,I x.stream.epoch,I x.stream.want,I x.stream.known,L x.stream.kept,L x.stream.ahead,L x.queue],[bb ((becomeR self x).1).made,bb ((becomeR self x).1).sub,I ((becomeR self x).1).top,I ((becomeR self x).1).root,I ((becomeR self x).1).parent,I ((becomeR self x).1).asked,I ((becomeR self x).1).other,I ((becomeR self x).1).age,L ((becomeR self x).1).path,L ((becomeR self x).1).kids,I ((becomeR self x).1).stream.epoch,I ((becomeR self x).1).stream.want,I ((becomeR self x).1).stream.known,L ((becomeR self x).1).stream.kept,L ((becomeR self x).1).stream.ahead,L ((becomeR self x).1).queue,I (becomeR self x).2])
def F_ref10_Become : Int × Topic → Prop × List PV × List PV := fun (self,x) => (heavy19 x = false ∧ isN self = true ∧ 0 ≤ x.top ∧ x.top ≤ 1073741824,[I self,bb x.made,bb x.sub,I x.top,I x.root,I x.parent,I x.asked,I x.other,I x.age,L x.path,L x.kids,I x.stream.epoch,I x.stream.want,I x.stream.known,L x.stream.kept,L x.stream.ahead,L x.queue],[bb ((becomeR self x).1).made,bb ((becomeR self x).1).sub,I ((becomeR self x).1).top,I ((becomeR self x).1).root,I ((becomeR self x).1).parent,I ((becomeR self x).1).asked,I ((becomeR self x).1).other,I ((becomeR self x).1).age,L ((becomeR self x).1).path,L ((becomeR self x).1).kids,I ((becomeR self x).1).stream.epoch,I ((becomeR self x).1).stream.want,I ((becomeR self x).1).stream.known,L ((becomeR self x).1).stream.kept,L ((becomeR self x).1).stream.ahead,L ((becomeR self x).1).queue,I (becomeR self x).2])
def F_root_Step : Config × Int × Int × Topic → Prop × List PV × List PV := fun (c,t,self,x) => (tWhy c t self x = 0,[I c.nodes,I c.topics,I c.kids,I c.depth,I c.keep,I c.window,I c.queue,I t,I self,bb x.made,bb x.sub,I x.top,I x.root,I x.parent,I x.asked,I x.other,I x.age,L x.path,L x.kids,I x.stream.epoch,I x.stream.want,I x.stream.known,L x.stream.kept,L x.stream.ahead,L x.queue],[bb ({ x with root := 0 }).made,bb ({ x with root := 0 }).sub,I ({ x with root := 0 }).top,I ({ x with root := 0 }).root,I ({ x with root := 0 }).parent,I ({ x with root := 0 }).asked,I ({ x with root := 0 }).other,I ({ x with root := 0 }).age,L ({ x with root := 0 }).path,L ({ x with root := 0 }).kids,I ({ x with root := 0 }).stream.epoch,I ({ x with root := 0 }).stream.want,I ({ x with root := 0 }).stream.known,L ({ x with root := 0 }).stream.kept,L ({ x with root := 0 }).stream.ahead,L ({ x with root := 0 }).queue,I 0])
def F_beat_Interest : Topic → Prop × List PV × List PV := fun x => (True,[bb x.made,bb x.sub,I x.top,I x.root,I x.parent,I x.asked,I x.other,I x.age,L x.path,L x.kids,I x.stream.epoch,I x.stream.want,I x.stream.known,L x.stream.kept,L x.stream.ahead,L x.queue],[bb (interest x)])
def F_ref19_Interest : Topic → Prop × List PV × List PV := fun x => (True,[bb x.made,bb x.sub,I x.top,I x.root,I x.parent,I x.asked,I x.other,I x.age,L x.path,L x.kids,I x.stream.epoch,I x.stream.want,I x.stream.known,L x.stream.kept,L x.stream.ahead,L x.queue],[bb (interest x)])
def F_bkeep_TwinMsg : Msg → Prop × List PV × List PV := fun m => (m.path.length ≤ 30 ∧ m.todo.length ≤ 30,[I m.kind,I m.frm,I m.fromInc,I m.to,I m.toInc,I m.topic,I m.epoch,I m.seq,I m.last,I m.value,I m.node,I m.inc,I m.count,I m.hops,L m.path,L m.todo],[I (m).kind,I (m).frm,I (m).fromInc,I (m).to,I (m).toInc,I (m).topic,I (m).epoch,I (m).seq,I (m).last,I (m).value,I (m).node,I (m).inc,I (m).count,I (m).hops,L (m).path,L (m).todo])
def F_msg_Twin : Msg → Prop × List PV × List PV := fun m => (m.path.length ≤ 30 ∧ m.todo.length ≤ 30,[I m.kind,I m.frm,I m.fromInc,I m.to,I m.toInc,I m.topic,I m.epoch,I m.seq,I m.last,I m.value,I m.node,I m.inc,I m.count,I m.hops,L m.path,L m.todo],[I (m).kind,I (m).frm,I (m).fromInc,I (m).to,I (m).toInc,I (m).topic,I (m).epoch,I (m).seq,I (m).last,I (m).value,I (m).node,I (m).inc,I (m).count,I (m).hops,L (m).path,L (m).todo])
def F_beat_Made : Int × Node × (List Msg) → Prop × List PV × List PV := fun (self,n,l) => (l.length ≤ 1000 ∧ n.peers.length ≤ 12 ∧ ∀ m ∈ l,m.path.length ≤ 30 ∧ m.todo.length ≤ 30,[I self,bb n.up,I n.inc,L n.peers,L n.topics,L n.calls,I n.pubs,I n.asks,L n.marks,L n.taken,L l],[L (madeL self n l),bb (madeGo self n l).isSome])
def F_beat_Ready : Config × Int × Node × (List Msg) → Prop × List PV × List PV := fun (c,self,n,l) => (heavy21 n = false ∧ l.length ≤ 1000 ∧ ∀ m ∈ l,m.path.length ≤ 30 ∧ m.todo.length ≤ 30,[I c.nodes,I c.topics,I c.kids,I c.depth,I c.keep,I c.window,I c.queue,I self,bb n.up,I n.inc,L n.peers,L n.topics,L n.calls,I n.pubs,I n.asks,L n.marks,L n.taken,L l],[L (readyW c self n l).1,I (readyW c self n l).2])
def F_ref19_Ready : Int × Node × (List Msg) → Prop × List PV × List PV := fun (self,n,l) => (l.length ≤ 1000 ∧ n.peers.length ≤ 12 ∧ ∀ m ∈ l,m.path.length ≤ 30 ∧ m.todo.length ≤ 30,[I self,bb n.up,I n.inc,L n.peers,L n.topics,L n.calls,I n.pubs,I n.asks,L n.marks,L n.taken,L l],[L (madeL self n l),bb (madeGo self n l).isSome])
def F_ref19_ready : Int × Node × (List Msg) → Prop × List PV × List PV := fun (self,n,l) => (l.length ≤ 1000 ∧ n.peers.length ≤ 12 ∧ ∀ m ∈ l,m.path.length ≤ 30 ∧ m.todo.length ≤ 30,[I self,bb n.up,I n.inc,L n.peers,L n.topics,L n.calls,I n.pubs,I n.asks,L n.marks,L n.taken,L l],[L (madeL self n l)])
def F_beat_Tick : Config × Int × Node → Prop × List PV × List PV := fun (c,self,n) => (heavy21 n = false,[I c.nodes,I c.topics,I c.kids,I c.depth,I c.keep,I c.window,I c.queue,I self,bb n.up,I n.inc,L n.peers,L n.topics,L n.calls,I n.pubs,I n.asks,L n.marks,L n.taken],[bb ((tickW c self n).1).up,I ((tickW c self n).1).inc,L ((tickW c self n).1).peers,L ((tickW c self n).1).topics,L ((tickW c self n).1).calls,I ((tickW c self n).1).pubs,I ((tickW c self n).1).asks,L ((tickW c self n).1).marks,L ((tickW c self n).1).taken,L (tickW c self n).2.1,I (tickW c self n).2.2])
def F_ref19_Tick : Config × Int × Node → Prop × List PV × List PV := fun (c,self,n) => (heavy21 n = false ∧ nodeWhy c self n = 0,[I c.nodes,I c.topics,I c.kids,I c.depth,I c.keep,I c.window,I c.queue,I self,bb n.up,I n.inc,L n.peers,L n.topics,L n.calls,I n.pubs,I n.asks,L n.marks,L n.taken],[bb (tickN c self n).up,I (tickN c self n).inc,L (tickN c self n).peers,L (tickN c self n).topics,L (tickN c self n).calls,I (tickN c self n).pubs,I (tickN c self n).asks,L (tickN c self n).marks,L (tickN c self n).taken,L (tickM c self n)])
def F_law22_wakes : Unit → Prop × List PV × List PV := fun _ => (True,[],[bb true])
noncomputable def f_law22_wakes := fnT F_law22_wakes
def F_law22_BeatExact : Config × Int × Node × (List Msg) → Prop × List PV × List PV := fun (c,self,n,l) => (True,[I c.nodes,I c.topics,I c.kids,I c.depth,I c.keep,I c.window,I c.queue,I self,bb n.up,I n.inc,L n.peers,L n.topics,L n.calls,I n.pubs,I n.asks,L n.marks,L n.taken,L l],[bb true])
noncomputable def f_law22_BeatExact := fnT F_law22_BeatExact
def F_law22_BeatRight : Config × Int × Node → Prop × List PV × List PV := fun (c,self,n) => (True,[I c.nodes,I c.topics,I c.kids,I c.depth,I c.keep,I c.window,I c.queue,I self,bb n.up,I n.inc,L n.peers,L n.topics,L n.calls,I n.pubs,I n.asks,L n.marks,L n.taken],[bb true])
noncomputable def f_law22_BeatRight := fnT F_law22_BeatRight
def F_law22_BeatTopics : Config × Int × Node → Prop × List PV × List PV := fun (c,self,n) => (True,[I c.nodes,I c.topics,I c.kids,I c.depth,I c.keep,I c.window,I c.queue,I self,bb n.up,I n.inc,L n.peers,L n.topics,L n.calls,I n.pubs,I n.asks,L n.marks,L n.taken],[bb true])
noncomputable def f_law22_BeatTopics := fnT F_law22_BeatTopics
def F_law22_BeatQuiet : Config × Int × Node → Prop × List PV × List PV := fun (c,self,n) => (True,[I c.nodes,I c.topics,I c.kids,I c.depth,I c.keep,I c.window,I c.queue,I self,bb n.up,I n.inc,L n.peers,L n.topics,L n.calls,I n.pubs,I n.asks,L n.marks,L n.taken],[bb true])
noncomputable def f_law22_BeatQuiet := fnT F_law22_BeatQuiet
def F_cast_Twin : Node → Prop × List PV × List PV := fun n => (heavy21 n = false,[bb n.up,I n.inc,L n.peers,L n.topics,L n.calls,I n.pubs,I n.asks,L n.marks,L n.taken],[bb (n).up,I (n).inc,L (n).peers,L (n).topics,L (n).calls,I (n).pubs,I (n).asks,L (n).marks,L (n).taken])
noncomputable def ρ : Fns := fun K => match K with
  | 155 => fnT F_ring_Is
  | 159 => fnT F_ring_Node
  | 89 => fnT F_ring_Topic
  | 160 => fnT F_key_Far
  | 196 => fnT F_ref01_Node
  | 195 => fnT F_ref01_Topic
  | 194 => fnT F_ref01_Behind
  | 93 => fnT F_ring_Gap
  | 34 => fnT F_ring_Nearer
  | 68 => fnT F_ref01_IsTopic
  | 66 => fnT F_ref01_IsNode
  | 146 => fnT F_ref01_Gap
  | 151 => fnT F_ref01_Nearer
  | 90 => fnT F_ring_All
  | 236 => fnT F_path_rises
  | 218 => fnT F_path_Check
  | 71 => fnT F_bkeep_TwinInts
  | 133 => fnT F_bkeep_Ints
  | 176 => fnT F_ref10_Path
  | 50 => fnT F_slices_Contains_int_int
  | 200 => f_slices_Sort_int_int
  | 201 => f_slices_Compact_int_int
  | 223 => fnT F_key_is
  | 198 => fnT F_key_Back
  | 32 => fnT F_ring_Owner
  | 156 => fnT F_route_Check
  | 199 => fnT F_route_first
  | 158 => fnT F_route_ahead
  | 157 => fnT F_route_fingers
  | 92 => fnT F_route_next
  | 91 => fnT F_route_asked
  | 33 => fnT F_route_Next
  | 197 => fnT F_ref10_behind
  | 150 => fnT F_ref10_Ahead
  | 149 => fnT F_ref10_Fingers
  | 82 => fnT F_ref01_Owner
  | 86 => fnT F_ref10_Next
  | 182 => f_script_field
  | 181 => f_errors_Join
  | 122 => f_script_errno
  | 123 => fnT F_script_config
  | 56 => fnT F_script_Config
  | 60 => fnT F_ref01_In
  | 53 => fnT F_ref01_Config
  | 253 => fnT F_epoch_Check
  | 235 => fnT F_epoch_Who
  | 101 => fnT F_msg_in
  | 95 => fnT F_msg_Counted
  | 43 => fnT F_msg_Value
  | 42 => fnT F_cast_in
  | 54 => fnT F_ref19_in
  | 173 => fnT F_ref10_in
  | 19 => fnT F_ref01_Value
  | 229 => fnT F_ref10_count
  | 174 => fnT F_ref10_Epoch
  | 187 => fnT F_view_right
  | 129 => fnT F_view_Check
  | 120 => fnT F_ref10_Peers
  | 221 => fnT F_kids_right
  | 189 => fnT F_kids_Check
  | 177 => fnT F_ref10_Kids
  | 263 => fnT F_keep_right
  | 255 => fnT F_keep_Check
  | 230 => fnT F_ref10_Kept
  | 264 => fnT F_ahead_fits
  | 256 => fnT F_ahead_Check
  | 231 => fnT F_ref10_Ahead2
  | 205 => fnT F_queue_Event
  | 232 => fnT F_ref10_Event
  | 204 => fnT F_queue_Check
  | 208 => fnT F_ref10_Queue
  | 254 => fnT F_flow_zero
  | 237 => fnT F_flow_right
  | 219 => fnT F_flow_Check
  | 207 => fnT F_ref10_Stream
  | 178 => fnT F_ref10_Flow
  | 215 => fnT F_graft_link
  | 175 => fnT F_ref10_near
  | 216 => fnT F_graft_rooted
  | 217 => fnT F_graft_placed
  | 183 => fnT F_graft_right
  | 125 => fnT F_graft_Check
  | 121 => fnT F_ref10_Topic
  | 124 => fnT F_cast_calls
  | 128 => fnT F_cast_mark
  | 132 => fnT F_cast_taken
  | 57 => fnT F_cast_right
  | 16 => fnT F_cast_Check
  | 55 => fnT F_ref19_Node
  | 58 => fnT F_bkeep_Peers
  | 134 => fnT F_bkeep_Kids
  | 94 => fnT F_bkeep_Items
  | 135 => fnT F_bkeep_Events
  | 35 => fnT F_bkeep_Stream
  | 59 => fnT F_bkeep_Topic
  | 17 => fnT F_bkeep_Node
  | 98 => fnT F_bkeep_TwinKids
  | 161 => fnT F_bkeep_TwinItems
  | 100 => fnT F_bkeep_TwinEvents
  | 40 => fnT F_bkeep_TwinPeers
  | 99 => fnT F_bkeep_TwinStream
  | 41 => fnT F_bkeep_TwinTopic
  | 97 => f_law18_Heavy
  | 39 => f_law19_Heavy
  | 9 => f_law21_Heavy
  | 36 => f_law19_Full
  | 96 => fnT F_slices_Clone_api_Peer_api_Peer
  | 103 => fnT F_slices_Clone_api_Call_api_Call
  | 104 => fnT F_slices_Clone_api_Mark_api_Mark
  | 105 => fnT F_slices_Clone_api_Mark2_api_Mark2
  | 162 => fnT F_slices_Clone_api_Kid_api_Kid
  | 163 => fnT F_slices_Clone_api_Event_api_Event
  | 203 => fnT F_slices_Clone_api_Item_api_Item
  | 107 => fnT F_slices_Clone_int_int
  | 102 => fnT F_graft_Twin
  | 206 => fnT F_queue_gap
  | 172 => fnT F_queue_Put
  | 119 => fnT F_queue_Fit
  | 109 => fnT F_cast_Heed
  | 88 => fnT F_view_place
  | 31 => fnT F_view_Live
  | 166 => fnT F_cast_Next
  | 15 => fnT F_ref19_Check
  | 111 => fnT F_msg_ends
  | 170 => fnT F_msg_Unlike
  | 167 => fnT F_msg_way
  | 168 => fnT F_msg_place
  | 169 => fnT F_msg_whose
  | 114 => f_slices_Grow_int_int
  | 49 => fnT F_slices_Concat_int_int
  | 110 => fnT F_msg_bare
  | 47 => fnT F_msg_Check
  | 10 => f_law06_Heavy
  | 65 => fnT F_ref19_has
  | 70 => fnT F_ref01_Unlike
  | 69 => fnT F_ref01_nodes
  | 67 => fnT F_ref01_count
  | 145 => fnT F_ref10_Live
  | 144 => fnT F_ref10_Put
  | 63 => fnT F_bkeep_Msg
  | 21 => fnT F_bkeep_Msgs
  | 24 => fnT F_ref01_Msg
  | 138 => fnT F_kids_Older
  | 81 => fnT F_ref10_OlderKids
  | 74 => fnT F_view_Older
  | 78 => fnT F_ref10_Older
  | 191 => fnT F_epoch_Next
  | 147 => fnT F_ref10_NextEpoch
  | 192 => fnT F_flow_Begun
  | 148 => fnT F_ref10_Begun
  | 193 => fnT F_flow_Lacks
  | 238 => fnT F_graft_without
  | 85 => fnT F_ref10_Lost
  | 222 => fnT F_graft_Lost
  | 141 => fnT F_root_Become
  | 84 => fnT F_ref10_Become
  | 142 => fnT F_root_Step
  | 139 => fnT F_beat_Interest
  | 83 => fnT F_ref19_Interest
  | 77 => fnT F_bkeep_TwinMsg
  | 137 => fnT F_msg_Twin
  | 73 => fnT F_beat_Made
  | 26 => fnT F_beat_Ready
  | 29 => fnT F_ref19_Ready
  | 87 => fnT F_ref19_ready
  | 27 => fnT F_beat_Tick
  | 30 => fnT F_ref19_Tick
  | 28 => f_law22_wakes
  | 4 => f_law22_BeatExact
  | 5 => f_law22_BeatRight
  | 6 => f_law22_BeatTopics
  | 7 => f_law22_BeatQuiet
  | 44 => fnT F_cast_Twin
  | _ => fun _ => none
theorem c_ring_Is {z0 : Int} {k_ : PV → Prop} : CALL ρ 155 [I z0] 1 k_ = k_ (bb (isN z0)) := CALL_E (F := F_ring_Is) rfl (fun _ => rfl) z0 trivial rfl
theorem c_ring_Node {z0 : Int} {k_ : PV → PV → Prop} : CALL ρ 159 [I z0] 2 k_ = k_ (I (if isN z0 = true then nn z0 else 0)) (I (if isN z0 = true then 0 else 1)) := CALL_E (F := F_ring_Node) rfl (fun _ => rfl) z0 trivial rfl
theorem c_ring_Topic {z0 : Int} {k_ : PV → PV → Prop} : CALL ρ 89 [I z0] 2 k_ = k_ (I (if isT z0 = true then tt z0 else 0)) (I (if isT z0 = true then 0 else 1)) := CALL_E (F := F_ring_Topic) rfl (fun _ => rfl) z0 trivial rfl
theorem c_key_Far {z0 z1 : Int} {k_ : PV → Prop} (h : 0 ≤ z0 ∧ z0 < 4611686018427387904 ∧ 0 ≤ z1 ∧ z1 < 4611686018427387904) : CALL ρ 160 [I z0,I z1] 1 k_ = k_ (I (far z0 z1)) := CALL_E (F := F_key_Far) rfl (fun _ => rfl) (z0,z1) h rfl
theorem c_ref01_Node {z0 : Int} {k_ : PV → Prop} (h : isN z0 = true) : CALL ρ 196 [I z0] 1 k_ = k_ (I (nn z0)) := CALL_E (F := F_ref01_Node) rfl (fun _ => rfl) z0 h rfl
theorem c_ref01_Topic {z0 : Int} {k_ : PV → Prop} (h : isT z0 = true) : CALL ρ 195 [I z0] 1 k_ = k_ (I (tt z0)) := CALL_E (F := F_ref01_Topic) rfl (fun _ => rfl) z0 h rfl
theorem c_ref01_Behind {z0 z1 : Int} {k_ : PV → Prop} (h : 0 ≤ z0 ∧ z0 < 4611686018427387904 ∧ 0 ≤ z1 ∧ z1 < 4611686018427387904) : CALL ρ 194 [I z0,I z1] 1 k_ = k_ (I (far z0 z1)) := CALL_E (F := F_ref01_Behind) rfl (fun _ => rfl) (z0,z1) h rfl
theorem c_ring_Gap {z0 z1 : Int} {k_ : PV → PV → Prop} : CALL ρ 93 [I z0,I z1] 2 k_ = k_ (I (if (isT z0 && isN z1) = true then gap z0 z1 else 0)) (I (if (isT z0 && isN z1) = true then 0 else 1)) := CALL_E (F := F_ring_Gap) rfl (fun _ => rfl) (z0,z1) trivial rfl
theorem c_ring_Nearer {z0 z1 z2 : Int} {k_ : PV → Prop} : CALL ρ 34 [I z0,I z1,I z2] 1 k_ = k_ (bb (near z0 z1 z2)) := CALL_E (F := F_ring_Nearer) rfl (fun _ => rfl) (z0,z1,z2) trivial rfl
theorem c_ref01_IsTopic {z0 : Int} {k_ : PV → Prop} : CALL ρ 68 [I z0] 1 k_ = k_ (bb (isT z0)) := CALL_E (F := F_ref01_IsTopic) rfl (fun _ => rfl) z0 trivial rfl
theorem c_ref01_IsNode {z0 : Int} {k_ : PV → Prop} : CALL ρ 66 [I z0] 1 k_ = k_ (bb (isN z0)) := CALL_E (F := F_ref01_IsNode) rfl (fun _ => rfl) z0 trivial rfl
theorem c_ref01_Gap {z0 z1 : Int} {k_ : PV → Prop} (h : isT z0 = true ∧ isN z1 = true) : CALL ρ 146 [I z0,I z1] 1 k_ = k_ (I (gap z0 z1)) := CALL_E (F := F_ref01_Gap) rfl (fun _ => rfl) (z0,z1) h rfl
theorem c_ref01_Nearer {z0 z1 z2 : Int} {k_ : PV → Prop} : CALL ρ 151 [I z0,I z1,I z2] 1 k_ = k_ (bb (near z0 z1 z2)) := CALL_E (F := F_ref01_Nearer) rfl (fun _ => rfl) (z0,z1,z2) trivial rfl
theorem c_ring_All {z0 : List Int} {k_ : PV → Prop} : CALL ρ 90 [L z0] 1 k_ = k_ (bb (z0.all isN)) := CALL_E (F := F_ring_All) rfl (fun _ => rfl) z0 trivial rfl
theorem c_path_rises {z0 z1 : Int} {z2 : List Int} {k_ : PV → Prop} : CALL ρ 236 [I z0,I z1,L z2] 1 k_ = k_ (bb (rises z0 z1 z2)) := CALL_E (F := F_path_rises) rfl (fun _ => rfl) (z0,z1,z2) trivial rfl
theorem c_path_Check {z0 z1 : Int} {z2 : List Int} {z3 : Int} {k_ : PV → Prop} : CALL ρ 218 [I z0,I z1,L z2,I z3] 1 k_ = k_ (I (chk z0 z1 z2 z3)) := CALL_E (F := F_path_Check) rfl (fun _ => rfl) (z0,z1,z2,z3) trivial rfl
theorem c_bkeep_TwinInts {z0 : List Int} {k_ : PV → Prop} (h : z0.length ≤ 1000000) : CALL ρ 71 [L z0] 1 k_ = k_ (L z0) := CALL_E (F := F_bkeep_TwinInts) rfl (fun _ => rfl) z0 h rfl
theorem c_bkeep_Ints {z0 z1 : List Int} {k_ : PV → Prop} : CALL ρ 133 [L z0,L z1] 1 k_ = k_ (bb (decide (z0 = z1))) := CALL_E (F := F_bkeep_Ints) rfl (fun _ => rfl) (z0,z1) trivial rfl
theorem c_ref10_Path {z0 z1 : Int} {z2 : List Int} {z3 : Int} {k_ : PV → Prop} (h : isT z0 = true ∧ isN z1 = true) : CALL ρ 176 [I z0,I z1,L z2,I z3] 1 k_ = k_ (I (chkR z0 z1 z2 z3)) := CALL_E (F := F_ref10_Path) rfl (fun _ => rfl) (z0,z1,z2,z3) h rfl
theorem c_slices_Contains_int_int {z0 : List Int} {z1 : Int} {k_ : PV → Prop} : CALL ρ 50 [L z0,I z1] 1 k_ = k_ (bb (z0.contains z1)) := CALL_E (F := F_slices_Contains_int_int) rfl (fun _ => rfl) (z0,z1) trivial rfl
theorem r_slices_Sort_int_int {l : List Int} (h : l.length < 4611686018427387904) : f_slices_Sort_int_int [L l] = some [L (sorted l)] := fnOf_eq (a := l) (by intro a b h;simpa [L_inj,E_inj] using h) h
theorem c_slices_Sort_int_int {l : List Int} {k_ : PV → Prop} (h : l.length < 4611686018427387904) : CALL ρ 200 [L l] 1 k_ = k_ (L (sorted l)) := CALL_of (ρ := ρ) (K := 200) (m := 1) (k := k_) (r_slices_Sort_int_int h) rfl
theorem r_slices_Compact_int_int {l : List Int} (h : l.length < 4611686018427387904) : f_slices_Compact_int_int [L l] = some [L (compacted l)] := fnOf_eq (a := l) (by intro a b h;simpa [L_inj,E_inj] using h) h
theorem c_slices_Compact_int_int {l : List Int} {k_ : PV → Prop} (h : l.length < 4611686018427387904) : CALL ρ 201 [L l] 1 k_ = k_ (L (compacted l)) := CALL_of (ρ := ρ) (K := 201) (m := 1) (k := k_) (r_slices_Compact_int_int h) rfl
theorem c_key_is {z0 : Int} {k_ : PV → Prop} : CALL ρ 223 [I z0] 1 k_ = k_ (bb (isK z0)) := CALL_E (F := F_key_is) rfl (fun _ => rfl) z0 trivial rfl
theorem c_key_Back {z0 z1 : Int} {k_ : PV → PV → Prop} : CALL ρ 198 [I z0,I z1] 2 k_ = k_ (I (if (isK z0 && decide (0 ≤ z1) && decide (z1 ≤ 61)) = true then far (2 ^ z1.toNat) z0 else 0)) (I (if (isK z0 && decide (0 ≤ z1) && decide (z1 ≤ 61)) = true then 0 else 1)) := CALL_E (F := F_key_Back) rfl (fun _ => rfl) (z0,z1) trivial rfl
theorem c_ring_Owner {z0 : Int} {z1 : List Int} {k_ : PV → PV → Prop} : CALL ρ 32 [I z0,L z1] 2 k_ = k_ (I (owner z0 z1).1) (I (owner z0 z1).2) := CALL_E (F := F_ring_Owner) rfl (fun _ => rfl) (z0,z1) trivial rfl
theorem c_route_Check {z0 : List Int} {z1 : Int} {k_ : PV → Prop} : CALL ρ 156 [L z0,I z1] 1 k_ = k_ (I (chkL z0 z1)) := CALL_E (F := F_route_Check) rfl (fun _ => rfl) (z0,z1) trivial rfl
theorem c_route_first {z0 : List Int} {z1 : Int} {k_ : PV → Prop} (h : z0.all isN = true ∧ 0 ≤ z1 ∧ z1 < 4611686018427387904) : CALL ρ 199 [L z0,I z1] 1 k_ = k_ (I (firstN z0 z1)) := CALL_E (F := F_route_first) rfl (fun _ => rfl) (z0,z1) h rfl
theorem c_route_ahead {z0 : List Int} {z1 : Int} {k_ : PV → Prop} (h : z0.all isN = true ∧ isN z1 = true) : CALL ρ 158 [L z0,I z1] 1 k_ = k_ (I (aheadN z0 z1)) := CALL_E (F := F_route_ahead) rfl (fun _ => rfl) (z0,z1) h rfl
theorem c_route_fingers {z0 : List Int} {z1 : Int} {k_ : PV → Prop} (h : z0.all isN = true ∧ isN z1 = true ∧ z0 ≠ []) : CALL ρ 157 [L z0,I z1] 1 k_ = k_ (L (fingers z0 z1)) := CALL_E (F := F_route_fingers) rfl (fun _ => rfl) (z0,z1) h rfl
theorem c_route_next {z0 : Int} {z1 : List Int} {z2 : Int} {k_ : PV → Prop} (h : z1.all isN = true ∧ isN z2 = true ∧ z1 ≠ []) : CALL ρ 92 [I z0,L z1,I z2] 1 k_ = k_ (I (nextN z0 z1 z2)) := CALL_E (F := F_route_next) rfl (fun _ => rfl) (z0,z1,z2) h rfl
theorem c_route_asked {z0 : Int} {z1 : List Int} {z2 : Int} {k_ : PV → Prop} : CALL ρ 91 [I z0,L z1,I z2] 1 k_ = k_ (I (askedN z0 z1 z2)) := CALL_E (F := F_route_asked) rfl (fun _ => rfl) (z0,z1,z2) trivial rfl
theorem c_route_Next {z0 : Int} {z1 : List Int} {z2 : Int} {k_ : PV → PV → PV → Prop} : CALL ρ 33 [I z0,L z1,I z2] 3 k_ = k_ (I (if askedN z0 z1 z2 = 0 then max (nextN z0 z1 z2) 0 else 0)) (bb (decide (askedN z0 z1 z2 = 0) && decide (0 ≤ nextN z0 z1 z2))) (I (askedN z0 z1 z2)) := CALL_E (F := F_route_Next) rfl (fun _ => rfl) (z0,z1,z2) trivial rfl
theorem c_ref10_behind {z0 z1 : Int} {k_ : PV → Prop} (h : isN z0 = true ∧ isN z1 = true) : CALL ρ 197 [I z0,I z1] 1 k_ = k_ (I (far (nn z0) (nn z1))) := CALL_E (F := F_ref10_behind) rfl (fun _ => rfl) (z0,z1) h rfl
theorem c_ref10_Ahead {z0 : List Int} {z1 : Int} {k_ : PV → Prop} (h : z0.all isN = true ∧ isN z1 = true) : CALL ρ 150 [L z0,I z1] 1 k_ = k_ (I (aheadN z0 z1)) := CALL_E (F := F_ref10_Ahead) rfl (fun _ => rfl) (z0,z1) h rfl
theorem c_ref10_Fingers {z0 : List Int} {z1 : Int} {k_ : PV → Prop} (h : z0.all isN = true ∧ isN z1 = true ∧ z0 ≠ []) : CALL ρ 149 [L z0,I z1] 1 k_ = k_ (L (fingers z0 z1)) := CALL_E (F := F_ref10_Fingers) rfl (fun _ => rfl) (z0,z1) h rfl
theorem c_ref01_Owner {z0 : Int} {z1 : List Int} {k_ : PV → Prop} (h : isT z0 = true ∧ z1.all isN = true) : CALL ρ 82 [I z0,L z1] 1 k_ = k_ (I (ownerR z0 z1)) := CALL_E (F := F_ref01_Owner) rfl (fun _ => rfl) (z0,z1) h rfl
theorem c_ref10_Next {z0 : Int} {z1 : List Int} {z2 : Int} {k_ : PV → Prop} (h : isT z0 = true ∧ chkL z1 z2 = 0) : CALL ρ 86 [I z0,L z1,I z2] 1 k_ = k_ (I (nextN z0 z1 z2)) := CALL_E (F := F_ref10_Next) rfl (fun _ => rfl) (z0,z1,z2) h rfl
theorem r_script_field {s : ByteArray} {n lo hi why : Int} : f_script_field [.str s,I n,I lo,I hi,I why] = some [E ⟨false,if n < lo ∨ hi < n then [why] else []⟩] := fnOf_eq (a := (s,n,lo,hi,why)) (by rintro ⟨_,_,_,_,_⟩ ⟨_,_,_,_,_⟩ h;simpa [L_inj,E_inj] using h) trivial
theorem c_script_field {s : ByteArray} {n lo hi why : Int} {k_ : PV → Prop} : CALL ρ 182 [.str s,I n,I lo,I hi,I why] 1 k_ = k_ (E ⟨false,if n < lo ∨ hi < n then [why] else []⟩) := CALL_of (ρ := ρ) (K := 182) (m := 1) (k := k_) (r_script_field) rfl
theorem r_errors_Join {xs : List Er} (h : xs ≠ [] ∧ xs.length ≤ 1000 ∧ ∀ x ∈ xs,x.j = false) : f_errors_Join [L xs] = some [E ⟨true,xs.flatMap (·.l)⟩] := fnOf_eq (a := xs) (by intro a b h;simpa [L_inj,E_inj] using h) h
theorem c_errors_Join {xs : List Er} {k_ : PV → Prop} (h : xs ≠ [] ∧ xs.length ≤ 1000 ∧ ∀ x ∈ xs,x.j = false) : CALL ρ 181 [L xs] 1 k_ = k_ (E ⟨true,xs.flatMap (·.l)⟩) := CALL_of (ρ := ρ) (K := 181) (m := 1) (k := k_) (r_errors_Join h) rfl
theorem r_script_errno {x : Er} (h : x.l.length ≤ 1000) : f_script_errno [E x] = some [I (errnoOf x.l)] := fnOf_eq (a := x) (by intro a b h;simpa [L_inj,E_inj] using h) h
theorem c_script_errno {x : Er} {k_ : PV → Prop} (h : x.l.length ≤ 1000) : CALL ρ 122 [E x] 1 k_ = k_ (I (errnoOf x.l)) := CALL_of (ρ := ρ) (K := 122) (m := 1) (k := k_) (r_script_errno h) rfl
theorem c_script_config {z0 z1 z2 z3 z4 z5 z6 : Int} {k_ : PV → Prop} : CALL ρ 123 [I z0,I z1,I z2,I z3,I z4,I z5,I z6] 1 k_ = (fun (c : Config) => k_ (E ⟨true,cfgErrs c⟩)) (Config.mk z0 z1 z2 z3 z4 z5 z6) := CALL_E (F := F_script_config) rfl (fun _ => rfl) (Config.mk z0 z1 z2 z3 z4 z5 z6) trivial rfl
theorem c_script_Config {z0 z1 z2 z3 z4 z5 z6 : Int} {k_ : PV → Prop} : CALL ρ 56 [I z0,I z1,I z2,I z3,I z4,I z5,I z6] 1 k_ = (fun (c : Config) => k_ (I (if cfgOk c = true then 0 else 13))) (Config.mk z0 z1 z2 z3 z4 z5 z6) := CALL_E (F := F_script_Config) rfl (fun _ => rfl) (Config.mk z0 z1 z2 z3 z4 z5 z6) trivial rfl
theorem c_ref01_In {z0 z1 z2 : Int} {k_ : PV → Prop} : CALL ρ 60 [I z0,I z1,I z2] 1 k_ = k_ (bb (decide (z1 ≤ z0) && decide (z0 ≤ z2))) := CALL_E (F := F_ref01_In) rfl (fun _ => rfl) (z0,z1,z2) trivial rfl
theorem c_ref01_Config {z0 z1 z2 z3 z4 z5 z6 : Int} {k_ : PV → Prop} : CALL ρ 53 [I z0,I z1,I z2,I z3,I z4,I z5,I z6] 1 k_ = (fun (c : Config) => k_ (bb (cfgOk c))) (Config.mk z0 z1 z2 z3 z4 z5 z6) := CALL_E (F := F_ref01_Config) rfl (fun _ => rfl) (Config.mk z0 z1 z2 z3 z4 z5 z6) trivial rfl
theorem c_epoch_Check {z0 : Int} {k_ : PV → Prop} : CALL ρ 253 [I z0] 1 k_ = k_ (I (if ep z0 = true then 0 else 1)) := CALL_E (F := F_epoch_Check) rfl (fun _ => rfl) z0 trivial rfl
theorem c_epoch_Who {z0 : Int} {k_ : PV → PV → Prop} : CALL ρ 235 [I z0] 2 k_ = k_ (I (if ep z0 = true then z0 % 16 else 0)) (I (if ep z0 = true then 0 else 1)) := CALL_E (F := F_epoch_Who) rfl (fun _ => rfl) z0 trivial rfl
theorem c_msg_in {z0 z1 z2 : Int} {k_ : PV → Prop} : CALL ρ 101 [I z0,I z1,I z2] 1 k_ = k_ (bb (rng z0 z1 z2)) := CALL_E (F := F_msg_in) rfl (fun _ => rfl) (z0,z1,z2) trivial rfl
theorem c_msg_Counted {z0 : Int} {k_ : PV → Prop} : CALL ρ 95 [I z0] 1 k_ = k_ (bb (cnt z0)) := CALL_E (F := F_msg_Counted) rfl (fun _ => rfl) z0 trivial rfl
theorem c_msg_Value {z0 : Int} {k_ : PV → Prop} : CALL ρ 43 [I z0] 1 k_ = k_ (bb (val z0)) := CALL_E (F := F_msg_Value) rfl (fun _ => rfl) z0 trivial rfl
theorem c_cast_in {z0 z1 z2 : Int} {k_ : PV → Prop} : CALL ρ 42 [I z0,I z1,I z2] 1 k_ = k_ (bb (rng z0 z1 z2)) := CALL_E (F := F_cast_in) rfl (fun _ => rfl) (z0,z1,z2) trivial rfl
theorem c_ref19_in {z0 z1 z2 : Int} {k_ : PV → Prop} : CALL ρ 54 [I z0,I z1,I z2] 1 k_ = k_ (bb (rng z0 z1 z2)) := CALL_E (F := F_ref19_in) rfl (fun _ => rfl) (z0,z1,z2) trivial rfl
theorem c_ref10_in {z0 z1 z2 : Int} {k_ : PV → Prop} : CALL ρ 173 [I z0,I z1,I z2] 1 k_ = k_ (bb (rng z0 z1 z2)) := CALL_E (F := F_ref10_in) rfl (fun _ => rfl) (z0,z1,z2) trivial rfl
theorem c_ref01_Value {z0 : Int} {k_ : PV → Prop} : CALL ρ 19 [I z0] 1 k_ = k_ (bb (val z0)) := CALL_E (F := F_ref01_Value) rfl (fun _ => rfl) z0 trivial rfl
theorem c_ref10_count {z0 : Int} {k_ : PV → Prop} : CALL ρ 229 [I z0] 1 k_ = k_ (bb (cnt z0)) := CALL_E (F := F_ref10_count) rfl (fun _ => rfl) z0 trivial rfl
theorem c_ref10_Epoch {z0 : Int} {k_ : PV → Prop} : CALL ρ 174 [I z0] 1 k_ = k_ (bb (ep z0)) := CALL_E (F := F_ref10_Epoch) rfl (fun _ => rfl) z0 trivial rfl
theorem c_view_right {z0 z1 : Int} {k_ : PV → Prop} : CALL ρ 187 [I z0,I z1] 1 k_ = (fun (p : Peer) => k_ (bb (peerOk p))) (Peer.mk z0 z1) := CALL_E (F := F_view_right) rfl (fun _ => rfl) (Peer.mk z0 z1) trivial rfl
theorem c_view_Check {z0 : List Peer} {k_ : PV → Prop} : CALL ρ 129 [L z0] 1 k_ = k_ (I (if peersOk z0 = true then 0 else 1)) := CALL_E (F := F_view_Check) rfl (fun _ => rfl) z0 trivial rfl
theorem c_ref10_Peers {z0 : List Peer} {k_ : PV → Prop} : CALL ρ 120 [L z0] 1 k_ = k_ (bb (peersOk z0)) := CALL_E (F := F_ref10_Peers) rfl (fun _ => rfl) z0 trivial rfl
theorem c_kids_right {z0 z1 z2 z3 z4 : Int} {k_ : PV → Prop} : CALL ρ 221 [I z0,I z1,I z2,I z3,I z4] 1 k_ = (fun (k : Kid) => k_ (bb (near z0 z1 k.node && cnt k.inc && rng k.age 0 6))) (Kid.mk z2 z3 z4) := CALL_E (F := F_kids_right) rfl (fun _ => rfl) (z0,z1,(Kid.mk z2 z3 z4)) trivial rfl
theorem c_kids_Check {z0 z1 z2 : Int} {z3 : List Kid} {k_ : PV → Prop} : CALL ρ 189 [I z0,I z1,I z2,L z3] 1 k_ = k_ (I (if kidsOk z0 z1 z2 z3 = true then 0 else 1)) := CALL_E (F := F_kids_Check) rfl (fun _ => rfl) (z0,z1,z2,z3) trivial rfl
theorem c_ref10_Kids {z0 z1 z2 : Int} {z3 : List Kid} {k_ : PV → Prop} : CALL ρ 177 [I z0,I z1,I z2,L z3] 1 k_ = k_ (bb (kidsOk z0 z1 z2 z3)) := CALL_E (F := F_ref10_Kids) rfl (fun _ => rfl) (z0,z1,z2,z3) trivial rfl
theorem c_keep_right {z0 : List Item} {z1 : Int} {k_ : PV → Prop} (h : cnt z1 = true ∧ z0.length ≤ 16) : CALL ρ 263 [L z0,I z1] 1 k_ = k_ (bb (decide (z0.length < z1) && keptGo (z1 - z0.length) z0)) := CALL_E (F := F_keep_right) rfl (fun _ => rfl) (z0,z1) h rfl
theorem c_keep_Check {z0 : List Item} {z1 z2 : Int} {k_ : PV → Prop} : CALL ρ 255 [L z0,I z1,I z2] 1 k_ = k_ (I (if keptOk z0 z1 z2 = true then 0 else 1)) := CALL_E (F := F_keep_Check) rfl (fun _ => rfl) (z0,z1,z2) trivial rfl
theorem c_ref10_Kept {z0 : List Item} {z1 z2 : Int} {k_ : PV → Prop} : CALL ρ 230 [L z0,I z1,I z2] 1 k_ = k_ (bb (keptOk z0 z1 z2)) := CALL_E (F := F_ref10_Kept) rfl (fun _ => rfl) (z0,z1,z2) trivial rfl
theorem c_ahead_fits {z0 z1 z2 : Int} {k_ : PV → Prop} (h : cnt z1 = true ∧ rng z2 1 16 = true) : CALL ρ 264 [I z0,I z1,I z2] 1 k_ = k_ (bb (decide (z1 < z0) && decide (z0 < z1 + z2) && decide (z0 < 1073741824))) := CALL_E (F := F_ahead_fits) rfl (fun _ => rfl) (z0,z1,z2) h rfl
theorem c_ahead_Check {z0 : List Item} {z1 z2 : Int} {k_ : PV → Prop} : CALL ρ 256 [L z0,I z1,I z2] 1 k_ = k_ (I (if aheadOk z0 z1 z2 = true then 0 else 1)) := CALL_E (F := F_ahead_Check) rfl (fun _ => rfl) (z0,z1,z2) trivial rfl
theorem c_ref10_Ahead2 {z0 : List Item} {z1 z2 : Int} {k_ : PV → Prop} : CALL ρ 231 [L z0,I z1,I z2] 1 k_ = k_ (bb (aheadOk z0 z1 z2)) := CALL_E (F := F_ref10_Ahead2) rfl (fun _ => rfl) (z0,z1,z2) trivial rfl
theorem c_queue_Event {z0 z1 z2 z3 z4 z5 : Int} {k_ : PV → Prop} : CALL ρ 205 [I z0,I z1,I z2,I z3,I z4,I z5] 1 k_ = (fun (x : Event) => k_ (I (if evOk x = true then 0 else 1))) (Event.mk z0 z1 z2 z3 z4 z5) := CALL_E (F := F_queue_Event) rfl (fun _ => rfl) (Event.mk z0 z1 z2 z3 z4 z5) trivial rfl
theorem c_ref10_Event {z0 z1 z2 z3 z4 z5 : Int} {k_ : PV → Prop} : CALL ρ 232 [I z0,I z1,I z2,I z3,I z4,I z5] 1 k_ = (fun (x : Event) => k_ (bb (evOk x))) (Event.mk z0 z1 z2 z3 z4 z5) := CALL_E (F := F_ref10_Event) rfl (fun _ => rfl) (Event.mk z0 z1 z2 z3 z4 z5) trivial rfl
theorem c_queue_Check {z0 : List Event} {z1 : Int} {k_ : PV → Prop} : CALL ρ 204 [L z0,I z1] 1 k_ = k_ (I (if queueOk z0 z1 = true then 0 else 1)) := CALL_E (F := F_queue_Check) rfl (fun _ => rfl) (z0,z1) trivial rfl
theorem c_ref10_Queue {z0 : List Event} {z1 : Int} {k_ : PV → Prop} : CALL ρ 208 [L z0,I z1] 1 k_ = k_ (bb (queueOk z0 z1)) := CALL_E (F := F_ref10_Queue) rfl (fun _ => rfl) (z0,z1) trivial rfl
theorem c_flow_zero {z0 z1 z2 : Int} {z3 z4 : List Item} {k_ : PV → Prop} : CALL ρ 254 [I z0,I z1,I z2,L z3,L z4] 1 k_ = (fun (s : Stream) => k_ (bb (streamZ s))) (Stream.mk z0 z1 z2 z3 z4) := CALL_E (F := F_flow_zero) rfl (fun _ => rfl) (Stream.mk z0 z1 z2 z3 z4) trivial rfl
theorem c_flow_right {z0 z1 z2 z3 z4 z5 z6 z7 z8 z9 : Int} {y0 y1 : List Item} {k_ : PV → Prop} : CALL ρ 237 [I z0,I z1,I z2,I z3,I z4,I z5,I z6,I z7,I z8,I z9,L y0,L y1] 1 k_ = (fun (c : Config) (s : Stream) => k_ (bb (streamOk c s))) (Config.mk z0 z1 z2 z3 z4 z5 z6) (Stream.mk z7 z8 z9 y0 y1) := CALL_E (F := F_flow_right) rfl (fun _ => rfl) ((Config.mk z0 z1 z2 z3 z4 z5 z6),(Stream.mk z7 z8 z9 y0 y1)) trivial rfl
theorem c_flow_Check {z0 z1 z2 z3 z4 z5 z6 z7 z8 z9 : Int} {y0 y1 : List Item} {y2 : List Event} {k_ : PV → Prop} : CALL ρ 219 [I z0,I z1,I z2,I z3,I z4,I z5,I z6,I z7,I z8,I z9,L y0,L y1,L y2] 1 k_ = (fun (c : Config) (s : Stream) => k_ (I (if cfgOk c = true then (if flowOk c s y2 = true then 0 else 1) else 13))) (Config.mk z0 z1 z2 z3 z4 z5 z6) (Stream.mk z7 z8 z9 y0 y1) := CALL_E (F := F_flow_Check) rfl (fun _ => rfl) ((Config.mk z0 z1 z2 z3 z4 z5 z6),(Stream.mk z7 z8 z9 y0 y1),y2) trivial rfl
theorem c_ref10_Stream {z0 z1 z2 z3 z4 z5 z6 z7 z8 z9 : Int} {y0 y1 : List Item} {k_ : PV → Prop} : CALL ρ 207 [I z0,I z1,I z2,I z3,I z4,I z5,I z6,I z7,I z8,I z9,L y0,L y1] 1 k_ = (fun (c : Config) (s : Stream) => k_ (bb (streamOk c s))) (Config.mk z0 z1 z2 z3 z4 z5 z6) (Stream.mk z7 z8 z9 y0 y1) := CALL_E (F := F_ref10_Stream) rfl (fun _ => rfl) ((Config.mk z0 z1 z2 z3 z4 z5 z6),(Stream.mk z7 z8 z9 y0 y1)) trivial rfl
theorem c_ref10_Flow {z0 z1 z2 z3 z4 z5 z6 z7 z8 z9 : Int} {y0 y1 : List Item} {y2 : List Event} {k_ : PV → Prop} : CALL ρ 178 [I z0,I z1,I z2,I z3,I z4,I z5,I z6,I z7,I z8,I z9,L y0,L y1,L y2] 1 k_ = (fun (c : Config) (s : Stream) => k_ (bb (flowOk c s y2))) (Config.mk z0 z1 z2 z3 z4 z5 z6) (Stream.mk z7 z8 z9 y0 y1) := CALL_E (F := F_ref10_Flow) rfl (fun _ => rfl) ((Config.mk z0 z1 z2 z3 z4 z5 z6),(Stream.mk z7 z8 z9 y0 y1),y2) trivial rfl
theorem c_graft_link {z0 z1 z2 : Int} {k_ : PV → Prop} : CALL ρ 215 [I z0,I z1,I z2] 1 k_ = k_ (bb (link z0 z1 z2)) := CALL_E (F := F_graft_link) rfl (fun _ => rfl) (z0,z1,z2) trivial rfl
theorem c_ref10_near {z0 z1 z2 : Int} {k_ : PV → Prop} : CALL ρ 175 [I z0,I z1,I z2] 1 k_ = k_ (bb (link z0 z1 z2)) := CALL_E (F := F_ref10_near) rfl (fun _ => rfl) (z0,z1,z2) trivial rfl
theorem c_graft_rooted {z0 : Int} {z1 z2 : Bool} {z3 z4 z5 z6 z7 z8 : Int} {z9 : List Int} {y0 : List Kid} {y1 y2 y3 : Int} {y4 y5 : List Item} {y6 : List Event} {k_ : PV → Prop} : CALL ρ 216 [I z0,bb z1,bb z2,I z3,I z4,I z5,I z6,I z7,I z8,L z9,L y0,I y1,I y2,I y3,L y4,L y5,L y6] 1 k_ = (fun (x : Topic) => k_ (bb (rootOk z0 x))) (Topic.mk z1 z2 z3 z4 z5 z6 z7 z8 z9 y0 (Stream.mk y1 y2 y3 y4 y5) y6) := CALL_E (F := F_graft_rooted) rfl (fun _ => rfl) (z0,(Topic.mk z1 z2 z3 z4 z5 z6 z7 z8 z9 y0 (Stream.mk y1 y2 y3 y4 y5) y6)) trivial rfl
theorem c_graft_placed {z0 z1 : Bool} {z2 z3 z4 z5 z6 z7 : Int} {z8 : List Int} {z9 : List Kid} {y0 y1 y2 : Int} {y3 y4 : List Item} {y5 : List Event} {k_ : PV → Prop} (h : 0 ≤ (Topic.mk z0 z1 z2 z3 z4 z5 z6 z7 z8 z9 (Stream.mk y0 y1 y2 y3 y4) y5).parent ∧ (Topic.mk z0 z1 z2 z3 z4 z5 z6 z7 z8 z9 (Stream.mk y0 y1 y2 y3 y4) y5).parent ≤ 8) : CALL ρ 217 [bb z0,bb z1,I z2,I z3,I z4,I z5,I z6,I z7,L z8,L z9,I y0,I y1,I y2,L y3,L y4,L y5] 1 k_ = (fun (x : Topic) => k_ (bb (placedOk x))) (Topic.mk z0 z1 z2 z3 z4 z5 z6 z7 z8 z9 (Stream.mk y0 y1 y2 y3 y4) y5) := CALL_E (F := F_graft_placed) rfl (fun _ => rfl) (Topic.mk z0 z1 z2 z3 z4 z5 z6 z7 z8 z9 (Stream.mk y0 y1 y2 y3 y4) y5) h rfl
theorem c_graft_right {z0 z1 z2 z3 z4 z5 z6 z7 z8 : Int} {z9 y0 : Bool} {y1 y2 y3 y4 y5 y6 : Int} {y7 : List Int} {y8 : List Kid} {y9 x0 x1 : Int} {x2 x3 : List Item} {x4 : List Event} {k_ : PV → Prop} (h : cfgOk (Config.mk z0 z1 z2 z3 z4 z5 z6) = true) : CALL ρ 183 [I z0,I z1,I z2,I z3,I z4,I z5,I z6,I z7,I z8,bb z9,bb y0,I y1,I y2,I y3,I y4,I y5,I y6,L y7,L y8,I y9,I x0,I x1,L x2,L x3,L x4] 1 k_ = (fun (c : Config) (x : Topic) => k_ (bb (topicOk c z7 z8 x))) (Config.mk z0 z1 z2 z3 z4 z5 z6) (Topic.mk z9 y0 y1 y2 y3 y4 y5 y6 y7 y8 (Stream.mk y9 x0 x1 x2 x3) x4) := CALL_E (F := F_graft_right) rfl (fun _ => rfl) ((Config.mk z0 z1 z2 z3 z4 z5 z6),z7,z8,(Topic.mk z9 y0 y1 y2 y3 y4 y5 y6 y7 y8 (Stream.mk y9 x0 x1 x2 x3) x4)) h rfl
theorem c_graft_Check {z0 z1 z2 z3 z4 z5 z6 z7 z8 : Int} {z9 y0 : Bool} {y1 y2 y3 y4 y5 y6 : Int} {y7 : List Int} {y8 : List Kid} {y9 x0 x1 : Int} {x2 x3 : List Item} {x4 : List Event} {k_ : PV → Prop} : CALL ρ 125 [I z0,I z1,I z2,I z3,I z4,I z5,I z6,I z7,I z8,bb z9,bb y0,I y1,I y2,I y3,I y4,I y5,I y6,L y7,L y8,I y9,I x0,I x1,L x2,L x3,L x4] 1 k_ = (fun (c : Config) (x : Topic) => k_ (I (if cfgOk c = true then (if (place c z7 z8 && topicOk c z7 z8 x) = true then 0 else 1) else 13))) (Config.mk z0 z1 z2 z3 z4 z5 z6) (Topic.mk z9 y0 y1 y2 y3 y4 y5 y6 y7 y8 (Stream.mk y9 x0 x1 x2 x3) x4) := CALL_E (F := F_graft_Check) rfl (fun _ => rfl) ((Config.mk z0 z1 z2 z3 z4 z5 z6),z7,z8,(Topic.mk z9 y0 y1 y2 y3 y4 y5 y6 y7 y8 (Stream.mk y9 x0 x1 x2 x3) x4)) trivial rfl
theorem c_ref10_Topic {z0 z1 z2 z3 z4 z5 z6 z7 z8 : Int} {z9 y0 : Bool} {y1 y2 y3 y4 y5 y6 : Int} {y7 : List Int} {y8 : List Kid} {y9 x0 x1 : Int} {x2 x3 : List Item} {x4 : List Event} {k_ : PV → Prop} (h : cfgOk (Config.mk z0 z1 z2 z3 z4 z5 z6) = true ∧ place (Config.mk z0 z1 z2 z3 z4 z5 z6) z7 z8 = true) : CALL ρ 121 [I z0,I z1,I z2,I z3,I z4,I z5,I z6,I z7,I z8,bb z9,bb y0,I y1,I y2,I y3,I y4,I y5,I y6,L y7,L y8,I y9,I x0,I x1,L x2,L x3,L x4] 1 k_ = (fun (c : Config) (x : Topic) => k_ (bb (topicOk c z7 z8 x))) (Config.mk z0 z1 z2 z3 z4 z5 z6) (Topic.mk z9 y0 y1 y2 y3 y4 y5 y6 y7 y8 (Stream.mk y9 x0 x1 x2 x3) x4) := CALL_E (F := F_ref10_Topic) rfl (fun _ => rfl) ((Config.mk z0 z1 z2 z3 z4 z5 z6),z7,z8,(Topic.mk z9 y0 y1 y2 y3 y4 y5 y6 y7 y8 (Stream.mk y9 x0 x1 x2 x3) x4)) h rfl
theorem c_cast_calls {z0 z1 z2 z3 z4 z5 z6 : Int} {z7 : Bool} {z8 : Int} {z9 : List Peer} {y0 : List Topic} {y1 : List Call} {y2 y3 : Int} {y4 : List Mark} {y5 : List Mark2} {k_ : PV → Prop} (h : cfgOk (Config.mk z0 z1 z2 z3 z4 z5 z6) = true) : CALL ρ 124 [I z0,I z1,I z2,I z3,I z4,I z5,I z6,bb z7,I z8,L z9,L y0,L y1,I y2,I y3,L y4,L y5] 1 k_ = (fun (c : Config) (n : Node) => k_ (bb (callsGo c n.asks 0 n.calls && decide (n.calls.length ≤ 40)))) (Config.mk z0 z1 z2 z3 z4 z5 z6) (Node.mk z7 z8 z9 y0 y1 y2 y3 y4 y5) := CALL_E (F := F_cast_calls) rfl (fun _ => rfl) ((Config.mk z0 z1 z2 z3 z4 z5 z6),(Node.mk z7 z8 z9 y0 y1 y2 y3 y4 y5)) h rfl
theorem c_cast_mark {z0 z1 z2 : Int} {k_ : PV → Prop} : CALL ρ 128 [I z0,I z1,I z2] 1 k_ = (fun (m : Mark) => k_ (bb (markOk m))) (Mark.mk z0 z1 z2) := CALL_E (F := F_cast_mark) rfl (fun _ => rfl) (Mark.mk z0 z1 z2) trivial rfl
theorem c_cast_taken {z0 z1 z2 z3 z4 z5 z6 z7 z8 z9 y0 y1 : Int} {k_ : PV → Prop} (h : cfgOk (Config.mk z0 z1 z2 z3 z4 z5 z6) = true) : CALL ρ 132 [I z0,I z1,I z2,I z3,I z4,I z5,I z6,I z7,I z8,I z9,I y0,I y1] 1 k_ = (fun (c : Config) (x : Mark2) => k_ (bb (takenOk c x))) (Config.mk z0 z1 z2 z3 z4 z5 z6) (Mark2.mk z7 z8 z9 y0 y1) := CALL_E (F := F_cast_taken) rfl (fun _ => rfl) ((Config.mk z0 z1 z2 z3 z4 z5 z6),(Mark2.mk z7 z8 z9 y0 y1)) h rfl
theorem c_cast_right {z0 z1 z2 z3 z4 z5 z6 z7 : Int} {z8 : Bool} {z9 : Int} {y0 : List Peer} {y1 : List Topic} {y2 : List Call} {y3 y4 : Int} {y5 : List Mark} {y6 : List Mark2} {k_ : PV → Prop} (h : cfgOk (Config.mk z0 z1 z2 z3 z4 z5 z6) = true ∧ rng z7 0 ((Config.mk z0 z1 z2 z3 z4 z5 z6).nodes - 1) = true) : CALL ρ 57 [I z0,I z1,I z2,I z3,I z4,I z5,I z6,I z7,bb z8,I z9,L y0,L y1,L y2,I y3,I y4,L y5,L y6] 1 k_ = (fun (c : Config) (n : Node) => k_ (bb (nodeOk c z7 n))) (Config.mk z0 z1 z2 z3 z4 z5 z6) (Node.mk z8 z9 y0 y1 y2 y3 y4 y5 y6) := CALL_E (F := F_cast_right) rfl (fun _ => rfl) ((Config.mk z0 z1 z2 z3 z4 z5 z6),z7,(Node.mk z8 z9 y0 y1 y2 y3 y4 y5 y6)) h rfl
theorem c_cast_Check {z0 z1 z2 z3 z4 z5 z6 z7 : Int} {z8 : Bool} {z9 : Int} {y0 : List Peer} {y1 : List Topic} {y2 : List Call} {y3 y4 : Int} {y5 : List Mark} {y6 : List Mark2} {k_ : PV → Prop} : CALL ρ 16 [I z0,I z1,I z2,I z3,I z4,I z5,I z6,I z7,bb z8,I z9,L y0,L y1,L y2,I y3,I y4,L y5,L y6] 1 k_ = (fun (c : Config) (n : Node) => k_ (I (nodeWhy c z7 n))) (Config.mk z0 z1 z2 z3 z4 z5 z6) (Node.mk z8 z9 y0 y1 y2 y3 y4 y5 y6) := CALL_E (F := F_cast_Check) rfl (fun _ => rfl) ((Config.mk z0 z1 z2 z3 z4 z5 z6),z7,(Node.mk z8 z9 y0 y1 y2 y3 y4 y5 y6)) trivial rfl
theorem c_ref19_Node {z0 z1 z2 z3 z4 z5 z6 z7 : Int} {z8 : Bool} {z9 : Int} {y0 : List Peer} {y1 : List Topic} {y2 : List Call} {y3 y4 : Int} {y5 : List Mark} {y6 : List Mark2} {k_ : PV → Prop} (h : cfgOk (Config.mk z0 z1 z2 z3 z4 z5 z6) = true ∧ rng z7 0 ((Config.mk z0 z1 z2 z3 z4 z5 z6).nodes - 1) = true) : CALL ρ 55 [I z0,I z1,I z2,I z3,I z4,I z5,I z6,I z7,bb z8,I z9,L y0,L y1,L y2,I y3,I y4,L y5,L y6] 1 k_ = (fun (c : Config) (n : Node) => k_ (bb (nodeOk c z7 n))) (Config.mk z0 z1 z2 z3 z4 z5 z6) (Node.mk z8 z9 y0 y1 y2 y3 y4 y5 y6) := CALL_E (F := F_ref19_Node) rfl (fun _ => rfl) ((Config.mk z0 z1 z2 z3 z4 z5 z6),z7,(Node.mk z8 z9 y0 y1 y2 y3 y4 y5 y6)) h rfl
theorem c_bkeep_Peers {z0 z1 : List Peer} {k_ : PV → Prop} : CALL ρ 58 [L z0,L z1] 1 k_ = k_ (bb (decide (z0 = z1))) := CALL_E (F := F_bkeep_Peers) rfl (fun _ => rfl) (z0,z1) trivial rfl
theorem c_bkeep_Kids {z0 z1 : List Kid} {k_ : PV → Prop} : CALL ρ 134 [L z0,L z1] 1 k_ = k_ (bb (decide (z0 = z1))) := CALL_E (F := F_bkeep_Kids) rfl (fun _ => rfl) (z0,z1) trivial rfl
theorem c_bkeep_Items {z0 z1 : List Item} {k_ : PV → Prop} : CALL ρ 94 [L z0,L z1] 1 k_ = k_ (bb (decide (z0 = z1))) := CALL_E (F := F_bkeep_Items) rfl (fun _ => rfl) (z0,z1) trivial rfl
theorem c_bkeep_Events {z0 z1 : List Event} {k_ : PV → Prop} : CALL ρ 135 [L z0,L z1] 1 k_ = k_ (bb (decide (z0 = z1))) := CALL_E (F := F_bkeep_Events) rfl (fun _ => rfl) (z0,z1) trivial rfl
theorem c_bkeep_Stream {z0 z1 z2 : Int} {z3 z4 : List Item} {z5 z6 z7 : Int} {z8 z9 : List Item} {k_ : PV → Prop} : CALL ρ 35 [I z0,I z1,I z2,L z3,L z4,I z5,I z6,I z7,L z8,L z9] 1 k_ = (fun (a : Stream) (b : Stream) => k_ (bb (decide (a = b)))) (Stream.mk z0 z1 z2 z3 z4) (Stream.mk z5 z6 z7 z8 z9) := CALL_E (F := F_bkeep_Stream) rfl (fun _ => rfl) ((Stream.mk z0 z1 z2 z3 z4),(Stream.mk z5 z6 z7 z8 z9)) trivial rfl
theorem c_bkeep_Topic {z0 z1 : Bool} {z2 z3 z4 z5 z6 z7 : Int} {z8 : List Int} {z9 : List Kid} {y0 y1 y2 : Int} {y3 y4 : List Item} {y5 : List Event} {y6 y7 : Bool} {y8 y9 x0 x1 x2 x3 : Int} {x4 : List Int} {x5 : List Kid} {x6 x7 x8 : Int} {x9 w0 : List Item} {w1 : List Event} {k_ : PV → Prop} : CALL ρ 59 [bb z0,bb z1,I z2,I z3,I z4,I z5,I z6,I z7,L z8,L z9,I y0,I y1,I y2,L y3,L y4,L y5,bb y6,bb y7,I y8,I y9,I x0,I x1,I x2,I x3,L x4,L x5,I x6,I x7,I x8,L x9,L w0,L w1] 1 k_ = (fun (a : Topic) (b : Topic) => k_ (bb (decide (a = b)))) (Topic.mk z0 z1 z2 z3 z4 z5 z6 z7 z8 z9 (Stream.mk y0 y1 y2 y3 y4) y5) (Topic.mk y6 y7 y8 y9 x0 x1 x2 x3 x4 x5 (Stream.mk x6 x7 x8 x9 w0) w1) := CALL_E (F := F_bkeep_Topic) rfl (fun _ => rfl) ((Topic.mk z0 z1 z2 z3 z4 z5 z6 z7 z8 z9 (Stream.mk y0 y1 y2 y3 y4) y5),(Topic.mk y6 y7 y8 y9 x0 x1 x2 x3 x4 x5 (Stream.mk x6 x7 x8 x9 w0) w1)) trivial rfl
theorem c_bkeep_Node {z0 : Bool} {z1 : Int} {z2 : List Peer} {z3 : List Topic} {z4 : List Call} {z5 z6 : Int} {z7 : List Mark} {z8 : List Mark2} {z9 : Bool} {y0 : Int} {y1 : List Peer} {y2 : List Topic} {y3 : List Call} {y4 y5 : Int} {y6 : List Mark} {y7 : List Mark2} {k_ : PV → Prop} : CALL ρ 17 [bb z0,I z1,L z2,L z3,L z4,I z5,I z6,L z7,L z8,bb z9,I y0,L y1,L y2,L y3,I y4,I y5,L y6,L y7] 1 k_ = (fun (a : Node) (b : Node) => k_ (bb (decide (a = b)))) (Node.mk z0 z1 z2 z3 z4 z5 z6 z7 z8) (Node.mk z9 y0 y1 y2 y3 y4 y5 y6 y7) := CALL_E (F := F_bkeep_Node) rfl (fun _ => rfl) ((Node.mk z0 z1 z2 z3 z4 z5 z6 z7 z8),(Node.mk z9 y0 y1 y2 y3 y4 y5 y6 y7)) trivial rfl
theorem c_bkeep_TwinKids {z0 : List Kid} {k_ : PV → Prop} (h : z0.length ≤ 1000000) : CALL ρ 98 [L z0] 1 k_ = k_ (L z0) := CALL_E (F := F_bkeep_TwinKids) rfl (fun _ => rfl) z0 h rfl
theorem c_bkeep_TwinItems {z0 : List Item} {k_ : PV → Prop} (h : z0.length ≤ 1000000) : CALL ρ 161 [L z0] 1 k_ = k_ (L z0) := CALL_E (F := F_bkeep_TwinItems) rfl (fun _ => rfl) z0 h rfl
theorem c_bkeep_TwinEvents {z0 : List Event} {k_ : PV → Prop} (h : z0.length ≤ 1000000) : CALL ρ 100 [L z0] 1 k_ = k_ (L z0) := CALL_E (F := F_bkeep_TwinEvents) rfl (fun _ => rfl) z0 h rfl
theorem c_bkeep_TwinPeers {z0 : List Peer} {k_ : PV → Prop} (h : z0.length ≤ 1000000) : CALL ρ 40 [L z0] 1 k_ = k_ (L z0) := CALL_E (F := F_bkeep_TwinPeers) rfl (fun _ => rfl) z0 h rfl
theorem c_bkeep_TwinStream {z0 z1 z2 : Int} {z3 z4 : List Item} {k_ : PV → PV → PV → PV → PV → Prop} (h : (Stream.mk z0 z1 z2 z3 z4).kept.length ≤ 1000000 ∧ (Stream.mk z0 z1 z2 z3 z4).ahead.length ≤ 1000000) : CALL ρ 99 [I z0,I z1,I z2,L z3,L z4] 5 k_ = (fun (s : Stream) => k_ (I s.epoch) (I s.want) (I s.known) (L s.kept) (L s.ahead)) (Stream.mk z0 z1 z2 z3 z4) := CALL_E (F := F_bkeep_TwinStream) rfl (fun _ => rfl) (Stream.mk z0 z1 z2 z3 z4) h rfl
theorem c_bkeep_TwinTopic {z0 z1 : Bool} {z2 z3 z4 z5 z6 z7 : Int} {z8 : List Int} {z9 : List Kid} {y0 y1 y2 : Int} {y3 y4 : List Item} {y5 : List Event} {k_ : PV → PV → PV → PV → PV → PV → PV → PV → PV → PV → PV → PV → PV → PV → PV → PV → Prop} (h : heavy19 (Topic.mk z0 z1 z2 z3 z4 z5 z6 z7 z8 z9 (Stream.mk y0 y1 y2 y3 y4) y5) = false) : CALL ρ 41 [bb z0,bb z1,I z2,I z3,I z4,I z5,I z6,I z7,L z8,L z9,I y0,I y1,I y2,L y3,L y4,L y5] 16 k_ = (fun (x : Topic) => k_ (bb x.made) (bb x.sub) (I x.top) (I x.root) (I x.parent) (I x.asked) (I x.other) (I x.age) (L x.path) (L x.kids) (I x.stream.epoch) (I x.stream.want) (I x.stream.known) (L x.stream.kept) (L x.stream.ahead) (L x.queue)) (Topic.mk z0 z1 z2 z3 z4 z5 z6 z7 z8 z9 (Stream.mk y0 y1 y2 y3 y4) y5) := CALL_E (F := F_bkeep_TwinTopic) rfl (fun _ => rfl) (Topic.mk z0 z1 z2 z3 z4 z5 z6 z7 z8 z9 (Stream.mk y0 y1 y2 y3 y4) y5) h rfl
theorem c_law18_Heavy {z0 z1 z2 : Int} {z3 z4 : List Item} {z5 : List Event} {k_ : PV → Prop} : CALL ρ 97 [I z0,I z1,I z2,L z3,L z4,L z5] 1 k_ = (fun (s : Stream) => k_ (bb (heavy18 s z5))) (Stream.mk z0 z1 z2 z3 z4) := CALL_E (F := F_law18_Heavy) rfl (fun _ => rfl) ((Stream.mk z0 z1 z2 z3 z4),z5) trivial rfl
theorem c_law19_Heavy {z0 z1 : Bool} {z2 z3 z4 z5 z6 z7 : Int} {z8 : List Int} {z9 : List Kid} {y0 y1 y2 : Int} {y3 y4 : List Item} {y5 : List Event} {k_ : PV → Prop} : CALL ρ 39 [bb z0,bb z1,I z2,I z3,I z4,I z5,I z6,I z7,L z8,L z9,I y0,I y1,I y2,L y3,L y4,L y5] 1 k_ = (fun (x : Topic) => k_ (bb (heavy19 x))) (Topic.mk z0 z1 z2 z3 z4 z5 z6 z7 z8 z9 (Stream.mk y0 y1 y2 y3 y4) y5) := CALL_E (F := F_law19_Heavy) rfl (fun _ => rfl) (Topic.mk z0 z1 z2 z3 z4 z5 z6 z7 z8 z9 (Stream.mk y0 y1 y2 y3 y4) y5) trivial rfl
theorem c_law21_Heavy {z0 : Bool} {z1 : Int} {z2 : List Peer} {z3 : List Topic} {z4 : List Call} {z5 z6 : Int} {z7 : List Mark} {z8 : List Mark2} {k_ : PV → Prop} : CALL ρ 9 [bb z0,I z1,L z2,L z3,L z4,I z5,I z6,L z7,L z8] 1 k_ = (fun (n : Node) => k_ (bb (heavy21 n))) (Node.mk z0 z1 z2 z3 z4 z5 z6 z7 z8) := CALL_E (F := F_law21_Heavy) rfl (fun _ => rfl) (Node.mk z0 z1 z2 z3 z4 z5 z6 z7 z8) trivial rfl
theorem c_law19_Full  {k_ : PV → PV → PV → PV → PV → PV → PV → Prop} : CALL ρ 36 [] 7 k_ = k_ (I 8) (I 4) (I 2) (I 8) (I 8) (I 8) (I 16) := CALL_T (F := F_law19_Full) rfl (fun _ _ _ => rfl) () trivial rfl
theorem c_slices_Clone_api_Peer_api_Peer {z0 : List Peer} {k_ : PV → Prop} (h : z0.length ≤ 1000000) : CALL ρ 96 [L z0] 1 k_ = k_ (L z0) := CALL_E (F := F_slices_Clone_api_Peer_api_Peer) rfl (fun _ => rfl) z0 h rfl
theorem c_slices_Clone_api_Call_api_Call {z0 : List Call} {k_ : PV → Prop} (h : z0.length ≤ 1000000) : CALL ρ 103 [L z0] 1 k_ = k_ (L z0) := CALL_E (F := F_slices_Clone_api_Call_api_Call) rfl (fun _ => rfl) z0 h rfl
theorem c_slices_Clone_api_Mark_api_Mark {z0 : List Mark} {k_ : PV → Prop} (h : z0.length ≤ 1000000) : CALL ρ 104 [L z0] 1 k_ = k_ (L z0) := CALL_E (F := F_slices_Clone_api_Mark_api_Mark) rfl (fun _ => rfl) z0 h rfl
theorem c_slices_Clone_api_Mark2_api_Mark2 {z0 : List Mark2} {k_ : PV → Prop} (h : z0.length ≤ 1000000) : CALL ρ 105 [L z0] 1 k_ = k_ (L z0) := CALL_E (F := F_slices_Clone_api_Mark2_api_Mark2) rfl (fun _ => rfl) z0 h rfl
theorem c_slices_Clone_api_Kid_api_Kid {z0 : List Kid} {k_ : PV → Prop} (h : z0.length ≤ 1000000) : CALL ρ 162 [L z0] 1 k_ = k_ (L z0) := CALL_E (F := F_slices_Clone_api_Kid_api_Kid) rfl (fun _ => rfl) z0 h rfl
theorem c_slices_Clone_api_Event_api_Event {z0 : List Event} {k_ : PV → Prop} (h : z0.length ≤ 1000000) : CALL ρ 163 [L z0] 1 k_ = k_ (L z0) := CALL_E (F := F_slices_Clone_api_Event_api_Event) rfl (fun _ => rfl) z0 h rfl
theorem c_slices_Clone_api_Item_api_Item {z0 : List Item} {k_ : PV → Prop} (h : z0.length ≤ 1000000) : CALL ρ 203 [L z0] 1 k_ = k_ (L z0) := CALL_E (F := F_slices_Clone_api_Item_api_Item) rfl (fun _ => rfl) z0 h rfl
theorem c_slices_Clone_int_int {z0 : List Int} {k_ : PV → Prop} (h : z0.length ≤ 1000000) : CALL ρ 107 [L z0] 1 k_ = k_ (L z0) := CALL_E (F := F_slices_Clone_int_int) rfl (fun _ => rfl) z0 h rfl
theorem c_graft_Twin {z0 z1 : Bool} {z2 z3 z4 z5 z6 z7 : Int} {z8 : List Int} {z9 : List Kid} {y0 y1 y2 : Int} {y3 y4 : List Item} {y5 : List Event} {k_ : PV → PV → PV → PV → PV → PV → PV → PV → PV → PV → PV → PV → PV → PV → PV → PV → Prop} (h : heavy19 (Topic.mk z0 z1 z2 z3 z4 z5 z6 z7 z8 z9 (Stream.mk y0 y1 y2 y3 y4) y5) = false) : CALL ρ 102 [bb z0,bb z1,I z2,I z3,I z4,I z5,I z6,I z7,L z8,L z9,I y0,I y1,I y2,L y3,L y4,L y5] 16 k_ = (fun (x : Topic) => k_ (bb x.made) (bb x.sub) (I x.top) (I x.root) (I x.parent) (I x.asked) (I x.other) (I x.age) (L x.path) (L x.kids) (I x.stream.epoch) (I x.stream.want) (I x.stream.known) (L x.stream.kept) (L x.stream.ahead) (L x.queue)) (Topic.mk z0 z1 z2 z3 z4 z5 z6 z7 z8 z9 (Stream.mk y0 y1 y2 y3 y4) y5) := CALL_E (F := F_graft_Twin) rfl (fun _ => rfl) (Topic.mk z0 z1 z2 z3 z4 z5 z6 z7 z8 z9 (Stream.mk y0 y1 y2 y3 y4) y5) h rfl
theorem c_queue_gap {z0 z1 z2 z3 z4 z5 : Int} {k_ : PV → PV → PV → PV → PV → PV → PV → Prop} : CALL ρ 206 [I z0,I z1,I z2,I z3,I z4,I z5] 7 k_ = (fun (x : Event) => k_ (I (gapE x).kind) (I (gapE x).epoch) (I (gapE x).seq) (I (gapE x).last) (I (gapE x).value) (I (gapE x).count) (bb (ofStream x))) (Event.mk z0 z1 z2 z3 z4 z5) := CALL_E (F := F_queue_gap) rfl (fun _ => rfl) (Event.mk z0 z1 z2 z3 z4 z5) trivial rfl
theorem c_queue_Put {z0 : List Event} {z1 z2 z3 z4 z5 z6 z7 : Int} {k_ : PV → PV → Prop} : CALL ρ 172 [L z0,I z1,I z2,I z3,I z4,I z5,I z6,I z7] 2 k_ = (fun (x : Event) => k_ (L (putE z0 z1 x).1) (I (putE z0 z1 x).2)) (Event.mk z2 z3 z4 z5 z6 z7) := CALL_E (F := F_queue_Put) rfl (fun _ => rfl) (z0,z1,(Event.mk z2 z3 z4 z5 z6 z7)) trivial rfl
theorem c_queue_Fit {z0 : List Event} {z1 z2 z3 z4 z5 z6 z7 : Int} {k_ : PV → Prop} (h : z0.length ≤ 1000000) : CALL ρ 119 [L z0,I z1,I z2,I z3,I z4,I z5,I z6,I z7] 1 k_ = (fun (x : Event) => k_ (L (fitE z0 z1 x))) (Event.mk z2 z3 z4 z5 z6 z7) := CALL_E (F := F_queue_Fit) rfl (fun _ => rfl) (z0,z1,(Event.mk z2 z3 z4 z5 z6 z7)) h rfl
theorem c_cast_Heed {z0 : Bool} {z1 : Int} {z2 : List Peer} {z3 : List Topic} {z4 : List Call} {z5 z6 : Int} {z7 : List Mark} {z8 : List Mark2} {z9 : Int} {k_ : PV → Prop} : CALL ρ 109 [bb z0,I z1,L z2,L z3,L z4,I z5,I z6,L z7,L z8,I z9] 1 k_ = (fun (n : Node) => k_ (bb (heed n z9))) (Node.mk z0 z1 z2 z3 z4 z5 z6 z7 z8) := CALL_E (F := F_cast_Heed) rfl (fun _ => rfl) ((Node.mk z0 z1 z2 z3 z4 z5 z6 z7 z8),z9) trivial rfl
theorem c_view_place {z0 : List Peer} {z1 : Int} {k_ : PV → Prop} : CALL ρ 88 [L z0,I z1] 1 k_ = k_ (I (placeP z0 z1)) := CALL_E (F := F_view_place) rfl (fun _ => rfl) (z0,z1) trivial rfl
theorem c_view_Live {z0 : List Peer} {z1 : Int} {k_ : PV → PV → Prop} : CALL ρ 31 [L z0,I z1] 2 k_ = k_ (L (if placeP z0 z1 = 0 then liveP z0 z1 else [])) (I (placeP z0 z1)) := CALL_E (F := F_view_Live) rfl (fun _ => rfl) (z0,z1) trivial rfl
theorem c_cast_Next {z0 : Int} {z1 : Bool} {z2 : Int} {z3 : List Peer} {z4 : List Topic} {z5 : List Call} {z6 z7 : Int} {z8 : List Mark} {z9 : List Mark2} {y0 : Int} {k_ : PV → Prop} (h : peersOk (Node.mk z1 z2 z3 z4 z5 z6 z7 z8 z9).peers = true ∧ rng z0 0 ((Node.mk z1 z2 z3 z4 z5 z6 z7 z8 z9).peers.length - 1) = true ∧ isT y0 = true) : CALL ρ 166 [I z0,bb z1,I z2,L z3,L z4,L z5,I z6,I z7,L z8,L z9,I y0] 1 k_ = (fun (n : Node) => k_ (I (nextN y0 (liveP n.peers z0) z0))) (Node.mk z1 z2 z3 z4 z5 z6 z7 z8 z9) := CALL_E (F := F_cast_Next) rfl (fun _ => rfl) (z0,(Node.mk z1 z2 z3 z4 z5 z6 z7 z8 z9),y0) h rfl
theorem c_ref19_Check {z0 z1 z2 z3 z4 z5 z6 z7 : Int} {z8 : Bool} {z9 : Int} {y0 : List Peer} {y1 : List Topic} {y2 : List Call} {y3 y4 : Int} {y5 : List Mark} {y6 : List Mark2} {k_ : PV → Prop} : CALL ρ 15 [I z0,I z1,I z2,I z3,I z4,I z5,I z6,I z7,bb z8,I z9,L y0,L y1,L y2,I y3,I y4,L y5,L y6] 1 k_ = (fun (c : Config) (n : Node) => k_ (I (nodeWhy c z7 n))) (Config.mk z0 z1 z2 z3 z4 z5 z6) (Node.mk z8 z9 y0 y1 y2 y3 y4 y5 y6) := CALL_E (F := F_ref19_Check) rfl (fun _ => rfl) ((Config.mk z0 z1 z2 z3 z4 z5 z6),z7,(Node.mk z8 z9 y0 y1 y2 y3 y4 y5 y6)) trivial rfl
theorem c_msg_ends {z0 z1 z2 z3 z4 z5 z6 z7 z8 z9 y0 y1 y2 y3 : Int} {y4 y5 : List Int} {k_ : PV → Prop} : CALL ρ 111 [I z0,I z1,I z2,I z3,I z4,I z5,I z6,I z7,I z8,I z9,I y0,I y1,I y2,I y3,L y4,L y5] 1 k_ = (fun (m : Msg) => k_ (bb (endsOk m))) (Msg.mk z0 z1 z2 z3 z4 z5 z6 z7 z8 z9 y0 y1 y2 y3 y4 y5) := CALL_E (F := F_msg_ends) rfl (fun _ => rfl) (Msg.mk z0 z1 z2 z3 z4 z5 z6 z7 z8 z9 y0 y1 y2 y3 y4 y5) trivial rfl
theorem c_msg_Unlike {z0 : List Int} {k_ : PV → Prop} : CALL ρ 170 [L z0] 1 k_ = k_ (bb (decide z0.Nodup)) := CALL_E (F := F_msg_Unlike) rfl (fun _ => rfl) z0 trivial rfl
theorem c_msg_way {z0 : List Int} {k_ : PV → Prop} : CALL ρ 167 [L z0] 1 k_ = k_ (bb (wayOk z0)) := CALL_E (F := F_msg_way) rfl (fun _ => rfl) z0 trivial rfl
theorem c_msg_place {z0 z1 z2 z3 z4 z5 z6 z7 z8 z9 y0 y1 y2 y3 : Int} {y4 y5 : List Int} {k_ : PV → Prop} : CALL ρ 168 [I z0,I z1,I z2,I z3,I z4,I z5,I z6,I z7,I z8,I z9,I y0,I y1,I y2,I y3,L y4,L y5] 1 k_ = (fun (m : Msg) => k_ (bb (placeM m))) (Msg.mk z0 z1 z2 z3 z4 z5 z6 z7 z8 z9 y0 y1 y2 y3 y4 y5) := CALL_E (F := F_msg_place) rfl (fun _ => rfl) (Msg.mk z0 z1 z2 z3 z4 z5 z6 z7 z8 z9 y0 y1 y2 y3 y4 y5) trivial rfl
theorem c_msg_whose {z0 z1 z2 z3 z4 z5 z6 z7 z8 z9 y0 y1 y2 y3 : Int} {y4 y5 : List Int} {k_ : PV → Prop} : CALL ρ 169 [I z0,I z1,I z2,I z3,I z4,I z5,I z6,I z7,I z8,I z9,I y0,I y1,I y2,I y3,L y4,L y5] 1 k_ = (fun (m : Msg) => k_ (bb (whoseM m))) (Msg.mk z0 z1 z2 z3 z4 z5 z6 z7 z8 z9 y0 y1 y2 y3 y4 y5) := CALL_E (F := F_msg_whose) rfl (fun _ => rfl) (Msg.mk z0 z1 z2 z3 z4 z5 z6 z7 z8 z9 y0 y1 y2 y3 y4 y5) trivial rfl
theorem r_slices_Grow_int_int {l : List Int} {n : Int} (h : l = [] ∧ 0 ≤ n ∧ n ≤ 1000000) : f_slices_Grow_int_int [L l,I n] = some [L l] := fnOf_eq (a := (l,n)) (by rintro ⟨_,_⟩ ⟨_,_⟩ h;simpa [L_inj,E_inj] using h) h
theorem c_slices_Grow_int_int {l : List Int} {n : Int} {k_ : PV → Prop} (h : l = [] ∧ 0 ≤ n ∧ n ≤ 1000000) : CALL ρ 114 [L l,I n] 1 k_ = k_ (L l) := CALL_of (ρ := ρ) (K := 114) (m := 1) (k := k_) (r_slices_Grow_int_int h) rfl
theorem c_slices_Concat_int_int {z0 : List (List Int)} {k_ : PV → Prop} (h : z0.flatten.length ≤ 1000000) : CALL ρ 49 [L z0] 1 k_ = k_ (L z0.flatten) := CALL_E (F := F_slices_Concat_int_int) rfl (fun _ => rfl) z0 h rfl
theorem c_msg_bare {z0 z1 z2 z3 z4 z5 z6 z7 z8 z9 y0 y1 y2 y3 : Int} {y4 y5 : List Int} {k_ : PV → PV → PV → PV → PV → PV → PV → PV → PV → PV → PV → PV → PV → PV → PV → PV → PV → Prop} : CALL ρ 110 [I z0,I z1,I z2,I z3,I z4,I z5,I z6,I z7,I z8,I z9,I y0,I y1,I y2,I y3,L y4,L y5] 17 k_ = (fun (m : Msg) => k_ (I (bareM m).1.kind) (I (bareM m).1.frm) (I (bareM m).1.fromInc) (I (bareM m).1.to) (I (bareM m).1.toInc) (I (bareM m).1.topic) (I (bareM m).1.epoch) (I (bareM m).1.seq) (I (bareM m).1.last) (I (bareM m).1.value) (I (bareM m).1.node) (I (bareM m).1.inc) (I (bareM m).1.count) (I (bareM m).1.hops) (L (bareM m).1.path) (L (bareM m).1.todo) (bb (bareM m).2)) (Msg.mk z0 z1 z2 z3 z4 z5 z6 z7 z8 z9 y0 y1 y2 y3 y4 y5) := CALL_E (F := F_msg_bare) rfl (fun _ => rfl) (Msg.mk z0 z1 z2 z3 z4 z5 z6 z7 z8 z9 y0 y1 y2 y3 y4 y5) trivial rfl
theorem c_msg_Check {z0 z1 z2 z3 z4 z5 z6 z7 z8 z9 y0 y1 y2 y3 : Int} {y4 y5 : List Int} {k_ : PV → Prop} : CALL ρ 47 [I z0,I z1,I z2,I z3,I z4,I z5,I z6,I z7,I z8,I z9,I y0,I y1,I y2,I y3,L y4,L y5] 1 k_ = (fun (m : Msg) => k_ (I (if msgOk m = true then 0 else 5))) (Msg.mk z0 z1 z2 z3 z4 z5 z6 z7 z8 z9 y0 y1 y2 y3 y4 y5) := CALL_E (F := F_msg_Check) rfl (fun _ => rfl) (Msg.mk z0 z1 z2 z3 z4 z5 z6 z7 z8 z9 y0 y1 y2 y3 y4 y5) trivial rfl
theorem c_law06_Heavy {z0 z1 z2 z3 z4 z5 z6 z7 z8 z9 y0 y1 y2 y3 : Int} {y4 y5 : List Int} {k_ : PV → Prop} : CALL ρ 10 [I z0,I z1,I z2,I z3,I z4,I z5,I z6,I z7,I z8,I z9,I y0,I y1,I y2,I y3,L y4,L y5] 1 k_ = (fun (m : Msg) => k_ (bb (decide (m.path.length > 30) || decide (m.todo.length > 30)))) (Msg.mk z0 z1 z2 z3 z4 z5 z6 z7 z8 z9 y0 y1 y2 y3 y4 y5) := CALL_E (F := F_law06_Heavy) rfl (fun _ => rfl) (Msg.mk z0 z1 z2 z3 z4 z5 z6 z7 z8 z9 y0 y1 y2 y3 y4 y5) trivial rfl
theorem c_ref19_has {z0 : List Int} {z1 : Int} {k_ : PV → Prop} : CALL ρ 65 [L z0,I z1] 1 k_ = k_ (bb (z0.contains z1)) := CALL_E (F := F_ref19_has) rfl (fun _ => rfl) (z0,z1) trivial rfl
theorem c_ref01_Unlike {z0 : List Int} {k_ : PV → Prop} : CALL ρ 70 [L z0] 1 k_ = k_ (bb (decide z0.Nodup)) := CALL_E (F := F_ref01_Unlike) rfl (fun _ => rfl) z0 trivial rfl
theorem c_ref01_nodes {z0 : List Int} {k_ : PV → Prop} : CALL ρ 69 [L z0] 1 k_ = k_ (bb (z0.all isN && decide (z0.length ≤ 8))) := CALL_E (F := F_ref01_nodes) rfl (fun _ => rfl) z0 trivial rfl
theorem c_ref01_count {z0 : Int} {k_ : PV → Prop} : CALL ρ 67 [I z0] 1 k_ = k_ (bb (cnt z0)) := CALL_E (F := F_ref01_count) rfl (fun _ => rfl) z0 trivial rfl
theorem c_ref10_Live {z0 : List Peer} {z1 : Int} {k_ : PV → Prop} (h : z0.length ≤ 1000) : CALL ρ 145 [L z0,I z1] 1 k_ = k_ (L (liveP z0 z1)) := CALL_E (F := F_ref10_Live) rfl (fun _ => rfl) (z0,z1) h rfl
theorem c_ref10_Put {z0 : List Event} {z1 z2 z3 z4 z5 z6 z7 : Int} {k_ : PV → PV → Prop} (h : z0.length ≤ 1000 ∧ 2 ≤ z1 ∧ z1 ≤ 32 ∧ ((Event.mk z2 z3 z4 z5 z6 z7).kind = 3 ∨ (Event.mk z2 z3 z4 z5 z6 z7).kind = 4)) : CALL ρ 144 [L z0,I z1,I z2,I z3,I z4,I z5,I z6,I z7] 2 k_ = (fun (x : Event) => k_ (L (if (z0.length : Int) < z1 - 1 then z0 ++ [x] else z0)) (bb (decide ((z0.length : Int) < z1 - 1)))) (Event.mk z2 z3 z4 z5 z6 z7) := CALL_E (F := F_ref10_Put) rfl (fun _ => rfl) (z0,z1,(Event.mk z2 z3 z4 z5 z6 z7)) h rfl
theorem c_bkeep_Msg {z0 z1 z2 z3 z4 z5 z6 z7 z8 z9 y0 y1 y2 y3 : Int} {y4 y5 : List Int} {y6 y7 y8 y9 x0 x1 x2 x3 x4 x5 x6 x7 x8 x9 : Int} {w0 w1 : List Int} {k_ : PV → Prop} : CALL ρ 63 [I z0,I z1,I z2,I z3,I z4,I z5,I z6,I z7,I z8,I z9,I y0,I y1,I y2,I y3,L y4,L y5,I y6,I y7,I y8,I y9,I x0,I x1,I x2,I x3,I x4,I x5,I x6,I x7,I x8,I x9,L w0,L w1] 1 k_ = (fun (a : Msg) (b : Msg) => k_ (bb (decide (a = b)))) (Msg.mk z0 z1 z2 z3 z4 z5 z6 z7 z8 z9 y0 y1 y2 y3 y4 y5) (Msg.mk y6 y7 y8 y9 x0 x1 x2 x3 x4 x5 x6 x7 x8 x9 w0 w1) := CALL_E (F := F_bkeep_Msg) rfl (fun _ => rfl) ((Msg.mk z0 z1 z2 z3 z4 z5 z6 z7 z8 z9 y0 y1 y2 y3 y4 y5),(Msg.mk y6 y7 y8 y9 x0 x1 x2 x3 x4 x5 x6 x7 x8 x9 w0 w1)) trivial rfl
theorem c_bkeep_Msgs {z0 z1 : List Msg} {k_ : PV → Prop} : CALL ρ 21 [L z0,L z1] 1 k_ = k_ (bb (decide (z0 = z1))) := CALL_E (F := F_bkeep_Msgs) rfl (fun _ => rfl) (z0,z1) trivial rfl
theorem c_ref01_Msg {z0 z1 z2 z3 z4 z5 z6 z7 z8 z9 y0 y1 y2 y3 : Int} {y4 y5 : List Int} {k_ : PV → Prop} (h : (Msg.mk z0 z1 z2 z3 z4 z5 z6 z7 z8 z9 y0 y1 y2 y3 y4 y5).path.length ≤ 30 ∧ (Msg.mk z0 z1 z2 z3 z4 z5 z6 z7 z8 z9 y0 y1 y2 y3 y4 y5).todo.length ≤ 30) : CALL ρ 24 [I z0,I z1,I z2,I z3,I z4,I z5,I z6,I z7,I z8,I z9,I y0,I y1,I y2,I y3,L y4,L y5] 1 k_ = (fun (m : Msg) => k_ (bb (msgOk m))) (Msg.mk z0 z1 z2 z3 z4 z5 z6 z7 z8 z9 y0 y1 y2 y3 y4 y5) := CALL_E (F := F_ref01_Msg) rfl (fun _ => rfl) (Msg.mk z0 z1 z2 z3 z4 z5 z6 z7 z8 z9 y0 y1 y2 y3 y4 y5) h rfl
theorem c_kids_Older {z0 z1 z2 : Int} {z3 : List Kid} {k_ : PV → PV → Prop} (h : kidsOk z0 z1 z2 z3 = true) : CALL ρ 138 [I z0,I z1,I z2,L z3] 2 k_ = k_ (L (olderK z3)) (I 0) := CALL_E (F := F_kids_Older) rfl (fun _ => rfl) (z0,z1,z2,z3) h rfl
theorem c_ref10_OlderKids {z0 : List Kid} {k_ : PV → Prop} (h : z0.length ≤ 1000 ∧ ∀ k ∈ z0,0 ≤ k.age ∧ k.age ≤ 1000) : CALL ρ 81 [L z0] 1 k_ = k_ (L (olderK z0)) := CALL_E (F := F_ref10_OlderKids) rfl (fun _ => rfl) z0 h rfl
theorem c_view_Older {z0 : List Peer} {k_ : PV → PV → Prop} (h : peersOk z0 = true) : CALL ρ 74 [L z0] 2 k_ = k_ (L (olderP z0)) (I 0) := CALL_E (F := F_view_Older) rfl (fun _ => rfl) z0 h rfl
theorem c_ref10_Older {z0 : List Peer} {k_ : PV → Prop} (h : peersOk z0 = true) : CALL ρ 78 [L z0] 1 k_ = k_ (L (olderP z0)) := CALL_E (F := F_ref10_Older) rfl (fun _ => rfl) z0 h rfl
theorem c_epoch_Next {z0 z1 : Int} {k_ : PV → PV → Prop} (h : isN z0 = true ∧ 0 ≤ z1 ∧ z1 ≤ 1073741824) : CALL ρ 191 [I z0,I z1] 2 k_ = k_ (I (nextW z0 z1)) (I (if nextW z0 z1 = 0 then 11 else 0)) := CALL_E (F := F_epoch_Next) rfl (fun _ => rfl) (z0,z1) h rfl
theorem c_ref10_NextEpoch {z0 z1 : Int} {k_ : PV → Prop} (h : isN z0 = true ∧ 0 ≤ z1 ∧ z1 ≤ 1073741824) : CALL ρ 147 [I z0,I z1] 1 k_ = k_ (I (nextW z0 z1)) := CALL_E (F := F_ref10_NextEpoch) rfl (fun _ => rfl) (z0,z1) h rfl
theorem c_flow_Begun {z0 z1 : Int} {k_ : PV → PV → PV → PV → PV → Prop} : CALL ρ 192 [I z0,I z1] 5 k_ = k_ (I (begun z0 z1).epoch) (I (begun z0 z1).want) (I (begun z0 z1).known) (L (begun z0 z1).kept) (L (begun z0 z1).ahead) := CALL_E (F := F_flow_Begun) rfl (fun _ => rfl) (z0,z1) trivial rfl
theorem c_ref10_Begun {z0 z1 : Int} {k_ : PV → PV → PV → PV → PV → Prop} : CALL ρ 148 [I z0,I z1] 5 k_ = k_ (I (begun z0 z1).epoch) (I (begun z0 z1).want) (I (begun z0 z1).known) (L (begun z0 z1).kept) (L (begun z0 z1).ahead) := CALL_E (F := F_ref10_Begun) rfl (fun _ => rfl) (z0,z1) trivial rfl
theorem c_flow_Lacks {z0 z1 z2 : Int} {z3 z4 : List Item} {k_ : PV → Prop} : CALL ρ 193 [I z0,I z1,I z2,L z3,L z4] 1 k_ = (fun (s : Stream) => k_ (bb (decide (s.want < s.known)))) (Stream.mk z0 z1 z2 z3 z4) := CALL_E (F := F_flow_Lacks) rfl (fun _ => rfl) (Stream.mk z0 z1 z2 z3 z4) trivial rfl
theorem c_graft_without {z0 z1 : Bool} {z2 z3 z4 z5 z6 z7 : Int} {z8 : List Int} {z9 : List Kid} {y0 y1 y2 : Int} {y3 y4 : List Item} {y5 : List Event} {k_ : PV → PV → PV → PV → PV → PV → PV → PV → PV → PV → PV → PV → PV → PV → PV → PV → Prop} (h : heavy19 (Topic.mk z0 z1 z2 z3 z4 z5 z6 z7 z8 z9 (Stream.mk y0 y1 y2 y3 y4) y5) = false) : CALL ρ 238 [bb z0,bb z1,I z2,I z3,I z4,I z5,I z6,I z7,L z8,L z9,I y0,I y1,I y2,L y3,L y4,L y5] 16 k_ = (fun (x : Topic) => k_ (bb (lostT x).made) (bb (lostT x).sub) (I (lostT x).top) (I (lostT x).root) (I (lostT x).parent) (I (lostT x).asked) (I (lostT x).other) (I (lostT x).age) (L (lostT x).path) (L (lostT x).kids) (I (lostT x).stream.epoch) (I (lostT x).stream.want) (I (lostT x).stream.known) (L (lostT x).stream.kept) (L (lostT x).stream.ahead) (L (lostT x).queue)) (Topic.mk z0 z1 z2 z3 z4 z5 z6 z7 z8 z9 (Stream.mk y0 y1 y2 y3 y4) y5) := CALL_E (F := F_graft_without) rfl (fun _ => rfl) (Topic.mk z0 z1 z2 z3 z4 z5 z6 z7 z8 z9 (Stream.mk y0 y1 y2 y3 y4) y5) h rfl
theorem c_ref10_Lost {z0 z1 : Bool} {z2 z3 z4 z5 z6 z7 : Int} {z8 : List Int} {z9 : List Kid} {y0 y1 y2 : Int} {y3 y4 : List Item} {y5 : List Event} {k_ : PV → PV → PV → PV → PV → PV → PV → PV → PV → PV → PV → PV → PV → PV → PV → PV → Prop} (h : heavy19 (Topic.mk z0 z1 z2 z3 z4 z5 z6 z7 z8 z9 (Stream.mk y0 y1 y2 y3 y4) y5) = false) : CALL ρ 85 [bb z0,bb z1,I z2,I z3,I z4,I z5,I z6,I z7,L z8,L z9,I y0,I y1,I y2,L y3,L y4,L y5] 16 k_ = (fun (x : Topic) => k_ (bb (lostT x).made) (bb (lostT x).sub) (I (lostT x).top) (I (lostT x).root) (I (lostT x).parent) (I (lostT x).asked) (I (lostT x).other) (I (lostT x).age) (L (lostT x).path) (L (lostT x).kids) (I (lostT x).stream.epoch) (I (lostT x).stream.want) (I (lostT x).stream.known) (L (lostT x).stream.kept) (L (lostT x).stream.ahead) (L (lostT x).queue)) (Topic.mk z0 z1 z2 z3 z4 z5 z6 z7 z8 z9 (Stream.mk y0 y1 y2 y3 y4) y5) := CALL_E (F := F_ref10_Lost) rfl (fun _ => rfl) (Topic.mk z0 z1 z2 z3 z4 z5 z6 z7 z8 z9 (Stream.mk y0 y1 y2 y3 y4) y5) h rfl
theorem c_graft_Lost {z0 z1 z2 z3 z4 z5 z6 z7 z8 : Int} {z9 y0 : Bool} {y1 y2 y3 y4 y5 y6 : Int} {y7 : List Int} {y8 : List Kid} {y9 x0 x1 : Int} {x2 x3 : List Item} {x4 : List Event} {k_ : PV → PV → PV → PV → PV → PV → PV → PV → PV → PV → PV → PV → PV → PV → PV → PV → PV → Prop} (h : tWhy (Config.mk z0 z1 z2 z3 z4 z5 z6) z7 z8 (Topic.mk z9 y0 y1 y2 y3 y4 y5 y6 y7 y8 (Stream.mk y9 x0 x1 x2 x3) x4) = 0) : CALL ρ 222 [I z0,I z1,I z2,I z3,I z4,I z5,I z6,I z7,I z8,bb z9,bb y0,I y1,I y2,I y3,I y4,I y5,I y6,L y7,L y8,I y9,I x0,I x1,L x2,L x3,L x4] 17 k_ = (fun (x : Topic) => k_ (bb (lostT x).made) (bb (lostT x).sub) (I (lostT x).top) (I (lostT x).root) (I (lostT x).parent) (I (lostT x).asked) (I (lostT x).other) (I (lostT x).age) (L (lostT x).path) (L (lostT x).kids) (I (lostT x).stream.epoch) (I (lostT x).stream.want) (I (lostT x).stream.known) (L (lostT x).stream.kept) (L (lostT x).stream.ahead) (L (lostT x).queue) (I 0)) (Topic.mk z9 y0 y1 y2 y3 y4 y5 y6 y7 y8 (Stream.mk y9 x0 x1 x2 x3) x4) := CALL_E (F := F_graft_Lost) rfl (fun _ => rfl) ((Config.mk z0 z1 z2 z3 z4 z5 z6),z7,z8,(Topic.mk z9 y0 y1 y2 y3 y4 y5 y6 y7 y8 (Stream.mk y9 x0 x1 x2 x3) x4)) h rfl
theorem c_root_Become {z0 z1 z2 z3 z4 z5 z6 z7 z8 : Int} {z9 y0 : Bool} {y1 y2 y3 y4 y5 y6 : Int} {y7 : List Int} {y8 : List Kid} {y9 x0 x1 : Int} {x2 x3 : List Item} {x4 : List Event} {k_ : PV → PV → PV → PV → PV → PV → PV → PV → PV → PV → PV → PV → PV → PV → PV → PV → PV → Prop} (h : tWhy (Config.mk z0 z1 z2 z3 z4 z5 z6) z7 z8 (Topic.mk z9 y0 y1 y2 y3 y4 y5 y6 y7 y8 (Stream.mk y9 x0 x1 x2 x3) x4) = 0) : CALL ρ 141 [I z0,I z1,I z2,I z3,I z4,I z5,I z6,I z7,I z8,bb z9,bb y0,I y1,I y2,I y3,I y4,I y5,I y6,L y7,L y8,I y9,I x0,I x1,L x2,L x3,L x4] 17 k_ = (fun (x : Topic) => k_ (bb ((becomeR z8 x).1).made) (bb ((becomeR z8 x).1).sub) (I ((becomeR z8 x).1).top) (I ((becomeR z8 x).1).root) (I ((becomeR z8 x).1).parent) (I ((becomeR z8 x).1).asked) (I ((becomeR z8 x).1).other) (I ((becomeR z8 x).1).age) (L ((becomeR z8 x).1).path) (L ((becomeR z8 x).1).kids) (I ((becomeR z8 x).1).stream.epoch) (I ((becomeR z8 x).1).stream.want) (I ((becomeR z8 x).1).stream.known) (L ((becomeR z8 x).1).stream.kept) (L ((becomeR z8 x).1).stream.ahead) (L ((becomeR z8 x).1).queue) (I (becomeR z8 x).2)) (Topic.mk z9 y0 y1 y2 y3 y4 y5 y6 y7 y8 (Stream.mk y9 x0 x1 x2 x3) x4) := CALL_E (F := F_root_Become) rfl (fun _ => rfl) ((Config.mk z0 z1 z2 z3 z4 z5 z6),z7,z8,(Topic.mk z9 y0 y1 y2 y3 y4 y5 y6 y7 y8 (Stream.mk y9 x0 x1 x2 x3) x4)) h rfl
theorem c_ref10_Become {z0 : Int} {z1 z2 : Bool} {z3 z4 z5 z6 z7 z8 : Int} {z9 : List Int} {y0 : List Kid} {y1 y2 y3 : Int} {y4 y5 : List Item} {y6 : List Event} {k_ : PV → PV → PV → PV → PV → PV → PV → PV → PV → PV → PV → PV → PV → PV → PV → PV → PV → Prop} (h : heavy19 (Topic.mk z1 z2 z3 z4 z5 z6 z7 z8 z9 y0 (Stream.mk y1 y2 y3 y4 y5) y6) = false ∧ isN z0 = true ∧ 0 ≤ (Topic.mk z1 z2 z3 z4 z5 z6 z7 z8 z9 y0 (Stream.mk y1 y2 y3 y4 y5) y6).top ∧ (Topic.mk z1 z2 z3 z4 z5 z6 z7 z8 z9 y0 (Stream.mk y1 y2 y3 y4 y5) y6).top ≤ 1073741824) : CALL ρ 84 [I z0,bb z1,bb z2,I z3,I z4,I z5,I z6,I z7,I z8,L z9,L y0,I y1,I y2,I y3,L y4,L y5,L y6] 17 k_ = (fun (x : Topic) => k_ (bb ((becomeR z0 x).1).made) (bb ((becomeR z0 x).1).sub) (I ((becomeR z0 x).1).top) (I ((becomeR z0 x).1).root) (I ((becomeR z0 x).1).parent) (I ((becomeR z0 x).1).asked) (I ((becomeR z0 x).1).other) (I ((becomeR z0 x).1).age) (L ((becomeR z0 x).1).path) (L ((becomeR z0 x).1).kids) (I ((becomeR z0 x).1).stream.epoch) (I ((becomeR z0 x).1).stream.want) (I ((becomeR z0 x).1).stream.known) (L ((becomeR z0 x).1).stream.kept) (L ((becomeR z0 x).1).stream.ahead) (L ((becomeR z0 x).1).queue) (I (becomeR z0 x).2)) (Topic.mk z1 z2 z3 z4 z5 z6 z7 z8 z9 y0 (Stream.mk y1 y2 y3 y4 y5) y6) := CALL_E (F := F_ref10_Become) rfl (fun _ => rfl) (z0,(Topic.mk z1 z2 z3 z4 z5 z6 z7 z8 z9 y0 (Stream.mk y1 y2 y3 y4 y5) y6)) h rfl
theorem c_root_Step {z0 z1 z2 z3 z4 z5 z6 z7 z8 : Int} {z9 y0 : Bool} {y1 y2 y3 y4 y5 y6 : Int} {y7 : List Int} {y8 : List Kid} {y9 x0 x1 : Int} {x2 x3 : List Item} {x4 : List Event} {k_ : PV → PV → PV → PV → PV → PV → PV → PV → PV → PV → PV → PV → PV → PV → PV → PV → PV → Prop} (h : tWhy (Config.mk z0 z1 z2 z3 z4 z5 z6) z7 z8 (Topic.mk z9 y0 y1 y2 y3 y4 y5 y6 y7 y8 (Stream.mk y9 x0 x1 x2 x3) x4) = 0) : CALL ρ 142 [I z0,I z1,I z2,I z3,I z4,I z5,I z6,I z7,I z8,bb z9,bb y0,I y1,I y2,I y3,I y4,I y5,I y6,L y7,L y8,I y9,I x0,I x1,L x2,L x3,L x4] 17 k_ = (fun (x : Topic) => k_ (bb ({ x with root := 0 }).made) (bb ({ x with root := 0 }).sub) (I ({ x with root := 0 }).top) (I ({ x with root := 0 }).root) (I ({ x with root := 0 }).parent) (I ({ x with root := 0 }).asked) (I ({ x with root := 0 }).other) (I ({ x with root := 0 }).age) (L ({ x with root := 0 }).path) (L ({ x with root := 0 }).kids) (I ({ x with root := 0 }).stream.epoch) (I ({ x with root := 0 }).stream.want) (I ({ x with root := 0 }).stream.known) (L ({ x with root := 0 }).stream.kept) (L ({ x with root := 0 }).stream.ahead) (L ({ x with root := 0 }).queue) (I 0)) (Topic.mk z9 y0 y1 y2 y3 y4 y5 y6 y7 y8 (Stream.mk y9 x0 x1 x2 x3) x4) := CALL_E (F := F_root_Step) rfl (fun _ => rfl) ((Config.mk z0 z1 z2 z3 z4 z5 z6),z7,z8,(Topic.mk z9 y0 y1 y2 y3 y4 y5 y6 y7 y8 (Stream.mk y9 x0 x1 x2 x3) x4)) h rfl
theorem c_beat_Interest {z0 z1 : Bool} {z2 z3 z4 z5 z6 z7 : Int} {z8 : List Int} {z9 : List Kid} {y0 y1 y2 : Int} {y3 y4 : List Item} {y5 : List Event} {k_ : PV → Prop} : CALL ρ 139 [bb z0,bb z1,I z2,I z3,I z4,I z5,I z6,I z7,L z8,L z9,I y0,I y1,I y2,L y3,L y4,L y5] 1 k_ = (fun (x : Topic) => k_ (bb (interest x))) (Topic.mk z0 z1 z2 z3 z4 z5 z6 z7 z8 z9 (Stream.mk y0 y1 y2 y3 y4) y5) := CALL_E (F := F_beat_Interest) rfl (fun _ => rfl) (Topic.mk z0 z1 z2 z3 z4 z5 z6 z7 z8 z9 (Stream.mk y0 y1 y2 y3 y4) y5) trivial rfl
theorem c_ref19_Interest {z0 z1 : Bool} {z2 z3 z4 z5 z6 z7 : Int} {z8 : List Int} {z9 : List Kid} {y0 y1 y2 : Int} {y3 y4 : List Item} {y5 : List Event} {k_ : PV → Prop} : CALL ρ 83 [bb z0,bb z1,I z2,I z3,I z4,I z5,I z6,I z7,L z8,L z9,I y0,I y1,I y2,L y3,L y4,L y5] 1 k_ = (fun (x : Topic) => k_ (bb (interest x))) (Topic.mk z0 z1 z2 z3 z4 z5 z6 z7 z8 z9 (Stream.mk y0 y1 y2 y3 y4) y5) := CALL_E (F := F_ref19_Interest) rfl (fun _ => rfl) (Topic.mk z0 z1 z2 z3 z4 z5 z6 z7 z8 z9 (Stream.mk y0 y1 y2 y3 y4) y5) trivial rfl
theorem c_bkeep_TwinMsg {z0 z1 z2 z3 z4 z5 z6 z7 z8 z9 y0 y1 y2 y3 : Int} {y4 y5 : List Int} {k_ : PV → PV → PV → PV → PV → PV → PV → PV → PV → PV → PV → PV → PV → PV → PV → PV → Prop} (h : (Msg.mk z0 z1 z2 z3 z4 z5 z6 z7 z8 z9 y0 y1 y2 y3 y4 y5).path.length ≤ 30 ∧ (Msg.mk z0 z1 z2 z3 z4 z5 z6 z7 z8 z9 y0 y1 y2 y3 y4 y5).todo.length ≤ 30) : CALL ρ 77 [I z0,I z1,I z2,I z3,I z4,I z5,I z6,I z7,I z8,I z9,I y0,I y1,I y2,I y3,L y4,L y5] 16 k_ = (fun (m : Msg) => k_ (I (m).kind) (I (m).frm) (I (m).fromInc) (I (m).to) (I (m).toInc) (I (m).topic) (I (m).epoch) (I (m).seq) (I (m).last) (I (m).value) (I (m).node) (I (m).inc) (I (m).count) (I (m).hops) (L (m).path) (L (m).todo)) (Msg.mk z0 z1 z2 z3 z4 z5 z6 z7 z8 z9 y0 y1 y2 y3 y4 y5) := CALL_E (F := F_bkeep_TwinMsg) rfl (fun _ => rfl) (Msg.mk z0 z1 z2 z3 z4 z5 z6 z7 z8 z9 y0 y1 y2 y3 y4 y5) h rfl
theorem c_msg_Twin {z0 z1 z2 z3 z4 z5 z6 z7 z8 z9 y0 y1 y2 y3 : Int} {y4 y5 : List Int} {k_ : PV → PV → PV → PV → PV → PV → PV → PV → PV → PV → PV → PV → PV → PV → PV → PV → Prop} (h : (Msg.mk z0 z1 z2 z3 z4 z5 z6 z7 z8 z9 y0 y1 y2 y3 y4 y5).path.length ≤ 30 ∧ (Msg.mk z0 z1 z2 z3 z4 z5 z6 z7 z8 z9 y0 y1 y2 y3 y4 y5).todo.length ≤ 30) : CALL ρ 137 [I z0,I z1,I z2,I z3,I z4,I z5,I z6,I z7,I z8,I z9,I y0,I y1,I y2,I y3,L y4,L y5] 16 k_ = (fun (m : Msg) => k_ (I (m).kind) (I (m).frm) (I (m).fromInc) (I (m).to) (I (m).toInc) (I (m).topic) (I (m).epoch) (I (m).seq) (I (m).last) (I (m).value) (I (m).node) (I (m).inc) (I (m).count) (I (m).hops) (L (m).path) (L (m).todo)) (Msg.mk z0 z1 z2 z3 z4 z5 z6 z7 z8 z9 y0 y1 y2 y3 y4 y5) := CALL_E (F := F_msg_Twin) rfl (fun _ => rfl) (Msg.mk z0 z1 z2 z3 z4 z5 z6 z7 z8 z9 y0 y1 y2 y3 y4 y5) h rfl
theorem c_beat_Made {z0 : Int} {z1 : Bool} {z2 : Int} {z3 : List Peer} {z4 : List Topic} {z5 : List Call} {z6 z7 : Int} {z8 : List Mark} {z9 : List Mark2} {y0 : List Msg} {k_ : PV → PV → Prop} (h : y0.length ≤ 1000 ∧ (Node.mk z1 z2 z3 z4 z5 z6 z7 z8 z9).peers.length ≤ 12 ∧ ∀ m ∈ y0,m.path.length ≤ 30 ∧ m.todo.length ≤ 30) : CALL ρ 73 [I z0,bb z1,I z2,L z3,L z4,L z5,I z6,I z7,L z8,L z9,L y0] 2 k_ = (fun (n : Node) => k_ (L (madeL z0 n y0)) (bb (madeGo z0 n y0).isSome)) (Node.mk z1 z2 z3 z4 z5 z6 z7 z8 z9) := CALL_E (F := F_beat_Made) rfl (fun _ => rfl) (z0,(Node.mk z1 z2 z3 z4 z5 z6 z7 z8 z9),y0) h rfl
theorem c_beat_Ready {z0 z1 z2 z3 z4 z5 z6 z7 : Int} {z8 : Bool} {z9 : Int} {y0 : List Peer} {y1 : List Topic} {y2 : List Call} {y3 y4 : Int} {y5 : List Mark} {y6 : List Mark2} {y7 : List Msg} {k_ : PV → PV → Prop} (h : heavy21 (Node.mk z8 z9 y0 y1 y2 y3 y4 y5 y6) = false ∧ y7.length ≤ 1000 ∧ ∀ m ∈ y7,m.path.length ≤ 30 ∧ m.todo.length ≤ 30) : CALL ρ 26 [I z0,I z1,I z2,I z3,I z4,I z5,I z6,I z7,bb z8,I z9,L y0,L y1,L y2,I y3,I y4,L y5,L y6,L y7] 2 k_ = (fun (c : Config) (n : Node) => k_ (L (readyW c z7 n y7).1) (I (readyW c z7 n y7).2)) (Config.mk z0 z1 z2 z3 z4 z5 z6) (Node.mk z8 z9 y0 y1 y2 y3 y4 y5 y6) := CALL_E (F := F_beat_Ready) rfl (fun _ => rfl) ((Config.mk z0 z1 z2 z3 z4 z5 z6),z7,(Node.mk z8 z9 y0 y1 y2 y3 y4 y5 y6),y7) h rfl
theorem c_ref19_Ready {z0 : Int} {z1 : Bool} {z2 : Int} {z3 : List Peer} {z4 : List Topic} {z5 : List Call} {z6 z7 : Int} {z8 : List Mark} {z9 : List Mark2} {y0 : List Msg} {k_ : PV → PV → Prop} (h : y0.length ≤ 1000 ∧ (Node.mk z1 z2 z3 z4 z5 z6 z7 z8 z9).peers.length ≤ 12 ∧ ∀ m ∈ y0,m.path.length ≤ 30 ∧ m.todo.length ≤ 30) : CALL ρ 29 [I z0,bb z1,I z2,L z3,L z4,L z5,I z6,I z7,L z8,L z9,L y0] 2 k_ = (fun (n : Node) => k_ (L (madeL z0 n y0)) (bb (madeGo z0 n y0).isSome)) (Node.mk z1 z2 z3 z4 z5 z6 z7 z8 z9) := CALL_E (F := F_ref19_Ready) rfl (fun _ => rfl) (z0,(Node.mk z1 z2 z3 z4 z5 z6 z7 z8 z9),y0) h rfl
theorem c_ref19_ready {z0 : Int} {z1 : Bool} {z2 : Int} {z3 : List Peer} {z4 : List Topic} {z5 : List Call} {z6 z7 : Int} {z8 : List Mark} {z9 : List Mark2} {y0 : List Msg} {k_ : PV → Prop} (h : y0.length ≤ 1000 ∧ (Node.mk z1 z2 z3 z4 z5 z6 z7 z8 z9).peers.length ≤ 12 ∧ ∀ m ∈ y0,m.path.length ≤ 30 ∧ m.todo.length ≤ 30) : CALL ρ 87 [I z0,bb z1,I z2,L z3,L z4,L z5,I z6,I z7,L z8,L z9,L y0] 1 k_ = (fun (n : Node) => k_ (L (madeL z0 n y0))) (Node.mk z1 z2 z3 z4 z5 z6 z7 z8 z9) := CALL_E (F := F_ref19_ready) rfl (fun _ => rfl) (z0,(Node.mk z1 z2 z3 z4 z5 z6 z7 z8 z9),y0) h rfl
theorem c_beat_Tick {z0 z1 z2 z3 z4 z5 z6 z7 : Int} {z8 : Bool} {z9 : Int} {y0 : List Peer} {y1 : List Topic} {y2 : List Call} {y3 y4 : Int} {y5 : List Mark} {y6 : List Mark2} {k_ : PV → PV → PV → PV → PV → PV → PV → PV → PV → PV → PV → Prop} (h : heavy21 (Node.mk z8 z9 y0 y1 y2 y3 y4 y5 y6) = false) : CALL ρ 27 [I z0,I z1,I z2,I z3,I z4,I z5,I z6,I z7,bb z8,I z9,L y0,L y1,L y2,I y3,I y4,L y5,L y6] 11 k_ = (fun (c : Config) (n : Node) => k_ (bb ((tickW c z7 n).1).up) (I ((tickW c z7 n).1).inc) (L ((tickW c z7 n).1).peers) (L ((tickW c z7 n).1).topics) (L ((tickW c z7 n).1).calls) (I ((tickW c z7 n).1).pubs) (I ((tickW c z7 n).1).asks) (L ((tickW c z7 n).1).marks) (L ((tickW c z7 n).1).taken) (L (tickW c z7 n).2.1) (I (tickW c z7 n).2.2)) (Config.mk z0 z1 z2 z3 z4 z5 z6) (Node.mk z8 z9 y0 y1 y2 y3 y4 y5 y6) := CALL_E (F := F_beat_Tick) rfl (fun _ => rfl) ((Config.mk z0 z1 z2 z3 z4 z5 z6),z7,(Node.mk z8 z9 y0 y1 y2 y3 y4 y5 y6)) h rfl
theorem c_ref19_Tick {z0 z1 z2 z3 z4 z5 z6 z7 : Int} {z8 : Bool} {z9 : Int} {y0 : List Peer} {y1 : List Topic} {y2 : List Call} {y3 y4 : Int} {y5 : List Mark} {y6 : List Mark2} {k_ : PV → PV → PV → PV → PV → PV → PV → PV → PV → PV → Prop} (h : heavy21 (Node.mk z8 z9 y0 y1 y2 y3 y4 y5 y6) = false ∧ nodeWhy (Config.mk z0 z1 z2 z3 z4 z5 z6) z7 (Node.mk z8 z9 y0 y1 y2 y3 y4 y5 y6) = 0) : CALL ρ 30 [I z0,I z1,I z2,I z3,I z4,I z5,I z6,I z7,bb z8,I z9,L y0,L y1,L y2,I y3,I y4,L y5,L y6] 10 k_ = (fun (c : Config) (n : Node) => k_ (bb (tickN c z7 n).up) (I (tickN c z7 n).inc) (L (tickN c z7 n).peers) (L (tickN c z7 n).topics) (L (tickN c z7 n).calls) (I (tickN c z7 n).pubs) (I (tickN c z7 n).asks) (L (tickN c z7 n).marks) (L (tickN c z7 n).taken) (L (tickM c z7 n))) (Config.mk z0 z1 z2 z3 z4 z5 z6) (Node.mk z8 z9 y0 y1 y2 y3 y4 y5 y6) := CALL_E (F := F_ref19_Tick) rfl (fun _ => rfl) ((Config.mk z0 z1 z2 z3 z4 z5 z6),z7,(Node.mk z8 z9 y0 y1 y2 y3 y4 y5 y6)) h rfl
theorem c_law22_wakes  {k_ : PV → Prop} : CALL ρ 28 [] 1 k_ = k_ (bb true) := CALL_T (F := F_law22_wakes) rfl (fun _ _ _ => rfl) () trivial rfl
theorem r_law22_BeatExact {z0 z1 z2 z3 z4 z5 z6 z7 : Int} {z8 : Bool} {z9 : Int} {y0 : List Peer} {y1 : List Topic} {y2 : List Call} {y3 y4 : Int} {y5 : List Mark} {y6 : List Mark2} {y7 : List Msg} : f_law22_BeatExact [I z0,I z1,I z2,I z3,I z4,I z5,I z6,I z7,bb z8,I z9,L y0,L y1,L y2,I y3,I y4,L y5,L y6,L y7] = some [bb true] := fnE_eq (F := F_law22_BeatExact) (a := ((Config.mk z0 z1 z2 z3 z4 z5 z6),z7,(Node.mk z8 z9 y0 y1 y2 y3 y4 y5 y6),y7)) (fun _ => rfl) trivial
theorem r_law22_BeatRight {z0 z1 z2 z3 z4 z5 z6 z7 : Int} {z8 : Bool} {z9 : Int} {y0 : List Peer} {y1 : List Topic} {y2 : List Call} {y3 y4 : Int} {y5 : List Mark} {y6 : List Mark2} : f_law22_BeatRight [I z0,I z1,I z2,I z3,I z4,I z5,I z6,I z7,bb z8,I z9,L y0,L y1,L y2,I y3,I y4,L y5,L y6] = some [bb true] := fnE_eq (F := F_law22_BeatRight) (a := ((Config.mk z0 z1 z2 z3 z4 z5 z6),z7,(Node.mk z8 z9 y0 y1 y2 y3 y4 y5 y6))) (fun _ => rfl) trivial
theorem r_law22_BeatTopics {z0 z1 z2 z3 z4 z5 z6 z7 : Int} {z8 : Bool} {z9 : Int} {y0 : List Peer} {y1 : List Topic} {y2 : List Call} {y3 y4 : Int} {y5 : List Mark} {y6 : List Mark2} : f_law22_BeatTopics [I z0,I z1,I z2,I z3,I z4,I z5,I z6,I z7,bb z8,I z9,L y0,L y1,L y2,I y3,I y4,L y5,L y6] = some [bb true] := fnE_eq (F := F_law22_BeatTopics) (a := ((Config.mk z0 z1 z2 z3 z4 z5 z6),z7,(Node.mk z8 z9 y0 y1 y2 y3 y4 y5 y6))) (fun _ => rfl) trivial
theorem r_law22_BeatQuiet {z0 z1 z2 z3 z4 z5 z6 z7 : Int} {z8 : Bool} {z9 : Int} {y0 : List Peer} {y1 : List Topic} {y2 : List Call} {y3 y4 : Int} {y5 : List Mark} {y6 : List Mark2} : f_law22_BeatQuiet [I z0,I z1,I z2,I z3,I z4,I z5,I z6,I z7,bb z8,I z9,L y0,L y1,L y2,I y3,I y4,L y5,L y6] = some [bb true] := fnE_eq (F := F_law22_BeatQuiet) (a := ((Config.mk z0 z1 z2 z3 z4 z5 z6),z7,(Node.mk z8 z9 y0 y1 y2 y3 y4 y5 y6))) (fun _ => rfl) trivial
theorem c_cast_Twin {z0 : Bool} {z1 : Int} {z2 : List Peer} {z3 : List Topic} {z4 : List Call} {z5 z6 : Int} {z7 : List Mark} {z8 : List Mark2} {k_ : PV → PV → PV → PV → PV → PV → PV → PV → PV → Prop} (h : heavy21 (Node.mk z0 z1 z2 z3 z4 z5 z6 z7 z8) = false) : CALL ρ 44 [bb z0,I z1,L z2,L z3,L z4,I z5,I z6,L z7,L z8] 9 k_ = (fun (n : Node) => k_ (bb (n).up) (I (n).inc) (L (n).peers) (L (n).topics) (L (n).calls) (I (n).pubs) (I (n).asks) (L (n).marks) (L (n).taken)) (Node.mk z0 z1 z2 z3 z4 z5 z6 z7 z8) := CALL_E (F := F_cast_Twin) rfl (fun _ => rfl) (Node.mk z0 z1 z2 z3 z4 z5 z6 z7 z8) h rfl
end Go.Xt
