/- Steps towards the statements of this seat; the conditions stand in each theorem. -/
import Derived.Test.YtbobikmalojafaaGreatDoorTh
import Derived.Test.YtbobikmalojafaaGreatDoorV7
set_option linter.unusedSimpArgs false
set_option linter.unusedVariables false
namespace Go.Xt
def TT : List Int := [1462484242049070477,1775212608919665246,3535639072113518480,3725500155902745375]
def NN : List Int := [2342812313538366385,1863050908023769503,81111313352671826,2434324899588211290,2454816673080883147,1342378062264523301,820659310660760249,2006264061484817761]
def tt (t : Int) : Int := TT.getD t.toNat 0
def nn (n : Int) : Int := NN.getD n.toNat 0
def isT (v : Int) : Bool := decide (0 ≤ v) && decide (v < 4)
def isN (v : Int) : Bool := decide (0 ≤ v) && decide (v < 8)
def far (k n : Int) : Int := if n - k < 0 then n - k + 4611686018427387904 else n - k
def gap (t n : Int) : Int := far (tt t) (nn n)
def near (t a b : Int) : Bool := isT t && isN a && isN b && decide (gap t a < gap t b)
def rises (t : Int) : Int → List Int → Bool
  | _,[] => true
  | n,x :: xs => near t x n && rises t x xs
def chk (t n : Int) (xs : List Int) (c : Int) : Int :=
  if (isT t && isN n && decide (1 ≤ c) && decide (c ≤ 8) && xs.all isN) = true then
    if xs.length > c then 12 else if rises t n xs = true then 0 else 1
  else 1
def chkR (t n : Int) (xs : List Int) (c : Int) : Int :=
  if xs.all isN = true then if xs.length > c then 12 else if rises t n xs = true then 0 else 1 else 1
def par (rows : List (List Int)) (i : Int) : Int := match rows[i.toNat]? with | some (x :: _) => x | _ => -1
def isK (k : Int) : Bool := decide (0 ≤ k) && decide (k < 4611686018427387904)
def ownGo (t : Int) : Int → List Int → Int
  | b,[] => b
  | b,x :: r => ownGo t (if near t x b = true then x else b) r
def owner (t : Int) (l : List Int) : Int × Int :=
  if isT t = true then if l.all isN = true then match l with | [] => (0,7) | x :: _ => (ownGo t x l,0) else (0,1) else (0,1)
def ownR (t : Int) : Int → List Int → Int
  | b,[] => b
  | b,x :: r => ownR t (if b < 0 ∨ gap t x < gap t b then x else b) r
def ownerR (t : Int) (l : List Int) : Int := ownR t (-1) l
def okFrom : Int → List Int → Bool
  | _,[] => true
  | p,x :: r => isN x && decide (p < x) && okFrom x r
def chkL (live : List Int) (self : Int) : Int := if (okFrom (-1) live && live.contains self) = true then 0 else 1
def firstGo (k : Int) : Int → Int → List Int → Int
  | b,_,[] => b
  | b,d,n :: r => if b < 0 ∨ far k (nn n) < d then firstGo k n (far k (nn n)) r else firstGo k b d r
def firstN (live : List Int) (k : Int) : Int := firstGo k (-1) 0 live
def aheadGo (self : Int) : Int → Int → List Int → Int
  | b,_,[] => b
  | b,d,n :: r => if n ≠ self ∧ (b < 0 ∨ far (nn n) (nn self) < d) then aheadGo self n (far (nn n) (nn self)) r else aheadGo self b d r
def aheadN (live : List Int) (self : Int) : Int := aheadGo self (-1) 0 live
def backN (self : Int) (i : Nat) : Int := far (2 ^ i) (nn self)
def compGo : Int → List Int → List Int
  | _,[] => []
  | p,y :: r => if y = p then compGo p r else y :: compGo y r
def compacted : List Int → List Int
  | [] => []
  | x :: r => x :: compGo x r
def sorted (l : List Int) : List Int := l.mergeSort fun x y => decide (x ≤ y)
def nodesL : List Int := [0,1,2,3,4,5,6,7]
def fingL (live : List Int) (self : Int) (k : Nat) : List Int := ((List.range k).map fun i => firstN live (backN self i)).filter fun n => decide (n ≠ self)
def fingers (live : List Int) (self : Int) : List Int := nodesL.filter fun n => (fingL live self 62).contains n
def nextN (t : Int) (live : List Int) (self : Int) : Int :=
  if ownGo t self (fingers live self ++ [aheadN live self]) = self then -1 else ownGo t self (fingers live self ++ [aheadN live self])
def askedN (t : Int) (live : List Int) (self : Int) : Int := if chkL live self = 0 then (if isT t = true then 0 else 1) else chkL live self
structure Config where
  nodes : Int
  topics : Int
  kids : Int
  depth : Int
  keep : Int
  window : Int
  queue : Int
  deriving DecidableEq,Inhabited
instance : Row Config := ⟨7,fun x => [I x.nodes,I x.topics,I x.kids,I x.depth,I x.keep,I x.window,I x.queue],fun _ => rfl,by
  rintro ⟨_,_,_,_,_,_,_⟩ ⟨_,_,_,_,_,_,_⟩ h;simpa [L_inj,and_assoc] using h⟩
instance : RowW Config 7 := ⟨rfl⟩
theorem Config.row_eq (x : Config) : Row.row x = [I x.nodes,I x.topics,I x.kids,I x.depth,I x.keep,I x.window,I x.queue] := rfl
theorem Config.eta (x : Config) : Config.mk x.nodes x.topics x.kids x.depth x.keep x.window x.queue = x := rfl
theorem Config.eq_iff (x y : Config) : (x = y) = (x.nodes = y.nodes ∧ x.topics = y.topics ∧ x.kids = y.kids ∧ x.depth = y.depth ∧ x.keep = y.keep ∧ x.window = y.window ∧ x.queue = y.queue) := by cases x;cases y;simp
theorem Config.deq (x y : Config) : (decide (x.nodes = y.nodes) && (decide (x.topics = y.topics) && (decide (x.kids = y.kids) && (decide (x.depth = y.depth) && (decide (x.keep = y.keep) && (decide (x.window = y.window) && decide (x.queue = y.queue))))))) = decide (x = y) := by rw [Bool.eq_iff_iff];simp [Config.eq_iff]
theorem OP_rowConfig {k : PV → Prop} {a_nodes : Int} {a_topics : Int} {a_kids : Int} {a_depth : Int} {a_keep : Int} {a_window : Int} {a_queue : Int} : OP (.rows 7) [I a_nodes,I a_topics,I a_kids,I a_depth,I a_keep,I a_window,I a_queue] k = k (L [(Config.mk a_nodes a_topics a_kids a_depth a_keep a_window a_queue)]) := OP_of (by simp [ev,chunk,L,Row.row])
structure Peer where
  inc : Int
  age : Int
  deriving DecidableEq,Inhabited
instance : Row Peer := ⟨2,fun x => [I x.inc,I x.age],fun _ => rfl,by
  rintro ⟨_,_⟩ ⟨_,_⟩ h;simpa [L_inj,and_assoc] using h⟩
instance : RowW Peer 2 := ⟨rfl⟩
theorem Peer.row_eq (x : Peer) : Row.row x = [I x.inc,I x.age] := rfl
theorem Peer.eta (x : Peer) : Peer.mk x.inc x.age = x := rfl
theorem Peer.eq_iff (x y : Peer) : (x = y) = (x.inc = y.inc ∧ x.age = y.age) := by cases x;cases y;simp
theorem Peer.deq (x y : Peer) : (decide (x.inc = y.inc) && decide (x.age = y.age)) = decide (x = y) := by rw [Bool.eq_iff_iff];simp [Peer.eq_iff]
theorem OP_rowPeer {k : PV → Prop} {a_inc : Int} {a_age : Int} : OP (.rows 2) [I a_inc,I a_age] k = k (L [(Peer.mk a_inc a_age)]) := OP_of (by simp [ev,chunk,L,Row.row])
structure Kid where
  node : Int
  inc : Int
  age : Int
  deriving DecidableEq,Inhabited
instance : Row Kid := ⟨3,fun x => [I x.node,I x.inc,I x.age],fun _ => rfl,by
  rintro ⟨_,_,_⟩ ⟨_,_,_⟩ h;simpa [L_inj,and_assoc] using h⟩
instance : RowW Kid 3 := ⟨rfl⟩
theorem Kid.row_eq (x : Kid) : Row.row x = [I x.node,I x.inc,I x.age] := rfl
theorem Kid.eta (x : Kid) : Kid.mk x.node x.inc x.age = x := rfl
theorem Kid.eq_iff (x y : Kid) : (x = y) = (x.node = y.node ∧ x.inc = y.inc ∧ x.age = y.age) := by cases x;cases y;simp
theorem Kid.deq (x y : Kid) : (decide (x.node = y.node) && (decide (x.inc = y.inc) && decide (x.age = y.age))) = decide (x = y) := by rw [Bool.eq_iff_iff];simp [Kid.eq_iff]
theorem OP_rowKid {k : PV → Prop} {a_node : Int} {a_inc : Int} {a_age : Int} : OP (.rows 3) [I a_node,I a_inc,I a_age] k = k (L [(Kid.mk a_node a_inc a_age)]) := OP_of (by simp [ev,chunk,L,Row.row])
structure Item where
  seq : Int
  value : Int
  deriving DecidableEq,Inhabited
instance : Row Item := ⟨2,fun x => [I x.seq,I x.value],fun _ => rfl,by
  rintro ⟨_,_⟩ ⟨_,_⟩ h;simpa [L_inj,and_assoc] using h⟩
instance : RowW Item 2 := ⟨rfl⟩
theorem Item.row_eq (x : Item) : Row.row x = [I x.seq,I x.value] := rfl
theorem Item.eta (x : Item) : Item.mk x.seq x.value = x := rfl
theorem Item.eq_iff (x y : Item) : (x = y) = (x.seq = y.seq ∧ x.value = y.value) := by cases x;cases y;simp
theorem Item.deq (x y : Item) : (decide (x.seq = y.seq) && decide (x.value = y.value)) = decide (x = y) := by rw [Bool.eq_iff_iff];simp [Item.eq_iff]
theorem OP_rowItem {k : PV → Prop} {a_seq : Int} {a_value : Int} : OP (.rows 2) [I a_seq,I a_value] k = k (L [(Item.mk a_seq a_value)]) := OP_of (by simp [ev,chunk,L,Row.row])
structure Event where
  kind : Int
  epoch : Int
  seq : Int
  last : Int
  value : Int
  count : Int
  deriving DecidableEq,Inhabited
instance : Row Event := ⟨6,fun x => [I x.kind,I x.epoch,I x.seq,I x.last,I x.value,I x.count],fun _ => rfl,by
  rintro ⟨_,_,_,_,_,_⟩ ⟨_,_,_,_,_,_⟩ h;simpa [L_inj,and_assoc] using h⟩
instance : RowW Event 6 := ⟨rfl⟩
theorem Event.row_eq (x : Event) : Row.row x = [I x.kind,I x.epoch,I x.seq,I x.last,I x.value,I x.count] := rfl
theorem Event.eta (x : Event) : Event.mk x.kind x.epoch x.seq x.last x.value x.count = x := rfl
theorem Event.eq_iff (x y : Event) : (x = y) = (x.kind = y.kind ∧ x.epoch = y.epoch ∧ x.seq = y.seq ∧ x.last = y.last ∧ x.value = y.value ∧ x.count = y.count) := by cases x;cases y;simp
theorem Event.deq (x y : Event) : (decide (x.kind = y.kind) && (decide (x.epoch = y.epoch) && (decide (x.seq = y.seq) && (decide (x.last = y.last) && (decide (x.value = y.value) && decide (x.count = y.count)))))) = decide (x = y) := by rw [Bool.eq_iff_iff];simp [Event.eq_iff]
theorem OP_rowEvent {k : PV → Prop} {a_kind : Int} {a_epoch : Int} {a_seq : Int} {a_last : Int} {a_value : Int} {a_count : Int} : OP (.rows 6) [I a_kind,I a_epoch,I a_seq,I a_last,I a_value,I a_count] k = k (L [(Event.mk a_kind a_epoch a_seq a_last a_value a_count)]) := OP_of (by simp [ev,chunk,L,Row.row])
structure Stream where
  epoch : Int
  want : Int
  known : Int
  kept : List Item
  ahead : List Item
  deriving DecidableEq,Inhabited
instance : Row Stream := ⟨5,fun x => [I x.epoch,I x.want,I x.known,L x.kept,L x.ahead],fun _ => rfl,by
  rintro ⟨_,_,_,_,_⟩ ⟨_,_,_,_,_⟩ h;simpa [L_inj,and_assoc] using h⟩
instance : RowW Stream 5 := ⟨rfl⟩
theorem Stream.row_eq (x : Stream) : Row.row x = [I x.epoch,I x.want,I x.known,L x.kept,L x.ahead] := rfl
theorem Stream.eta (x : Stream) : Stream.mk x.epoch x.want x.known x.kept x.ahead = x := rfl
theorem Stream.eq_iff (x y : Stream) : (x = y) = (x.epoch = y.epoch ∧ x.want = y.want ∧ x.known = y.known ∧ x.kept = y.kept ∧ x.ahead = y.ahead) := by cases x;cases y;simp
theorem OP_rowStream {k : PV → Prop} {a_epoch : Int} {a_want : Int} {a_known : Int} {a_kept : List Item} {a_ahead : List Item} : OP (.rows 5) [I a_epoch,I a_want,I a_known,L a_kept,L a_ahead] k = k (L [(Stream.mk a_epoch a_want a_known a_kept a_ahead)]) := OP_of (by simp [ev,chunk,L,Row.row])
structure Call where
  count : Int
  topic : Int
  age : Int
  deriving DecidableEq,Inhabited
instance : Row Call := ⟨3,fun x => [I x.count,I x.topic,I x.age],fun _ => rfl,by
  rintro ⟨_,_,_⟩ ⟨_,_,_⟩ h;simpa [L_inj,and_assoc] using h⟩
instance : RowW Call 3 := ⟨rfl⟩
theorem Call.row_eq (x : Call) : Row.row x = [I x.count,I x.topic,I x.age] := rfl
theorem Call.eta (x : Call) : Call.mk x.count x.topic x.age = x := rfl
theorem Call.eq_iff (x y : Call) : (x = y) = (x.count = y.count ∧ x.topic = y.topic ∧ x.age = y.age) := by cases x;cases y;simp
theorem Call.deq (x y : Call) : (decide (x.count = y.count) && (decide (x.topic = y.topic) && decide (x.age = y.age))) = decide (x = y) := by rw [Bool.eq_iff_iff];simp [Call.eq_iff]
theorem OP_rowCall {k : PV → Prop} {a_count : Int} {a_topic : Int} {a_age : Int} : OP (.rows 3) [I a_count,I a_topic,I a_age] k = k (L [(Call.mk a_count a_topic a_age)]) := OP_of (by simp [ev,chunk,L,Row.row])
structure Mark where
  inc : Int
  pubs : Int
  met : Int
  deriving DecidableEq,Inhabited
instance : Row Mark := ⟨3,fun x => [I x.inc,I x.pubs,I x.met],fun _ => rfl,by
  rintro ⟨_,_,_⟩ ⟨_,_,_⟩ h;simpa [L_inj,and_assoc] using h⟩
instance : RowW Mark 3 := ⟨rfl⟩
theorem Mark.row_eq (x : Mark) : Row.row x = [I x.inc,I x.pubs,I x.met] := rfl
theorem Mark.eta (x : Mark) : Mark.mk x.inc x.pubs x.met = x := rfl
theorem Mark.eq_iff (x y : Mark) : (x = y) = (x.inc = y.inc ∧ x.pubs = y.pubs ∧ x.met = y.met) := by cases x;cases y;simp
theorem Mark.deq (x y : Mark) : (decide (x.inc = y.inc) && (decide (x.pubs = y.pubs) && decide (x.met = y.met))) = decide (x = y) := by rw [Bool.eq_iff_iff];simp [Mark.eq_iff]
theorem OP_rowMark {k : PV → Prop} {a_inc : Int} {a_pubs : Int} {a_met : Int} : OP (.rows 3) [I a_inc,I a_pubs,I a_met] k = k (L [(Mark.mk a_inc a_pubs a_met)]) := OP_of (by simp [ev,chunk,L,Row.row])
structure Mark2 where
  node : Int
  inc : Int
  count : Int
  topic : Int
  value : Int
  deriving DecidableEq,Inhabited
instance : Row Mark2 := ⟨5,fun x => [I x.node,I x.inc,I x.count,I x.topic,I x.value],fun _ => rfl,by
  rintro ⟨_,_,_,_,_⟩ ⟨_,_,_,_,_⟩ h;simpa [L_inj,and_assoc] using h⟩
instance : RowW Mark2 5 := ⟨rfl⟩
theorem Mark2.row_eq (x : Mark2) : Row.row x = [I x.node,I x.inc,I x.count,I x.topic,I x.value] := rfl
theorem Mark2.eta (x : Mark2) : Mark2.mk x.node x.inc x.count x.topic x.value = x := rfl
theorem Mark2.eq_iff (x y : Mark2) : (x = y) = (x.node = y.node ∧ x.inc = y.inc ∧ x.count = y.count ∧ x.topic = y.topic ∧ x.value = y.value) := by cases x;cases y;simp
theorem Mark2.deq (x y : Mark2) : (decide (x.node = y.node) && (decide (x.inc = y.inc) && (decide (x.count = y.count) && (decide (x.topic = y.topic) && decide (x.value = y.value))))) = decide (x = y) := by rw [Bool.eq_iff_iff];simp [Mark2.eq_iff]
theorem OP_rowMark2 {k : PV → Prop} {a_node : Int} {a_inc : Int} {a_count : Int} {a_topic : Int} {a_value : Int} : OP (.rows 5) [I a_node,I a_inc,I a_count,I a_topic,I a_value] k = k (L [(Mark2.mk a_node a_inc a_count a_topic a_value)]) := OP_of (by simp [ev,chunk,L,Row.row])
structure Topic where
  made : Bool
  sub : Bool
  top : Int
  root : Int
  parent : Int
  asked : Int
  other : Int
  age : Int
  path : List Int
  kids : List Kid
  stream : Stream
  queue : List Event
  deriving DecidableEq,Inhabited
instance : Row Topic := ⟨16,fun x => [bb x.made,bb x.sub,I x.top,I x.root,I x.parent,I x.asked,I x.other,I x.age,L x.path,L x.kids,I x.stream.epoch,I x.stream.want,I x.stream.known,L x.stream.kept,L x.stream.ahead,L x.queue],fun _ => rfl,by
  rintro ⟨_,_,_,_,_,_,_,_,_,_,⟨_,_,_,_,_⟩,_⟩ ⟨_,_,_,_,_,_,_,_,_,_,⟨_,_,_,_,_⟩,_⟩ h;simpa [L_inj,and_assoc] using h⟩
instance : RowW Topic 16 := ⟨rfl⟩
theorem Topic.row_eq (x : Topic) : Row.row x = [bb x.made,bb x.sub,I x.top,I x.root,I x.parent,I x.asked,I x.other,I x.age,L x.path,L x.kids,I x.stream.epoch,I x.stream.want,I x.stream.known,L x.stream.kept,L x.stream.ahead,L x.queue] := rfl
theorem Topic.eta (x : Topic) : Topic.mk x.made x.sub x.top x.root x.parent x.asked x.other x.age x.path x.kids x.stream x.queue = x := rfl
theorem Topic.eq_iff (x y : Topic) : (x = y) = (x.made = y.made ∧ x.sub = y.sub ∧ x.top = y.top ∧ x.root = y.root ∧ x.parent = y.parent ∧ x.asked = y.asked ∧ x.other = y.other ∧ x.age = y.age ∧ x.path = y.path ∧ x.kids = y.kids ∧ x.stream = y.stream ∧ x.queue = y.queue) := by cases x;cases y;simp
theorem OP_rowTopic {k : PV → Prop} {a_made : Bool} {a_sub : Bool} {a_top : Int} {a_root : Int} {a_parent : Int} {a_asked : Int} {a_other : Int} {a_age : Int} {a_path : List Int} {a_kids : List Kid} {a_stream_epoch : Int} {a_stream_want : Int} {a_stream_known : Int} {a_stream_kept : List Item} {a_stream_ahead : List Item} {a_queue : List Event} : OP (.rows 16) [bb a_made,bb a_sub,I a_top,I a_root,I a_parent,I a_asked,I a_other,I a_age,L a_path,L a_kids,I a_stream_epoch,I a_stream_want,I a_stream_known,L a_stream_kept,L a_stream_ahead,L a_queue] k = k (L [(Topic.mk a_made a_sub a_top a_root a_parent a_asked a_other a_age a_path a_kids (Stream.mk a_stream_epoch a_stream_want a_stream_known a_stream_kept a_stream_ahead) a_queue)]) := OP_of (by simp [ev,chunk,L,Row.row])
structure Node where
  up : Bool
  inc : Int
  peers : List Peer
  topics : List Topic
  calls : List Call
  pubs : Int
  asks : Int
  marks : List Mark
  taken : List Mark2
  deriving DecidableEq,Inhabited
instance : Row Node := ⟨9,fun x => [bb x.up,I x.inc,L x.peers,L x.topics,L x.calls,I x.pubs,I x.asks,L x.marks,L x.taken],fun _ => rfl,by
  rintro ⟨_,_,_,_,_,_,_,_,_⟩ ⟨_,_,_,_,_,_,_,_,_⟩ h;simpa [L_inj,and_assoc] using h⟩
instance : RowW Node 9 := ⟨rfl⟩
theorem Node.row_eq (x : Node) : Row.row x = [bb x.up,I x.inc,L x.peers,L x.topics,L x.calls,I x.pubs,I x.asks,L x.marks,L x.taken] := rfl
theorem Node.eta (x : Node) : Node.mk x.up x.inc x.peers x.topics x.calls x.pubs x.asks x.marks x.taken = x := rfl
theorem Node.eq_iff (x y : Node) : (x = y) = (x.up = y.up ∧ x.inc = y.inc ∧ x.peers = y.peers ∧ x.topics = y.topics ∧ x.calls = y.calls ∧ x.pubs = y.pubs ∧ x.asks = y.asks ∧ x.marks = y.marks ∧ x.taken = y.taken) := by cases x;cases y;simp
theorem OP_rowNode {k : PV → Prop} {a_up : Bool} {a_inc : Int} {a_peers : List Peer} {a_topics : List Topic} {a_calls : List Call} {a_pubs : Int} {a_asks : Int} {a_marks : List Mark} {a_taken : List Mark2} : OP (.rows 9) [bb a_up,I a_inc,L a_peers,L a_topics,L a_calls,I a_pubs,I a_asks,L a_marks,L a_taken] k = k (L [(Node.mk a_up a_inc a_peers a_topics a_calls a_pubs a_asks a_marks a_taken)]) := OP_of (by simp [ev,chunk,L,Row.row])
structure Msg where
  kind : Int
  frm : Int
  fromInc : Int
  to : Int
  toInc : Int
  topic : Int
  epoch : Int
  seq : Int
  last : Int
  value : Int
  node : Int
  inc : Int
  count : Int
  hops : Int
  path : List Int
  todo : List Int
  deriving DecidableEq,Inhabited
instance : Row Msg := ⟨16,fun x => [I x.kind,I x.frm,I x.fromInc,I x.to,I x.toInc,I x.topic,I x.epoch,I x.seq,I x.last,I x.value,I x.node,I x.inc,I x.count,I x.hops,L x.path,L x.todo],fun _ => rfl,by
  rintro ⟨_,_,_,_,_,_,_,_,_,_,_,_,_,_,_,_⟩ ⟨_,_,_,_,_,_,_,_,_,_,_,_,_,_,_,_⟩ h;simpa [L_inj,and_assoc] using h⟩
instance : RowW Msg 16 := ⟨rfl⟩
theorem Msg.row_eq (x : Msg) : Row.row x = [I x.kind,I x.frm,I x.fromInc,I x.to,I x.toInc,I x.topic,I x.epoch,I x.seq,I x.last,I x.value,I x.node,I x.inc,I x.count,I x.hops,L x.path,L x.todo] := rfl
theorem Msg.eta (x : Msg) : Msg.mk x.kind x.frm x.fromInc x.to x.toInc x.topic x.epoch x.seq x.last x.value x.node x.inc x.count x.hops x.path x.todo = x := rfl
theorem Msg.eq_iff (x y : Msg) : (x = y) = (x.kind = y.kind ∧ x.frm = y.frm ∧ x.fromInc = y.fromInc ∧ x.to = y.to ∧ x.toInc = y.toInc ∧ x.topic = y.topic ∧ x.epoch = y.epoch ∧ x.seq = y.seq ∧ x.last = y.last ∧ x.value = y.value ∧ x.node = y.node ∧ x.inc = y.inc ∧ x.count = y.count ∧ x.hops = y.hops ∧ x.path = y.path ∧ x.todo = y.todo) := by cases x;cases y;simp
theorem OP_rowMsg {k : PV → Prop} {a_kind : Int} {a_frm : Int} {a_fromInc : Int} {a_to : Int} {a_toInc : Int} {a_topic : Int} {a_epoch : Int} {a_seq : Int} {a_last : Int} {a_value : Int} {a_node : Int} {a_inc : Int} {a_count : Int} {a_hops : Int} {a_path : List Int} {a_todo : List Int} : OP (.rows 16) [I a_kind,I a_frm,I a_fromInc,I a_to,I a_toInc,I a_topic,I a_epoch,I a_seq,I a_last,I a_value,I a_node,I a_inc,I a_count,I a_hops,L a_path,L a_todo] k = k (L [(Msg.mk a_kind a_frm a_fromInc a_to a_toInc a_topic a_epoch a_seq a_last a_value a_node a_inc a_count a_hops a_path a_todo)]) := OP_of (by simp [ev,chunk,L,Row.row])
structure Step where
  kind : Int
  node : Int
  topic : Int
  value : Int
  mask : Int
  deriving DecidableEq,Inhabited
instance : Row Step := ⟨5,fun x => [I x.kind,I x.node,I x.topic,I x.value,I x.mask],fun _ => rfl,by
  rintro ⟨_,_,_,_,_⟩ ⟨_,_,_,_,_⟩ h;simpa [L_inj,and_assoc] using h⟩
instance : RowW Step 5 := ⟨rfl⟩
theorem Step.row_eq (x : Step) : Row.row x = [I x.kind,I x.node,I x.topic,I x.value,I x.mask] := rfl
theorem Step.eta (x : Step) : Step.mk x.kind x.node x.topic x.value x.mask = x := rfl
theorem Step.eq_iff (x y : Step) : (x = y) = (x.kind = y.kind ∧ x.node = y.node ∧ x.topic = y.topic ∧ x.value = y.value ∧ x.mask = y.mask) := by cases x;cases y;simp
theorem Step.deq (x y : Step) : (decide (x.kind = y.kind) && (decide (x.node = y.node) && (decide (x.topic = y.topic) && (decide (x.value = y.value) && decide (x.mask = y.mask))))) = decide (x = y) := by rw [Bool.eq_iff_iff];simp [Step.eq_iff]
theorem OP_rowStep {k : PV → Prop} {a_kind : Int} {a_node : Int} {a_topic : Int} {a_value : Int} {a_mask : Int} : OP (.rows 5) [I a_kind,I a_node,I a_topic,I a_value,I a_mask] k = k (L [(Step.mk a_kind a_node a_topic a_value a_mask)]) := OP_of (by simp [ev,chunk,L,Row.row])
structure By where
  n : Int
  deriving DecidableEq,Inhabited
instance : Row By := ⟨1,fun x => [.int .u8 x.n],fun _ => rfl,by
  rintro ⟨_⟩ ⟨_⟩ h;simpa [L_inj,and_assoc] using h⟩
instance : RowW By 1 := ⟨rfl⟩
theorem By.row_eq (x : By) : Row.row x = [.int .u8 x.n] := rfl
theorem By.eta (x : By) : By.mk x.n = x := rfl
theorem By.eq_iff (x y : By) : (x = y) = (x.n = y.n) := by cases x;cases y;simp
theorem By.deq (x y : By) : decide (x.n = y.n) = decide (x = y) := by rw [Bool.eq_iff_iff];simp [By.eq_iff]
theorem OP_rowBy {k : PV → Prop} {a_n : Int} : OP (.rows 1) [.int .u8 a_n] k = k (L [(By.mk a_n)]) := OP_of (by simp [ev,chunk,L,Row.row])
structure Frame where
  to : Int
  bytes : List By
  deriving DecidableEq,Inhabited
instance : Row Frame := ⟨2,fun x => [I x.to,L x.bytes],fun _ => rfl,by
  rintro ⟨_,_⟩ ⟨_,_⟩ h;simpa [L_inj,and_assoc] using h⟩
instance : RowW Frame 2 := ⟨rfl⟩
theorem Frame.row_eq (x : Frame) : Row.row x = [I x.to,L x.bytes] := rfl
theorem Frame.eta (x : Frame) : Frame.mk x.to x.bytes = x := rfl
theorem Frame.eq_iff (x y : Frame) : (x = y) = (x.to = y.to ∧ x.bytes = y.bytes) := by cases x;cases y;simp
theorem OP_rowFrame {k : PV → Prop} {a_to : Int} {a_bytes : List By} : OP (.rows 2) [I a_to,L a_bytes] k = k (L [(Frame.mk a_to a_bytes)]) := OP_of (by simp [ev,chunk,L,Row.row])
structure World where
  nodes : List Node
  bag : List Frame
  deriving DecidableEq,Inhabited
instance : Row World := ⟨2,fun x => [L x.nodes,L x.bag],fun _ => rfl,by
  rintro ⟨_,_⟩ ⟨_,_⟩ h;simpa [L_inj,and_assoc] using h⟩
instance : RowW World 2 := ⟨rfl⟩
theorem World.row_eq (x : World) : Row.row x = [L x.nodes,L x.bag] := rfl
theorem World.eta (x : World) : World.mk x.nodes x.bag = x := rfl
theorem World.eq_iff (x y : World) : (x = y) = (x.nodes = y.nodes ∧ x.bag = y.bag) := by cases x;cases y;simp
theorem OP_rowWorld {k : PV → Prop} {a_nodes : List Node} {a_bag : List Frame} : OP (.rows 2) [L a_nodes,L a_bag] k = k (L [(World.mk a_nodes a_bag)]) := OP_of (by simp [ev,chunk,L,Row.row])
structure Ans where
  err : Int
  event : Event
  count : Int
  deriving DecidableEq,Inhabited
instance : Row Ans := ⟨8,fun x => [I x.err,I x.event.kind,I x.event.epoch,I x.event.seq,I x.event.last,I x.event.value,I x.event.count,I x.count],fun _ => rfl,by
  rintro ⟨_,⟨_,_,_,_,_,_⟩,_⟩ ⟨_,⟨_,_,_,_,_,_⟩,_⟩ h;simpa [L_inj,and_assoc] using h⟩
instance : RowW Ans 8 := ⟨rfl⟩
theorem Ans.row_eq (x : Ans) : Row.row x = [I x.err,I x.event.kind,I x.event.epoch,I x.event.seq,I x.event.last,I x.event.value,I x.event.count,I x.count] := rfl
theorem Ans.eta (x : Ans) : Ans.mk x.err x.event x.count = x := rfl
theorem Ans.eq_iff (x y : Ans) : (x = y) = (x.err = y.err ∧ x.event = y.event ∧ x.count = y.count) := by cases x;cases y;simp
theorem OP_rowAns {k : PV → Prop} {a_err : Int} {a_event_kind : Int} {a_event_epoch : Int} {a_event_seq : Int} {a_event_last : Int} {a_event_value : Int} {a_event_count : Int} {a_count : Int} : OP (.rows 8) [I a_err,I a_event_kind,I a_event_epoch,I a_event_seq,I a_event_last,I a_event_value,I a_event_count,I a_count] k = k (L [(Ans.mk a_err (Event.mk a_event_kind a_event_epoch a_event_seq a_event_last a_event_value a_event_count) a_count)]) := OP_of (by simp [ev,chunk,L,Row.row])
def rng (n lo hi : Int) : Bool := decide (lo ≤ n) && decide (n ≤ hi)
def cfgOk (c : Config) : Bool := rng c.nodes 1 8 && rng c.topics 1 4 && rng c.kids 1 4 && rng c.depth 1 8 && rng c.keep 1 16 && rng c.window 1 16 && rng c.queue 2 32
def errOf (n lo hi why : Int) : List Int := if n < lo ∨ hi < n then [why] else []
def cfgErrs (c : Config) : List Int := errOf c.nodes 1 8 13 ++ errOf c.topics 1 4 13 ++ errOf c.kids 1 4 13 ++ errOf c.depth 1 8 13 ++ errOf c.keep 1 16 13 ++ errOf c.window 1 16 13 ++ errOf c.queue 2 32 13
def cnt (n : Int) : Bool := rng n 1 1073741824
def val (n : Int) : Bool := rng n 0 2147483647
def ep (e : Int) : Bool := rng e 1 1073741824 && isN (e % 16)
def peerOk (p : Peer) : Bool := rng p.inc 0 1073741824 && rng p.age 0 1000
def peersOk (l : List Peer) : Bool := decide (1 ≤ l.length) && decide (l.length ≤ 8) && l.all peerOk
def kidsGo (t : Int) : Int → List Kid → Bool
  | _,[] => true
  | a,k :: r => near t a k.node && cnt k.inc && rng k.age 0 6 && kidsGo t k.node r
def kidsOk (t self limit : Int) (l : List Kid) : Bool := isT t && isN self && rng limit 1 4 && decide (l.length ≤ limit) && kidsGo t self l
def keptGo : Int → List Item → Bool
  | _,[] => true
  | n,x :: r => decide (x.seq = n) && val x.value && keptGo (n + 1) r
def keptOk (l : List Item) (want limit : Int) : Bool := cnt want && rng limit 1 16 && decide (l.length ≤ limit) && decide (l.length < want) && keptGo (want - l.length) l
def ahdGo (m : Int) : Int → List Item → Bool
  | _,[] => true
  | p,x :: r => decide (p < x.seq) && decide (x.seq < m) && decide (x.seq < 1073741824) && val x.value && ahdGo m x.seq r
def aheadOk (l : List Item) (want window : Int) : Bool := cnt want && rng window 1 16 && ahdGo (want + window) want l
def evOk (x : Event) : Bool :=
  if x.kind = 1 then ep x.epoch && cnt x.seq && val x.value && decide (x.last = 0) && decide (x.count = 0)
  else if x.kind = 2 then ep x.epoch && cnt x.seq && rng x.last x.seq 1073741824 && decide (x.value = 0) && decide (x.count = 0)
  else if x.kind = 3 then rng x.count 1 40 && isN x.value && decide (x.epoch = 0) && decide (x.seq = 0) && decide (x.last = 0)
  else if x.kind = 4 then rng x.count 1 40 && decide (x.epoch = 0) && decide (x.seq = 0) && decide (x.last = 0) && decide (x.value = 0)
  else decide (x.kind = 5) && decide (x.epoch = 0) && decide (x.seq = 0) && decide (x.last = 0) && decide (x.value = 0) && decide (x.count = 0)
def lastGap (l : List Event) : Bool := match l.getLast? with | some x => decide (x.kind = 2) | none => false
def queueOk (l : List Event) (limit : Int) : Bool := rng limit 2 32 && decide (l.length ≤ limit) && l.all evOk && (decide (l.length < limit) || lastGap l)
def streamZ (s : Stream) : Bool := decide (s.epoch = 0) && decide (s.want = 0) && decide (s.known = 0) && decide (s.kept = []) && decide (s.ahead = [])
def streamOk (c : Config) (s : Stream) : Bool := streamZ s || (ep s.epoch && cnt s.want && rng s.known s.want 1073741824 && keptOk s.kept s.want c.keep && aheadOk s.ahead s.want c.window)
def flowOk (c : Config) (s : Stream) (q : List Event) : Bool := streamOk c s && queueOk q c.queue
def link (t self n : Int) : Bool := decide (n = 0) || (decide (0 < n) && near t (n - 1) self)
def rootOk (self : Int) (x : Topic) : Bool := decide (x.root = 0) || (ep x.root && decide (x.root % 16 = self) && decide (x.root ≤ x.top) && decide (x.parent = 0) && decide (x.stream.epoch = x.root))
def placedOk (x : Topic) : Bool := match x.path with | [] => decide (x.parent = 0) | p :: _ => decide (x.parent = IntKind.i64.wrap (p + 1))
def topicOk (c : Config) (t self : Int) (x : Topic) : Bool :=
  rng x.top 0 1073741824 && rng x.age 0 1000 && link t self x.parent && link t self x.asked && link t self x.other && rootOk self x && placedOk x &&
  decide (chk t self x.path c.depth = 0) && kidsOk t self c.kids x.kids && flowOk c x.stream x.queue
def place (c : Config) (t self : Int) : Bool := rng t 0 (c.topics - 1) && rng self 0 (c.nodes - 1)
def callsGo (c : Config) (asks : Int) : Int → List Call → Bool
  | _,[] => true
  | p,x :: r => decide (p < x.count) && decide (x.count ≤ asks) && rng x.topic 0 (c.topics - 1) && rng x.age 0 20 && callsGo c asks x.count r
def markOk (m : Mark) : Bool := rng m.inc 0 1073741824 && rng m.pubs 0 1073741824 && rng m.met 0 2199023255551
def takenOk (c : Config) (x : Mark2) : Bool := rng x.node 0 (c.nodes - 1) && rng x.topic 0 (c.topics - 1) && cnt x.inc && cnt x.count && val x.value
def topicsGo (c : Config) (self : Int) : Int → List Topic → Bool
  | _,[] => true
  | t,x :: r => topicOk c t self x && topicsGo c self (t + 1) r
def nodeOk (c : Config) (self : Int) (n : Node) : Bool :=
  cnt n.inc && rng n.pubs 0 1073741824 && rng n.asks 0 40 && callsGo c n.asks 0 n.calls && decide (n.calls.length ≤ 40) &&
  decide (n.peers.length = c.nodes) && decide (n.topics.length = c.topics) && decide (n.marks.length = c.nodes) && decide (n.taken.length ≤ 64) &&
  topicsGo c self 0 n.topics && peersOk n.peers && n.marks.all markOk && n.taken.all (takenOk c)
def nodeWhy (c : Config) (self : Int) (n : Node) : Int :=
  if cfgOk c = true then (if (rng self 0 (c.nodes - 1) && n.up) = true then (if nodeOk c self n = true then 0 else 1) else 9) else 13
def topic0 : Topic := ⟨false,false,0,0,0,0,0,0,[],[],⟨0,0,0,[],[]⟩,[]⟩
theorem OP_replPeer {n : Int} {k : PV → Prop} (h0 : 0 ≤ n) (h1 : n ≤ 1000) : OP (.repl 16 [(.int .i64 0),(.int .i64 0)]) [I n] k = k (L (List.replicate n.toNat (⟨0,0⟩ : Peer))) := OP_repl rfl h0 (by omega)
theorem OP_replMark {n : Int} {k : PV → Prop} (h0 : 0 ≤ n) (h1 : n ≤ 1000) : OP (.repl 24 [(.int .i64 0),(.int .i64 0),(.int .i64 0)]) [I n] k = k (L (List.replicate n.toNat (⟨0,0,0⟩ : Mark))) := OP_repl rfl h0 (by omega)
theorem OP_replTopic {n : Int} {k : PV → Prop} (h0 : 0 ≤ n) (h1 : n ≤ 1000) : OP (.repl 200 [(.bool false),(.bool false),(.int .i64 0),(.int .i64 0),(.int .i64 0),(.int .i64 0),(.int .i64 0),(.int .i64 0),.nil,.nil,(.int .i64 0),(.int .i64 0),(.int .i64 0),.nil,.nil,.nil]) [I n] k = k (L (List.replicate n.toNat topic0)) := OP_repl rfl h0 (by omega)
def heavy18 (s : Stream) (q : List Event) : Bool := decide (s.kept.length > 30) || decide (s.ahead.length > 30) || decide (q.length > 50)
def heavy19 (x : Topic) : Bool := decide (x.path.length > 20) || decide (x.kids.length > 20) || heavy18 x.stream x.queue
def heavy21 (n : Node) : Bool := decide (n.peers.length > 12) || decide (n.topics.length > 8) || decide (n.calls.length > 60) || decide (n.marks.length > 12) || decide (n.taken.length > 80) || n.topics.any heavy19
def topAt (n : Node) (t : Int) : Topic := n.topics.getD t.toNat topic0
def ofStream (x : Event) : Bool := decide (x.kind = 1) || decide (x.kind = 2)
def fullT (c : Config) (x : Topic) : Bool := decide (x.kids.length > c.kids) || decide (x.stream.kept.length > c.keep) || decide (x.stream.ahead.length > c.window) || decide (x.queue.length > c.queue)
def fullC : Config := ⟨8,4,2,8,8,8,16⟩
def gapE (x : Event) : Event := if x.kind = 1 then ⟨2,x.epoch,x.seq,x.seq,0,0⟩ else if x.kind = 2 then x else ⟨0,0,0,0,0,0⟩
def event0 : Event := ⟨0,0,0,0,0,0⟩
def putE (l : List Event) (limit : Int) (x : Event) : List Event × Int :=
  if (queueOk l limit && evOk x) = true then
    if (l.length : Int) < limit - 1 then (l ++ [x],0)
    else if ofStream x = true then
      if (l.length : Int) < limit then (l ++ [gapE x],0)
      else if (gapE x).epoch = (l.getD (limit - 1).toNat event0).epoch ∧ (gapE x).seq = IntKind.i64.wrap ((l.getD (limit - 1).toNat event0).last + 1) then
        (l.set (limit - 1).toNat { (l.getD (limit - 1).toNat event0) with last := (gapE x).last },0)
      else ([],6)
    else ([],6)
  else ([],1)
def fitE (l : List Event) (limit : Int) (x : Event) : List Event := if (putE l limit x).2 = 0 then (putE l limit x).1 else l
def heed (n : Node) (o : Int) : Bool := rng o 0 (n.peers.length - 1) && decide ((n.peers.getD o.toNat ⟨0,0⟩).inc ≠ 0)
def placeP (l : List Peer) (n : Int) : Int := if peersOk l = true then (if 0 ≤ n ∧ n < l.length then 0 else 9) else 1
def liveGo (self : Int) : Int → List Peer → List Int
  | _,[] => []
  | i,p :: r => (if i = self ∨ (0 < p.inc ∧ p.age < 4) then [i] else []) ++ liveGo self (i + 1) r
def liveP (l : List Peer) (self : Int) : List Int := liveGo self 0 l
def putQ (c : Config) (l : List Topic) (t : Int) (x : Event) : List Topic := l.set t.toNat { (l.getD t.toNat topic0) with queue := fitE (l.getD t.toNat topic0).queue c.queue x }
def msg0 : Msg := ⟨0,0,0,0,0,0,0,0,0,0,0,0,0,0,[],[]⟩
def node0 : Node := ⟨false,0,[],[],[],0,0,[],[]⟩
def endsOk (m : Msg) : Bool := isN m.frm && isN m.to && decide (m.frm ≠ m.to) && cnt m.fromInc
def wayOk (l : List Int) : Bool := decide (l.length ≤ 8) && l.all isN && decide l.Nodup
def placeM (m : Msg) : Bool := rng m.epoch 1 1073741824 && cnt m.seq
def whoseM (m : Msg) : Bool := isN m.node && cnt m.inc && val m.value && rng m.hops 0 16
def bareM (m : Msg) : Msg × Bool :=
  if m.kind = 1 ∨ m.kind = 5 ∨ m.kind = 6 then (m,true)
  else if m.kind = 2 then ({ m with epoch := 0 },rng m.epoch 0 1073741824)
  else if m.kind = 3 then ({ m with epoch := 0,seq := 0,last := 0,path := [] },rng m.epoch 0 1073741824 && cnt m.seq && rng m.last 0 1073741824 && decide (0 < m.path.length) && wayOk m.path && decide (m.path.getD 0 0 = m.frm))
  else if m.kind = 4 then ({ m with node := 0 },isN m.node && decide (m.node ≠ m.frm) && decide (m.node ≠ m.to))
  else if m.kind = 7 then ({ m with epoch := 0,seq := 0,value := 0 },placeM m && val m.value)
  else if m.kind = 8 then ({ m with epoch := 0,seq := 0 },placeM m)
  else if m.kind = 9 then ({ m with epoch := 0,seq := 0,last := 0 },placeM m && rng m.last m.seq 1073741824)
  else if m.kind = 10 then ({ m with node := 0,inc := 0,count := 0,value := 0,hops := 0 },whoseM m && cnt m.count)
  else if m.kind = 11 then ({ m with node := 0,inc := 0,count := 0,value := 0,hops := 0,path := [],todo := [] },whoseM m && rng m.count 1 40 && wayOk m.path && wayOk m.todo && decide (m.path ++ m.todo).Nodup)
  else if m.kind = 12 then ({ m with count := 0,value := 0 },rng m.count 1 40 && isN m.value)
  else if m.kind = 13 then ({ m with count := 0 },rng m.count 1 40)
  else (m,false)
def knownM (m : Msg) : Bool := endsOk m && (if m.kind = 1 then decide (m.toInc = 0) && decide (m.topic = 0) else cnt m.toInc && rng m.topic 0 3)
def spareM (r : Msg) : Bool := decide (r.epoch ≠ 0) || decide (r.seq ≠ 0) || decide (r.last ≠ 0) || decide (r.value ≠ 0) || decide (r.node ≠ 0) || decide (r.inc ≠ 0) || decide (r.count ≠ 0) || decide (r.hops ≠ 0)
def msgOk (m : Msg) : Bool := (bareM m).2 && knownM m && !spareM (bareM m).1 && decide ((bareM m).1.path.length = 0) && decide ((bareM m).1.todo.length = 0)
def olderP (l : List Peer) : List Peer := l.map fun p => { p with age := min (p.age + 1) 1000 }
def olderK (l : List Kid) : List Kid := (l.map fun k => { k with age := k.age + 1 }).filter fun k => decide (k.age ≤ 6)
def lostT (x : Topic) : Topic := { x with parent := 0,asked := 0,other := 0,age := 0,path := [] }
def tWhy (c : Config) (t self : Int) (x : Topic) : Int := if cfgOk c = true then (if (place c t self && topicOk c t self x) = true then 0 else 1) else 13
def nextE (n top : Int) : Int := if top - top % 16 + n ≤ top then top - top % 16 + n + 16 else top - top % 16 + n
def nextW (n top : Int) : Int := if 1073741824 < nextE n top then 0 else nextE n top
def begun (e n : Int) : Stream := ⟨e,n,n,[],[]⟩
def becomeR (self : Int) (x : Topic) : Topic × Int :=
  if x.root ≠ 0 ∧ x.root = x.top then (x,0)
  else if nextW self x.top = 0 then (topic0,11)
  else ({ lostT x with root := nextW self x.top,top := nextW self x.top,stream := begun (nextW self x.top) 1 },0)
def becomeT (self : Int) (x : Topic) : Topic := if (becomeR self x).2 = 0 then (becomeR self x).1 else x
def interest (x : Topic) : Bool := x.sub || decide (0 < x.kids.length)
def madeM (self : Int) (n : Node) (m : Msg) : Msg := { m with frm := self,fromInc := n.inc,toInc := if m.kind = 1 then 0 else (n.peers.getD m.to.toNat ⟨0,0⟩).inc }
def madeGo (self : Int) (n : Node) : List Msg → Option (List Msg)
  | [] => some []
  | m :: r => if (decide (m.kind = 1) || heed n m.to) = true then (if msgOk (madeM self n m) = true then (madeGo self n r).map (madeM self n m :: ·) else none) else madeGo self n r
def madeL (self : Int) (n : Node) (l : List Msg) : List Msg := (madeGo self n l).getD []
def readyW (c : Config) (self : Int) (n : Node) (l : List Msg) : List Msg × Int :=
  if nodeWhy c self n = 0 then (madeL self n l,if (madeGo self n l).isSome = true then 0 else 5) else ([],nodeWhy c self n)
def ownsN (self t : Int) (live : List Int) : Bool := decide ((owner t live).1 = self)
def callGo (c : Config) : List Call → List Topic → List Topic
  | [],ts => ts
  | x :: r,ts => callGo c r (if x.age + 1 ≤ 20 then ts else putQ c ts x.topic ⟨4,0,0,0,0,x.count⟩)
def callsT (l : List Call) : List Call := (l.map fun x => { x with age := x.age + 1 }).filter fun x => decide (x.age ≤ 20)
def leavesT (t : Int) (x : Topic) : Topic × List Msg := if x.parent = 0 then (x,[]) else (lostT x,[{ msg0 with kind := 6,to := x.parent - 1,topic := t }])
def agedT (x : Topic) : Topic := if x.parent = 0 then x else if 4 < min (x.age + 1) 1000 then lostT x else { x with age := min (x.age + 1) 1000 }
def freeT (live : List Int) (x : Topic) : Topic := if x.other ≠ 0 ∧ live.contains (x.other - 1) = false then { x with other := 0 } else x
def askT (t nx : Int) (x : Topic) : Topic := { x with asked := (if x.other = 0 then nx else x.other - 1) + 1 }
def asksM (t nx : Int) (x : Topic) : List Msg :=
  [{ msg0 with kind := 2,to := if x.other = 0 then nx else x.other - 1,topic := t,epoch := x.top }] ++
  (if x.parent ≠ 0 ∧ x.stream.want < x.stream.known then [{ msg0 with kind := 8,to := x.parent - 1,topic := t,epoch := x.stream.epoch,seq := x.stream.want }] else [])
def tickT (self t : Int) (live : List Int) (x0 : Topic) : Topic × List Msg :=
  let x : Topic := { x0 with kids := olderK x0.kids }
  if ownsN self t live = true then
    if interest x = true then (becomeT self x,[]) else leavesT t x
  else if interest x = true then
    let y := freeT live (agedT { x with root := 0 })
    (askT t (nextN t live self) y,asksM t (nextN t live self) y)
  else leavesT t { x with root := 0 }
def tickGo (self : Int) (live : List Int) : Int → List Topic → List Topic
  | _,[] => []
  | t,x :: r => (tickT self t live x).1 :: tickGo self live (t + 1) r
def tickMs (self : Int) (live : List Int) : Int → List Topic → List Msg
  | _,[] => []
  | t,x :: r => (tickT self t live x).2 ++ tickMs self live (t + 1) r
def pings (self k : Int) : List Msg := ((List.range k.toNat).filter fun (i : Nat) => decide ((i : Int) ≠ self)).map fun (i : Nat) => { msg0 with kind := 1,to := (i : Int) }
def tickN (c : Config) (self : Int) (n : Node) : Node :=
  { n with peers := olderP n.peers,calls := callsT n.calls,topics := tickGo self (liveP (olderP n.peers) self) 0 (callGo c n.calls n.topics) }
def tickM (c : Config) (self : Int) (n : Node) : List Msg :=
  madeL self (tickN c self n) (tickMs self (liveP (olderP n.peers) self) 0 (callGo c n.calls n.topics) ++ pings self c.nodes)
def tickW (c : Config) (self : Int) (n : Node) : Node × List Msg × Int :=
  if nodeWhy c self n = 0 then (tickN c self n,tickM c self n,0) else (node0,[],nodeWhy c self n)
set_option linter.defProp false
def S0 := And.intro @OP_len (And.intro @OP_len0 (And.intro @OP_idx (And.intro @OP_drop (And.intro @OP_take (And.intro @OP_mid (And.intro @OP_all (And.intro @OP_isl (And.intro @OP_isl0 (And.intro @OP_app (And.intro @OP_app0 (And.intro @OP_appN (And.intro @OP_app00 (And.intro @OP_rowI (And.intro @OP_rowI2 (And.intro @OP_rowL (And.intro @OP_rowLL (And.intro @OP_rowI4 (And.intro @OP_rowI8 (And.intro @OP_lss (And.intro @OP_leq (And.intro @OP_gtr (And.intro @OP_geq (And.intro @OP_eql (And.intro @OP_neq (And.intro @OP_not (And.intro @OP_beq (And.intro @OP_bne (And.intro @OP_add (And.intro @OP_sub (And.intro @OP_mn (And.intro @OP_mx (And.intro @OP_sel (And.intro @OP_cu (And.intro @OP_remU (And.intro @OP_remI (And.intro @OP_ci (And.intro @ITE_true (And.intro @ITE_false (And.intro @OP_eqs2 (And.intro @OP_eqs3 (And.intro @OP_eqs5 (And.intro @OP_eqs6 (And.intro @OP_rowE2 (And.intro @OP_rowE3 (And.intro @OP_rowE7 (And.intro @OP_replPeer (And.intro @OP_replMark (And.intro @OP_replTopic (And.intro @OP_rowConfig (And.intro @OP_rowPeer (And.intro @OP_rowKid (And.intro @OP_rowItem (And.intro @OP_rowEvent (And.intro @OP_rowStream (And.intro @OP_rowCall (And.intro @OP_rowMark (And.intro @OP_rowMark2 (And.intro @OP_rowTopic (And.intro @OP_rowNode (And.intro @OP_rowMsg (And.intro @OP_rowStep (And.intro @OP_rowBy (And.intro @OP_rowFrame (And.intro @OP_rowWorld (@OP_rowAns)))))))))))))))))))))))))))))))))))))))))))))))))))))))))))))))))
def SB := And.intro @S0 (@ITE_bool)
def S1 := And.intro @decide_eq_true_eq (And.intro @decide_eq_false_iff_not (And.intro @Bool.not_eq_eq_eq_not (And.intro @Bool.not_true (And.intro @Bool.not_false (And.intro @Bool.false_eq_true (And.intro @Bool.true_eq_false (And.intro @false_implies (And.intro @true_implies (And.intro @true_and (And.intro @and_true (And.intro @not_true_eq_false (And.intro @not_false_eq_true (And.intro @decide_true (And.intro @decide_false (And.intro @app1 (And.intro @app2 (And.intro @app3 (And.intro @app4 (And.intro @cell0 (And.intro @look_z (And.intro @look_s (And.intro @rowI (And.intro @rowB (And.intro @rowL (And.intro @Config.row_eq (And.intro @Config.eta (And.intro @Peer.row_eq (And.intro @Peer.eta (And.intro @Kid.row_eq (And.intro @Kid.eta (And.intro @Item.row_eq (And.intro @Item.eta (And.intro @Event.row_eq (And.intro @Event.eta (And.intro @Stream.row_eq (And.intro @Stream.eta (And.intro @Call.row_eq (And.intro @Call.eta (And.intro @Mark.row_eq (And.intro @Mark.eta (And.intro @Mark2.row_eq (And.intro @Mark2.eta (And.intro @Topic.row_eq (And.intro @Topic.eta (And.intro @Node.row_eq (And.intro @Node.eta (And.intro @Msg.row_eq (And.intro @Msg.eta (And.intro @Step.row_eq (And.intro @Step.eta (And.intro @By.row_eq (And.intro @By.eta (And.intro @Frame.row_eq (And.intro @Frame.eta (And.intro @World.row_eq (And.intro @World.eta (And.intro @Ans.row_eq (And.intro @Ans.eta (And.intro @eq_self.{1} (And.intro @if_true.{1} (And.intro @if_false.{1} (And.intro @implies_true.{0} (@implies_true.{1})))))))))))))))))))))))))))))))))))))))))))))))))))))))))))))))
def S2 := And.intro @ITE_eq (And.intro @ite_c (And.intro @ite_bb (And.intro @ite_I (And.intro @ite_L (And.intro @ite_L0 (And.intro @ite_0L (@ite_self.{1})))))))
def S3 := And.intro @SUB_r1 (And.intro @SUB_r2 (And.intro @SUB_r3 (@ITE_R)))
def LN := And.intro @List.length_cons.{0} (And.intro @List.length_nil.{0} (@List.length_append.{0}))
end Go.Xt
