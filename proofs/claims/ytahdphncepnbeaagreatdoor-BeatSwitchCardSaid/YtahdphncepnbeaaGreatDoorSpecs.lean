/- Steps towards the statements of this seat; the conditions stand in each theorem. -/
import Derived.Test.YtahdphncepnbeaaGreatDoorTh
import Derived.Test.YtahdphncepnbeaaGreatDoorV7
set_option linter.unusedSimpArgs false
set_option linter.unusedVariables false
namespace Go.Xt
def TT:List Int:=[1462484242049070477,1775212608919665246,3535639072113518480,3725500155902745375]
def NN:List Int:=[2342812313538366385,1863050908023769503,81111313352671826,2434324899588211290,2454816673080883147,1342378062264523301,820659310660760249,2006264061484817761]
def tt(t:Int):Int:=TT.getD t.toNat 0
def nn(n:Int):Int:=NN.getD n.toNat 0
def isT(v:Int):Bool:=decide (0≤v)&&decide (v<4)
def isN(v:Int):Bool:=decide (0≤v)&&decide (v<8)
def far(k n:Int):Int:=if n-k<0 then n-k+4611686018427387904 else n-k
def gap(t n:Int):Int:=far (tt t) (nn n)
def eD(t a b:Int):Bool:=isT t&&isN a&&isN b&&decide (gap t a<gap t b)
def pJ(t:Int):Int→List Int→Bool
 | _,[]=>true
 | n,x::xs=>eD t x n&&pJ t x xs
def chk(t n:Int)(xs:List Int)(c:Int):Int :=
 if (isT t&&isN n&&decide (1≤c)&&decide (c≤8)&&xs.all isN)=true then
  if xs.length>c then 12 else if pJ t n xs=true then 0 else 1
 else 1
def par(rows:List (List Int))(i:Int):Int:=match rows[i.toNat]? with | some (x::_)=>x | _=> -1
def isK(k:Int):Bool:=decide (0≤k)&&decide (k<4611686018427387904)
def hD(t:Int):Int→List Int→Int
 | b,[]=>b
 | b,x::r=>hD t (if eD t x b=true then x else b) r
def lR(t:Int)(l:List Int):Int×Int :=
 if isT t=true then if l.all isN=true then match l with | []=>(0,7) | x::_=>(hD t x l,0) else (0,1) else (0,1)
def iO:Int→List Int→Bool
 | _,[]=>true
 | p,x::r=>isN x&&decide (p<x)&&iO x r
def x4(live:List Int)(self:Int):Int:=if (iO (-1) live&&live.contains self)=true then 0 else 1
def gA(k:Int):Int→Int→List Int→Int
 | b,_,[]=>b
 | b,d,n::r=>if b<0∨far k (nn n)<d then gA k n (far k (nn n)) r else gA k b d r
def mP(live:List Int)(k:Int):Int:=gA k (-1) 0 live
def fO(self:Int):Int→Int→List Int→Int
 | b,_,[]=>b
 | b,d,n::r=>if n≠self∧(b<0∨far (nn n) (nn self)<d) then fO self n (far (nn n) (nn self)) r else fO self b d r
def iP(live:List Int)(self:Int):Int:=fO self (-1) 0 live
def o9(self:Int)(i:Nat):Int:=far (2 ^ i) (nn self)
def gQ:Int→List Int→List Int
 | _,[]=>[]
 | p,y::r=>if y=p then gQ p r else y::gQ y r
def aP:List Int→List Int
 | []=>[]
 | x::r=>x::gQ x r
def gR(l:List Int):List Int:=l.mergeSort fun x y=>decide (x≤y)
def gl:List Int:=[0,1,2,3,4,5,6,7]
def lS(live:List Int)(self:Int)(k:Nat):List Int:=((List.range k).map fun i=>mP live (o9 self i)).filter fun n=>decide (n≠self)
def gB(live:List Int)(self:Int):List Int:=gl.filter fun n=>(lS live self 62).contains n
def cK(t:Int)(live:List Int)(self:Int):Int :=
 if hD t self (gB live self++[iP live self])=self then -1 else hD t self (gB live self++[iP live self])
def mQ(t:Int)(live:List Int)(self:Int):Int:=if x4 live self=0 then (if isT t=true then 0 else 1) else x4 live self
structure Config where
 nodes:Int
 topics:Int
 kids:Int
 depth:Int
 keep:Int
 window:Int
 queue:Int
 deriving DecidableEq,Inhabited
instance:Row Config:=⟨7,fun x=>[I x.nodes,I x.topics,I x.kids,I x.depth,I x.keep,I x.window,I x.queue],fun _=>rfl,by
 rintro ⟨_,_,_,_,_,_,_⟩ ⟨_,_,_,_,_,_,_⟩ h;simpa[dH,and_assoc] using h⟩
instance:RowW Config 7:=⟨rfl⟩
theorem Config.row_eq(x:Config):Row.row x=[I x.nodes,I x.topics,I x.kids,I x.depth,I x.keep,I x.window,I x.queue]:=rfl
theorem Config.eta(x:Config):Config.mk x.nodes x.topics x.kids x.depth x.keep x.window x.queue=x:=rfl
theorem x5{k:PV→Prop}{a_nodes:Int}{a_topics:Int}{a_kids:Int}{a_depth:Int}{a_keep:Int}{a_window:Int}{a_queue:Int}:OP (.rows 7) [I a_nodes,I a_topics,I a_kids,I a_depth,I a_keep,I a_window,I a_queue] k=k (L [(Config.mk a_nodes a_topics a_kids a_depth a_keep a_window a_queue)]):=aq (by simp[ev,bh,L,Row.row])
structure Peer where
 inc:Int
 age:Int
 deriving DecidableEq,Inhabited
instance:Row Peer:=⟨2,fun x=>[I x.inc,I x.age],fun _=>rfl,by
 rintro ⟨_,_⟩ ⟨_,_⟩ h;simpa[dH,and_assoc] using h⟩
instance:RowW Peer 2:=⟨rfl⟩
theorem Peer.row_eq(x:Peer):Row.row x=[I x.inc,I x.age]:=rfl
theorem Peer.eta(x:Peer):Peer.mk x.inc x.age=x:=rfl
theorem BO{k:PV→Prop}{a_inc:Int}{a_age:Int}:OP (.rows 2) [I a_inc,I a_age] k=k (L [(Peer.mk a_inc a_age)]):=aq (by simp[ev,bh,L,Row.row])
structure Kid where
 node:Int
 inc:Int
 age:Int
 deriving DecidableEq,Inhabited
instance:Row Kid:=⟨3,fun x=>[I x.node,I x.inc,I x.age],fun _=>rfl,by
 rintro ⟨_,_,_⟩ ⟨_,_,_⟩ h;simpa[dH,and_assoc] using h⟩
instance:RowW Kid 3:=⟨rfl⟩
theorem Kid.row_eq(x:Kid):Row.row x=[I x.node,I x.inc,I x.age]:=rfl
theorem Kid.eta(x:Kid):Kid.mk x.node x.inc x.age=x:=rfl
theorem vq{k:PV→Prop}{a_node:Int}{a_inc:Int}{a_age:Int}:OP (.rows 3) [I a_node,I a_inc,I a_age] k=k (L [(Kid.mk a_node a_inc a_age)]):=aq (by simp[ev,bh,L,Row.row])
structure Item where
 seq:Int
 value:Int
 deriving DecidableEq,Inhabited
instance:Row Item:=⟨2,fun x=>[I x.seq,I x.value],fun _=>rfl,by
 rintro ⟨_,_⟩ ⟨_,_⟩ h;simpa[dH,and_assoc] using h⟩
instance:RowW Item 2:=⟨rfl⟩
theorem Item.row_eq(x:Item):Row.row x=[I x.seq,I x.value]:=rfl
theorem Item.eta(x:Item):Item.mk x.seq x.value=x:=rfl
theorem BP{k:PV→Prop}{a_seq:Int}{a_value:Int}:OP (.rows 2) [I a_seq,I a_value] k=k (L [(Item.mk a_seq a_value)]):=aq (by simp[ev,bh,L,Row.row])
structure Event where
 kind:Int
 epoch:Int
 seq:Int
 last:Int
 value:Int
 count:Int
 deriving DecidableEq,Inhabited
instance:Row Event:=⟨6,fun x=>[I x.kind,I x.epoch,I x.seq,I x.last,I x.value,I x.count],fun _=>rfl,by
 rintro ⟨_,_,_,_,_,_⟩ ⟨_,_,_,_,_,_⟩ h;simpa[dH,and_assoc] using h⟩
instance:RowW Event 6:=⟨rfl⟩
theorem Event.row_eq(x:Event):Row.row x=[I x.kind,I x.epoch,I x.seq,I x.last,I x.value,I x.count]:=rfl
theorem Event.eta(x:Event):Event.mk x.kind x.epoch x.seq x.last x.value x.count=x:=rfl
theorem zF{k:PV→Prop}{a_kind:Int}{a_epoch:Int}{a_seq:Int}{a_last:Int}{a_value:Int}{a_count:Int}:OP (.rows 6) [I a_kind,I a_epoch,I a_seq,I a_last,I a_value,I a_count] k=k (L [(Event.mk a_kind a_epoch a_seq a_last a_value a_count)]):=aq (by simp[ev,bh,L,Row.row])
structure Stream where
 epoch:Int
 want:Int
 known:Int
 kept:List Item
 ahead:List Item
 deriving DecidableEq,Inhabited
instance:Row Stream:=⟨5,fun x=>[I x.epoch,I x.want,I x.known,L x.kept,L x.ahead],fun _=>rfl,by
 rintro ⟨_,_,_,_,_⟩ ⟨_,_,_,_,_⟩ h;simpa[dH,and_assoc] using h⟩
instance:RowW Stream 5:=⟨rfl⟩
theorem Stream.row_eq(x:Stream):Row.row x=[I x.epoch,I x.want,I x.known,L x.kept,L x.ahead]:=rfl
theorem Stream.eta(x:Stream):Stream.mk x.epoch x.want x.known x.kept x.ahead=x:=rfl
theorem x6{k:PV→Prop}{a_epoch:Int}{a_want:Int}{a_known:Int}{a_kept:List Item}{a_ahead:List Item}:OP (.rows 5) [I a_epoch,I a_want,I a_known,L a_kept,L a_ahead] k=k (L [(Stream.mk a_epoch a_want a_known a_kept a_ahead)]):=aq (by simp[ev,bh,L,Row.row])
structure Call where
 count:Int
 topic:Int
 age:Int
 deriving DecidableEq,Inhabited
instance:Row Call:=⟨3,fun x=>[I x.count,I x.topic,I x.age],fun _=>rfl,by
 rintro ⟨_,_,_⟩ ⟨_,_,_⟩ h;simpa[dH,and_assoc] using h⟩
instance:RowW Call 3:=⟨rfl⟩
theorem Call.row_eq(x:Call):Row.row x=[I x.count,I x.topic,I x.age]:=rfl
theorem Call.eta(x:Call):Call.mk x.count x.topic x.age=x:=rfl
theorem sG{k:PV→Prop}{a_count:Int}{a_topic:Int}{a_age:Int}:OP (.rows 3) [I a_count,I a_topic,I a_age] k=k (L [(Call.mk a_count a_topic a_age)]):=aq (by simp[ev,bh,L,Row.row])
structure Mark where
 inc:Int
 pubs:Int
 met:Int
 deriving DecidableEq,Inhabited
instance:Row Mark:=⟨3,fun x=>[I x.inc,I x.pubs,I x.met],fun _=>rfl,by
 rintro ⟨_,_,_⟩ ⟨_,_,_⟩ h;simpa[dH,and_assoc] using h⟩
instance:RowW Mark 3:=⟨rfl⟩
theorem Mark.row_eq(x:Mark):Row.row x=[I x.inc,I x.pubs,I x.met]:=rfl
theorem Mark.eta(x:Mark):Mark.mk x.inc x.pubs x.met=x:=rfl
theorem BQ{k:PV→Prop}{a_inc:Int}{a_pubs:Int}{a_met:Int}:OP (.rows 3) [I a_inc,I a_pubs,I a_met] k=k (L [(Mark.mk a_inc a_pubs a_met)]):=aq (by simp[ev,bh,L,Row.row])
structure Mark2 where
 node:Int
 inc:Int
 count:Int
 topic:Int
 value:Int
 deriving DecidableEq,Inhabited
instance:Row Mark2:=⟨5,fun x=>[I x.node,I x.inc,I x.count,I x.topic,I x.value],fun _=>rfl,by
 rintro ⟨_,_,_,_,_⟩ ⟨_,_,_,_,_⟩ h;simpa[dH,and_assoc] using h⟩
instance:RowW Mark2 5:=⟨rfl⟩
theorem Mark2.row_eq(x:Mark2):Row.row x=[I x.node,I x.inc,I x.count,I x.topic,I x.value]:=rfl
theorem Mark2.eta(x:Mark2):Mark2.mk x.node x.inc x.count x.topic x.value=x:=rfl
theorem zG{k:PV→Prop}{a_node:Int}{a_inc:Int}{a_count:Int}{a_topic:Int}{a_value:Int}:OP (.rows 5) [I a_node,I a_inc,I a_count,I a_topic,I a_value] k=k (L [(Mark2.mk a_node a_inc a_count a_topic a_value)]):=aq (by simp[ev,bh,L,Row.row])
structure Topic where
 made:Bool
 sub:Bool
 top:Int
 root:Int
 parent:Int
 asked:Int
 other:Int
 age:Int
 path:List Int
 kids:List Kid
 stream:Stream
 queue:List Event
 deriving DecidableEq,Inhabited
instance:Row Topic:=⟨16,fun x=>[bb x.made,bb x.sub,I x.top,I x.root,I x.parent,I x.asked,I x.other,I x.age,L x.path,L x.kids,I x.stream.epoch,I x.stream.want,I x.stream.known,L x.stream.kept,L x.stream.ahead,L x.queue],fun _=>rfl,by
 rintro ⟨_,_,_,_,_,_,_,_,_,_,⟨_,_,_,_,_⟩,_⟩ ⟨_,_,_,_,_,_,_,_,_,_,⟨_,_,_,_,_⟩,_⟩ h;simpa[dH,and_assoc] using h⟩
instance:RowW Topic 16:=⟨rfl⟩
theorem Topic.row_eq(x:Topic):Row.row x=[bb x.made,bb x.sub,I x.top,I x.root,I x.parent,I x.asked,I x.other,I x.age,L x.path,L x.kids,I x.stream.epoch,I x.stream.want,I x.stream.known,L x.stream.kept,L x.stream.ahead,L x.queue]:=rfl
theorem Topic.eta(x:Topic):Topic.mk x.made x.sub x.top x.root x.parent x.asked x.other x.age x.path x.kids x.stream x.queue=x:=rfl
theorem zH{k:PV→Prop}{a_made:Bool}{a_sub:Bool}{a_top:Int}{a_root:Int}{a_parent:Int}{a_asked:Int}{a_other:Int}{a_age:Int}{a_path:List Int}{a_kids:List Kid}{a_stream_epoch:Int}{a_stream_want:Int}{a_stream_known:Int}{a_stream_kept:List Item}{a_stream_ahead:List Item}{a_queue:List Event}:OP (.rows 16) [bb a_made,bb a_sub,I a_top,I a_root,I a_parent,I a_asked,I a_other,I a_age,L a_path,L a_kids,I a_stream_epoch,I a_stream_want,I a_stream_known,L a_stream_kept,L a_stream_ahead,L a_queue] k=k (L [(Topic.mk a_made a_sub a_top a_root a_parent a_asked a_other a_age a_path a_kids (Stream.mk a_stream_epoch a_stream_want a_stream_known a_stream_kept a_stream_ahead) a_queue)]):=aq (by simp[ev,bh,L,Row.row])
structure Node where
 up:Bool
 inc:Int
 peers:List Peer
 topics:List Topic
 calls:List Call
 pubs:Int
 asks:Int
 marks:List Mark
 taken:List Mark2
 deriving DecidableEq,Inhabited
instance:Row Node:=⟨9,fun x=>[bb x.up,I x.inc,L x.peers,L x.topics,L x.calls,I x.pubs,I x.asks,L x.marks,L x.taken],fun _=>rfl,by
 rintro ⟨_,_,_,_,_,_,_,_,_⟩ ⟨_,_,_,_,_,_,_,_,_⟩ h;simpa[dH,and_assoc] using h⟩
instance:RowW Node 9:=⟨rfl⟩
theorem Node.row_eq(x:Node):Row.row x=[bb x.up,I x.inc,L x.peers,L x.topics,L x.calls,I x.pubs,I x.asks,L x.marks,L x.taken]:=rfl
theorem Node.eta(x:Node):Node.mk x.up x.inc x.peers x.topics x.calls x.pubs x.asks x.marks x.taken=x:=rfl
theorem BR{k:PV→Prop}{a_up:Bool}{a_inc:Int}{a_peers:List Peer}{a_topics:List Topic}{a_calls:List Call}{a_pubs:Int}{a_asks:Int}{a_marks:List Mark}{a_taken:List Mark2}:OP (.rows 9) [bb a_up,I a_inc,L a_peers,L a_topics,L a_calls,I a_pubs,I a_asks,L a_marks,L a_taken] k=k (L [(Node.mk a_up a_inc a_peers a_topics a_calls a_pubs a_asks a_marks a_taken)]):=aq (by simp[ev,bh,L,Row.row])
structure Msg where
 kind:Int
 frm:Int
 fromInc:Int
 to:Int
 toInc:Int
 topic:Int
 epoch:Int
 seq:Int
 last:Int
 value:Int
 node:Int
 inc:Int
 count:Int
 hops:Int
 path:List Int
 todo:List Int
 deriving DecidableEq,Inhabited
instance:Row Msg:=⟨16,fun x=>[I x.kind,I x.frm,I x.fromInc,I x.to,I x.toInc,I x.topic,I x.epoch,I x.seq,I x.last,I x.value,I x.node,I x.inc,I x.count,I x.hops,L x.path,L x.todo],fun _=>rfl,by
 rintro ⟨_,_,_,_,_,_,_,_,_,_,_,_,_,_,_,_⟩ ⟨_,_,_,_,_,_,_,_,_,_,_,_,_,_,_,_⟩ h;simpa[dH,and_assoc] using h⟩
instance:RowW Msg 16:=⟨rfl⟩
theorem Msg.row_eq(x:Msg):Row.row x=[I x.kind,I x.frm,I x.fromInc,I x.to,I x.toInc,I x.topic,I x.epoch,I x.seq,I x.last,I x.value,I x.node,I x.inc,I x.count,I x.hops,L x.path,L x.todo]:=rfl
theorem Msg.eta(x:Msg):Msg.mk x.kind x.frm x.fromInc x.to x.toInc x.topic x.epoch x.seq x.last x.value x.node x.inc x.count x.hops x.path x.todo=x:=rfl
theorem vr{k:PV→Prop}{a_kind:Int}{a_frm:Int}{a_fromInc:Int}{a_to:Int}{a_toInc:Int}{a_topic:Int}{a_epoch:Int}{a_seq:Int}{a_last:Int}{a_value:Int}{a_node:Int}{a_inc:Int}{a_count:Int}{a_hops:Int}{a_path:List Int}{a_todo:List Int}:OP (.rows 16) [I a_kind,I a_frm,I a_fromInc,I a_to,I a_toInc,I a_topic,I a_epoch,I a_seq,I a_last,I a_value,I a_node,I a_inc,I a_count,I a_hops,L a_path,L a_todo] k=k (L [(Msg.mk a_kind a_frm a_fromInc a_to a_toInc a_topic a_epoch a_seq a_last a_value a_node a_inc a_count a_hops a_path a_todo)]):=aq (by simp[ev,bh,L,Row.row])
structure Step where
 kind:Int
 node:Int
 topic:Int
 value:Int
 mask:Int
 deriving DecidableEq,Inhabited
instance:Row Step:=⟨5,fun x=>[I x.kind,I x.node,I x.topic,I x.value,I x.mask],fun _=>rfl,by
 rintro ⟨_,_,_,_,_⟩ ⟨_,_,_,_,_⟩ h;simpa[dH,and_assoc] using h⟩
instance:RowW Step 5:=⟨rfl⟩
theorem Step.row_eq(x:Step):Row.row x=[I x.kind,I x.node,I x.topic,I x.value,I x.mask]:=rfl
theorem Step.eta(x:Step):Step.mk x.kind x.node x.topic x.value x.mask=x:=rfl
theorem BS{k:PV→Prop}{a_kind:Int}{a_node:Int}{a_topic:Int}{a_value:Int}{a_mask:Int}:OP (.rows 5) [I a_kind,I a_node,I a_topic,I a_value,I a_mask] k=k (L [(Step.mk a_kind a_node a_topic a_value a_mask)]):=aq (by simp[ev,bh,L,Row.row])
structure By where
 n:Int
 deriving DecidableEq,Inhabited
instance:Row By:=⟨1,fun x=>[.int .u8 x.n],fun _=>rfl,by
 rintro ⟨_⟩ ⟨_⟩ h;simpa[dH,and_assoc] using h⟩
instance:RowW By 1:=⟨rfl⟩
theorem By.row_eq(x:By):Row.row x=[.int .u8 x.n]:=rfl
theorem By.eta(x:By):By.mk x.n=x:=rfl
theorem Eu{k:PV→Prop}{a_n:Int}:OP (.rows 1) [.int .u8 a_n] k=k (L [(By.mk a_n)]):=aq (by simp[ev,bh,L,Row.row])
structure Frame where
 to:Int
 bytes:List By
 deriving DecidableEq,Inhabited
instance:Row Frame:=⟨2,fun x=>[I x.to,L x.bytes],fun _=>rfl,by
 rintro ⟨_,_⟩ ⟨_,_⟩ h;simpa[dH,and_assoc] using h⟩
instance:RowW Frame 2:=⟨rfl⟩
theorem Frame.row_eq(x:Frame):Row.row x=[I x.to,L x.bytes]:=rfl
theorem Frame.eta(x:Frame):Frame.mk x.to x.bytes=x:=rfl
theorem zI{k:PV→Prop}{a_to:Int}{a_bytes:List By}:OP (.rows 2) [I a_to,L a_bytes] k=k (L [(Frame.mk a_to a_bytes)]):=aq (by simp[ev,bh,L,Row.row])
structure World where
 nodes:List Node
 bag:List Frame
 deriving DecidableEq,Inhabited
instance:Row World:=⟨2,fun x=>[L x.nodes,L x.bag],fun _=>rfl,by
 rintro ⟨_,_⟩ ⟨_,_⟩ h;simpa[dH,and_assoc] using h⟩
instance:RowW World 2:=⟨rfl⟩
theorem World.row_eq(x:World):Row.row x=[L x.nodes,L x.bag]:=rfl
theorem World.eta(x:World):World.mk x.nodes x.bag=x:=rfl
theorem zJ{k:PV→Prop}{a_nodes:List Node}{a_bag:List Frame}:OP (.rows 2) [L a_nodes,L a_bag] k=k (L [(World.mk a_nodes a_bag)]):=aq (by simp[ev,bh,L,Row.row])
structure Ans where
 err:Int
 event:Event
 count:Int
 deriving DecidableEq,Inhabited
instance:Row Ans:=⟨8,fun x=>[I x.err,I x.event.kind,I x.event.epoch,I x.event.seq,I x.event.last,I x.event.value,I x.event.count,I x.count],fun _=>rfl,by
 rintro ⟨_,⟨_,_,_,_,_,_⟩,_⟩ ⟨_,⟨_,_,_,_,_,_⟩,_⟩ h;simpa[dH,and_assoc] using h⟩
instance:RowW Ans 8:=⟨rfl⟩
theorem Ans.row_eq(x:Ans):Row.row x=[I x.err,I x.event.kind,I x.event.epoch,I x.event.seq,I x.event.last,I x.event.value,I x.event.count,I x.count]:=rfl
theorem Ans.eta(x:Ans):Ans.mk x.err x.event x.count=x:=rfl
theorem Dt{k:PV→Prop}{a_err:Int}{a_event_kind:Int}{a_event_epoch:Int}{a_event_seq:Int}{a_event_last:Int}{a_event_value:Int}{a_event_count:Int}{a_count:Int}:OP (.rows 8) [I a_err,I a_event_kind,I a_event_epoch,I a_event_seq,I a_event_last,I a_event_value,I a_event_count,I a_count] k=k (L [(Ans.mk a_err (Event.mk a_event_kind a_event_epoch a_event_seq a_event_last a_event_value a_event_count) a_count)]):=aq (by simp[ev,bh,L,Row.row])
def rng(n lo hi:Int):Bool:=decide (lo≤n)&&decide (n≤hi)
def bM(c:Config):Bool:=rng c.nodes 1 8&&rng c.topics 1 4&&rng c.kids 1 4&&rng c.depth 1 8&&rng c.keep 1 16&&rng c.window 1 16&&rng c.queue 2 32
def jm(n lo hi why:Int):List Int:=if n<lo∨hi<n then [why] else []
def jp(c:Config):List Int:=jm c.nodes 1 8 13++jm c.topics 1 4 13++jm c.kids 1 4 13++jm c.depth 1 8 13++jm c.keep 1 16 13++jm c.window 1 16 13++jm c.queue 2 32 13
def cnt(n:Int):Bool:=rng n 1 1073741824
def val(n:Int):Bool:=rng n 0 2147483647
def ep(e:Int):Bool:=rng e 1 1073741824&&isN (e % 16)
def oD(p:Peer):Bool:=rng p.inc 0 1073741824&&rng p.age 0 1000
def bf(l:List Peer):Bool:=decide (1≤l.length)&&decide (l.length≤8)&&l.all oD
def dC(t:Int):Int→List Kid→Bool
 | _,[]=>true
 | a,k::r=>eD t a k.node&&cnt k.inc&&rng k.age 0 6&&dC t k.node r
def jB(t self limit:Int)(l:List Kid):Bool:=isT t&&isN self&&rng limit 1 4&&decide (l.length≤limit)&&dC t self l
def kR:Int→List Item→Bool
 | _,[]=>true
 | n,x::r=>decide (x.seq=n)&&val x.value&&kR (n+1) r
def sH(l:List Item)(want limit:Int):Bool:=cnt want&&rng limit 1 16&&decide (l.length≤limit)&&decide (l.length<want)&&kR (want-l.length) l
def pK(m:Int):Int→List Item→Bool
 | _,[]=>true
 | p,x::r=>decide (p<x.seq)&&decide (x.seq<m)&&decide (x.seq<1073741824)&&val x.value&&pK m x.seq r
def pL(l:List Item)(want window:Int):Bool:=cnt want&&rng window 1 16&&pK (want+window) want l
def iQ(x:Event):Bool :=
 if x.kind=1 then ep x.epoch&&cnt x.seq&&val x.value&&decide (x.last=0)&&decide (x.count=0)
 else if x.kind=2 then ep x.epoch&&cnt x.seq&&rng x.last x.seq 1073741824&&decide (x.value=0)&&decide (x.count=0)
 else if x.kind=3 then rng x.count 1 40&&isN x.value&&decide (x.epoch=0)&&decide (x.seq=0)&&decide (x.last=0)
 else if x.kind=4 then rng x.count 1 40&&decide (x.epoch=0)&&decide (x.seq=0)&&decide (x.last=0)&&decide (x.value=0)
 else decide (x.kind=5)&&decide (x.epoch=0)&&decide (x.seq=0)&&decide (x.last=0)&&decide (x.value=0)&&decide (x.count=0)
def ii(l:List Event):Bool:=match l.getLast? with | some x=>decide (x.kind=2) | none=>false
def bW(l:List Event)(limit:Int):Bool:=rng limit 2 32&&decide (l.length≤limit)&&l.all iQ&&(decide (l.length<limit)||ii l)
def pM(s:Stream):Bool:=decide (s.epoch=0)&&decide (s.want=0)&&decide (s.known=0)&&decide (s.kept=[])&&decide (s.ahead=[])
def mR(c:Config)(s:Stream):Bool:=pM s||(ep s.epoch&&cnt s.want&&rng s.known s.want 1073741824&&sH s.kept s.want c.keep&&pL s.ahead s.want c.window)
def mS(c:Config)(s:Stream)(q:List Event):Bool:=mR c s&&bW q c.queue
def ij(t self n:Int):Bool:=decide (n=0)||(decide (0<n)&&eD t (n-1) self)
def oE(self:Int)(x:Topic):Bool:=decide (x.root=0)||(ep x.root&&decide (x.root % 16=self)&&decide (x.root≤x.top)&&decide (x.parent=0)&&decide (x.stream.epoch=x.root))
def kn(x:Topic):Bool:=match x.path with | []=>decide (x.parent=0) | p::_=>decide (x.parent=IntKind.i64.wrap (p+1))
def aC(c:Config)(t self:Int)(x:Topic):Bool :=
 rng x.top 0 1073741824&&rng x.age 0 1000&&ij t self x.parent&&ij t self x.asked&&ij t self x.other&&oE self x&&kn x &&
 decide (chk t self x.path c.depth=0)&&jB t self c.kids x.kids&&mS c x.stream x.queue
def eE(c:Config)(t self:Int):Bool:=rng t 0 (c.topics-1)&&rng self 0 (c.nodes-1)
def dX(c:Config)(asks:Int):Int→List Call→Bool
 | _,[]=>true
 | p,x::r=>decide (p<x.count)&&decide (x.count≤asks)&&rng x.topic 0 (c.topics-1)&&rng x.age 0 20&&dX c asks x.count r
def oF(m:Mark):Bool:=rng m.inc 0 1073741824&&rng m.pubs 0 1073741824&&rng m.met 0 2199023255551
def nO(c:Config)(x:Mark2):Bool:=rng x.node 0 (c.nodes-1)&&rng x.topic 0 (c.topics-1)&&cnt x.inc&&cnt x.count&&val x.value
def aU(c:Config)(self:Int):Int→List Topic→Bool
 | _,[]=>true
 | t,x::r=>aC c t self x&&aU c self (t+1) r
def mT(c:Config)(self:Int)(n:Node):Bool :=
 cnt n.inc&&rng n.pubs 0 1073741824&&rng n.asks 0 40&&dX c n.asks 0 n.calls&&decide (n.calls.length≤40) &&
 decide (n.peers.length=c.nodes)&&decide (n.topics.length=c.topics)&&decide (n.marks.length=c.nodes)&&decide (n.taken.length≤64) &&
 aU c self 0 n.topics&&bf n.peers&&n.marks.all oF&&n.taken.all (nO c)
def il(c:Config)(self:Int)(n:Node):Int :=
 if bM c=true then (if (rng self 0 (c.nodes-1)&&n.up)=true then (if mT c self n=true then 0 else 1) else 9) else 13
def bZ:Topic:=⟨false,false,0,0,0,0,0,0,[],[],⟨0,0,0,[],[]⟩,[]⟩
theorem mU{n:Int}{k:PV→Prop}(h0:0≤n)(h1:n≤1000):OP (.repl 16 [(.int .i64 0),(.int .i64 0)]) [I n] k=k (L (List.replicate n.toNat (⟨0,0⟩:Peer))):=ws rfl h0 (by omega)
theorem mV{n:Int}{k:PV→Prop}(h0:0≤n)(h1:n≤1000):OP (.repl 24 [(.int .i64 0),(.int .i64 0),(.int .i64 0)]) [I n] k=k (L (List.replicate n.toNat (⟨0,0,0⟩:Mark))):=ws rfl h0 (by omega)
theorem kS{n:Int}{k:PV→Prop}(h0:0≤n)(h1:n≤1000):OP (.repl 200 [(.bool false),(.bool false),(.int .i64 0),(.int .i64 0),(.int .i64 0),(.int .i64 0),(.int .i64 0),(.int .i64 0),.nil,.nil,(.int .i64 0),(.int .i64 0),(.int .i64 0),.nil,.nil,.nil]) [I n] k=k (L (List.replicate n.toNat bZ)):=ws rfl h0 (by omega)
def x7(s:Stream)(q:List Event):Bool:=decide (s.kept.length>30)||decide (s.ahead.length>30)||decide (q.length>50)
def fP(x:Topic):Bool:=decide (x.path.length>20)||decide (x.kids.length>20)||x7 x.stream x.queue
def cV(n:Node):Bool:=decide (n.peers.length>12)||decide (n.topics.length>8)||decide (n.calls.length>60)||decide (n.marks.length>12)||decide (n.taken.length>80)||n.topics.any fP
def D5(n:Node)(t:Int):Topic:=n.topics.getD t.toNat bZ
def ko(x:Event):Bool:=decide (x.kind=1)||decide (x.kind=2)
def Ev(c:Config)(x:Topic):Bool:=decide (x.kids.length>c.kids)||decide (x.stream.kept.length>c.keep)||decide (x.stream.ahead.length>c.window)||decide (x.queue.length>c.queue)
def zK:Config:=⟨8,4,2,8,8,8,16⟩
def lY(x:Event):Event:=if x.kind=1 then ⟨2,x.epoch,x.seq,x.seq,0,0⟩ else if x.kind=2 then x else ⟨0,0,0,0,0,0⟩
def sI:Event:=⟨0,0,0,0,0,0⟩
def u4(l:List Event)(limit:Int)(x:Event):List Event×Int :=
 if (bW l limit&&iQ x)=true then
  if (l.length:Int)<limit-1 then (l++[x],0)
  else if ko x=true then
   if (l.length:Int)<limit then (l++[lY x],0)
   else if (lY x).epoch=(l.getD (limit-1).toNat sI).epoch∧(lY x).seq=IntKind.i64.wrap ((l.getD (limit-1).toNat sI).last+1) then
    (l.set (limit-1).toNat { (l.getD (limit-1).toNat sI) with last:=(lY x).last },0)
   else ([],6)
  else ([],6)
 else ([],1)
def x8(l:List Event)(limit:Int)(x:Event):List Event:=if (u4 l limit x).2=0 then (u4 l limit x).1 else l
def zL(l:List Event)(limit:Int)(x:Event):List Event×Bool :=
 if x.kind=3∨x.kind=4 then (if (l.length:Int)<limit-1 then l++[x] else l,decide ((l.length:Int)<limit-1)) else (x8 l limit x,decide ((u4 l limit x).2=0))
theorem GI{l:List Event}{m a b c d e:Int}:(zL l m ⟨3,a,b,c,d,e⟩).1=if (l.length:Int)<m-1 then l++[⟨3,a,b,c,d,e⟩] else l:=by simp[zL]
theorem GJ{l:List Event}{m a b c d e:Int}:(zL l m ⟨3,a,b,c,d,e⟩).2=decide ((l.length:Int)<m-1):=by simp[zL]
theorem GK{l:List Event}{m a b c d e:Int}:(zL l m ⟨4,a,b,c,d,e⟩).1=if (l.length:Int)<m-1 then l++[⟨4,a,b,c,d,e⟩] else l:=by simp[zL]
theorem GL{l:List Event}{m a b c d e:Int}:(zL l m ⟨4,a,b,c,d,e⟩).2=decide ((l.length:Int)<m-1):=by simp[zL]
def zM(n:Node)(o:Int):Bool:=rng o 0 (n.peers.length-1)&&decide ((n.peers.getD o.toNat ⟨0,0⟩).inc≠0)
def jC(l:List Peer)(n:Int):Int:=if bf l=true then (if 0≤n∧n<l.length then 0 else 9) else 1
def eR(self:Int):Int→List Peer→List Int
 | _,[]=>[]
 | i,p::r=>(if i=self∨(0<p.inc∧p.age<4) then [i] else [])++eR self (i+1) r
def gM(l:List Peer)(self:Int):List Int:=eR self 0 l
def BT(c:Config)(l:List Topic)(t:Int)(x:Event):List Topic:=l.set t.toNat { (l.getD t.toNat bZ) with queue:=x8 (l.getD t.toNat bZ).queue c.queue x }
def gm:Msg:=⟨0,0,0,0,0,0,0,0,0,0,0,0,0,0,[],[]⟩
def Ho:Node:=⟨false,0,[],[],[],0,0,[],[]⟩
def BU(m:Msg):Bool:=isN m.frm&&isN m.to&&decide (m.frm≠m.to)&&cnt m.fromInc
def oa(l:List Int):Bool:=decide (l.length≤8)&&l.all isN&&decide l.Nodup
def sJ(m:Msg):Bool:=rng m.epoch 1 1073741824&&cnt m.seq
def qw(m:Msg):Bool:=isN m.node&&cnt m.inc&&val m.value&&rng m.hops 0 16
def lU(m:Msg):Msg×Bool :=
 if m.kind=1∨m.kind=5∨m.kind=6 then (m,true)
 else if m.kind=2 then ({ m with epoch:=0 },rng m.epoch 0 1073741824)
 else if m.kind=3 then ({ m with epoch:=0,seq:=0,last:=0,path:=[] },rng m.epoch 0 1073741824&&cnt m.seq&&rng m.last 0 1073741824&&decide (0<m.path.length)&&oa m.path&&decide (m.path.getD 0 0=m.frm))
 else if m.kind=4 then ({ m with node:=0 },isN m.node&&decide (m.node≠m.frm)&&decide (m.node≠m.to))
 else if m.kind=7 then ({ m with epoch:=0,seq:=0,value:=0 },sJ m&&val m.value)
 else if m.kind=8 then ({ m with epoch:=0,seq:=0 },sJ m)
 else if m.kind=9 then ({ m with epoch:=0,seq:=0,last:=0 },sJ m&&rng m.last m.seq 1073741824)
 else if m.kind=10 then ({ m with node:=0,inc:=0,count:=0,value:=0,hops:=0 },qw m&&cnt m.count)
 else if m.kind=11 then ({ m with node:=0,inc:=0,count:=0,value:=0,hops:=0,path:=[],todo:=[] },qw m&&rng m.count 1 40&&oa m.path&&oa m.todo&&decide (m.path++m.todo).Nodup)
 else if m.kind=12 then ({ m with count:=0,value:=0 },rng m.count 1 40&&isN m.value)
 else if m.kind=13 then ({ m with count:=0 },rng m.count 1 40)
 else (m,false)
def sK(m:Msg):Bool:=BU m&&(if m.kind=1 then decide (m.toInc=0)&&decide (m.topic=0) else cnt m.toInc&&rng m.topic 0 3)
def x9(r:Msg):Bool:=decide (r.epoch≠0)||decide (r.seq≠0)||decide (r.last≠0)||decide (r.value≠0)||decide (r.node≠0)||decide (r.inc≠0)||decide (r.count≠0)||decide (r.hops≠0)
def rb(m:Msg):Bool:=(lU m).2&&sK m&& !x9 (lU m).1&&decide ((lU m).1.path.length=0)&&decide ((lU m).1.todo.length=0)
def ba(l:List Peer):List Peer:=l.map fun p=>{ p with age:=min (p.age+1) 1000 }
def fQ(l:List Kid):List Kid:=(l.map fun k=>{ k with age:=k.age+1 }).filter fun k=>decide (k.age≤6)
def gN(x:Topic):Topic:={ x with parent:=0,asked:=0,other:=0,age:=0,path:=[] }
def sL(c:Config)(t self:Int)(x:Topic):Int:=if bM c=true then (if (eE c t self&&aC c t self x)=true then 0 else 1) else 13
def Ew(n top:Int):Int:=if top-top % 16+n≤top then top-top % 16+n+16 else top-top % 16+n
def pN(n top:Int):Int:=if 1073741824<Ew n top then 0 else Ew n top
def G4(e n:Int):Stream:=⟨e,n,n,[],[]⟩
def im(self:Int)(x:Topic):Topic×Int :=
 if x.root≠0∧x.root=x.top then (x,0)
 else if pN self x.top=0 then (bZ,11)
 else ({ gN x with root:=pN self x.top,top:=pN self x.top,stream:=G4 (pN self x.top) 1 },0)
def rN(self:Int)(x:Topic):Topic:=if (im self x).2=0 then (im self x).1 else x
def dJ(x:Topic):Bool:=x.sub||decide (0<x.kids.length)
def vt(self:Int)(n:Node)(m:Msg):Msg:={ m with frm:=self,fromInc:=n.inc,toInc:=if m.kind=1 then 0 else (n.peers.getD m.to.toNat ⟨0,0⟩).inc }
def iR(self:Int)(n:Node):List Msg→Option (List Msg)
 | []=>some []
 | m::r=>if (decide (m.kind=1)||zM n m.to)=true then (if rb (vt self n m)=true then (iR self n r).map (vt self n m:: ·) else none) else iR self n r
def sM(self:Int)(n:Node)(l:List Msg):List Msg:=(iR self n l).getD []
def qx(c:Config)(self:Int)(n:Node)(l:List Msg):List Msg×Int :=
 if il c self n=0 then (sM self n l,if (iR self n l).isSome=true then 0 else 5) else ([],il c self n)
def vu(self t:Int)(live:List Int):Bool:=decide ((lR t live).1=self)
def gS(c:Config):List Call→List Topic→List Topic
 | [],ts=>ts
 | x::r,ts=>gS c r (if x.age+1≤20 then ts else BT c ts x.topic ⟨4,0,0,0,0,x.count⟩)
def iS(l:List Call):List Call:=(l.map fun x=>{ x with age:=x.age+1 }).filter fun x=>decide (x.age≤20)
def kT(t:Int)(x:Topic):Topic×List Msg:=if x.parent=0 then (x,[]) else (gN x,[{ gm with kind:=6,to:=x.parent-1,topic:=t }])
def pO(x:Topic):Topic:=if x.parent=0 then x else if 4<min (x.age+1) 1000 then gN x else { x with age:=min (x.age+1) 1000 }
def eu(live:List Int)(x:Topic):Topic:=if x.other≠0∧live.contains (x.other-1)=false then { x with other:=0 } else x
def GM(t nx:Int)(x:Topic):Topic:={ x with asked:=(if x.other=0 then nx else x.other-1)+1 }
def D6(t nx:Int)(x:Topic):List Msg :=
 [{ gm with kind:=2,to:=if x.other=0 then nx else x.other-1,topic:=t,epoch:=x.top }] ++
 (if x.parent≠0∧x.stream.want<x.stream.known then [{ gm with kind:=8,to:=x.parent-1,topic:=t,epoch:=x.stream.epoch,seq:=x.stream.want }] else [])
def rc(self t:Int)(live:List Int)(x0:Topic):Topic×List Msg :=
 let x:Topic:={ x0 with kids:=fQ x0.kids }
 if vu self t live=true then
  if dJ x=true then (rN self x,[]) else kT t x
 else if dJ x=true then
  let y:=eu live (pO { x with root:=0 })
  (GM t (cK t live self) y,D6 t (cK t live self) y)
 else kT t { x with root:=0 }
def ct(self:Int)(live:List Int):Int→List Topic→List Topic
 | _,[]=>[]
 | t,x::r=>(rc self t live x).1::ct self live (t+1) r
def bO(self:Int)(live:List Int):Int→List Topic→List Msg
 | _,[]=>[]
 | t,x::r=>(rc self t live x).2++bO self live (t+1) r
def jq(self k:Int):List Msg:=((List.range k.toNat).filter fun (i:Nat)=>decide ((i:Int)≠self)).map fun (i:Nat)=>{ gm with kind:=1,to:=(i:Int) }
def Ey(c:Config)(self:Int)(n:Node):Node :=
  { n with peers:=ba n.peers,calls:=iS n.calls,topics:=ct self (gM (ba n.peers) self) 0 (gS c n.calls n.topics) }
def G5(c:Config)(self:Int)(n:Node):List Msg :=
 sM self (Ey c self n) (bO self (gM (ba n.peers) self) 0 (gS c n.calls n.topics)++jq self c.nodes)
def ew(c:Config)(self:Int)(n:Node):Node×List Msg×Int :=
 if il c self n=0 then (Ey c self n,G5 c self n,0) else (Ho,[],il c self n)
def rn(t i:Int)(l:List Int):Nat→Nat
 | 0=>0
 | k+1=>if eD t i (l.getD k 0)=true then rn t i l k else k+1
def ey(t self:Int):Nat→List Int
 | 0=>[]
 | i+1=>if eD t self i=true then (ey t self i).take (rn t i (ey t self i) (ey t self i).length)++[(i:Int)]++(ey t self i).drop (rn t i (ey t self i) (ey t self i).length) else ey t self i
def GN(t self:Int):List Int:=ey t self 8
def dD(t:Int):List Int:=if (lR t gl).2=0 then (lR t gl).1::GN t (lR t gl).1 else []
set_option linter.defProp false
theorem cL{p:Config→Prop}(h: ∀x,p x): ∀a0 a1 a2 a3 a4 a5 a6,p (Config.mk a0 a1 a2 a3 a4 a5 a6):=fun _ _ _ _ _ _ _=>h _
theorem GO{p:Peer→Prop}(h: ∀x,p x): ∀a0 a1,p (Peer.mk a0 a1):=fun _ _=>h _
theorem Hp{p:Kid→Prop}(h: ∀x,p x): ∀a0 a1 a2,p (Kid.mk a0 a1 a2):=fun _ _ _=>h _
theorem rO{p:Event→Prop}(h: ∀x,p x): ∀a0 a1 a2 a3 a4 a5,p (Event.mk a0 a1 a2 a3 a4 a5):=fun _ _ _ _ _ _=>h _
theorem pP{p:Stream→Prop}(h: ∀x,p x): ∀a0 a1 a2 a3 a4,p (Stream.mk a0 a1 a2 a3 a4):=fun _ _ _ _ _=>h _
theorem GP{p:Mark→Prop}(h: ∀x,p x): ∀a0 a1 a2,p (Mark.mk a0 a1 a2):=fun _ _ _=>h _
theorem FB{p:Mark2→Prop}(h: ∀x,p x): ∀a0 a1 a2 a3 a4,p (Mark2.mk a0 a1 a2 a3 a4):=fun _ _ _ _ _=>h _
theorem gC{p:Topic→Prop}(h: ∀x,p x): ∀a0 a1 a2 a3 a4 a5 a6 a7 a8 a9 a10 a11 a12 a13 a14 a15,p (Topic.mk a0 a1 a2 a3 a4 a5 a6 a7 a8 a9 (Stream.mk a10 a11 a12 a13 a14) a15):=fun _ _ _ _ _ _ _ _ _ _ _ _ _ _ _ _=>h _
theorem oG{p:Node→Prop}(h: ∀x,p x): ∀a0 a1 a2 a3 a4 a5 a6 a7 a8,p (Node.mk a0 a1 a2 a3 a4 a5 a6 a7 a8):=fun _ _ _ _ _ _ _ _ _=>h _
theorem vv{p:Msg→Prop}(h: ∀x,p x): ∀a0 a1 a2 a3 a4 a5 a6 a7 a8 a9 a10 a11 a12 a13 a14 a15,p (Msg.mk a0 a1 a2 a3 a4 a5 a6 a7 a8 a9 a10 a11 a12 a13 a14 a15):=fun _ _ _ _ _ _ _ _ _ _ _ _ _ _ _ _=>h _
def RR:=And.intro @HM (And.intro @mk0 (And.intro @mk1 (And.intro @mk2 (And.intro @Hm (And.intro @Hn (And.intro @GG (And.intro @GH (And.intro @Ha (And.intro @Hb (And.intro @Hc (And.intro @List.cons_append.{0} (And.intro @List.nil_append.{0} (And.intro @Config.row_eq (And.intro @Peer.row_eq (And.intro @Kid.row_eq (And.intro @Item.row_eq (And.intro @Event.row_eq (And.intro @Stream.row_eq (And.intro @Call.row_eq (And.intro @Mark.row_eq (And.intro @Mark2.row_eq (And.intro @Topic.row_eq (And.intro @Node.row_eq (And.intro @Msg.row_eq (And.intro @Step.row_eq (And.intro @By.row_eq (And.intro @Frame.row_eq (And.intro @World.row_eq (@Ans.row_eq)))))))))))))))))))))))))))))
def S0:=And.intro @Eh (And.intro @Fk (And.intro @fJ (And.intro @Fl (And.intro @Fm (And.intro @Gi (And.intro @Gj (And.intro @Gk (And.intro @Fo (And.intro @Gl (And.intro @Fp (And.intro @Fq (And.intro @Ei (And.intro @Fs (And.intro @Ej (And.intro @Ft (And.intro @El (And.intro @Ek (And.intro @zh (And.intro @Gm (And.intro @Gn (And.intro @Gp (And.intro @Gq (And.intro @cr (And.intro @Gr (And.intro @Gs (And.intro @Gt (And.intro @Gu (And.intro @Gv (And.intro @Gw (And.intro @Hg (And.intro @Hh (And.intro @Gy (And.intro @He (And.intro @Fu (And.intro @Fv (And.intro @Hf (And.intro @fI (And.intro @aK (And.intro @Fw (And.intro @Fx (And.intro @Fy (And.intro @Fz (And.intro @Ep (And.intro @Es (And.intro @Et (And.intro @mU (And.intro @mV (And.intro @kS (And.intro @x5 (And.intro @BO (And.intro @vq (And.intro @BP (And.intro @zF (And.intro @x6 (And.intro @sG (And.intro @BQ (And.intro @zG (And.intro @zH (And.intro @BR (And.intro @vr (And.intro @BS (And.intro @Eu (And.intro @zI (And.intro @zJ (@Dt)))))))))))))))))))))))))))))))))))))))))))))))))))))))))))))))))
def SB:=And.intro @S0 (@sB)
def S1:=And.intro @decide_eq_true_eq (And.intro @decide_eq_false_iff_not (And.intro @Bool.not_eq_eq_eq_not (And.intro @Bool.not_true (And.intro @Bool.not_false (And.intro @Bool.false_eq_true (And.intro @Bool.true_eq_false (And.intro @false_implies (And.intro @true_implies (And.intro @true_and (And.intro @and_true (And.intro @not_true_eq_false (And.intro @not_false_eq_true (And.intro @decide_true (And.intro @decide_false (And.intro @HI (And.intro @HJ (And.intro @HK (And.intro @HL (And.intro @Hd (And.intro @Gf (And.intro @Gg (And.intro @Ha (And.intro @Hb (And.intro @Hc (And.intro @GI (And.intro @GJ (And.intro @GK (And.intro @GL (And.intro @Config.row_eq (And.intro @Config.eta (And.intro @Peer.row_eq (And.intro @Peer.eta (And.intro @Kid.row_eq (And.intro @Kid.eta (And.intro @Item.row_eq (And.intro @Item.eta (And.intro @Event.row_eq (And.intro @Event.eta (And.intro @Stream.row_eq (And.intro @Stream.eta (And.intro @Call.row_eq (And.intro @Call.eta (And.intro @Mark.row_eq (And.intro @Mark.eta (And.intro @Mark2.row_eq (And.intro @Mark2.eta (And.intro @Topic.row_eq (And.intro @Topic.eta (And.intro @Node.row_eq (And.intro @Node.eta (And.intro @Msg.row_eq (And.intro @Msg.eta (And.intro @Step.row_eq (And.intro @Step.eta (And.intro @By.row_eq (And.intro @By.eta (And.intro @Frame.row_eq (And.intro @Frame.eta (And.intro @World.row_eq (And.intro @World.eta (And.intro @Ans.row_eq (And.intro @Ans.eta (And.intro @eq_self.{1} (And.intro @if_true.{1} (And.intro @if_false.{1} (And.intro @implies_true.{0} (@implies_true.{1})))))))))))))))))))))))))))))))))))))))))))))))))))))))))))))))))))
def S2:=And.intro @Gz (And.intro @Hj (And.intro @GA (And.intro @Hk (And.intro @Hl (And.intro @GB (And.intro @GC (@ite_self.{1})))))))
def S3:=And.intro @GD (And.intro @GE (And.intro @GF (@Hi)))
def LN:=And.intro @List.length_cons.{0} (And.intro @List.length_nil.{0} (@List.length_append.{0}))
end Go.Xt
