/- Steps towards the statements of this seat; the conditions stand in each theorem. -/
import Derived.Test.YtahdphncepnbeaaGreatDoorTh
import Derived.Test.YtahdphncepnbeaaGreatDoorV7
set_option linter.unusedSimpArgs false
set_option linter.unusedVariables false
namespace Go.Xt
def TT:List Int:=[1462484242049070477,1775212608919665246,3535639072113518480,3725500155902745375]
def NN:List Int:=[2342812313538366385,1863050908023769503,81111313352671826,2434324899588211290,2454816673080883147,1342378062264523301,820659310660760249,2006264061484817761]
def tt(t:Int):Int:=TT.getD t.toNat 0
def nn(n:Int):Int:=NN.getD n.toNat 0
def isT(v:Int):Bool:=decide (0≤v)&&decide (v<4)
def isN(v:Int):Bool:=decide (0≤v)&&decide (v<8)
def far(k n:Int):Int:=if n-k<0 then n-k+4611686018427387904 else n-k
def gap(t n:Int):Int:=far (tt t) (nn n)
def fm(t a b:Int):Bool:=isT t&&isN a&&isN b&&decide (gap t a<gap t b)
def oD(t:Int):Int→List Int→Bool
 | _,[]=>true
 | n,x::xs=>fm t x n&&oD t x xs
def chk(t n:Int)(xs:List Int)(c:Int):Int :=
 if (isT t&&isN n&&decide (1≤c)&&decide (c≤8)&&xs.all isN)=true then
  if xs.length>c then 12 else if oD t n xs=true then 0 else 1
 else 1
def Pq(t n:Int)(xs:List Int)(c:Int):Int :=
 if xs.all isN=true then if xs.length>c then 12 else if oD t n xs=true then 0 else 1 else 1
def par(rows:List (List Int))(i:Int):Int:=match rows[i.toNat]? with | some (x::_)=>x | _=> -1
def isK(k:Int):Bool:=decide (0≤k)&&decide (k<4611686018427387904)
def fc(t:Int):Int→List Int→Int
 | b,[]=>b
 | b,x::r=>fc t (if fm t x b=true then x else b) r
def zm(t:Int)(l:List Int):Int×Int :=
 if isT t=true then if l.all isN=true then match l with | []=>(0,7) | x::_=>(fc t x l,0) else (0,1) else (0,1)
def xh(t:Int):Int→List Int→Int
 | b,[]=>b
 | b,x::r=>xh t (if b<0∨gap t x<gap t b then x else b) r
def vR(t:Int)(l:List Int):Int:=xh t (-1) l
def nI:Int→List Int→Bool
 | _,[]=>true
 | p,x::r=>isN x&&decide (p<x)&&nI x r
def zT(live:List Int)(self:Int):Int:=if (nI (-1) live&&live.contains self)=true then 0 else 1
def dZ(k:Int):Int→Int→List Int→Int
 | b,_,[]=>b
 | b,d,n::r=>if b<0∨far k (nn n)<d then dZ k n (far k (nn n)) r else dZ k b d r
def oW(live:List Int)(k:Int):Int:=dZ k (-1) 0 live
def dK(self:Int):Int→Int→List Int→Int
 | b,_,[]=>b
 | b,d,n::r=>if n≠self∧(b<0∨far (nn n) (nn self)<d) then dK self n (far (nn n) (nn self)) r else dK self b d r
def jL(live:List Int)(self:Int):Int:=dK self (-1) 0 live
def mT(self:Int)(i:Nat):Int:=far (2 ^ i) (nn self)
def mv:Int→List Int→List Int
 | _,[]=>[]
 | p,y::r=>if y=p then mv p r else y::mv y r
def bB:List Int→List Int
 | []=>[]
 | x::r=>x::mv x r
def mw(l:List Int):List Int:=l.mergeSort fun x y=>decide (x≤y)
def tu:List Int:=[0,1,2,3,4,5,6,7]
def mf(live:List Int)(self:Int)(k:Nat):List Int:=((List.range k).map fun i=>oW live (mT self i)).filter fun n=>decide (n≠self)
def hU(live:List Int)(self:Int):List Int:=tu.filter fun n=>(mf live self 62).contains n
def ij(t:Int)(live:List Int)(self:Int):Int :=
 if fc t self (hU live self++[jL live self])=self then -1 else fc t self (hU live self++[jL live self])
def tv(t:Int)(live:List Int)(self:Int):Int:=if zT live self=0 then (if isT t=true then 0 else 1) else zT live self
structure Config where
 nodes:Int
 topics:Int
 kids:Int
 depth:Int
 keep:Int
 window:Int
 queue:Int
 deriving DecidableEq,Inhabited
instance:Row Config:=⟨7,fun x=>[I x.nodes,I x.topics,I x.kids,I x.depth,I x.keep,I x.window,I x.queue],fun _=>rfl,by
 rintro ⟨_,_,_,_,_,_,_⟩ ⟨_,_,_,_,_,_,_⟩ h;simpa[fk,and_assoc] using h⟩
instance:RowW Config 7:=⟨rfl⟩
theorem Config.row_eq(x:Config):Row.row x=[I x.nodes,I x.topics,I x.kids,I x.depth,I x.keep,I x.window,I x.queue]:=rfl
theorem Config.eta(x:Config):Config.mk x.nodes x.topics x.kids x.depth x.keep x.window x.queue=x:=rfl
theorem Config.eq_iff(x y:Config):(x=y)=(x.nodes=y.nodes∧x.topics=y.topics∧x.kids=y.kids∧x.depth=y.depth∧x.keep=y.keep∧x.window=y.window∧x.queue=y.queue):=by cases x;cases y;simp
theorem Config.deq(x y:Config):(decide (x.nodes=y.nodes)&&(decide (x.topics=y.topics)&&(decide (x.kids=y.kids)&&(decide (x.depth=y.depth)&&(decide (x.keep=y.keep)&&(decide (x.window=y.window)&&decide (x.queue=y.queue)))))))=decide (x=y):=by rw[Bool.eq_iff_iff];simp[Config.eq_iff]
theorem HW{k:PV→Prop}{a_nodes:Int}{a_topics:Int}{a_kids:Int}{a_depth:Int}{a_keep:Int}{a_window:Int}{a_queue:Int}:OP (.rows 7) [I a_nodes,I a_topics,I a_kids,I a_depth,I a_keep,I a_window,I a_queue] k=k (L [(Config.mk a_nodes a_topics a_kids a_depth a_keep a_window a_queue)]):=aH (by simp[ev,cz,L,Row.row])
structure Peer where
 inc:Int
 age:Int
 deriving DecidableEq,Inhabited
instance:Row Peer:=⟨2,fun x=>[I x.inc,I x.age],fun _=>rfl,by
 rintro ⟨_,_⟩ ⟨_,_⟩ h;simpa[fk,and_assoc] using h⟩
instance:RowW Peer 2:=⟨rfl⟩
theorem Peer.row_eq(x:Peer):Row.row x=[I x.inc,I x.age]:=rfl
theorem Peer.eta(x:Peer):Peer.mk x.inc x.age=x:=rfl
theorem Peer.eq_iff(x y:Peer):(x=y)=(x.inc=y.inc∧x.age=y.age):=by cases x;cases y;simp
theorem Peer.deq(x y:Peer):(decide (x.inc=y.inc)&&decide (x.age=y.age))=decide (x=y):=by rw[Bool.eq_iff_iff];simp[Peer.eq_iff]
theorem Np{k:PV→Prop}{a_inc:Int}{a_age:Int}:OP (.rows 2) [I a_inc,I a_age] k=k (L [(Peer.mk a_inc a_age)]):=aH (by simp[ev,cz,L,Row.row])
structure Kid where
 node:Int
 inc:Int
 age:Int
 deriving DecidableEq,Inhabited
instance:Row Kid:=⟨3,fun x=>[I x.node,I x.inc,I x.age],fun _=>rfl,by
 rintro ⟨_,_,_⟩ ⟨_,_,_⟩ h;simpa[fk,and_assoc] using h⟩
instance:RowW Kid 3:=⟨rfl⟩
theorem Kid.row_eq(x:Kid):Row.row x=[I x.node,I x.inc,I x.age]:=rfl
theorem Kid.eta(x:Kid):Kid.mk x.node x.inc x.age=x:=rfl
theorem Kid.eq_iff(x y:Kid):(x=y)=(x.node=y.node∧x.inc=y.inc∧x.age=y.age):=by cases x;cases y;simp
theorem Kid.deq(x y:Kid):(decide (x.node=y.node)&&(decide (x.inc=y.inc)&&decide (x.age=y.age)))=decide (x=y):=by rw[Bool.eq_iff_iff];simp[Kid.eq_iff]
theorem Pr{k:PV→Prop}{a_node:Int}{a_inc:Int}{a_age:Int}:OP (.rows 3) [I a_node,I a_inc,I a_age] k=k (L [(Kid.mk a_node a_inc a_age)]):=aH (by simp[ev,cz,L,Row.row])
structure Item where
 seq:Int
 value:Int
 deriving DecidableEq,Inhabited
instance:Row Item:=⟨2,fun x=>[I x.seq,I x.value],fun _=>rfl,by
 rintro ⟨_,_⟩ ⟨_,_⟩ h;simpa[fk,and_assoc] using h⟩
instance:RowW Item 2:=⟨rfl⟩
theorem Item.row_eq(x:Item):Row.row x=[I x.seq,I x.value]:=rfl
theorem Item.eta(x:Item):Item.mk x.seq x.value=x:=rfl
theorem Item.eq_iff(x y:Item):(x=y)=(x.seq=y.seq∧x.value=y.value):=by cases x;cases y;simp
theorem Item.deq(x y:Item):(decide (x.seq=y.seq)&&decide (x.value=y.value))=decide (x=y):=by rw[Bool.eq_iff_iff];simp[Item.eq_iff]
theorem da{k:PV→Prop}{a_seq:Int}{a_value:Int}:OP (.rows 2) [I a_seq,I a_value] k=k (L [(Item.mk a_seq a_value)]):=aH (by simp[ev,cz,L,Row.row])
structure Event where
 kind:Int
 epoch:Int
 seq:Int
 last:Int
 value:Int
 count:Int
 deriving DecidableEq,Inhabited
instance:Row Event:=⟨6,fun x=>[I x.kind,I x.epoch,I x.seq,I x.last,I x.value,I x.count],fun _=>rfl,by
 rintro ⟨_,_,_,_,_,_⟩ ⟨_,_,_,_,_,_⟩ h;simpa[fk,and_assoc] using h⟩
instance:RowW Event 6:=⟨rfl⟩
theorem Event.row_eq(x:Event):Row.row x=[I x.kind,I x.epoch,I x.seq,I x.last,I x.value,I x.count]:=rfl
theorem Event.eta(x:Event):Event.mk x.kind x.epoch x.seq x.last x.value x.count=x:=rfl
theorem Event.eq_iff(x y:Event):(x=y)=(x.kind=y.kind∧x.epoch=y.epoch∧x.seq=y.seq∧x.last=y.last∧x.value=y.value∧x.count=y.count):=by cases x;cases y;simp
theorem Event.deq(x y:Event):(decide (x.kind=y.kind)&&(decide (x.epoch=y.epoch)&&(decide (x.seq=y.seq)&&(decide (x.last=y.last)&&(decide (x.value=y.value)&&decide (x.count=y.count))))))=decide (x=y):=by rw[Bool.eq_iff_iff];simp[Event.eq_iff]
theorem L3{k:PV→Prop}{a_kind:Int}{a_epoch:Int}{a_seq:Int}{a_last:Int}{a_value:Int}{a_count:Int}:OP (.rows 6) [I a_kind,I a_epoch,I a_seq,I a_last,I a_value,I a_count] k=k (L [(Event.mk a_kind a_epoch a_seq a_last a_value a_count)]):=aH (by simp[ev,cz,L,Row.row])
structure Stream where
 epoch:Int
 want:Int
 known:Int
 kept:List Item
 ahead:List Item
 deriving DecidableEq,Inhabited
instance:Row Stream:=⟨5,fun x=>[I x.epoch,I x.want,I x.known,L x.kept,L x.ahead],fun _=>rfl,by
 rintro ⟨_,_,_,_,_⟩ ⟨_,_,_,_,_⟩ h;simpa[fk,and_assoc] using h⟩
instance:RowW Stream 5:=⟨rfl⟩
theorem Stream.row_eq(x:Stream):Row.row x=[I x.epoch,I x.want,I x.known,L x.kept,L x.ahead]:=rfl
theorem Stream.eta(x:Stream):Stream.mk x.epoch x.want x.known x.kept x.ahead=x:=rfl
theorem Stream.eq_iff(x y:Stream):(x=y)=(x.epoch=y.epoch∧x.want=y.want∧x.known=y.known∧x.kept=y.kept∧x.ahead=y.ahead):=by cases x;cases y;simp
theorem HX{k:PV→Prop}{a_epoch:Int}{a_want:Int}{a_known:Int}{a_kept:List Item}{a_ahead:List Item}:OP (.rows 5) [I a_epoch,I a_want,I a_known,L a_kept,L a_ahead] k=k (L [(Stream.mk a_epoch a_want a_known a_kept a_ahead)]):=aH (by simp[ev,cz,L,Row.row])
structure Call where
 count:Int
 topic:Int
 age:Int
 deriving DecidableEq,Inhabited
instance:Row Call:=⟨3,fun x=>[I x.count,I x.topic,I x.age],fun _=>rfl,by
 rintro ⟨_,_,_⟩ ⟨_,_,_⟩ h;simpa[fk,and_assoc] using h⟩
instance:RowW Call 3:=⟨rfl⟩
theorem Call.row_eq(x:Call):Row.row x=[I x.count,I x.topic,I x.age]:=rfl
theorem Call.eta(x:Call):Call.mk x.count x.topic x.age=x:=rfl
theorem Call.eq_iff(x y:Call):(x=y)=(x.count=y.count∧x.topic=y.topic∧x.age=y.age):=by cases x;cases y;simp
theorem Call.deq(x y:Call):(decide (x.count=y.count)&&(decide (x.topic=y.topic)&&decide (x.age=y.age)))=decide (x=y):=by rw[Bool.eq_iff_iff];simp[Call.eq_iff]
theorem Nq{k:PV→Prop}{a_count:Int}{a_topic:Int}{a_age:Int}:OP (.rows 3) [I a_count,I a_topic,I a_age] k=k (L [(Call.mk a_count a_topic a_age)]):=aH (by simp[ev,cz,L,Row.row])
structure Mark where
 inc:Int
 pubs:Int
 met:Int
 deriving DecidableEq,Inhabited
instance:Row Mark:=⟨3,fun x=>[I x.inc,I x.pubs,I x.met],fun _=>rfl,by
 rintro ⟨_,_,_⟩ ⟨_,_,_⟩ h;simpa[fk,and_assoc] using h⟩
instance:RowW Mark 3:=⟨rfl⟩
theorem Mark.row_eq(x:Mark):Row.row x=[I x.inc,I x.pubs,I x.met]:=rfl
theorem Mark.eta(x:Mark):Mark.mk x.inc x.pubs x.met=x:=rfl
theorem Mark.eq_iff(x y:Mark):(x=y)=(x.inc=y.inc∧x.pubs=y.pubs∧x.met=y.met):=by cases x;cases y;simp
theorem Mark.deq(x y:Mark):(decide (x.inc=y.inc)&&(decide (x.pubs=y.pubs)&&decide (x.met=y.met)))=decide (x=y):=by rw[Bool.eq_iff_iff];simp[Mark.eq_iff]
theorem Nr{k:PV→Prop}{a_inc:Int}{a_pubs:Int}{a_met:Int}:OP (.rows 3) [I a_inc,I a_pubs,I a_met] k=k (L [(Mark.mk a_inc a_pubs a_met)]):=aH (by simp[ev,cz,L,Row.row])
structure Mark2 where
 node:Int
 inc:Int
 count:Int
 topic:Int
 value:Int
 deriving DecidableEq,Inhabited
instance:Row Mark2:=⟨5,fun x=>[I x.node,I x.inc,I x.count,I x.topic,I x.value],fun _=>rfl,by
 rintro ⟨_,_,_,_,_⟩ ⟨_,_,_,_,_⟩ h;simpa[fk,and_assoc] using h⟩
instance:RowW Mark2 5:=⟨rfl⟩
theorem Mark2.row_eq(x:Mark2):Row.row x=[I x.node,I x.inc,I x.count,I x.topic,I x.value]:=rfl
theorem Mark2.eta(x:Mark2):Mark2.mk x.node x.inc x.count x.topic x.value=x:=rfl
theorem Mark2.eq_iff(x y:Mark2):(x=y)=(x.node=y.node∧x.inc=y.inc∧x.count=y.count∧x.topic=y.topic∧x.value=y.value):=by cases x;cases y;simp
theorem Mark2.deq(x y:Mark2):(decide (x.node=y.node)&&(decide (x.inc=y.inc)&&(decide (x.count=y.count)&&(decide (x.topic=y.topic)&&decide (x.value=y.value)))))=decide (x=y):=by rw[Bool.eq_iff_iff];simp[Mark2.eq_iff]
theorem L4{k:PV→Prop}{a_node:Int}{a_inc:Int}{a_count:Int}{a_topic:Int}{a_value:Int}:OP (.rows 5) [I a_node,I a_inc,I a_count,I a_topic,I a_value] k=k (L [(Mark2.mk a_node a_inc a_count a_topic a_value)]):=aH (by simp[ev,cz,L,Row.row])
structure Topic where
 made:Bool
 sub:Bool
 top:Int
 root:Int
 parent:Int
 asked:Int
 other:Int
 age:Int
 path:List Int
 kids:List Kid
 stream:Stream
 queue:List Event
 deriving DecidableEq,Inhabited
instance:Row Topic:=⟨16,fun x=>[bb x.made,bb x.sub,I x.top,I x.root,I x.parent,I x.asked,I x.other,I x.age,L x.path,L x.kids,I x.stream.epoch,I x.stream.want,I x.stream.known,L x.stream.kept,L x.stream.ahead,L x.queue],fun _=>rfl,by
 rintro ⟨_,_,_,_,_,_,_,_,_,_,⟨_,_,_,_,_⟩,_⟩ ⟨_,_,_,_,_,_,_,_,_,_,⟨_,_,_,_,_⟩,_⟩ h;simpa[fk,and_assoc] using h⟩
instance:RowW Topic 16:=⟨rfl⟩
theorem Topic.row_eq(x:Topic):Row.row x=[bb x.made,bb x.sub,I x.top,I x.root,I x.parent,I x.asked,I x.other,I x.age,L x.path,L x.kids,I x.stream.epoch,I x.stream.want,I x.stream.known,L x.stream.kept,L x.stream.ahead,L x.queue]:=rfl
theorem Topic.eta(x:Topic):Topic.mk x.made x.sub x.top x.root x.parent x.asked x.other x.age x.path x.kids x.stream x.queue=x:=rfl
theorem Topic.eq_iff(x y:Topic):(x=y)=(x.made=y.made∧x.sub=y.sub∧x.top=y.top∧x.root=y.root∧x.parent=y.parent∧x.asked=y.asked∧x.other=y.other∧x.age=y.age∧x.path=y.path∧x.kids=y.kids∧x.stream=y.stream∧x.queue=y.queue):=by cases x;cases y;simp
theorem L5{k:PV→Prop}{a_made:Bool}{a_sub:Bool}{a_top:Int}{a_root:Int}{a_parent:Int}{a_asked:Int}{a_other:Int}{a_age:Int}{a_path:List Int}{a_kids:List Kid}{a_stream_epoch:Int}{a_stream_want:Int}{a_stream_known:Int}{a_stream_kept:List Item}{a_stream_ahead:List Item}{a_queue:List Event}:OP (.rows 16) [bb a_made,bb a_sub,I a_top,I a_root,I a_parent,I a_asked,I a_other,I a_age,L a_path,L a_kids,I a_stream_epoch,I a_stream_want,I a_stream_known,L a_stream_kept,L a_stream_ahead,L a_queue] k=k (L [(Topic.mk a_made a_sub a_top a_root a_parent a_asked a_other a_age a_path a_kids (Stream.mk a_stream_epoch a_stream_want a_stream_known a_stream_kept a_stream_ahead) a_queue)]):=aH (by simp[ev,cz,L,Row.row])
structure Node where
 up:Bool
 inc:Int
 peers:List Peer
 topics:List Topic
 calls:List Call
 pubs:Int
 asks:Int
 marks:List Mark
 taken:List Mark2
 deriving DecidableEq,Inhabited
instance:Row Node:=⟨9,fun x=>[bb x.up,I x.inc,L x.peers,L x.topics,L x.calls,I x.pubs,I x.asks,L x.marks,L x.taken],fun _=>rfl,by
 rintro ⟨_,_,_,_,_,_,_,_,_⟩ ⟨_,_,_,_,_,_,_,_,_⟩ h;simpa[fk,and_assoc] using h⟩
instance:RowW Node 9:=⟨rfl⟩
theorem Node.row_eq(x:Node):Row.row x=[bb x.up,I x.inc,L x.peers,L x.topics,L x.calls,I x.pubs,I x.asks,L x.marks,L x.taken]:=rfl
theorem Node.eta(x:Node):Node.mk x.up x.inc x.peers x.topics x.calls x.pubs x.asks x.marks x.taken=x:=rfl
theorem Node.eq_iff(x y:Node):(x=y)=(x.up=y.up∧x.inc=y.inc∧x.peers=y.peers∧x.topics=y.topics∧x.calls=y.calls∧x.pubs=y.pubs∧x.asks=y.asks∧x.marks=y.marks∧x.taken=y.taken):=by cases x;cases y;simp
theorem Ns{k:PV→Prop}{a_up:Bool}{a_inc:Int}{a_peers:List Peer}{a_topics:List Topic}{a_calls:List Call}{a_pubs:Int}{a_asks:Int}{a_marks:List Mark}{a_taken:List Mark2}:OP (.rows 9) [bb a_up,I a_inc,L a_peers,L a_topics,L a_calls,I a_pubs,I a_asks,L a_marks,L a_taken] k=k (L [(Node.mk a_up a_inc a_peers a_topics a_calls a_pubs a_asks a_marks a_taken)]):=aH (by simp[ev,cz,L,Row.row])
structure Msg where
 kind:Int
 frm:Int
 fromInc:Int
 to:Int
 toInc:Int
 topic:Int
 epoch:Int
 seq:Int
 last:Int
 value:Int
 node:Int
 inc:Int
 count:Int
 hops:Int
 path:List Int
 todo:List Int
 deriving DecidableEq,Inhabited
instance:Row Msg:=⟨16,fun x=>[I x.kind,I x.frm,I x.fromInc,I x.to,I x.toInc,I x.topic,I x.epoch,I x.seq,I x.last,I x.value,I x.node,I x.inc,I x.count,I x.hops,L x.path,L x.todo],fun _=>rfl,by
 rintro ⟨_,_,_,_,_,_,_,_,_,_,_,_,_,_,_,_⟩ ⟨_,_,_,_,_,_,_,_,_,_,_,_,_,_,_,_⟩ h;simpa[fk,and_assoc] using h⟩
instance:RowW Msg 16:=⟨rfl⟩
theorem Msg.row_eq(x:Msg):Row.row x=[I x.kind,I x.frm,I x.fromInc,I x.to,I x.toInc,I x.topic,I x.epoch,I x.seq,I x.last,I x.value,I x.node,I x.inc,I x.count,I x.hops,L x.path,L x.todo]:=rfl
theorem Msg.eta(x:Msg):Msg.mk x.kind x.frm x.fromInc x.to x.toInc x.topic x.epoch x.seq x.last x.value x.node x.inc x.count x.hops x.path x.todo=x:=rfl
theorem Msg.eq_iff(x y:Msg):(x=y)=(x.kind=y.kind∧x.frm=y.frm∧x.fromInc=y.fromInc∧x.to=y.to∧x.toInc=y.toInc∧x.topic=y.topic∧x.epoch=y.epoch∧x.seq=y.seq∧x.last=y.last∧x.value=y.value∧x.node=y.node∧x.inc=y.inc∧x.count=y.count∧x.hops=y.hops∧x.path=y.path∧x.todo=y.todo):=by cases x;cases y;simp
theorem uI{k:PV→Prop}{a_kind:Int}{a_frm:Int}{a_fromInc:Int}{a_to:Int}{a_toInc:Int}{a_topic:Int}{a_epoch:Int}{a_seq:Int}{a_last:Int}{a_value:Int}{a_node:Int}{a_inc:Int}{a_count:Int}{a_hops:Int}{a_path:List Int}{a_todo:List Int}:OP (.rows 16) [I a_kind,I a_frm,I a_fromInc,I a_to,I a_toInc,I a_topic,I a_epoch,I a_seq,I a_last,I a_value,I a_node,I a_inc,I a_count,I a_hops,L a_path,L a_todo] k=k (L [(Msg.mk a_kind a_frm a_fromInc a_to a_toInc a_topic a_epoch a_seq a_last a_value a_node a_inc a_count a_hops a_path a_todo)]):=aH (by simp[ev,cz,L,Row.row])
structure Step where
 kind:Int
 node:Int
 topic:Int
 value:Int
 mask:Int
 deriving DecidableEq,Inhabited
instance:Row Step:=⟨5,fun x=>[I x.kind,I x.node,I x.topic,I x.value,I x.mask],fun _=>rfl,by
 rintro ⟨_,_,_,_,_⟩ ⟨_,_,_,_,_⟩ h;simpa[fk,and_assoc] using h⟩
instance:RowW Step 5:=⟨rfl⟩
theorem Step.row_eq(x:Step):Row.row x=[I x.kind,I x.node,I x.topic,I x.value,I x.mask]:=rfl
theorem Step.eta(x:Step):Step.mk x.kind x.node x.topic x.value x.mask=x:=rfl
theorem Step.eq_iff(x y:Step):(x=y)=(x.kind=y.kind∧x.node=y.node∧x.topic=y.topic∧x.value=y.value∧x.mask=y.mask):=by cases x;cases y;simp
theorem Step.deq(x y:Step):(decide (x.kind=y.kind)&&(decide (x.node=y.node)&&(decide (x.topic=y.topic)&&(decide (x.value=y.value)&&decide (x.mask=y.mask)))))=decide (x=y):=by rw[Bool.eq_iff_iff];simp[Step.eq_iff]
theorem Nt{k:PV→Prop}{a_kind:Int}{a_node:Int}{a_topic:Int}{a_value:Int}{a_mask:Int}:OP (.rows 5) [I a_kind,I a_node,I a_topic,I a_value,I a_mask] k=k (L [(Step.mk a_kind a_node a_topic a_value a_mask)]):=aH (by simp[ev,cz,L,Row.row])
structure By where
 n:Int
 deriving DecidableEq,Inhabited
instance:Row By:=⟨1,fun x=>[.int .u8 x.n],fun _=>rfl,by
 rintro ⟨_⟩ ⟨_⟩ h;simpa[fk,and_assoc] using h⟩
instance:RowW By 1:=⟨rfl⟩
theorem By.row_eq(x:By):Row.row x=[.int .u8 x.n]:=rfl
theorem By.eta(x:By):By.mk x.n=x:=rfl
theorem By.eq_iff(x y:By):(x=y)=(x.n=y.n):=by cases x;cases y;simp
theorem By.deq(x y:By):decide (x.n=y.n)=decide (x=y):=by rw[Bool.eq_iff_iff];simp[By.eq_iff]
theorem QF{k:PV→Prop}{a_n:Int}:OP (.rows 1) [.int .u8 a_n] k=k (L [(By.mk a_n)]):=aH (by simp[ev,cz,L,Row.row])
structure Frame where
 to:Int
 bytes:List By
 deriving DecidableEq,Inhabited
instance:Row Frame:=⟨2,fun x=>[I x.to,L x.bytes],fun _=>rfl,by
 rintro ⟨_,_⟩ ⟨_,_⟩ h;simpa[fk,and_assoc] using h⟩
instance:RowW Frame 2:=⟨rfl⟩
theorem Frame.row_eq(x:Frame):Row.row x=[I x.to,L x.bytes]:=rfl
theorem Frame.eta(x:Frame):Frame.mk x.to x.bytes=x:=rfl
theorem Frame.eq_iff(x y:Frame):(x=y)=(x.to=y.to∧x.bytes=y.bytes):=by cases x;cases y;simp
theorem L6{k:PV→Prop}{a_to:Int}{a_bytes:List By}:OP (.rows 2) [I a_to,L a_bytes] k=k (L [(Frame.mk a_to a_bytes)]):=aH (by simp[ev,cz,L,Row.row])
structure World where
 nodes:List Node
 bag:List Frame
 deriving DecidableEq,Inhabited
instance:Row World:=⟨2,fun x=>[L x.nodes,L x.bag],fun _=>rfl,by
 rintro ⟨_,_⟩ ⟨_,_⟩ h;simpa[fk,and_assoc] using h⟩
instance:RowW World 2:=⟨rfl⟩
theorem World.row_eq(x:World):Row.row x=[L x.nodes,L x.bag]:=rfl
theorem World.eta(x:World):World.mk x.nodes x.bag=x:=rfl
theorem World.eq_iff(x y:World):(x=y)=(x.nodes=y.nodes∧x.bag=y.bag):=by cases x;cases y;simp
theorem L7{k:PV→Prop}{a_nodes:List Node}{a_bag:List Frame}:OP (.rows 2) [L a_nodes,L a_bag] k=k (L [(World.mk a_nodes a_bag)]):=aH (by simp[ev,cz,L,Row.row])
structure Ans where
 err:Int
 event:Event
 count:Int
 deriving DecidableEq,Inhabited
instance:Row Ans:=⟨8,fun x=>[I x.err,I x.event.kind,I x.event.epoch,I x.event.seq,I x.event.last,I x.event.value,I x.event.count,I x.count],fun _=>rfl,by
 rintro ⟨_,⟨_,_,_,_,_,_⟩,_⟩ ⟨_,⟨_,_,_,_,_,_⟩,_⟩ h;simpa[fk,and_assoc] using h⟩
instance:RowW Ans 8:=⟨rfl⟩
theorem Ans.row_eq(x:Ans):Row.row x=[I x.err,I x.event.kind,I x.event.epoch,I x.event.seq,I x.event.last,I x.event.value,I x.event.count,I x.count]:=rfl
theorem Ans.eta(x:Ans):Ans.mk x.err x.event x.count=x:=rfl
theorem Ans.eq_iff(x y:Ans):(x=y)=(x.err=y.err∧x.event=y.event∧x.count=y.count):=by cases x;cases y;simp
theorem Ps{k:PV→Prop}{a_err:Int}{a_event_kind:Int}{a_event_epoch:Int}{a_event_seq:Int}{a_event_last:Int}{a_event_value:Int}{a_event_count:Int}{a_count:Int}:OP (.rows 8) [I a_err,I a_event_kind,I a_event_epoch,I a_event_seq,I a_event_last,I a_event_value,I a_event_count,I a_count] k=k (L [(Ans.mk a_err (Event.mk a_event_kind a_event_epoch a_event_seq a_event_last a_event_value a_event_count) a_count)]):=aH (by simp[ev,cz,L,Row.row])
def rng(n lo hi:Int):Bool:=decide (lo≤n)&&decide (n≤hi)
def bC(c:Config):Bool:=rng c.nodes 1 8&&rng c.topics 1 4&&rng c.kids 1 4&&rng c.depth 1 8&&rng c.keep 1 16&&rng c.window 1 16&&rng c.queue 2 32
def oE(n lo hi why:Int):List Int:=if n<lo∨hi<n then [why] else []
def oF(c:Config):List Int:=oE c.nodes 1 8 13++oE c.topics 1 4 13++oE c.kids 1 4 13++oE c.depth 1 8 13++oE c.keep 1 16 13++oE c.window 1 16 13++oE c.queue 2 32 13
def cnt(n:Int):Bool:=rng n 1 1073741824
def val(n:Int):Bool:=rng n 0 2147483647
def ep(e:Int):Bool:=rng e 1 1073741824&&isN (e % 16)
def nJ(p:Peer):Bool:=rng p.inc 0 1073741824&&rng p.age 0 1000
def bu(l:List Peer):Bool:=decide (1≤l.length)&&decide (l.length≤8)&&l.all nJ
def ln(t:Int):Int→List Kid→Bool
 | _,[]=>true
 | a,k::r=>fm t a k.node&&cnt k.inc&&rng k.age 0 6&&ln t k.node r
def jM(t self limit:Int)(l:List Kid):Bool:=isT t&&isN self&&rng limit 1 4&&decide (l.length≤limit)&&ln t self l
def du:Int→List Item→Bool
 | _,[]=>true
 | n,x::r=>decide (x.seq=n)&&val x.value&&du (n+1) r
def fJ(l:List Item)(want limit:Int):Bool:=cnt want&&rng limit 1 16&&decide (l.length≤limit)&&decide (l.length<want)&&du (want-l.length) l
def hZ(m:Int):Int→List Item→Bool
 | _,[]=>true
 | p,x::r=>decide (p<x.seq)&&decide (x.seq<m)&&decide (x.seq<1073741824)&&val x.value&&hZ m x.seq r
def lV(l:List Item)(want window:Int):Bool:=cnt want&&rng window 1 16&&hZ (want+window) want l
def dL(x:Event):Bool :=
 if x.kind=1 then ep x.epoch&&cnt x.seq&&val x.value&&decide (x.last=0)&&decide (x.count=0)
 else if x.kind=2 then ep x.epoch&&cnt x.seq&&rng x.last x.seq 1073741824&&decide (x.value=0)&&decide (x.count=0)
 else if x.kind=3 then rng x.count 1 40&&isN x.value&&decide (x.epoch=0)&&decide (x.seq=0)&&decide (x.last=0)
 else if x.kind=4 then rng x.count 1 40&&decide (x.epoch=0)&&decide (x.seq=0)&&decide (x.last=0)&&decide (x.value=0)
 else decide (x.kind=5)&&decide (x.epoch=0)&&decide (x.seq=0)&&decide (x.last=0)&&decide (x.value=0)&&decide (x.count=0)
def n6(l:List Event):Bool:=match l.getLast? with | some x=>decide (x.kind=2) | none=>false
def bd(l:List Event)(limit:Int):Bool:=rng limit 2 32&&decide (l.length≤limit)&&l.all dL&&(decide (l.length<limit)||n6 l)
def n7(s:Stream):Bool:=decide (s.epoch=0)&&decide (s.want=0)&&decide (s.known=0)&&decide (s.kept=[])&&decide (s.ahead=[])
def jn(c:Config)(s:Stream):Bool:=n7 s||(ep s.epoch&&cnt s.want&&rng s.known s.want 1073741824&&fJ s.kept s.want c.keep&&lV s.ahead s.want c.window)
def dv(c:Config)(s:Stream)(q:List Event):Bool:=jn c s&&bd q c.queue
def gV(t self n:Int):Bool:=decide (n=0)||(decide (0<n)&&fm t (n-1) self)
def my(self:Int)(x:Topic):Bool:=decide (x.root=0)||(ep x.root&&decide (x.root % 16=self)&&decide (x.root≤x.top)&&decide (x.parent=0)&&decide (x.stream.epoch=x.root))
def mg(x:Topic):Bool:=match x.path with | []=>decide (x.parent=0) | p::_=>decide (x.parent=IntKind.i64.wrap (p+1))
def aS(c:Config)(t self:Int)(x:Topic):Bool :=
 rng x.top 0 1073741824&&rng x.age 0 1000&&gV t self x.parent&&gV t self x.asked&&gV t self x.other&&my self x&&mg x &&
 decide (chk t self x.path c.depth=0)&&jM t self c.kids x.kids&&dv c x.stream x.queue
def jp(c:Config)(t self:Int):Bool:=rng t 0 (c.topics-1)&&rng self 0 (c.nodes-1)
def bD(c:Config)(asks:Int):Int→List Call→Bool
 | _,[]=>true
 | p,x::r=>decide (p<x.count)&&decide (x.count≤asks)&&rng x.topic 0 (c.topics-1)&&rng x.age 0 20&&bD c asks x.count r
def fo(m:Mark):Bool:=rng m.inc 0 1073741824&&rng m.pubs 0 1073741824&&rng m.met 0 2199023255551
def lW(c:Config)(x:Mark2):Bool:=rng x.node 0 (c.nodes-1)&&rng x.topic 0 (c.topics-1)&&cnt x.inc&&cnt x.count&&val x.value
def bx(c:Config)(self:Int):Int→List Topic→Bool
 | _,[]=>true
 | t,x::r=>aS c t self x&&bx c self (t+1) r
def mz(c:Config)(self:Int)(n:Node):Bool :=
 cnt n.inc&&rng n.pubs 0 1073741824&&rng n.asks 0 40&&bD c n.asks 0 n.calls&&decide (n.calls.length≤40) &&
 decide (n.peers.length=c.nodes)&&decide (n.topics.length=c.topics)&&decide (n.marks.length=c.nodes)&&decide (n.taken.length≤64) &&
 bx c self 0 n.topics&&bu n.peers&&n.marks.all fo&&n.taken.all (lW c)
def aU(c:Config)(self:Int)(n:Node):Int :=
 if bC c=true then (if (rng self 0 (c.nodes-1)&&n.up)=true then (if mz c self n=true then 0 else 1) else 9) else 13
def fp:Topic:=⟨false,false,0,0,0,0,0,0,[],[],⟨0,0,0,[],[]⟩,[]⟩
theorem zn{n:Int}{k:PV→Prop}(h0:0≤n)(h1:n≤1000):OP (.repl 16 [(.int .i64 0),(.int .i64 0)]) [I n] k=k (L (List.replicate n.toNat (⟨0,0⟩:Peer))):=GZ rfl h0 (by omega)
theorem zo{n:Int}{k:PV→Prop}(h0:0≤n)(h1:n≤1000):OP (.repl 24 [(.int .i64 0),(.int .i64 0),(.int .i64 0)]) [I n] k=k (L (List.replicate n.toNat (⟨0,0,0⟩:Mark))):=GZ rfl h0 (by omega)
theorem xi{n:Int}{k:PV→Prop}(h0:0≤n)(h1:n≤1000):OP (.repl 200 [(.bool false),(.bool false),(.int .i64 0),(.int .i64 0),(.int .i64 0),(.int .i64 0),(.int .i64 0),(.int .i64 0),.nil,.nil,(.int .i64 0),(.int .i64 0),(.int .i64 0),.nil,.nil,.nil]) [I n] k=k (L (List.replicate n.toNat fp)):=GZ rfl h0 (by omega)
def xj(s:Stream)(q:List Event):Bool:=decide (s.kept.length>30)||decide (s.ahead.length>30)||decide (q.length>50)
def ck(x:Topic):Bool:=decide (x.path.length>20)||decide (x.kids.length>20)||xj x.stream x.queue
def aI(n:Node):Bool:=decide (n.peers.length>12)||decide (n.topics.length>8)||decide (n.calls.length>60)||decide (n.marks.length>12)||decide (n.taken.length>80)||n.topics.any ck
def be(n:Node)(t:Int):Topic:=n.topics.getD t.toNat fp
def cT(x:Event):Bool:=decide (x.kind=1)||decide (x.kind=2)
def QG(c:Config)(x:Topic):Bool:=decide (x.kids.length>c.kids)||decide (x.stream.kept.length>c.keep)||decide (x.stream.ahead.length>c.window)||decide (x.queue.length>c.queue)
def sr:Config:=⟨8,4,2,8,8,8,16⟩
def n9(x:Event):Event:=if x.kind=1 then ⟨2,x.epoch,x.seq,x.seq,0,0⟩ else if x.kind=2 then x else ⟨0,0,0,0,0,0⟩
def dw:Event:=⟨0,0,0,0,0,0⟩
def vS(l:List Event)(limit:Int)(x:Event):List Event×Int :=
 if (bd l limit&&dL x)=true then
  if (l.length:Int)<limit-1 then (l++[x],0)
  else if cT x=true then
   if (l.length:Int)<limit then (l++[n9 x],0)
   else if (n9 x).epoch=(l.getD (limit-1).toNat dw).epoch∧(n9 x).seq=IntKind.i64.wrap ((l.getD (limit-1).toNat dw).last+1) then
    (l.set (limit-1).toNat { (l.getD (limit-1).toNat dw) with last:=(n9 x).last },0)
   else ([],6)
  else ([],6)
 else ([],1)
def sE(l:List Event)(limit:Int)(x:Event):List Event:=if (vS l limit x).2=0 then (vS l limit x).1 else l
def vT(l:List Event)(limit:Int)(x:Event):List Event×Bool :=
 if x.kind=3∨x.kind=4 then (if (l.length:Int)<limit-1 then l++[x] else l,decide ((l.length:Int)<limit-1)) else (sE l limit x,decide ((vS l limit x).2=0))
theorem TB{l:List Event}{m a b c d e:Int}:(vT l m ⟨3,a,b,c,d,e⟩).1=if (l.length:Int)<m-1 then l++[⟨3,a,b,c,d,e⟩] else l:=by simp[vT]
theorem TC{l:List Event}{m a b c d e:Int}:(vT l m ⟨3,a,b,c,d,e⟩).2=decide ((l.length:Int)<m-1):=by simp[vT]
theorem TD{l:List Event}{m a b c d e:Int}:(vT l m ⟨4,a,b,c,d,e⟩).1=if (l.length:Int)<m-1 then l++[⟨4,a,b,c,d,e⟩] else l:=by simp[vT]
theorem TE{l:List Event}{m a b c d e:Int}:(vT l m ⟨4,a,b,c,d,e⟩).2=decide ((l.length:Int)<m-1):=by simp[vT]
def nK(x:Topic):Bool:=decide (x.root≠0)||decide (0<x.path.length)
def ov(n:Node)(o:Int):Bool:=rng o 0 (n.peers.length-1)&&decide ((n.peers.getD o.toNat ⟨0,0⟩).inc≠0)
def oX(l:List Peer)(n:Int):Int:=if bu l=true then (if 0≤n∧n<l.length then 0 else 9) else 1
def jN(self:Int):Int→List Peer→List Int
 | _,[]=>[]
 | i,p::r=>(if i=self∨(0<p.inc∧p.age<4) then [i] else [])++jN self (i+1) r
def ib(l:List Peer)(self:Int):List Int:=jN self 0 l
def qt(self:Int)(n:Node)(t:Int):List Int :=
 (be n t).kids.map Kid.node++[(be n t).parent-1]++(if (be n t).kids=[]∧nK (be n t)=false then [ij t (ib n.peers self) self] else [])
def zp:Mark:=⟨0,0,0⟩
def kc(m:Mark)(inc:Int):Mark:=if m.inc<inc then ⟨inc,0,0⟩ else m
def oY(m:Mark)(count:Int):Bool:=decide (m.met / 2 ^ count.toNat % 2=1)
def meets(l:List Mark)(o inc count:Int):Bool :=
 decide ((l.getD o.toNat zp).inc≤inc)&& !oY (kc (l.getD o.toNat zp) inc) count
def jq(l:List Mark)(o inc count:Int):List Mark :=
 if meets l o inc count=true then l.set o.toNat { kc (l.getD o.toNat zp) inc with met:=(kc (l.getD o.toNat zp) inc).met+2 ^ count.toNat } else l
def bR(t count:Int)(x:Call):Bool:=decide (x.count=count)&&decide (x.topic=t)
def vU(count who:Int):Event:=if 0≤who then ⟨3,0,0,0,who,count⟩ else ⟨4,0,0,0,0,count⟩
def QH(c:Config)(l:List Topic)(t:Int)(x:Event):List Topic:=l.set t.toNat { (l.getD t.toNat fp) with queue:=sE (l.getD t.toNat fp).queue c.queue x }
def jE(c:Config)(n:Node)(t count who:Int):Node :=
 if n.calls.any (bR t count)=true then { n with calls:=n.calls.eraseP (bR t count),topics:=QH c n.topics t (vU count who) } else n
def lp:Msg:=⟨0,0,0,0,0,0,0,0,0,0,0,0,0,0,[],[]⟩
def mU(c:Config)(self:Int)(n:Node)(x:Msg)(who:Int):Node×List Msg :=
 if x.node=self then (jE c n x.topic x.count who,[])
 else (n,[if 0≤who then { lp with kind:=12,to:=x.node,topic:=x.topic,count:=x.count,value:=who } else { lp with kind:=13,to:=x.node,topic:=x.topic,count:=x.count }])
def cF(n:Node)(path:List Int):List Int→List Int→List Int
 | todo,[]=>todo
 | todo,k::r=>cF n path (if (ov n k&& !path.contains k&& !todo.contains k)=true then todo++[k] else todo) r
def nL{α:Type}(l:List α)(k:Nat):List α:=l.drop (l.length-k)
def goN(c:Config)(self:Int)(n:Node)(x:Msg)(todo:List Int):Node×List Msg :=
 if todo=[]∨16≤x.hops then mU c self n x (-1)
 else (n,[{ lp with kind:=11,to:=todo.getLastD 0,topic:=x.topic,node:=x.node,inc:=x.inc,count:=x.count,value:=x.value,hops:=x.hops+1,path:=x.path++[self],todo:=todo.dropLast }])
def jO(c:Config)(self:Int)(n:Node)(x:Msg):Node×List Msg :=
 if (be n x.topic).sub=true then mU c self { n with taken:=nL (n.taken++[⟨x.node,x.inc,x.count,x.topic,x.value⟩]) 64 } x self
 else goN c self n x (cF n (x.path++[self]) x.todo (qt self n x.topic))
def bi:Node:=⟨false,0,[],[],[],0,0,[],[]⟩
def aT(c:Config)(self:Int)(n:Node)(t value:Int):Node×List Msg×Int×Int :=
 if aU c self n=0 then
  if (rng t 0 (c.topics-1)&&val value)=true then
   if n.asks<40 then
    let m:Node:={ n with asks:=n.asks+1,calls:=n.calls++[⟨n.asks+1,t,0⟩],marks:=jq n.marks self n.inc (n.asks+1) }
    let r:=jO c self m { lp with topic:=t,node:=self,inc:=n.inc,count:=n.asks+1,value:=value }
    (r.1,r.2,n.asks+1,0)
   else (bi,[],0,11)
  else (bi,[],0,1)
 else (bi,[],0,aU c self n)
def tz(m:Msg):Bool:=isN m.frm&&isN m.to&&decide (m.frm≠m.to)&&cnt m.fromInc
def mh(l:List Int):Bool:=decide (l.length≤8)&&l.all isN&&decide l.Nodup
def tA(m:Msg):Bool:=rng m.epoch 1 1073741824&&cnt m.seq
def lq(m:Msg):Bool:=isN m.node&&cnt m.inc&&val m.value&&rng m.hops 0 16
def kd(m:Msg):Msg×Bool :=
 if m.kind=1∨m.kind=5∨m.kind=6 then (m,true)
 else if m.kind=2 then ({ m with epoch:=0 },rng m.epoch 0 1073741824)
 else if m.kind=3 then ({ m with epoch:=0,seq:=0,last:=0,path:=[] },rng m.epoch 0 1073741824&&cnt m.seq&&rng m.last 0 1073741824&&decide (0<m.path.length)&&mh m.path&&decide (m.path.getD 0 0=m.frm))
 else if m.kind=4 then ({ m with node:=0 },isN m.node&&decide (m.node≠m.frm)&&decide (m.node≠m.to))
 else if m.kind=7 then ({ m with epoch:=0,seq:=0,value:=0 },tA m&&val m.value)
 else if m.kind=8 then ({ m with epoch:=0,seq:=0 },tA m)
 else if m.kind=9 then ({ m with epoch:=0,seq:=0,last:=0 },tA m&&rng m.last m.seq 1073741824)
 else if m.kind=10 then ({ m with node:=0,inc:=0,count:=0,value:=0,hops:=0 },lq m&&cnt m.count)
 else if m.kind=11 then ({ m with node:=0,inc:=0,count:=0,value:=0,hops:=0,path:=[],todo:=[] },lq m&&rng m.count 1 40&&mh m.path&&mh m.todo&&decide (m.path++m.todo).Nodup)
 else if m.kind=12 then ({ m with count:=0,value:=0 },rng m.count 1 40&&isN m.value)
 else if m.kind=13 then ({ m with count:=0 },rng m.count 1 40)
 else (m,false)
def kJ(m:Msg):Bool:=tz m&&(if m.kind=1 then decide (m.toInc=0)&&decide (m.topic=0) else cnt m.toInc&&rng m.topic 0 3)
def qY(r:Msg):Bool:=decide (r.epoch≠0)||decide (r.seq≠0)||decide (r.last≠0)||decide (r.value≠0)||decide (r.node≠0)||decide (r.inc≠0)||decide (r.count≠0)||decide (r.hops≠0)
def gD(m:Msg):Bool:=(kd m).2&&kJ m&& !qY (kd m).1&&decide ((kd m).1.path.length=0)&&decide ((kd m).1.todo.length=0)
def vc(x:Topic):Topic:={ x with parent:=0,asked:=0,other:=0,age:=0,path:=[] }
def uP(c:Config)(t self:Int)(x:Topic):Int:=if bC c=true then (if (jp c t self&&aS c t self x)=true then 0 else 1) else 13
def nM(n top:Int):Int:=if top-top % 16+n≤top then top-top % 16+n+16 else top-top % 16+n
def ld(n top:Int):Int:=if 1073741824<nM n top then 0 else nM n top
def ON(e n:Int):Stream:=⟨e,n,n,[],[]⟩
def ao(self:Int)(x:Topic):Topic×Int :=
 if x.root≠0∧x.root=x.top then (x,0)
 else if ld self x.top=0 then (fp,11)
 else ({ vc x with root:=ld self x.top,top:=ld self x.top,stream:=ON (ld self x.top) 1 },0)
def HY(self:Int)(x:Topic):Topic:=if (ao self x).2=0 then (ao self x).1 else x
def BI(x:Topic):Bool:=x.sub||decide (0<x.kids.length)
def tB(self:Int)(n:Node)(m:Msg):Msg:={ m with frm:=self,fromInc:=n.inc,toInc:=if m.kind=1 then 0 else (n.peers.getD m.to.toNat ⟨0,0⟩).inc }
def er(self:Int)(n:Node):List Msg→Option (List Msg)
 | []=>some []
 | m::r=>if (decide (m.kind=1)||ov n m.to)=true then (if gD (tB self n m)=true then (er self n r).map (tB self n m:: ·) else none) else er self n r
def mi(self:Int)(n:Node)(l:List Msg):List Msg:=(er self n l).getD []
def G9(self t:Int)(live:List Int):Bool:=decide ((zm t live).1=self)
def tC(l:List Item)(want limit v:Int):List Item:=nL (l++[⟨want,v⟩]) limit.toNat
def fF(c:Config)(sub:Bool)(r:Stream×List Event×List Item)(v:Int):Stream×List Event×List Item :=
  ({ r.1 with kept:=tC r.1.kept r.1.want c.keep v,want:=r.1.want+1,known:=max r.1.known (r.1.want+1) },
   if sub=true then sE r.2.1 c.queue ⟨1,r.1.epoch,r.1.want,0,v,0⟩ else r.2.1,r.2.2++[⟨r.1.want,v⟩])
def dQ:Int→List Item→List Item
 | _,[]=>[]
 | w,x::r=>if x.seq=w then x::dQ (w+1) r else []
def tD(l:List Item)(want:Int):List Item:=l.filter fun x=> !decide (x.seq<want)
def br(l:List Item)(want:Int):List Item:=dQ want (tD l want)
def qu(l:List Item)(want:Int):List Item:=(tD l want).drop (br l want).length
def Ul(c:Config)(sub:Bool)(r:Stream×List Event×List Item):Stream×List Event×List Item :=
 let q:=((br r.1.ahead r.1.want).foldl (fun r x=>fF c sub r x.value) r)
 ({ q.1 with ahead:=qu r.1.ahead r.1.want },q.2)
def cm(c:Config)(s:Stream)(sub:Bool)(q:List Event)(v:Int):Stream×List Event×List Item:=Ul c sub (fF c sub (s,q,[]) v)
def jr(t:Int)(x:Topic)(on:List Item):List Msg :=
 on.flatMap fun i=>x.kids.map fun k=>{ lp with kind:=7,to:=k.node,topic:=t,epoch:=x.stream.epoch,seq:=i.seq,value:=i.value }
def au(c:Config)(t self:Int)(x:Topic)(v:Int):Topic×List Msg×Int :=
 if (ao self x).2≠0 then (fp,[],(ao self x).2)
 else if 1073741823≤(ao self x).1.stream.want then (fp,[],11)
 else
  let y:=(ao self x).1
  let r:=cm c y.stream y.sub y.queue v
  let z:Topic:={ y with stream:=r.1,queue:=r.2.1 }
  (z,jr t z r.2.2,0)
def bm(c:Config)(self:Int)(n:Node)(t:Int):Int:=if aU c self n=0 then (if rng t 0 (c.topics-1)=true then 0 else 1) else aU c self n
def aJ(c:Config)(self:Int)(n:Node)(t:Int):Int:=if bm c self n t=0 then (if (be n t).made=true then 0 else 7) else bm c self n t
def cA(n:Node)(t:Int)(x:Topic):Node:={ n with topics:=n.topics.set t.toNat x }
def fK(c:Config)(self:Int)(n:Node)(t:Int):Node×Int :=
 if bm c self n t=0 then (if (be n t).made=true then (bi,8) else (cA n t { be n t with made:=true },0)) else (bi,bm c self n t)
def fG(c:Config)(self:Int)(n:Node)(t:Int)(sub:Bool)(why:Int):Node×Int :=
 if aJ c self n t=0 then (if (be n t).sub=sub then (bi,why) else (cA n t { be n t with sub:=sub,queue:=[] },0)) else (bi,aJ c self n t)
def QI(self:Int)(n:Node)(t v:Int):Msg:={ lp with kind:=10,to:=ij t (ib n.peers self) self,topic:=t,node:=self,inc:=n.inc,count:=n.pubs+1,value:=v }
def OO(c:Config)(self:Int)(n:Node)(t v:Int):Node×List Msg×Int×Int :=
 let m:Node:={ n with pubs:=n.pubs+1 }
 if G9 self t (ib n.peers self)=true then
  if (au c t self (be n t) v).2.2=0 then (cA m t (au c t self (be n t) v).1,mi self m (au c t self (be n t) v).2.1,n.pubs+1,0)
  else (bi,[],0,(au c t self (be n t) v).2.2)
 else (m,mi self m [QI self n t v],n.pubs+1,0)
def jt(c:Config)(self:Int)(n:Node)(t v:Int):Node×List Msg×Int×Int :=
 if 1073741824≤n.pubs then (bi,[],0,11) else OO c self n t v
def ca(c:Config)(self:Int)(n:Node)(t v:Int):Node×List Msg×Int×Int :=
 if aJ c self n t=0 then (if val v=true then jt c self n t v else (bi,[],0,1)) else (bi,[],0,aJ c self n t)
def ju(c:Config)(self:Int)(n:Node)(t v:Int):Node×List Msg×Int×Int :=
  if aJ c self n t=0 then
    (if (aT c self n t v).2.2.2=0 then ((aT c self n t v).1,mi self (aT c self n t v).1 (aT c self n t v).2.1,(aT c self n t v).2.2.1,0)
     else (bi,[],0,(aT c self n t v).2.2.2))
  else (bi,[],0,aJ c self n t)
def ke(c:Config)(self:Int)(n:Node)(t:Int):Node×Event×Int :=
  if aJ c self n t=0 then
    (match (be n t).queue with
     | []=>(bi,dw,10)
     | x::r=>(cA n t { be n t with queue:=r },x,0))
  else (bi,dw,aJ c self n t)
set_option linter.defProp false
theorem ba{p:Config→Prop}(h: ∀x,p x): ∀a0 a1 a2 a3 a4 a5 a6,p (Config.mk a0 a1 a2 a3 a4 a5 a6):=fun _ _ _ _ _ _ _=>h _
theorem TF{p:Peer→Prop}(h: ∀x,p x): ∀a0 a1,p (Peer.mk a0 a1):=fun _ _=>h _
theorem Um{p:Kid→Prop}(h: ∀x,p x): ∀a0 a1 a2,p (Kid.mk a0 a1 a2):=fun _ _ _=>h _
theorem QJ{p:Item→Prop}(h: ∀x,p x): ∀a0 a1,p (Item.mk a0 a1):=fun _ _=>h _
theorem qZ{p:Event→Prop}(h: ∀x,p x): ∀a0 a1 a2 a3 a4 a5,p (Event.mk a0 a1 a2 a3 a4 a5):=fun _ _ _ _ _ _=>h _
theorem il{p:Stream→Prop}(h: ∀x,p x): ∀a0 a1 a2 a3 a4,p (Stream.mk a0 a1 a2 a3 a4):=fun _ _ _ _ _=>h _
theorem TG{p:Mark→Prop}(h: ∀x,p x): ∀a0 a1 a2,p (Mark.mk a0 a1 a2):=fun _ _ _=>h _
theorem S9{p:Mark2→Prop}(h: ∀x,p x): ∀a0 a1 a2 a3 a4,p (Mark2.mk a0 a1 a2 a3 a4):=fun _ _ _ _ _=>h _
theorem dh{p:Topic→Prop}(h: ∀x,p x): ∀a0 a1 a2 a3 a4 a5 a6 a7 a8 a9 a10 a11 a12 a13 a14 a15,p (Topic.mk a0 a1 a2 a3 a4 a5 a6 a7 a8 a9 (Stream.mk a10 a11 a12 a13 a14) a15):=fun _ _ _ _ _ _ _ _ _ _ _ _ _ _ _ _=>h _
theorem cD{p:Node→Prop}(h: ∀x,p x): ∀a0 a1 a2 a3 a4 a5 a6 a7 a8,p (Node.mk a0 a1 a2 a3 a4 a5 a6 a7 a8):=fun _ _ _ _ _ _ _ _ _=>h _
theorem vd{p:Msg→Prop}(h: ∀x,p x): ∀a0 a1 a2 a3 a4 a5 a6 a7 a8 a9 a10 a11 a12 a13 a14 a15,p (Msg.mk a0 a1 a2 a3 a4 a5 a6 a7 a8 a9 a10 a11 a12 a13 a14 a15):=fun _ _ _ _ _ _ _ _ _ _ _ _ _ _ _ _=>h _
def RR:=And.intro @UV (And.intro @mk0 (And.intro @mk1 (And.intro @mk2 (And.intro @Uj (And.intro @Uk (And.intro @Tz (And.intro @TA (And.intro @U7 (And.intro @U8 (And.intro @U9 (And.intro @List.cons_append.{0} (And.intro @List.nil_append.{0} (And.intro @Config.row_eq (And.intro @Peer.row_eq (And.intro @Kid.row_eq (And.intro @Item.row_eq (And.intro @Event.row_eq (And.intro @Stream.row_eq (And.intro @Call.row_eq (And.intro @Mark.row_eq (And.intro @Mark2.row_eq (And.intro @Topic.row_eq (And.intro @Node.row_eq (And.intro @Msg.row_eq (And.intro @Step.row_eq (And.intro @By.row_eq (And.intro @Frame.row_eq (And.intro @World.row_eq (@Ans.row_eq)))))))))))))))))))))))))))))
def S0:=And.intro @T9 (And.intro @RS (And.intro @Qn (And.intro @RT (And.intro @RU (And.intro @Ta (And.intro @Tb (And.intro @Tc (And.intro @RV (And.intro @Td (And.intro @RW (And.intro @RX (And.intro @Qp (And.intro @RY (And.intro @Qq (And.intro @RZ (And.intro @Qt (And.intro @Qr (And.intro @Qs (And.intro @Te (And.intro @Tf (And.intro @Tg (And.intro @Th (And.intro @eo (And.intro @Ti (And.intro @Tj (And.intro @Tk (And.intro @Tl (And.intro @Tm (And.intro @Tn (And.intro @Ud (And.intro @Ue (And.intro @Tp (And.intro @Ub (And.intro @S4 (And.intro @GY (And.intro @Uc (And.intro @jm (And.intro @bh (And.intro @S5 (And.intro @S6 (And.intro @S7 (And.intro @S8 (And.intro @Qx (And.intro @Qy (And.intro @Qz (And.intro @zn (And.intro @zo (And.intro @xi (And.intro @HW (And.intro @Np (And.intro @Pr (And.intro @da (And.intro @L3 (And.intro @HX (And.intro @Nq (And.intro @Nr (And.intro @L4 (And.intro @L5 (And.intro @Ns (And.intro @uI (And.intro @Nt (And.intro @QF (And.intro @L6 (And.intro @L7 (@Ps)))))))))))))))))))))))))))))))))))))))))))))))))))))))))))))))))
def SB:=And.intro @S0 (@Bq)
def S1:=And.intro @decide_eq_true_eq (And.intro @decide_eq_false_iff_not (And.intro @Bool.not_eq_eq_eq_not (And.intro @Bool.not_true (And.intro @Bool.not_false (And.intro @Bool.false_eq_true (And.intro @Bool.true_eq_false (And.intro @false_implies (And.intro @true_implies (And.intro @true_and (And.intro @and_true (And.intro @not_true_eq_false (And.intro @not_false_eq_true (And.intro @decide_true (And.intro @decide_false (And.intro @UR (And.intro @US (And.intro @UT (And.intro @UU (And.intro @Ua (And.intro @T7 (And.intro @T8 (And.intro @U7 (And.intro @U8 (And.intro @U9 (And.intro @TB (And.intro @TC (And.intro @TD (And.intro @TE (And.intro @Config.row_eq (And.intro @Config.eta (And.intro @Peer.row_eq (And.intro @Peer.eta (And.intro @Kid.row_eq (And.intro @Kid.eta (And.intro @Item.row_eq (And.intro @Item.eta (And.intro @Event.row_eq (And.intro @Event.eta (And.intro @Stream.row_eq (And.intro @Stream.eta (And.intro @Call.row_eq (And.intro @Call.eta (And.intro @Mark.row_eq (And.intro @Mark.eta (And.intro @Mark2.row_eq (And.intro @Mark2.eta (And.intro @Topic.row_eq (And.intro @Topic.eta (And.intro @Node.row_eq (And.intro @Node.eta (And.intro @Msg.row_eq (And.intro @Msg.eta (And.intro @Step.row_eq (And.intro @Step.eta (And.intro @By.row_eq (And.intro @By.eta (And.intro @Frame.row_eq (And.intro @Frame.eta (And.intro @World.row_eq (And.intro @World.eta (And.intro @Ans.row_eq (And.intro @Ans.eta (And.intro @eq_self.{1} (And.intro @if_true.{1} (And.intro @if_false.{1} (And.intro @implies_true.{0} (@implies_true.{1})))))))))))))))))))))))))))))))))))))))))))))))))))))))))))))))))))
def S2:=And.intro @Tq (And.intro @Ug (And.intro @Tr (And.intro @Uh (And.intro @Ui (And.intro @Ts (And.intro @Tt (@ite_self.{1})))))))
def S3:=And.intro @Tu (And.intro @Tv (And.intro @Tw (@Uf)))
def LN:=And.intro @List.length_cons.{0} (And.intro @List.length_nil.{0} (@List.length_append.{0}))
end Go.Xt
