/- Steps towards the statements of this seat; the conditions stand in each theorem. -/
import Derived.Test.YtbobikmalojafaaGreatDoorTh
import Derived.Test.YtbobikmalojafaaGreatDoorV7
set_option linter.unusedSimpArgs false
set_option linter.unusedVariables false
namespace Go.Xt
def TT:List Int:=[1462484242049070477,1775212608919665246,3535639072113518480,3725500155902745375]
def NN:List Int:=[2342812313538366385,1863050908023769503,81111313352671826,2434324899588211290,2454816673080883147,1342378062264523301,820659310660760249,2006264061484817761]
def tt(t:Int):Int:=TT.getD t.toNat 0
def nn(n:Int):Int:=NN.getD n.toNat 0
def isT(v:Int):Bool:=decide (0≤v)&&decide (v<4)
def isN(v:Int):Bool:=decide (0≤v)&&decide (v<8)
def far(k n:Int):Int:=if n-k<0 then n-k+4611686018427387904 else n-k
def gap(t n:Int):Int:=far (tt t) (nn n)
def cq(t a b:Int):Bool:=isT t&&isN a&&isN b&&decide (gap t a<gap t b)
def lx(t:Int):Int→List Int→Bool
 | _,[]=>true
 | n,x::xs=>cq t x n&&lx t x xs
def chk(t n:Int)(xs:List Int)(c:Int):Int :=
 if (isT t&&isN n&&decide (1≤c)&&decide (c≤8)&&xs.all isN)=true then
  if xs.length>c then 12 else if lx t n xs=true then 0 else 1
 else 1
def HI(t n:Int)(xs:List Int)(c:Int):Int :=
 if xs.all isN=true then if xs.length>c then 12 else if lx t n xs=true then 0 else 1 else 1
def par(rows:List (List Int))(i:Int):Int:=match rows[i.toNat]? with | some (x::_)=>x | _=> -1
def isK(k:Int):Bool:=decide (0≤k)&&decide (k<4611686018427387904)
def fL(t:Int):Int→List Int→Int
 | b,[]=>b
 | b,x::r=>fL t (if cq t x b=true then x else b) r
def ly(t:Int)(l:List Int):Int×Int :=
 if isT t=true then if l.all isN=true then match l with | []=>(0,7) | x::_=>(fL t x l,0) else (0,1) else (0,1)
def kK:Int→List Int→Bool
 | _,[]=>true
 | p,x::r=>isN x&&decide (p<x)&&kK x r
def BD(live:List Int)(self:Int):Int:=if (kK (-1) live&&live.contains self)=true then 0 else 1
def jh(k:Int):Int→Int→List Int→Int
 | b,_,[]=>b
 | b,d,n::r=>if b<0∨far k (nn n)<d then jh k n (far k (nn n)) r else jh k b d r
def pO(live:List Int)(k:Int):Int:=jh k (-1) 0 live
def bW(self:Int):Int→Int→List Int→Int
 | b,_,[]=>b
 | b,d,n::r=>if n≠self∧(b<0∨far (nn n) (nn self)<d) then bW self n (far (nn n) (nn self)) r else bW self b d r
def dB(live:List Int)(self:Int):Int:=bW self (-1) 0 live
def rh(self:Int)(i:Nat):Int:=far (2 ^ i) (nn self)
def jC:Int→List Int→List Int
 | _,[]=>[]
 | p,y::r=>if y=p then jC p r else y::jC y r
def bd:List Int→List Int
 | []=>[]
 | x::r=>x::jC x r
def jD(l:List Int):List Int:=l.mergeSort fun x y=>decide (x≤y)
def nN:List Int:=[0,1,2,3,4,5,6,7]
def oW(live:List Int)(self:Int)(k:Nat):List Int:=((List.range k).map fun i=>pO live (rh self i)).filter fun n=>decide (n≠self)
def hD(live:List Int)(self:Int):List Int:=nN.filter fun n=>(oW live self 62).contains n
def br(t:Int)(live:List Int)(self:Int):Int :=
 if fL t self (hD live self++[dB live self])=self then -1 else fL t self (hD live self++[dB live self])
def lW(t:Int)(live:List Int)(self:Int):Int:=if BD live self=0 then (if isT t=true then 0 else 1) else BD live self
structure Config where
 nodes:Int
 topics:Int
 kids:Int
 depth:Int
 keep:Int
 window:Int
 queue:Int
 deriving DecidableEq,Inhabited
instance:Row Config:=⟨7,fun x=>[I x.nodes,I x.topics,I x.kids,I x.depth,I x.keep,I x.window,I x.queue],fun _=>rfl,by
 rintro ⟨_,_,_,_,_,_,_⟩ ⟨_,_,_,_,_,_,_⟩ h;simpa[eU,and_assoc] using h⟩
instance:RowW Config 7:=⟨rfl⟩
theorem Config.row_eq(x:Config):Row.row x=[I x.nodes,I x.topics,I x.kids,I x.depth,I x.keep,I x.window,I x.queue]:=rfl
theorem Config.eta(x:Config):Config.mk x.nodes x.topics x.kids x.depth x.keep x.window x.queue=x:=rfl
theorem Config.eq_iff(x y:Config):(x=y)=(x.nodes=y.nodes∧x.topics=y.topics∧x.kids=y.kids∧x.depth=y.depth∧x.keep=y.keep∧x.window=y.window∧x.queue=y.queue):=by cases x;cases y;simp
theorem Config.deq(x y:Config):(decide (x.nodes=y.nodes)&&(decide (x.topics=y.topics)&&(decide (x.kids=y.kids)&&(decide (x.depth=y.depth)&&(decide (x.keep=y.keep)&&(decide (x.window=y.window)&&decide (x.queue=y.queue)))))))=decide (x=y):=by rw[Bool.eq_iff_iff];simp[Config.eq_iff]
theorem BE{k:PV→Prop}{a_nodes:Int}{a_topics:Int}{a_kids:Int}{a_depth:Int}{a_keep:Int}{a_window:Int}{a_queue:Int}:OP (.rows 7) [I a_nodes,I a_topics,I a_kids,I a_depth,I a_keep,I a_window,I a_queue] k=k (L [(Config.mk a_nodes a_topics a_kids a_depth a_keep a_window a_queue)]):=az (by simp[ev,bV,L,Row.row])
structure Peer where
 inc:Int
 age:Int
 deriving DecidableEq,Inhabited
instance:Row Peer:=⟨2,fun x=>[I x.inc,I x.age],fun _=>rfl,by
 rintro ⟨_,_⟩ ⟨_,_⟩ h;simpa[eU,and_assoc] using h⟩
instance:RowW Peer 2:=⟨rfl⟩
theorem Peer.row_eq(x:Peer):Row.row x=[I x.inc,I x.age]:=rfl
theorem Peer.eta(x:Peer):Peer.mk x.inc x.age=x:=rfl
theorem Peer.eq_iff(x y:Peer):(x=y)=(x.inc=y.inc∧x.age=y.age):=by cases x;cases y;simp
theorem Peer.deq(x y:Peer):(decide (x.inc=y.inc)&&decide (x.age=y.age))=decide (x=y):=by rw[Bool.eq_iff_iff];simp[Peer.eq_iff]
theorem G0{k:PV→Prop}{a_inc:Int}{a_age:Int}:OP (.rows 2) [I a_inc,I a_age] k=k (L [(Peer.mk a_inc a_age)]):=az (by simp[ev,bV,L,Row.row])
structure Kid where
 node:Int
 inc:Int
 age:Int
 deriving DecidableEq,Inhabited
instance:Row Kid:=⟨3,fun x=>[I x.node,I x.inc,I x.age],fun _=>rfl,by
 rintro ⟨_,_,_⟩ ⟨_,_,_⟩ h;simpa[eU,and_assoc] using h⟩
instance:RowW Kid 3:=⟨rfl⟩
theorem Kid.row_eq(x:Kid):Row.row x=[I x.node,I x.inc,I x.age]:=rfl
theorem Kid.eta(x:Kid):Kid.mk x.node x.inc x.age=x:=rfl
theorem Kid.eq_iff(x y:Kid):(x=y)=(x.node=y.node∧x.inc=y.inc∧x.age=y.age):=by cases x;cases y;simp
theorem Kid.deq(x y:Kid):(decide (x.node=y.node)&&(decide (x.inc=y.inc)&&decide (x.age=y.age)))=decide (x=y):=by rw[Bool.eq_iff_iff];simp[Kid.eq_iff]
theorem HJ{k:PV→Prop}{a_node:Int}{a_inc:Int}{a_age:Int}:OP (.rows 3) [I a_node,I a_inc,I a_age] k=k (L [(Kid.mk a_node a_inc a_age)]):=az (by simp[ev,bV,L,Row.row])
structure Item where
 seq:Int
 value:Int
 deriving DecidableEq,Inhabited
instance:Row Item:=⟨2,fun x=>[I x.seq,I x.value],fun _=>rfl,by
 rintro ⟨_,_⟩ ⟨_,_⟩ h;simpa[eU,and_assoc] using h⟩
instance:RowW Item 2:=⟨rfl⟩
theorem Item.row_eq(x:Item):Row.row x=[I x.seq,I x.value]:=rfl
theorem Item.eta(x:Item):Item.mk x.seq x.value=x:=rfl
theorem Item.eq_iff(x y:Item):(x=y)=(x.seq=y.seq∧x.value=y.value):=by cases x;cases y;simp
theorem Item.deq(x y:Item):(decide (x.seq=y.seq)&&decide (x.value=y.value))=decide (x=y):=by rw[Bool.eq_iff_iff];simp[Item.eq_iff]
theorem G1{k:PV→Prop}{a_seq:Int}{a_value:Int}:OP (.rows 2) [I a_seq,I a_value] k=k (L [(Item.mk a_seq a_value)]):=az (by simp[ev,bV,L,Row.row])
structure Event where
 kind:Int
 epoch:Int
 seq:Int
 last:Int
 value:Int
 count:Int
 deriving DecidableEq,Inhabited
instance:Row Event:=⟨6,fun x=>[I x.kind,I x.epoch,I x.seq,I x.last,I x.value,I x.count],fun _=>rfl,by
 rintro ⟨_,_,_,_,_,_⟩ ⟨_,_,_,_,_,_⟩ h;simpa[eU,and_assoc] using h⟩
instance:RowW Event 6:=⟨rfl⟩
theorem Event.row_eq(x:Event):Row.row x=[I x.kind,I x.epoch,I x.seq,I x.last,I x.value,I x.count]:=rfl
theorem Event.eta(x:Event):Event.mk x.kind x.epoch x.seq x.last x.value x.count=x:=rfl
theorem Event.eq_iff(x y:Event):(x=y)=(x.kind=y.kind∧x.epoch=y.epoch∧x.seq=y.seq∧x.last=y.last∧x.value=y.value∧x.count=y.count):=by cases x;cases y;simp
theorem Event.deq(x y:Event):(decide (x.kind=y.kind)&&(decide (x.epoch=y.epoch)&&(decide (x.seq=y.seq)&&(decide (x.last=y.last)&&(decide (x.value=y.value)&&decide (x.count=y.count))))))=decide (x=y):=by rw[Bool.eq_iff_iff];simp[Event.eq_iff]
theorem E5{k:PV→Prop}{a_kind:Int}{a_epoch:Int}{a_seq:Int}{a_last:Int}{a_value:Int}{a_count:Int}:OP (.rows 6) [I a_kind,I a_epoch,I a_seq,I a_last,I a_value,I a_count] k=k (L [(Event.mk a_kind a_epoch a_seq a_last a_value a_count)]):=az (by simp[ev,bV,L,Row.row])
structure Stream where
 epoch:Int
 want:Int
 known:Int
 kept:List Item
 ahead:List Item
 deriving DecidableEq,Inhabited
instance:Row Stream:=⟨5,fun x=>[I x.epoch,I x.want,I x.known,L x.kept,L x.ahead],fun _=>rfl,by
 rintro ⟨_,_,_,_,_⟩ ⟨_,_,_,_,_⟩ h;simpa[eU,and_assoc] using h⟩
instance:RowW Stream 5:=⟨rfl⟩
theorem Stream.row_eq(x:Stream):Row.row x=[I x.epoch,I x.want,I x.known,L x.kept,L x.ahead]:=rfl
theorem Stream.eta(x:Stream):Stream.mk x.epoch x.want x.known x.kept x.ahead=x:=rfl
theorem Stream.eq_iff(x y:Stream):(x=y)=(x.epoch=y.epoch∧x.want=y.want∧x.known=y.known∧x.kept=y.kept∧x.ahead=y.ahead):=by cases x;cases y;simp
theorem BF{k:PV→Prop}{a_epoch:Int}{a_want:Int}{a_known:Int}{a_kept:List Item}{a_ahead:List Item}:OP (.rows 5) [I a_epoch,I a_want,I a_known,L a_kept,L a_ahead] k=k (L [(Stream.mk a_epoch a_want a_known a_kept a_ahead)]):=az (by simp[ev,bV,L,Row.row])
structure Call where
 count:Int
 topic:Int
 age:Int
 deriving DecidableEq,Inhabited
instance:Row Call:=⟨3,fun x=>[I x.count,I x.topic,I x.age],fun _=>rfl,by
 rintro ⟨_,_,_⟩ ⟨_,_,_⟩ h;simpa[eU,and_assoc] using h⟩
instance:RowW Call 3:=⟨rfl⟩
theorem Call.row_eq(x:Call):Row.row x=[I x.count,I x.topic,I x.age]:=rfl
theorem Call.eta(x:Call):Call.mk x.count x.topic x.age=x:=rfl
theorem Call.eq_iff(x y:Call):(x=y)=(x.count=y.count∧x.topic=y.topic∧x.age=y.age):=by cases x;cases y;simp
theorem Call.deq(x y:Call):(decide (x.count=y.count)&&(decide (x.topic=y.topic)&&decide (x.age=y.age)))=decide (x=y):=by rw[Bool.eq_iff_iff];simp[Call.eq_iff]
theorem rI{k:PV→Prop}{a_count:Int}{a_topic:Int}{a_age:Int}:OP (.rows 3) [I a_count,I a_topic,I a_age] k=k (L [(Call.mk a_count a_topic a_age)]):=az (by simp[ev,bV,L,Row.row])
structure Mark where
 inc:Int
 pubs:Int
 met:Int
 deriving DecidableEq,Inhabited
instance:Row Mark:=⟨3,fun x=>[I x.inc,I x.pubs,I x.met],fun _=>rfl,by
 rintro ⟨_,_,_⟩ ⟨_,_,_⟩ h;simpa[eU,and_assoc] using h⟩
instance:RowW Mark 3:=⟨rfl⟩
theorem Mark.row_eq(x:Mark):Row.row x=[I x.inc,I x.pubs,I x.met]:=rfl
theorem Mark.eta(x:Mark):Mark.mk x.inc x.pubs x.met=x:=rfl
theorem Mark.eq_iff(x y:Mark):(x=y)=(x.inc=y.inc∧x.pubs=y.pubs∧x.met=y.met):=by cases x;cases y;simp
theorem Mark.deq(x y:Mark):(decide (x.inc=y.inc)&&(decide (x.pubs=y.pubs)&&decide (x.met=y.met)))=decide (x=y):=by rw[Bool.eq_iff_iff];simp[Mark.eq_iff]
theorem G2{k:PV→Prop}{a_inc:Int}{a_pubs:Int}{a_met:Int}:OP (.rows 3) [I a_inc,I a_pubs,I a_met] k=k (L [(Mark.mk a_inc a_pubs a_met)]):=az (by simp[ev,bV,L,Row.row])
structure Mark2 where
 node:Int
 inc:Int
 count:Int
 topic:Int
 value:Int
 deriving DecidableEq,Inhabited
instance:Row Mark2:=⟨5,fun x=>[I x.node,I x.inc,I x.count,I x.topic,I x.value],fun _=>rfl,by
 rintro ⟨_,_,_,_,_⟩ ⟨_,_,_,_,_⟩ h;simpa[eU,and_assoc] using h⟩
instance:RowW Mark2 5:=⟨rfl⟩
theorem Mark2.row_eq(x:Mark2):Row.row x=[I x.node,I x.inc,I x.count,I x.topic,I x.value]:=rfl
theorem Mark2.eta(x:Mark2):Mark2.mk x.node x.inc x.count x.topic x.value=x:=rfl
theorem Mark2.eq_iff(x y:Mark2):(x=y)=(x.node=y.node∧x.inc=y.inc∧x.count=y.count∧x.topic=y.topic∧x.value=y.value):=by cases x;cases y;simp
theorem Mark2.deq(x y:Mark2):(decide (x.node=y.node)&&(decide (x.inc=y.inc)&&(decide (x.count=y.count)&&(decide (x.topic=y.topic)&&decide (x.value=y.value)))))=decide (x=y):=by rw[Bool.eq_iff_iff];simp[Mark2.eq_iff]
theorem E6{k:PV→Prop}{a_node:Int}{a_inc:Int}{a_count:Int}{a_topic:Int}{a_value:Int}:OP (.rows 5) [I a_node,I a_inc,I a_count,I a_topic,I a_value] k=k (L [(Mark2.mk a_node a_inc a_count a_topic a_value)]):=az (by simp[ev,bV,L,Row.row])
structure Topic where
 made:Bool
 sub:Bool
 top:Int
 root:Int
 parent:Int
 asked:Int
 other:Int
 age:Int
 path:List Int
 kids:List Kid
 stream:Stream
 queue:List Event
 deriving DecidableEq,Inhabited
instance:Row Topic:=⟨16,fun x=>[bb x.made,bb x.sub,I x.top,I x.root,I x.parent,I x.asked,I x.other,I x.age,L x.path,L x.kids,I x.stream.epoch,I x.stream.want,I x.stream.known,L x.stream.kept,L x.stream.ahead,L x.queue],fun _=>rfl,by
 rintro ⟨_,_,_,_,_,_,_,_,_,_,⟨_,_,_,_,_⟩,_⟩ ⟨_,_,_,_,_,_,_,_,_,_,⟨_,_,_,_,_⟩,_⟩ h;simpa[eU,and_assoc] using h⟩
instance:RowW Topic 16:=⟨rfl⟩
theorem Topic.row_eq(x:Topic):Row.row x=[bb x.made,bb x.sub,I x.top,I x.root,I x.parent,I x.asked,I x.other,I x.age,L x.path,L x.kids,I x.stream.epoch,I x.stream.want,I x.stream.known,L x.stream.kept,L x.stream.ahead,L x.queue]:=rfl
theorem Topic.eta(x:Topic):Topic.mk x.made x.sub x.top x.root x.parent x.asked x.other x.age x.path x.kids x.stream x.queue=x:=rfl
theorem Topic.eq_iff(x y:Topic):(x=y)=(x.made=y.made∧x.sub=y.sub∧x.top=y.top∧x.root=y.root∧x.parent=y.parent∧x.asked=y.asked∧x.other=y.other∧x.age=y.age∧x.path=y.path∧x.kids=y.kids∧x.stream=y.stream∧x.queue=y.queue):=by cases x;cases y;simp
theorem E7{k:PV→Prop}{a_made:Bool}{a_sub:Bool}{a_top:Int}{a_root:Int}{a_parent:Int}{a_asked:Int}{a_other:Int}{a_age:Int}{a_path:List Int}{a_kids:List Kid}{a_stream_epoch:Int}{a_stream_want:Int}{a_stream_known:Int}{a_stream_kept:List Item}{a_stream_ahead:List Item}{a_queue:List Event}:OP (.rows 16) [bb a_made,bb a_sub,I a_top,I a_root,I a_parent,I a_asked,I a_other,I a_age,L a_path,L a_kids,I a_stream_epoch,I a_stream_want,I a_stream_known,L a_stream_kept,L a_stream_ahead,L a_queue] k=k (L [(Topic.mk a_made a_sub a_top a_root a_parent a_asked a_other a_age a_path a_kids (Stream.mk a_stream_epoch a_stream_want a_stream_known a_stream_kept a_stream_ahead) a_queue)]):=az (by simp[ev,bV,L,Row.row])
structure Node where
 up:Bool
 inc:Int
 peers:List Peer
 topics:List Topic
 calls:List Call
 pubs:Int
 asks:Int
 marks:List Mark
 taken:List Mark2
 deriving DecidableEq,Inhabited
instance:Row Node:=⟨9,fun x=>[bb x.up,I x.inc,L x.peers,L x.topics,L x.calls,I x.pubs,I x.asks,L x.marks,L x.taken],fun _=>rfl,by
 rintro ⟨_,_,_,_,_,_,_,_,_⟩ ⟨_,_,_,_,_,_,_,_,_⟩ h;simpa[eU,and_assoc] using h⟩
instance:RowW Node 9:=⟨rfl⟩
theorem Node.row_eq(x:Node):Row.row x=[bb x.up,I x.inc,L x.peers,L x.topics,L x.calls,I x.pubs,I x.asks,L x.marks,L x.taken]:=rfl
theorem Node.eta(x:Node):Node.mk x.up x.inc x.peers x.topics x.calls x.pubs x.asks x.marks x.taken=x:=rfl
theorem Node.eq_iff(x y:Node):(x=y)=(x.up=y.up∧x.inc=y.inc∧x.peers=y.peers∧x.topics=y.topics∧x.calls=y.calls∧x.pubs=y.pubs∧x.asks=y.asks∧x.marks=y.marks∧x.taken=y.taken):=by cases x;cases y;simp
theorem G3{k:PV→Prop}{a_up:Bool}{a_inc:Int}{a_peers:List Peer}{a_topics:List Topic}{a_calls:List Call}{a_pubs:Int}{a_asks:Int}{a_marks:List Mark}{a_taken:List Mark2}:OP (.rows 9) [bb a_up,I a_inc,L a_peers,L a_topics,L a_calls,I a_pubs,I a_asks,L a_marks,L a_taken] k=k (L [(Node.mk a_up a_inc a_peers a_topics a_calls a_pubs a_asks a_marks a_taken)]):=az (by simp[ev,bV,L,Row.row])
structure Msg where
 kind:Int
 frm:Int
 fromInc:Int
 to:Int
 toInc:Int
 topic:Int
 epoch:Int
 seq:Int
 last:Int
 value:Int
 node:Int
 inc:Int
 count:Int
 hops:Int
 path:List Int
 todo:List Int
 deriving DecidableEq,Inhabited
instance:Row Msg:=⟨16,fun x=>[I x.kind,I x.frm,I x.fromInc,I x.to,I x.toInc,I x.topic,I x.epoch,I x.seq,I x.last,I x.value,I x.node,I x.inc,I x.count,I x.hops,L x.path,L x.todo],fun _=>rfl,by
 rintro ⟨_,_,_,_,_,_,_,_,_,_,_,_,_,_,_,_⟩ ⟨_,_,_,_,_,_,_,_,_,_,_,_,_,_,_,_⟩ h;simpa[eU,and_assoc] using h⟩
instance:RowW Msg 16:=⟨rfl⟩
theorem Msg.row_eq(x:Msg):Row.row x=[I x.kind,I x.frm,I x.fromInc,I x.to,I x.toInc,I x.topic,I x.epoch,I x.seq,I x.last,I x.value,I x.node,I x.inc,I x.count,I x.hops,L x.path,L x.todo]:=rfl
theorem Msg.eta(x:Msg):Msg.mk x.kind x.frm x.fromInc x.to x.toInc x.topic x.epoch x.seq x.last x.value x.node x.inc x.count x.hops x.path x.todo=x:=rfl
theorem Msg.eq_iff(x y:Msg):(x=y)=(x.kind=y.kind∧x.frm=y.frm∧x.fromInc=y.fromInc∧x.to=y.to∧x.toInc=y.toInc∧x.topic=y.topic∧x.epoch=y.epoch∧x.seq=y.seq∧x.last=y.last∧x.value=y.value∧x.node=y.node∧x.inc=y.inc∧x.count=y.count∧x.hops=y.hops∧x.path=y.path∧x.todo=y.todo):=by cases x;cases y;simp
theorem zW{k:PV→Prop}{a_kind:Int}{a_frm:Int}{a_fromInc:Int}{a_to:Int}{a_toInc:Int}{a_topic:Int}{a_epoch:Int}{a_seq:Int}{a_last:Int}{a_value:Int}{a_node:Int}{a_inc:Int}{a_count:Int}{a_hops:Int}{a_path:List Int}{a_todo:List Int}:OP (.rows 16) [I a_kind,I a_frm,I a_fromInc,I a_to,I a_toInc,I a_topic,I a_epoch,I a_seq,I a_last,I a_value,I a_node,I a_inc,I a_count,I a_hops,L a_path,L a_todo] k=k (L [(Msg.mk a_kind a_frm a_fromInc a_to a_toInc a_topic a_epoch a_seq a_last a_value a_node a_inc a_count a_hops a_path a_todo)]):=az (by simp[ev,bV,L,Row.row])
structure Step where
 kind:Int
 node:Int
 topic:Int
 value:Int
 mask:Int
 deriving DecidableEq,Inhabited
instance:Row Step:=⟨5,fun x=>[I x.kind,I x.node,I x.topic,I x.value,I x.mask],fun _=>rfl,by
 rintro ⟨_,_,_,_,_⟩ ⟨_,_,_,_,_⟩ h;simpa[eU,and_assoc] using h⟩
instance:RowW Step 5:=⟨rfl⟩
theorem Step.row_eq(x:Step):Row.row x=[I x.kind,I x.node,I x.topic,I x.value,I x.mask]:=rfl
theorem Step.eta(x:Step):Step.mk x.kind x.node x.topic x.value x.mask=x:=rfl
theorem Step.eq_iff(x y:Step):(x=y)=(x.kind=y.kind∧x.node=y.node∧x.topic=y.topic∧x.value=y.value∧x.mask=y.mask):=by cases x;cases y;simp
theorem Step.deq(x y:Step):(decide (x.kind=y.kind)&&(decide (x.node=y.node)&&(decide (x.topic=y.topic)&&(decide (x.value=y.value)&&decide (x.mask=y.mask)))))=decide (x=y):=by rw[Bool.eq_iff_iff];simp[Step.eq_iff]
theorem G4{k:PV→Prop}{a_kind:Int}{a_node:Int}{a_topic:Int}{a_value:Int}{a_mask:Int}:OP (.rows 5) [I a_kind,I a_node,I a_topic,I a_value,I a_mask] k=k (L [(Step.mk a_kind a_node a_topic a_value a_mask)]):=az (by simp[ev,bV,L,Row.row])
structure By where
 n:Int
 deriving DecidableEq,Inhabited
instance:Row By:=⟨1,fun x=>[.int .u8 x.n],fun _=>rfl,by
 rintro ⟨_⟩ ⟨_⟩ h;simpa[eU,and_assoc] using h⟩
instance:RowW By 1:=⟨rfl⟩
theorem By.row_eq(x:By):Row.row x=[.int .u8 x.n]:=rfl
theorem By.eta(x:By):By.mk x.n=x:=rfl
theorem By.eq_iff(x y:By):(x=y)=(x.n=y.n):=by cases x;cases y;simp
theorem By.deq(x y:By):decide (x.n=y.n)=decide (x=y):=by rw[Bool.eq_iff_iff];simp[By.eq_iff]
theorem IV{k:PV→Prop}{a_n:Int}:OP (.rows 1) [.int .u8 a_n] k=k (L [(By.mk a_n)]):=az (by simp[ev,bV,L,Row.row])
structure Frame where
 to:Int
 bytes:List By
 deriving DecidableEq,Inhabited
instance:Row Frame:=⟨2,fun x=>[I x.to,L x.bytes],fun _=>rfl,by
 rintro ⟨_,_⟩ ⟨_,_⟩ h;simpa[eU,and_assoc] using h⟩
instance:RowW Frame 2:=⟨rfl⟩
theorem Frame.row_eq(x:Frame):Row.row x=[I x.to,L x.bytes]:=rfl
theorem Frame.eta(x:Frame):Frame.mk x.to x.bytes=x:=rfl
theorem Frame.eq_iff(x y:Frame):(x=y)=(x.to=y.to∧x.bytes=y.bytes):=by cases x;cases y;simp
theorem E8{k:PV→Prop}{a_to:Int}{a_bytes:List By}:OP (.rows 2) [I a_to,L a_bytes] k=k (L [(Frame.mk a_to a_bytes)]):=az (by simp[ev,bV,L,Row.row])
structure World where
 nodes:List Node
 bag:List Frame
 deriving DecidableEq,Inhabited
instance:Row World:=⟨2,fun x=>[L x.nodes,L x.bag],fun _=>rfl,by
 rintro ⟨_,_⟩ ⟨_,_⟩ h;simpa[eU,and_assoc] using h⟩
instance:RowW World 2:=⟨rfl⟩
theorem World.row_eq(x:World):Row.row x=[L x.nodes,L x.bag]:=rfl
theorem World.eta(x:World):World.mk x.nodes x.bag=x:=rfl
theorem World.eq_iff(x y:World):(x=y)=(x.nodes=y.nodes∧x.bag=y.bag):=by cases x;cases y;simp
theorem E9{k:PV→Prop}{a_nodes:List Node}{a_bag:List Frame}:OP (.rows 2) [L a_nodes,L a_bag] k=k (L [(World.mk a_nodes a_bag)]):=az (by simp[ev,bV,L,Row.row])
structure Ans where
 err:Int
 event:Event
 count:Int
 deriving DecidableEq,Inhabited
instance:Row Ans:=⟨8,fun x=>[I x.err,I x.event.kind,I x.event.epoch,I x.event.seq,I x.event.last,I x.event.value,I x.event.count,I x.count],fun _=>rfl,by
 rintro ⟨_,⟨_,_,_,_,_,_⟩,_⟩ ⟨_,⟨_,_,_,_,_,_⟩,_⟩ h;simpa[eU,and_assoc] using h⟩
instance:RowW Ans 8:=⟨rfl⟩
theorem Ans.row_eq(x:Ans):Row.row x=[I x.err,I x.event.kind,I x.event.epoch,I x.event.seq,I x.event.last,I x.event.value,I x.event.count,I x.count]:=rfl
theorem Ans.eta(x:Ans):Ans.mk x.err x.event x.count=x:=rfl
theorem Ans.eq_iff(x y:Ans):(x=y)=(x.err=y.err∧x.event=y.event∧x.count=y.count):=by cases x;cases y;simp
theorem HK{k:PV→Prop}{a_err:Int}{a_event_kind:Int}{a_event_epoch:Int}{a_event_seq:Int}{a_event_last:Int}{a_event_value:Int}{a_event_count:Int}{a_count:Int}:OP (.rows 8) [I a_err,I a_event_kind,I a_event_epoch,I a_event_seq,I a_event_last,I a_event_value,I a_event_count,I a_count] k=k (L [(Ans.mk a_err (Event.mk a_event_kind a_event_epoch a_event_seq a_event_last a_event_value a_event_count) a_count)]):=az (by simp[ev,bV,L,Row.row])
def rng(n lo hi:Int):Bool:=decide (lo≤n)&&decide (n≤hi)
def bt(c:Config):Bool:=rng c.nodes 1 8&&rng c.topics 1 4&&rng c.kids 1 4&&rng c.depth 1 8&&rng c.keep 1 16&&rng c.window 1 16&&rng c.queue 2 32
def lz(n lo hi why:Int):List Int:=if n<lo∨hi<n then [why] else []
def lA(c:Config):List Int:=lz c.nodes 1 8 13++lz c.topics 1 4 13++lz c.kids 1 4 13++lz c.depth 1 8 13++lz c.keep 1 16 13++lz c.window 1 16 13++lz c.queue 2 32 13
def cnt(n:Int):Bool:=rng n 1 1073741824
def val(n:Int):Bool:=rng n 0 2147483647
def ep(e:Int):Bool:=rng e 1 1073741824&&isN (e % 16)
def jE(p:Peer):Bool:=rng p.inc 0 1073741824&&rng p.age 0 1000
def aT(l:List Peer):Bool:=decide (1≤l.length)&&decide (l.length≤8)&&l.all jE
def cX(t:Int):Int→List Kid→Bool
 | _,[]=>true
 | a,k::r=>cq t a k.node&&cnt k.inc&&rng k.age 0 6&&cX t k.node r
def eW(t self limit:Int)(l:List Kid):Bool:=isT t&&isN self&&rng limit 1 4&&decide (l.length≤limit)&&cX t self l
def jF:Int→List Item→Bool
 | _,[]=>true
 | n,x::r=>decide (x.seq=n)&&val x.value&&jF (n+1) r
def pP(l:List Item)(want limit:Int):Bool:=cnt want&&rng limit 1 16&&decide (l.length≤limit)&&decide (l.length<want)&&jF (want-l.length) l
def oX(m:Int):Int→List Item→Bool
 | _,[]=>true
 | p,x::r=>decide (p<x.seq)&&decide (x.seq<m)&&decide (x.seq<1073741824)&&val x.value&&oX m x.seq r
def lB(l:List Item)(want window:Int):Bool:=cnt want&&rng window 1 16&&oX (want+window) want l
def iG(x:Event):Bool :=
 if x.kind=1 then ep x.epoch&&cnt x.seq&&val x.value&&decide (x.last=0)&&decide (x.count=0)
 else if x.kind=2 then ep x.epoch&&cnt x.seq&&rng x.last x.seq 1073741824&&decide (x.value=0)&&decide (x.count=0)
 else if x.kind=3 then rng x.count 1 40&&isN x.value&&decide (x.epoch=0)&&decide (x.seq=0)&&decide (x.last=0)
 else if x.kind=4 then rng x.count 1 40&&decide (x.epoch=0)&&decide (x.seq=0)&&decide (x.last=0)&&decide (x.value=0)
 else decide (x.kind=5)&&decide (x.epoch=0)&&decide (x.seq=0)&&decide (x.last=0)&&decide (x.value=0)&&decide (x.count=0)
def ka(l:List Event):Bool:=match l.getLast? with | some x=>decide (x.kind=2) | none=>false
def cb(l:List Event)(limit:Int):Bool:=rng limit 2 32&&decide (l.length≤limit)&&l.all iG&&(decide (l.length<limit)||ka l)
def kc(s:Stream):Bool:=decide (s.epoch=0)&&decide (s.want=0)&&decide (s.known=0)&&decide (s.kept=[])&&decide (s.ahead=[])
def hR(c:Config)(s:Stream):Bool:=kc s||(ep s.epoch&&cnt s.want&&rng s.known s.want 1073741824&&pP s.kept s.want c.keep&&lB s.ahead s.want c.window)
def hU(c:Config)(s:Stream)(q:List Event):Bool:=hR c s&&cb q c.queue
def dw(t self n:Int):Bool:=decide (n=0)||(decide (0<n)&&cq t (n-1) self)
def jG(self:Int)(x:Topic):Bool:=decide (x.root=0)||(ep x.root&&decide (x.root % 16=self)&&decide (x.root≤x.top)&&decide (x.parent=0)&&decide (x.stream.epoch=x.root))
def hZ(x:Topic):Bool:=match x.path with | []=>decide (x.parent=0) | p::_=>decide (x.parent=IntKind.i64.wrap (p+1))
def ap(c:Config)(t self:Int)(x:Topic):Bool :=
 rng x.top 0 1073741824&&rng x.age 0 1000&&dw t self x.parent&&dw t self x.asked&&dw t self x.other&&jG self x&&hZ x &&
 decide (chk t self x.path c.depth=0)&&eW t self c.kids x.kids&&hU c x.stream x.queue
def eX(c:Config)(t self:Int):Bool:=rng t 0 (c.topics-1)&&rng self 0 (c.nodes-1)
def bD(c:Config)(asks:Int):Int→List Call→Bool
 | _,[]=>true
 | p,x::r=>decide (p<x.count)&&decide (x.count≤asks)&&rng x.topic 0 (c.topics-1)&&rng x.age 0 20&&bD c asks x.count r
def kL(m:Mark):Bool:=rng m.inc 0 1073741824&&rng m.pubs 0 1073741824&&rng m.met 0 2199023255551
def kd(c:Config)(x:Mark2):Bool:=rng x.node 0 (c.nodes-1)&&rng x.topic 0 (c.topics-1)&&cnt x.inc&&cnt x.count&&val x.value
def aN(c:Config)(self:Int):Int→List Topic→Bool
 | _,[]=>true
 | t,x::r=>ap c t self x&&aN c self (t+1) r
def jH(c:Config)(self:Int)(n:Node):Bool :=
 cnt n.inc&&rng n.pubs 0 1073741824&&rng n.asks 0 40&&bD c n.asks 0 n.calls&&decide (n.calls.length≤40) &&
 decide (n.peers.length=c.nodes)&&decide (n.topics.length=c.topics)&&decide (n.marks.length=c.nodes)&&decide (n.taken.length≤64) &&
 aN c self 0 n.topics&&aT n.peers&&n.marks.all kL&&n.taken.all (kd c)
def ba(c:Config)(self:Int)(n:Node):Int :=
 if bt c=true then (if (rng self 0 (c.nodes-1)&&n.up)=true then (if jH c self n=true then 0 else 1) else 9) else 13
def eY:Topic:=⟨false,false,0,0,0,0,0,0,[],[],⟨0,0,0,[],[]⟩,[]⟩
theorem pQ{n:Int}{k:PV→Prop}(h0:0≤n)(h1:n≤1000):OP (.repl 16 [(.int .i64 0),(.int .i64 0)]) [I n] k=k (L (List.replicate n.toNat (⟨0,0⟩:Peer))):=AU rfl h0 (by omega)
theorem pR{n:Int}{k:PV→Prop}(h0:0≤n)(h1:n≤1000):OP (.repl 24 [(.int .i64 0),(.int .i64 0),(.int .i64 0)]) [I n] k=k (L (List.replicate n.toNat (⟨0,0,0⟩:Mark))):=AU rfl h0 (by omega)
theorem nO{n:Int}{k:PV→Prop}(h0:0≤n)(h1:n≤1000):OP (.repl 200 [(.bool false),(.bool false),(.int .i64 0),(.int .i64 0),(.int .i64 0),(.int .i64 0),(.int .i64 0),(.int .i64 0),.nil,.nil,(.int .i64 0),(.int .i64 0),(.int .i64 0),.nil,.nil,.nil]) [I n] k=k (L (List.replicate n.toNat eY)):=AU rfl h0 (by omega)
def sN(s:Stream)(q:List Event):Bool:=decide (s.kept.length>30)||decide (s.ahead.length>30)||decide (q.length>50)
def dO(x:Topic):Bool:=decide (x.path.length>20)||decide (x.kids.length>20)||sN x.stream x.queue
def bj(n:Node):Bool:=decide (n.peers.length>12)||decide (n.topics.length>8)||decide (n.calls.length>60)||decide (n.marks.length>12)||decide (n.taken.length>80)||n.topics.any dO
def Hf(n:Node)(t:Int):Topic:=n.topics.getD t.toNat eY
def nb(x:Event):Bool:=decide (x.kind=1)||decide (x.kind=2)
def IW(c:Config)(x:Topic):Bool:=decide (x.kids.length>c.kids)||decide (x.stream.kept.length>c.keep)||decide (x.stream.ahead.length>c.window)||decide (x.queue.length>c.queue)
def uq:Config:=⟨8,4,2,8,8,8,16⟩
def pe(x:Event):Event:=if x.kind=1 then ⟨2,x.epoch,x.seq,x.seq,0,0⟩ else if x.kind=2 then x else ⟨0,0,0,0,0,0⟩
def wk:Event:=⟨0,0,0,0,0,0⟩
def wm(l:List Event)(limit:Int)(x:Event):List Event×Int :=
 if (cb l limit&&iG x)=true then
  if (l.length:Int)<limit-1 then (l++[x],0)
  else if nb x=true then
   if (l.length:Int)<limit then (l++[pe x],0)
   else if (pe x).epoch=(l.getD (limit-1).toNat wk).epoch∧(pe x).seq=IntKind.i64.wrap ((l.getD (limit-1).toNat wk).last+1) then
    (l.set (limit-1).toNat { (l.getD (limit-1).toNat wk) with last:=(pe x).last },0)
   else ([],6)
  else ([],6)
 else ([],1)
def tJ(l:List Event)(limit:Int)(x:Event):List Event:=if (wm l limit x).2=0 then (wm l limit x).1 else l
def Ea(l:List Event)(limit:Int)(x:Event):List Event×Bool :=
 if x.kind=3∨x.kind=4 then (if (l.length:Int)<limit-1 then l++[x] else l,decide ((l.length:Int)<limit-1)) else (tJ l limit x,decide ((wm l limit x).2=0))
theorem Lc{l:List Event}{m a b c d e:Int}:(Ea l m ⟨3,a,b,c,d,e⟩).1=if (l.length:Int)<m-1 then l++[⟨3,a,b,c,d,e⟩] else l:=by simp[Ea]
theorem Ld{l:List Event}{m a b c d e:Int}:(Ea l m ⟨3,a,b,c,d,e⟩).2=decide ((l.length:Int)<m-1):=by simp[Ea]
theorem Le{l:List Event}{m a b c d e:Int}:(Ea l m ⟨4,a,b,c,d,e⟩).1=if (l.length:Int)<m-1 then l++[⟨4,a,b,c,d,e⟩] else l:=by simp[Ea]
theorem Lf{l:List Event}{m a b c d e:Int}:(Ea l m ⟨4,a,b,c,d,e⟩).2=decide ((l.length:Int)<m-1):=by simp[Ea]
def qU(n:Node)(o:Int):Bool:=rng o 0 (n.peers.length-1)&&decide ((n.peers.getD o.toNat ⟨0,0⟩).inc≠0)
def ib(l:List Peer)(n:Int):Int:=if aT l=true then (if 0≤n∧n<l.length then 0 else 9) else 1
def gj(self:Int):Int→List Peer→List Int
 | _,[]=>[]
 | i,p::r=>(if i=self∨(0<p.inc∧p.age<4) then [i] else [])++gj self (i+1) r
def cz(l:List Peer)(self:Int):List Int:=gj self 0 l
def wn(c:Config)(l:List Topic)(t:Int)(x:Event):List Topic:=l.set t.toNat { (l.getD t.toNat eY) with queue:=tJ (l.getD t.toNat eY).queue c.queue x }
def eZ:Msg:=⟨0,0,0,0,0,0,0,0,0,0,0,0,0,0,[],[]⟩
def LR:Node:=⟨false,0,[],[],[],0,0,[],[]⟩
def rJ(m:Msg):Bool:=isN m.frm&&isN m.to&&decide (m.frm≠m.to)&&cnt m.fromInc
def ri(l:List Int):Bool:=decide (l.length≤8)&&l.all isN&&decide l.Nodup
def tK(m:Msg):Bool:=rng m.epoch 1 1073741824&&cnt m.seq
def tL(m:Msg):Bool:=isN m.node&&cnt m.inc&&val m.value&&rng m.hops 0 16
def jT(m:Msg):Msg×Bool :=
 if m.kind=1∨m.kind=5∨m.kind=6 then (m,true)
 else if m.kind=2 then ({ m with epoch:=0 },rng m.epoch 0 1073741824)
 else if m.kind=3 then ({ m with epoch:=0,seq:=0,last:=0,path:=[] },rng m.epoch 0 1073741824&&cnt m.seq&&rng m.last 0 1073741824&&decide (0<m.path.length)&&ri m.path&&decide (m.path.getD 0 0=m.frm))
 else if m.kind=4 then ({ m with node:=0 },isN m.node&&decide (m.node≠m.frm)&&decide (m.node≠m.to))
 else if m.kind=7 then ({ m with epoch:=0,seq:=0,value:=0 },tK m&&val m.value)
 else if m.kind=8 then ({ m with epoch:=0,seq:=0 },tK m)
 else if m.kind=9 then ({ m with epoch:=0,seq:=0,last:=0 },tK m&&rng m.last m.seq 1073741824)
 else if m.kind=10 then ({ m with node:=0,inc:=0,count:=0,value:=0,hops:=0 },tL m&&cnt m.count)
 else if m.kind=11 then ({ m with node:=0,inc:=0,count:=0,value:=0,hops:=0,path:=[],todo:=[] },tL m&&rng m.count 1 40&&ri m.path&&ri m.todo&&decide (m.path++m.todo).Nodup)
 else if m.kind=12 then ({ m with count:=0,value:=0 },rng m.count 1 40&&isN m.value)
 else if m.kind=13 then ({ m with count:=0 },rng m.count 1 40)
 else (m,false)
def nP(m:Msg):Bool:=rJ m&&(if m.kind=1 then decide (m.toInc=0)&&decide (m.topic=0) else cnt m.toInc&&rng m.topic 0 3)
def pS(r:Msg):Bool:=decide (r.epoch≠0)||decide (r.seq≠0)||decide (r.last≠0)||decide (r.value≠0)||decide (r.node≠0)||decide (r.inc≠0)||decide (r.count≠0)||decide (r.hops≠0)
def lC(m:Msg):Bool:=(jT m).2&&nP m&& !pS (jT m).1&&decide ((jT m).1.path.length=0)&&decide ((jT m).1.todo.length=0)
def aL(l:List Peer):List Peer:=l.map fun p=>{ p with age:=min (p.age+1) 1000 }
def cm(l:List Kid):List Kid:=(l.map fun k=>{ k with age:=k.age+1 }).filter fun k=>decide (k.age≤6)
def fM(x:Topic):Topic:={ x with parent:=0,asked:=0,other:=0,age:=0,path:=[] }
def wo(c:Config)(t self:Int)(x:Topic):Int:=if bt c=true then (if (eX c t self&&ap c t self x)=true then 0 else 1) else 13
def nc(n top:Int):Int:=if top-top % 16+n≤top then top-top % 16+n+16 else top-top % 16+n
def jv(n top:Int):Int:=if 1073741824<nc n top then 0 else nc n top
def Hg(e n:Int):Stream:=⟨e,n,n,[],[]⟩
def fw(self:Int)(x:Topic):Topic×Int :=
 if x.root≠0∧x.root=x.top then (x,0)
 else if jv self x.top=0 then (eY,11)
 else ({ fM x with root:=jv self x.top,top:=jv self x.top,stream:=Hg (jv self x.top) 1 },0)
def lD(self:Int)(x:Topic):Topic:=if (fw self x).2=0 then (fw self x).1 else x
def aI(x:Topic):Bool:=x.sub||decide (0<x.kids.length)
def ez(self:Int)(n:Node)(m:Msg):Msg:={ m with frm:=self,fromInc:=n.inc,toInc:=if m.kind=1 then 0 else (n.peers.getD m.to.toNat ⟨0,0⟩).inc }
def jI(self:Int)(n:Node):List Msg→Option (List Msg)
 | []=>some []
 | m::r=>if (decide (m.kind=1)||qU n m.to)=true then (if lC (ez self n m)=true then (jI self n r).map (ez self n m:: ·) else none) else jI self n r
def wq(self:Int)(n:Node)(l:List Msg):List Msg:=(jI self n l).getD []
def tM(c:Config)(self:Int)(n:Node)(l:List Msg):List Msg×Int :=
 if ba c self n=0 then (wq self n l,if (jI self n l).isSome=true then 0 else 5) else ([],ba c self n)
def oY(self t:Int)(live:List Int):Bool:=decide ((ly t live).1=self)
def cH(c:Config):List Call→List Topic→List Topic
 | [],ts=>ts
 | x::r,ts=>cH c r (if x.age+1≤20 then ts else wn c ts x.topic ⟨4,0,0,0,0,x.count⟩)
def iO(l:List Call):List Call:=(l.map fun x=>{ x with age:=x.age+1 }).filter fun x=>decide (x.age≤20)
def bf(t:Int)(x:Topic):Topic×List Msg:=if x.parent=0 then (x,[]) else (fM x,[{ eZ with kind:=6,to:=x.parent-1,topic:=t }])
def dC(x:Topic):Topic:=if x.parent=0 then x else if 4<min (x.age+1) 1000 then fM x else { x with age:=min (x.age+1) 1000 }
def bF(live:List Int)(x:Topic):Topic:=if x.other≠0∧live.contains (x.other-1)=false then { x with other:=0 } else x
def IX(t nx:Int)(x:Topic):Topic:={ x with asked:=(if x.other=0 then nx else x.other-1)+1 }
def rj(t nx:Int)(x:Topic):List Msg :=
 [{ eZ with kind:=2,to:=if x.other=0 then nx else x.other-1,topic:=t,epoch:=x.top }] ++
 (if x.parent≠0∧x.stream.want<x.stream.known then [{ eZ with kind:=8,to:=x.parent-1,topic:=t,epoch:=x.stream.epoch,seq:=x.stream.want }] else [])
def dv(self t:Int)(live:List Int)(x0:Topic):Topic×List Msg :=
 let x:Topic:={ x0 with kids:=cm x0.kids }
 if oY self t live=true then
  if aI x=true then (lD self x,[]) else bf t x
 else if aI x=true then
  let y:=bF live (dC { x with root:=0 })
  (IX t (br t live self) y,rj t (br t live self) y)
 else bf t { x with root:=0 }
def cn(self:Int)(live:List Int):Int→List Topic→List Topic
 | _,[]=>[]
 | t,x::r=>(dv self t live x).1::cn self live (t+1) r
def aY(self:Int)(live:List Int):Int→List Topic→List Msg
 | _,[]=>[]
 | t,x::r=>(dv self t live x).2++aY self live (t+1) r
def fa(self k:Int):List Msg:=((List.range k.toNat).filter fun (i:Nat)=>decide ((i:Int)≠self)).map fun (i:Nat)=>{ eZ with kind:=1,to:=(i:Int) }
def cG(c:Config)(self:Int)(n:Node):Node :=
  { n with peers:=aL n.peers,calls:=iO n.calls,topics:=cn self (cz (aL n.peers) self) 0 (cH c n.calls n.topics) }
def nd(c:Config)(self:Int)(n:Node):List Msg :=
 wq self (cG c self n) (aY self (cz (aL n.peers) self) 0 (cH c n.calls n.topics)++fa self c.nodes)
def eV(c:Config)(self:Int)(n:Node):Node×List Msg×Int :=
 if ba c self n=0 then (cG c self n,nd c self n,0) else (LR,[],ba c self n)
def zX(l:List Peer)(o inc:Int):List Peer:=if (l.getD o.toNat ⟨0,0⟩).inc≤inc then l.set o.toNat ⟨inc,0⟩ else l
set_option linter.defProp false
theorem bI{p:Config→Prop}(h: ∀x,p x): ∀a0 a1 a2 a3 a4 a5 a6,p (Config.mk a0 a1 a2 a3 a4 a5 a6):=fun _ _ _ _ _ _ _=>h _
theorem Lg{p:Peer→Prop}(h: ∀x,p x): ∀a0 a1,p (Peer.mk a0 a1):=fun _ _=>h _
theorem LS{p:Kid→Prop}(h: ∀x,p x): ∀a0 a1 a2,p (Kid.mk a0 a1 a2):=fun _ _ _=>h _
theorem sO{p:Event→Prop}(h: ∀x,p x): ∀a0 a1 a2 a3 a4 a5,p (Event.mk a0 a1 a2 a3 a4 a5):=fun _ _ _ _ _ _=>h _
theorem ic{p:Stream→Prop}(h: ∀x,p x): ∀a0 a1 a2 a3 a4,p (Stream.mk a0 a1 a2 a3 a4):=fun _ _ _ _ _=>h _
theorem Lh{p:Mark→Prop}(h: ∀x,p x): ∀a0 a1 a2,p (Mark.mk a0 a1 a2):=fun _ _ _=>h _
theorem K0{p:Mark2→Prop}(h: ∀x,p x): ∀a0 a1 a2 a3 a4,p (Mark2.mk a0 a1 a2 a3 a4):=fun _ _ _ _ _=>h _
theorem gc{p:Topic→Prop}(h: ∀x,p x): ∀a0 a1 a2 a3 a4 a5 a6 a7 a8 a9 a10 a11 a12 a13 a14 a15,p (Topic.mk a0 a1 a2 a3 a4 a5 a6 a7 a8 a9 (Stream.mk a10 a11 a12 a13 a14) a15):=fun _ _ _ _ _ _ _ _ _ _ _ _ _ _ _ _=>h _
theorem lX{p:Node→Prop}(h: ∀x,p x): ∀a0 a1 a2 a3 a4 a5 a6 a7 a8,p (Node.mk a0 a1 a2 a3 a4 a5 a6 a7 a8):=fun _ _ _ _ _ _ _ _ _=>h _
theorem zY{p:Msg→Prop}(h: ∀x,p x): ∀a0 a1 a2 a3 a4 a5 a6 a7 a8 a9 a10 a11 a12 a13 a14 a15,p (Msg.mk a0 a1 a2 a3 a4 a5 a6 a7 a8 a9 a10 a11 a12 a13 a14 a15):=fun _ _ _ _ _ _ _ _ _ _ _ _ _ _ _ _=>h _
def RR:=And.intro @Ma (And.intro @mk0 (And.intro @mk1 (And.intro @mk2 (And.intro @LP (And.intro @LQ (And.intro @La (And.intro @Lb (And.intro @LC (And.intro @LD (And.intro @LE (And.intro @List.cons_append.{0} (And.intro @List.nil_append.{0} (And.intro @Config.row_eq (And.intro @Peer.row_eq (And.intro @Kid.row_eq (And.intro @Item.row_eq (And.intro @Event.row_eq (And.intro @Stream.row_eq (And.intro @Call.row_eq (And.intro @Mark.row_eq (And.intro @Mark2.row_eq (And.intro @Topic.row_eq (And.intro @Node.row_eq (And.intro @Msg.row_eq (And.intro @Step.row_eq (And.intro @By.row_eq (And.intro @Frame.row_eq (And.intro @World.row_eq (@Ans.row_eq)))))))))))))))))))))))))))))
def S0:=And.intro @KL (And.intro @JL (And.intro @jB (And.intro @JM (And.intro @JN (And.intro @KM (And.intro @KN (And.intro @KO (And.intro @JO (And.intro @KP (And.intro @JP (And.intro @JQ (And.intro @IJ (And.intro @JR (And.intro @IK (And.intro @JS (And.intro @IM (And.intro @IL (And.intro @DI (And.intro @KQ (And.intro @KR (And.intro @KS (And.intro @KT (And.intro @cW (And.intro @KU (And.intro @KV (And.intro @KW (And.intro @KX (And.intro @KY (And.intro @KZ (And.intro @LI (And.intro @LJ (And.intro @L2 (And.intro @LG (And.intro @JT (And.intro @JU (And.intro @LH (And.intro @gV (And.intro @aV (And.intro @JV (And.intro @JW (And.intro @JX (And.intro @JY (And.intro @IQ (And.intro @IR (And.intro @IU (And.intro @pQ (And.intro @pR (And.intro @nO (And.intro @BE (And.intro @G0 (And.intro @HJ (And.intro @G1 (And.intro @E5 (And.intro @BF (And.intro @rI (And.intro @G2 (And.intro @E6 (And.intro @E7 (And.intro @G3 (And.intro @zW (And.intro @G4 (And.intro @IV (And.intro @E8 (And.intro @E9 (@HK)))))))))))))))))))))))))))))))))))))))))))))))))))))))))))))))))
def SB:=And.intro @S0 (@vY)
def S1:=And.intro @decide_eq_true_eq (And.intro @decide_eq_false_iff_not (And.intro @Bool.not_eq_eq_eq_not (And.intro @Bool.not_true (And.intro @Bool.not_false (And.intro @Bool.false_eq_true (And.intro @Bool.true_eq_false (And.intro @false_implies (And.intro @true_implies (And.intro @true_and (And.intro @and_true (And.intro @not_true_eq_false (And.intro @not_false_eq_true (And.intro @decide_true (And.intro @decide_false (And.intro @M6 (And.intro @M7 (And.intro @M8 (And.intro @M9 (And.intro @LF (And.intro @KJ (And.intro @KK (And.intro @LC (And.intro @LD (And.intro @LE (And.intro @Lc (And.intro @Ld (And.intro @Le (And.intro @Lf (And.intro @Config.row_eq (And.intro @Config.eta (And.intro @Peer.row_eq (And.intro @Peer.eta (And.intro @Kid.row_eq (And.intro @Kid.eta (And.intro @Item.row_eq (And.intro @Item.eta (And.intro @Event.row_eq (And.intro @Event.eta (And.intro @Stream.row_eq (And.intro @Stream.eta (And.intro @Call.row_eq (And.intro @Call.eta (And.intro @Mark.row_eq (And.intro @Mark.eta (And.intro @Mark2.row_eq (And.intro @Mark2.eta (And.intro @Topic.row_eq (And.intro @Topic.eta (And.intro @Node.row_eq (And.intro @Node.eta (And.intro @Msg.row_eq (And.intro @Msg.eta (And.intro @Step.row_eq (And.intro @Step.eta (And.intro @By.row_eq (And.intro @By.eta (And.intro @Frame.row_eq (And.intro @Frame.eta (And.intro @World.row_eq (And.intro @World.eta (And.intro @Ans.row_eq (And.intro @Ans.eta (And.intro @eq_self.{1} (And.intro @if_true.{1} (And.intro @if_false.{1} (And.intro @implies_true.{0} (@implies_true.{1})))))))))))))))))))))))))))))))))))))))))))))))))))))))))))))))))))
def S2:=And.intro @L3 (And.intro @LL (And.intro @L4 (And.intro @LM (And.intro @LO (And.intro @L5 (And.intro @L6 (@ite_self.{1})))))))
def S3:=And.intro @L7 (And.intro @L8 (And.intro @L9 (@LK)))
def LN:=And.intro @List.length_cons.{0} (And.intro @List.length_nil.{0} (@List.length_append.{0}))
end Go.Xt
