/- Steps towards the statements of this seat; the conditions stand in each theorem. -/
import Derived.Test.YtjolhiejojfkkaaGreatDoorTh
import Derived.Test.YtjolhiejojfkkaaGreatDoorV7
set_option linter.unusedSimpArgs false
set_option linter.unusedVariables false
namespace Go.Xt
def TT:List Int:=[1462484242049070477,1775212608919665246,3535639072113518480,3725500155902745375]
def NN:List Int:=[2342812313538366385,1863050908023769503,81111313352671826,2434324899588211290,2454816673080883147,1342378062264523301,820659310660760249,2006264061484817761]
def tt(t:Int):Int:=TT.getD t.toNat 0
def nn(n:Int):Int:=NN.getD n.toNat 0
def isT(v:Int):Bool:=decide (0≤v)&&decide (v<4)
def isN(v:Int):Bool:=decide (0≤v)&&decide (v<8)
def far(k n:Int):Int:=if n-k<0 then n-k+4611686018427387904 else n-k
def gap(t n:Int):Int:=far (tt t) (nn n)
def fD(t a b:Int):Bool:=isT t&&isN a&&isN b&&decide (gap t a<gap t b)
def pi(t:Int):Int→List Int→Bool
 | _,[]=>true
 | n,x::xs=>fD t x n&&pi t x xs
def chk(t n:Int)(xs:List Int)(c:Int):Int :=
 if (isT t&&isN n&&decide (1≤c)&&decide (c≤8)&&xs.all isN)=true then
  if xs.length>c then 12 else if pi t n xs=true then 0 else 1
 else 1
def PS(t n:Int)(xs:List Int)(c:Int):Int :=
 if xs.all isN=true then if xs.length>c then 12 else if pi t n xs=true then 0 else 1 else 1
def par(rows:List (List Int))(i:Int):Int:=match rows[i.toNat]? with | some (x::_)=>x | _=> -1
def isK(k:Int):Bool:=decide (0≤k)&&decide (k<4611686018427387904)
def fw(t:Int):Int→List Int→Int
 | b,[]=>b
 | b,x::r=>fw t (if fD t x b=true then x else b) r
def Ac(t:Int)(l:List Int):Int×Int :=
 if isT t=true then if l.all isN=true then match l with | []=>(0,7) | x::_=>(fw t x l,0) else (0,1) else (0,1)
def xU(t:Int):Int→List Int→Int
 | b,[]=>b
 | b,x::r=>xU t (if b<0∨gap t x<gap t b then x else b) r
def wD(t:Int)(l:List Int):Int:=xU t (-1) l
def oe:Int→List Int→Bool
 | _,[]=>true
 | p,x::r=>isN x&&decide (p<x)&&oe x r
def AJ(live:List Int)(self:Int):Int:=if (oe (-1) live&&live.contains self)=true then 0 else 1
def ey(k:Int):Int→Int→List Int→Int
 | b,_,[]=>b
 | b,d,n::r=>if b<0∨far k (nn n)<d then ey k n (far k (nn n)) r else ey k b d r
def pH(live:List Int)(k:Int):Int:=ey k (-1) 0 live
def dZ(self:Int):Int→Int→List Int→Int
 | b,_,[]=>b
 | b,d,n::r=>if n≠self∧(b<0∨far (nn n) (nn self)<d) then dZ self n (far (nn n) (nn self)) r else dZ self b d r
def kn(live:List Int)(self:Int):Int:=dZ self (-1) 0 live
def ny(self:Int)(i:Nat):Int:=far (2 ^ i) (nn self)
def nb:Int→List Int→List Int
 | _,[]=>[]
 | p,y::r=>if y=p then nb p r else y::nb y r
def bK:List Int→List Int
 | []=>[]
 | x::r=>x::nb x r
def nc(l:List Int):List Int:=l.mergeSort fun x y=>decide (x≤y)
def u5:List Int:=[0,1,2,3,4,5,6,7]
def mV(live:List Int)(self:Int)(k:Nat):List Int:=((List.range k).map fun i=>pH live (ny self i)).filter fun n=>decide (n≠self)
def iA(live:List Int)(self:Int):List Int:=u5.filter fun n=>(mV live self 62).contains n
def iG(t:Int)(live:List Int)(self:Int):Int :=
 if fw t self (iA live self++[kn live self])=self then -1 else fw t self (iA live self++[kn live self])
def u6(t:Int)(live:List Int)(self:Int):Int:=if AJ live self=0 then (if isT t=true then 0 else 1) else AJ live self
structure Config where
 nodes:Int
 topics:Int
 kids:Int
 depth:Int
 keep:Int
 window:Int
 queue:Int
 deriving DecidableEq,Inhabited
instance:Row Config:=⟨7,fun x=>[I x.nodes,I x.topics,I x.kids,I x.depth,I x.keep,I x.window,I x.queue],fun _=>rfl,by
 rintro ⟨_,_,_,_,_,_,_⟩ ⟨_,_,_,_,_,_,_⟩ h;simpa[fC,and_assoc] using h⟩
instance:RowW Config 7:=⟨rfl⟩
theorem Config.row_eq(x:Config):Row.row x=[I x.nodes,I x.topics,I x.kids,I x.depth,I x.keep,I x.window,I x.queue]:=rfl
theorem Config.eta(x:Config):Config.mk x.nodes x.topics x.kids x.depth x.keep x.window x.queue=x:=rfl
theorem Config.eq_iff(x y:Config):(x=y)=(x.nodes=y.nodes∧x.topics=y.topics∧x.kids=y.kids∧x.depth=y.depth∧x.keep=y.keep∧x.window=y.window∧x.queue=y.queue):=by cases x;cases y;simp
theorem Config.deq(x y:Config):(decide (x.nodes=y.nodes)&&(decide (x.topics=y.topics)&&(decide (x.kids=y.kids)&&(decide (x.depth=y.depth)&&(decide (x.keep=y.keep)&&(decide (x.window=y.window)&&decide (x.queue=y.queue)))))))=decide (x=y):=by rw[Bool.eq_iff_iff];simp[Config.eq_iff]
theorem Io{k:PV→Prop}{a_nodes:Int}{a_topics:Int}{a_kids:Int}{a_depth:Int}{a_keep:Int}{a_window:Int}{a_queue:Int}:OP (.rows 7) [I a_nodes,I a_topics,I a_kids,I a_depth,I a_keep,I a_window,I a_queue] k=k (L [(Config.mk a_nodes a_topics a_kids a_depth a_keep a_window a_queue)]):=aL (by simp[ev,cK,L,Row.row])
structure Peer where
 inc:Int
 age:Int
 deriving DecidableEq,Inhabited
instance:Row Peer:=⟨2,fun x=>[I x.inc,I x.age],fun _=>rfl,by
 rintro ⟨_,_⟩ ⟨_,_⟩ h;simpa[fC,and_assoc] using h⟩
instance:RowW Peer 2:=⟨rfl⟩
theorem Peer.row_eq(x:Peer):Row.row x=[I x.inc,I x.age]:=rfl
theorem Peer.eta(x:Peer):Peer.mk x.inc x.age=x:=rfl
theorem Peer.eq_iff(x y:Peer):(x=y)=(x.inc=y.inc∧x.age=y.age):=by cases x;cases y;simp
theorem Peer.deq(x y:Peer):(decide (x.inc=y.inc)&&decide (x.age=y.age))=decide (x=y):=by rw[Bool.eq_iff_iff];simp[Peer.eq_iff]
theorem NS{k:PV→Prop}{a_inc:Int}{a_age:Int}:OP (.rows 2) [I a_inc,I a_age] k=k (L [(Peer.mk a_inc a_age)]):=aL (by simp[ev,cK,L,Row.row])
structure Kid where
 node:Int
 inc:Int
 age:Int
 deriving DecidableEq,Inhabited
instance:Row Kid:=⟨3,fun x=>[I x.node,I x.inc,I x.age],fun _=>rfl,by
 rintro ⟨_,_,_⟩ ⟨_,_,_⟩ h;simpa[fC,and_assoc] using h⟩
instance:RowW Kid 3:=⟨rfl⟩
theorem Kid.row_eq(x:Kid):Row.row x=[I x.node,I x.inc,I x.age]:=rfl
theorem Kid.eta(x:Kid):Kid.mk x.node x.inc x.age=x:=rfl
theorem Kid.eq_iff(x y:Kid):(x=y)=(x.node=y.node∧x.inc=y.inc∧x.age=y.age):=by cases x;cases y;simp
theorem Kid.deq(x y:Kid):(decide (x.node=y.node)&&(decide (x.inc=y.inc)&&decide (x.age=y.age)))=decide (x=y):=by rw[Bool.eq_iff_iff];simp[Kid.eq_iff]
theorem PT{k:PV→Prop}{a_node:Int}{a_inc:Int}{a_age:Int}:OP (.rows 3) [I a_node,I a_inc,I a_age] k=k (L [(Kid.mk a_node a_inc a_age)]):=aL (by simp[ev,cK,L,Row.row])
structure Item where
 seq:Int
 value:Int
 deriving DecidableEq,Inhabited
instance:Row Item:=⟨2,fun x=>[I x.seq,I x.value],fun _=>rfl,by
 rintro ⟨_,_⟩ ⟨_,_⟩ h;simpa[fC,and_assoc] using h⟩
instance:RowW Item 2:=⟨rfl⟩
theorem Item.row_eq(x:Item):Row.row x=[I x.seq,I x.value]:=rfl
theorem Item.eta(x:Item):Item.mk x.seq x.value=x:=rfl
theorem Item.eq_iff(x y:Item):(x=y)=(x.seq=y.seq∧x.value=y.value):=by cases x;cases y;simp
theorem Item.deq(x y:Item):(decide (x.seq=y.seq)&&decide (x.value=y.value))=decide (x=y):=by rw[Bool.eq_iff_iff];simp[Item.eq_iff]
theorem dt{k:PV→Prop}{a_seq:Int}{a_value:Int}:OP (.rows 2) [I a_seq,I a_value] k=k (L [(Item.mk a_seq a_value)]):=aL (by simp[ev,cK,L,Row.row])
structure Event where
 kind:Int
 epoch:Int
 seq:Int
 last:Int
 value:Int
 count:Int
 deriving DecidableEq,Inhabited
instance:Row Event:=⟨6,fun x=>[I x.kind,I x.epoch,I x.seq,I x.last,I x.value,I x.count],fun _=>rfl,by
 rintro ⟨_,_,_,_,_,_⟩ ⟨_,_,_,_,_,_⟩ h;simpa[fC,and_assoc] using h⟩
instance:RowW Event 6:=⟨rfl⟩
theorem Event.row_eq(x:Event):Row.row x=[I x.kind,I x.epoch,I x.seq,I x.last,I x.value,I x.count]:=rfl
theorem Event.eta(x:Event):Event.mk x.kind x.epoch x.seq x.last x.value x.count=x:=rfl
theorem Event.eq_iff(x y:Event):(x=y)=(x.kind=y.kind∧x.epoch=y.epoch∧x.seq=y.seq∧x.last=y.last∧x.value=y.value∧x.count=y.count):=by cases x;cases y;simp
theorem Event.deq(x y:Event):(decide (x.kind=y.kind)&&(decide (x.epoch=y.epoch)&&(decide (x.seq=y.seq)&&(decide (x.last=y.last)&&(decide (x.value=y.value)&&decide (x.count=y.count))))))=decide (x=y):=by rw[Bool.eq_iff_iff];simp[Event.eq_iff]
theorem Ls{k:PV→Prop}{a_kind:Int}{a_epoch:Int}{a_seq:Int}{a_last:Int}{a_value:Int}{a_count:Int}:OP (.rows 6) [I a_kind,I a_epoch,I a_seq,I a_last,I a_value,I a_count] k=k (L [(Event.mk a_kind a_epoch a_seq a_last a_value a_count)]):=aL (by simp[ev,cK,L,Row.row])
structure Stream where
 epoch:Int
 want:Int
 known:Int
 kept:List Item
 ahead:List Item
 deriving DecidableEq,Inhabited
instance:Row Stream:=⟨5,fun x=>[I x.epoch,I x.want,I x.known,L x.kept,L x.ahead],fun _=>rfl,by
 rintro ⟨_,_,_,_,_⟩ ⟨_,_,_,_,_⟩ h;simpa[fC,and_assoc] using h⟩
instance:RowW Stream 5:=⟨rfl⟩
theorem Stream.row_eq(x:Stream):Row.row x=[I x.epoch,I x.want,I x.known,L x.kept,L x.ahead]:=rfl
theorem Stream.eta(x:Stream):Stream.mk x.epoch x.want x.known x.kept x.ahead=x:=rfl
theorem Stream.eq_iff(x y:Stream):(x=y)=(x.epoch=y.epoch∧x.want=y.want∧x.known=y.known∧x.kept=y.kept∧x.ahead=y.ahead):=by cases x;cases y;simp
theorem Ip{k:PV→Prop}{a_epoch:Int}{a_want:Int}{a_known:Int}{a_kept:List Item}{a_ahead:List Item}:OP (.rows 5) [I a_epoch,I a_want,I a_known,L a_kept,L a_ahead] k=k (L [(Stream.mk a_epoch a_want a_known a_kept a_ahead)]):=aL (by simp[ev,cK,L,Row.row])
structure Call where
 count:Int
 topic:Int
 age:Int
 deriving DecidableEq,Inhabited
instance:Row Call:=⟨3,fun x=>[I x.count,I x.topic,I x.age],fun _=>rfl,by
 rintro ⟨_,_,_⟩ ⟨_,_,_⟩ h;simpa[fC,and_assoc] using h⟩
instance:RowW Call 3:=⟨rfl⟩
theorem Call.row_eq(x:Call):Row.row x=[I x.count,I x.topic,I x.age]:=rfl
theorem Call.eta(x:Call):Call.mk x.count x.topic x.age=x:=rfl
theorem Call.eq_iff(x y:Call):(x=y)=(x.count=y.count∧x.topic=y.topic∧x.age=y.age):=by cases x;cases y;simp
theorem Call.deq(x y:Call):(decide (x.count=y.count)&&(decide (x.topic=y.topic)&&decide (x.age=y.age)))=decide (x=y):=by rw[Bool.eq_iff_iff];simp[Call.eq_iff]
theorem NT{k:PV→Prop}{a_count:Int}{a_topic:Int}{a_age:Int}:OP (.rows 3) [I a_count,I a_topic,I a_age] k=k (L [(Call.mk a_count a_topic a_age)]):=aL (by simp[ev,cK,L,Row.row])
structure Mark where
 inc:Int
 pubs:Int
 met:Int
 deriving DecidableEq,Inhabited
instance:Row Mark:=⟨3,fun x=>[I x.inc,I x.pubs,I x.met],fun _=>rfl,by
 rintro ⟨_,_,_⟩ ⟨_,_,_⟩ h;simpa[fC,and_assoc] using h⟩
instance:RowW Mark 3:=⟨rfl⟩
theorem Mark.row_eq(x:Mark):Row.row x=[I x.inc,I x.pubs,I x.met]:=rfl
theorem Mark.eta(x:Mark):Mark.mk x.inc x.pubs x.met=x:=rfl
theorem Mark.eq_iff(x y:Mark):(x=y)=(x.inc=y.inc∧x.pubs=y.pubs∧x.met=y.met):=by cases x;cases y;simp
theorem Mark.deq(x y:Mark):(decide (x.inc=y.inc)&&(decide (x.pubs=y.pubs)&&decide (x.met=y.met)))=decide (x=y):=by rw[Bool.eq_iff_iff];simp[Mark.eq_iff]
theorem NU{k:PV→Prop}{a_inc:Int}{a_pubs:Int}{a_met:Int}:OP (.rows 3) [I a_inc,I a_pubs,I a_met] k=k (L [(Mark.mk a_inc a_pubs a_met)]):=aL (by simp[ev,cK,L,Row.row])
structure Mark2 where
 node:Int
 inc:Int
 count:Int
 topic:Int
 value:Int
 deriving DecidableEq,Inhabited
instance:Row Mark2:=⟨5,fun x=>[I x.node,I x.inc,I x.count,I x.topic,I x.value],fun _=>rfl,by
 rintro ⟨_,_,_,_,_⟩ ⟨_,_,_,_,_⟩ h;simpa[fC,and_assoc] using h⟩
instance:RowW Mark2 5:=⟨rfl⟩
theorem Mark2.row_eq(x:Mark2):Row.row x=[I x.node,I x.inc,I x.count,I x.topic,I x.value]:=rfl
theorem Mark2.eta(x:Mark2):Mark2.mk x.node x.inc x.count x.topic x.value=x:=rfl
theorem Mark2.eq_iff(x y:Mark2):(x=y)=(x.node=y.node∧x.inc=y.inc∧x.count=y.count∧x.topic=y.topic∧x.value=y.value):=by cases x;cases y;simp
theorem Mark2.deq(x y:Mark2):(decide (x.node=y.node)&&(decide (x.inc=y.inc)&&(decide (x.count=y.count)&&(decide (x.topic=y.topic)&&decide (x.value=y.value)))))=decide (x=y):=by rw[Bool.eq_iff_iff];simp[Mark2.eq_iff]
theorem Lt{k:PV→Prop}{a_node:Int}{a_inc:Int}{a_count:Int}{a_topic:Int}{a_value:Int}:OP (.rows 5) [I a_node,I a_inc,I a_count,I a_topic,I a_value] k=k (L [(Mark2.mk a_node a_inc a_count a_topic a_value)]):=aL (by simp[ev,cK,L,Row.row])
structure Topic where
 made:Bool
 sub:Bool
 top:Int
 root:Int
 parent:Int
 asked:Int
 other:Int
 age:Int
 path:List Int
 kids:List Kid
 stream:Stream
 queue:List Event
 deriving DecidableEq,Inhabited
instance:Row Topic:=⟨16,fun x=>[bb x.made,bb x.sub,I x.top,I x.root,I x.parent,I x.asked,I x.other,I x.age,L x.path,L x.kids,I x.stream.epoch,I x.stream.want,I x.stream.known,L x.stream.kept,L x.stream.ahead,L x.queue],fun _=>rfl,by
 rintro ⟨_,_,_,_,_,_,_,_,_,_,⟨_,_,_,_,_⟩,_⟩ ⟨_,_,_,_,_,_,_,_,_,_,⟨_,_,_,_,_⟩,_⟩ h;simpa[fC,and_assoc] using h⟩
instance:RowW Topic 16:=⟨rfl⟩
theorem Topic.row_eq(x:Topic):Row.row x=[bb x.made,bb x.sub,I x.top,I x.root,I x.parent,I x.asked,I x.other,I x.age,L x.path,L x.kids,I x.stream.epoch,I x.stream.want,I x.stream.known,L x.stream.kept,L x.stream.ahead,L x.queue]:=rfl
theorem Topic.eta(x:Topic):Topic.mk x.made x.sub x.top x.root x.parent x.asked x.other x.age x.path x.kids x.stream x.queue=x:=rfl
theorem Topic.eq_iff(x y:Topic):(x=y)=(x.made=y.made∧x.sub=y.sub∧x.top=y.top∧x.root=y.root∧x.parent=y.parent∧x.asked=y.asked∧x.other=y.other∧x.age=y.age∧x.path=y.path∧x.kids=y.kids∧x.stream=y.stream∧x.queue=y.queue):=by cases x;cases y;simp
theorem Lu{k:PV→Prop}{a_made:Bool}{a_sub:Bool}{a_top:Int}{a_root:Int}{a_parent:Int}{a_asked:Int}{a_other:Int}{a_age:Int}{a_path:List Int}{a_kids:List Kid}{a_stream_epoch:Int}{a_stream_want:Int}{a_stream_known:Int}{a_stream_kept:List Item}{a_stream_ahead:List Item}{a_queue:List Event}:OP (.rows 16) [bb a_made,bb a_sub,I a_top,I a_root,I a_parent,I a_asked,I a_other,I a_age,L a_path,L a_kids,I a_stream_epoch,I a_stream_want,I a_stream_known,L a_stream_kept,L a_stream_ahead,L a_queue] k=k (L [(Topic.mk a_made a_sub a_top a_root a_parent a_asked a_other a_age a_path a_kids (Stream.mk a_stream_epoch a_stream_want a_stream_known a_stream_kept a_stream_ahead) a_queue)]):=aL (by simp[ev,cK,L,Row.row])
structure Node where
 up:Bool
 inc:Int
 peers:List Peer
 topics:List Topic
 calls:List Call
 pubs:Int
 asks:Int
 marks:List Mark
 taken:List Mark2
 deriving DecidableEq,Inhabited
instance:Row Node:=⟨9,fun x=>[bb x.up,I x.inc,L x.peers,L x.topics,L x.calls,I x.pubs,I x.asks,L x.marks,L x.taken],fun _=>rfl,by
 rintro ⟨_,_,_,_,_,_,_,_,_⟩ ⟨_,_,_,_,_,_,_,_,_⟩ h;simpa[fC,and_assoc] using h⟩
instance:RowW Node 9:=⟨rfl⟩
theorem Node.row_eq(x:Node):Row.row x=[bb x.up,I x.inc,L x.peers,L x.topics,L x.calls,I x.pubs,I x.asks,L x.marks,L x.taken]:=rfl
theorem Node.eta(x:Node):Node.mk x.up x.inc x.peers x.topics x.calls x.pubs x.asks x.marks x.taken=x:=rfl
theorem Node.eq_iff(x y:Node):(x=y)=(x.up=y.up∧x.inc=y.inc∧x.peers=y.peers∧x.topics=y.topics∧x.calls=y.calls∧x.pubs=y.pubs∧x.asks=y.asks∧x.marks=y.marks∧x.taken=y.taken):=by cases x;cases y;simp
theorem NV{k:PV→Prop}{a_up:Bool}{a_inc:Int}{a_peers:List Peer}{a_topics:List Topic}{a_calls:List Call}{a_pubs:Int}{a_asks:Int}{a_marks:List Mark}{a_taken:List Mark2}:OP (.rows 9) [bb a_up,I a_inc,L a_peers,L a_topics,L a_calls,I a_pubs,I a_asks,L a_marks,L a_taken] k=k (L [(Node.mk a_up a_inc a_peers a_topics a_calls a_pubs a_asks a_marks a_taken)]):=aL (by simp[ev,cK,L,Row.row])
structure Msg where
 kind:Int
 frm:Int
 fromInc:Int
 to:Int
 toInc:Int
 topic:Int
 epoch:Int
 seq:Int
 last:Int
 value:Int
 node:Int
 inc:Int
 count:Int
 hops:Int
 path:List Int
 todo:List Int
 deriving DecidableEq,Inhabited
instance:Row Msg:=⟨16,fun x=>[I x.kind,I x.frm,I x.fromInc,I x.to,I x.toInc,I x.topic,I x.epoch,I x.seq,I x.last,I x.value,I x.node,I x.inc,I x.count,I x.hops,L x.path,L x.todo],fun _=>rfl,by
 rintro ⟨_,_,_,_,_,_,_,_,_,_,_,_,_,_,_,_⟩ ⟨_,_,_,_,_,_,_,_,_,_,_,_,_,_,_,_⟩ h;simpa[fC,and_assoc] using h⟩
instance:RowW Msg 16:=⟨rfl⟩
theorem Msg.row_eq(x:Msg):Row.row x=[I x.kind,I x.frm,I x.fromInc,I x.to,I x.toInc,I x.topic,I x.epoch,I x.seq,I x.last,I x.value,I x.node,I x.inc,I x.count,I x.hops,L x.path,L x.todo]:=rfl
theorem Msg.eta(x:Msg):Msg.mk x.kind x.frm x.fromInc x.to x.toInc x.topic x.epoch x.seq x.last x.value x.node x.inc x.count x.hops x.path x.todo=x:=rfl
theorem Msg.eq_iff(x y:Msg):(x=y)=(x.kind=y.kind∧x.frm=y.frm∧x.fromInc=y.fromInc∧x.to=y.to∧x.toInc=y.toInc∧x.topic=y.topic∧x.epoch=y.epoch∧x.seq=y.seq∧x.last=y.last∧x.value=y.value∧x.node=y.node∧x.inc=y.inc∧x.count=y.count∧x.hops=y.hops∧x.path=y.path∧x.todo=y.todo):=by cases x;cases y;simp
theorem vo{k:PV→Prop}{a_kind:Int}{a_frm:Int}{a_fromInc:Int}{a_to:Int}{a_toInc:Int}{a_topic:Int}{a_epoch:Int}{a_seq:Int}{a_last:Int}{a_value:Int}{a_node:Int}{a_inc:Int}{a_count:Int}{a_hops:Int}{a_path:List Int}{a_todo:List Int}:OP (.rows 16) [I a_kind,I a_frm,I a_fromInc,I a_to,I a_toInc,I a_topic,I a_epoch,I a_seq,I a_last,I a_value,I a_node,I a_inc,I a_count,I a_hops,L a_path,L a_todo] k=k (L [(Msg.mk a_kind a_frm a_fromInc a_to a_toInc a_topic a_epoch a_seq a_last a_value a_node a_inc a_count a_hops a_path a_todo)]):=aL (by simp[ev,cK,L,Row.row])
structure Step where
 kind:Int
 node:Int
 topic:Int
 value:Int
 mask:Int
 deriving DecidableEq,Inhabited
instance:Row Step:=⟨5,fun x=>[I x.kind,I x.node,I x.topic,I x.value,I x.mask],fun _=>rfl,by
 rintro ⟨_,_,_,_,_⟩ ⟨_,_,_,_,_⟩ h;simpa[fC,and_assoc] using h⟩
instance:RowW Step 5:=⟨rfl⟩
theorem Step.row_eq(x:Step):Row.row x=[I x.kind,I x.node,I x.topic,I x.value,I x.mask]:=rfl
theorem Step.eta(x:Step):Step.mk x.kind x.node x.topic x.value x.mask=x:=rfl
theorem Step.eq_iff(x y:Step):(x=y)=(x.kind=y.kind∧x.node=y.node∧x.topic=y.topic∧x.value=y.value∧x.mask=y.mask):=by cases x;cases y;simp
theorem Step.deq(x y:Step):(decide (x.kind=y.kind)&&(decide (x.node=y.node)&&(decide (x.topic=y.topic)&&(decide (x.value=y.value)&&decide (x.mask=y.mask)))))=decide (x=y):=by rw[Bool.eq_iff_iff];simp[Step.eq_iff]
theorem NW{k:PV→Prop}{a_kind:Int}{a_node:Int}{a_topic:Int}{a_value:Int}{a_mask:Int}:OP (.rows 5) [I a_kind,I a_node,I a_topic,I a_value,I a_mask] k=k (L [(Step.mk a_kind a_node a_topic a_value a_mask)]):=aL (by simp[ev,cK,L,Row.row])
structure By where
 n:Int
 deriving DecidableEq,Inhabited
instance:Row By:=⟨1,fun x=>[.int .u8 x.n],fun _=>rfl,by
 rintro ⟨_⟩ ⟨_⟩ h;simpa[fC,and_assoc] using h⟩
instance:RowW By 1:=⟨rfl⟩
theorem By.row_eq(x:By):Row.row x=[.int .u8 x.n]:=rfl
theorem By.eta(x:By):By.mk x.n=x:=rfl
theorem By.eq_iff(x y:By):(x=y)=(x.n=y.n):=by cases x;cases y;simp
theorem By.deq(x y:By):decide (x.n=y.n)=decide (x=y):=by rw[Bool.eq_iff_iff];simp[By.eq_iff]
theorem Rd{k:PV→Prop}{a_n:Int}:OP (.rows 1) [.int .u8 a_n] k=k (L [(By.mk a_n)]):=aL (by simp[ev,cK,L,Row.row])
structure Frame where
 to:Int
 bytes:List By
 deriving DecidableEq,Inhabited
instance:Row Frame:=⟨2,fun x=>[I x.to,L x.bytes],fun _=>rfl,by
 rintro ⟨_,_⟩ ⟨_,_⟩ h;simpa[fC,and_assoc] using h⟩
instance:RowW Frame 2:=⟨rfl⟩
theorem Frame.row_eq(x:Frame):Row.row x=[I x.to,L x.bytes]:=rfl
theorem Frame.eta(x:Frame):Frame.mk x.to x.bytes=x:=rfl
theorem Frame.eq_iff(x y:Frame):(x=y)=(x.to=y.to∧x.bytes=y.bytes):=by cases x;cases y;simp
theorem Lv{k:PV→Prop}{a_to:Int}{a_bytes:List By}:OP (.rows 2) [I a_to,L a_bytes] k=k (L [(Frame.mk a_to a_bytes)]):=aL (by simp[ev,cK,L,Row.row])
structure World where
 nodes:List Node
 bag:List Frame
 deriving DecidableEq,Inhabited
instance:Row World:=⟨2,fun x=>[L x.nodes,L x.bag],fun _=>rfl,by
 rintro ⟨_,_⟩ ⟨_,_⟩ h;simpa[fC,and_assoc] using h⟩
instance:RowW World 2:=⟨rfl⟩
theorem World.row_eq(x:World):Row.row x=[L x.nodes,L x.bag]:=rfl
theorem World.eta(x:World):World.mk x.nodes x.bag=x:=rfl
theorem World.eq_iff(x y:World):(x=y)=(x.nodes=y.nodes∧x.bag=y.bag):=by cases x;cases y;simp
theorem Lw{k:PV→Prop}{a_nodes:List Node}{a_bag:List Frame}:OP (.rows 2) [L a_nodes,L a_bag] k=k (L [(World.mk a_nodes a_bag)]):=aL (by simp[ev,cK,L,Row.row])
structure Ans where
 err:Int
 event:Event
 count:Int
 deriving DecidableEq,Inhabited
instance:Row Ans:=⟨8,fun x=>[I x.err,I x.event.kind,I x.event.epoch,I x.event.seq,I x.event.last,I x.event.value,I x.event.count,I x.count],fun _=>rfl,by
 rintro ⟨_,⟨_,_,_,_,_,_⟩,_⟩ ⟨_,⟨_,_,_,_,_,_⟩,_⟩ h;simpa[fC,and_assoc] using h⟩
instance:RowW Ans 8:=⟨rfl⟩
theorem Ans.row_eq(x:Ans):Row.row x=[I x.err,I x.event.kind,I x.event.epoch,I x.event.seq,I x.event.last,I x.event.value,I x.event.count,I x.count]:=rfl
theorem Ans.eta(x:Ans):Ans.mk x.err x.event x.count=x:=rfl
theorem Ans.eq_iff(x y:Ans):(x=y)=(x.err=y.err∧x.event=y.event∧x.count=y.count):=by cases x;cases y;simp
theorem PU{k:PV→Prop}{a_err:Int}{a_event_kind:Int}{a_event_epoch:Int}{a_event_seq:Int}{a_event_last:Int}{a_event_value:Int}{a_event_count:Int}{a_count:Int}:OP (.rows 8) [I a_err,I a_event_kind,I a_event_epoch,I a_event_seq,I a_event_last,I a_event_value,I a_event_count,I a_count] k=k (L [(Ans.mk a_err (Event.mk a_event_kind a_event_epoch a_event_seq a_event_last a_event_value a_event_count) a_count)]):=aL (by simp[ev,cK,L,Row.row])
def rng(n lo hi:Int):Bool:=decide (lo≤n)&&decide (n≤hi)
def bx(c:Config):Bool:=rng c.nodes 1 8&&rng c.topics 1 4&&rng c.kids 1 4&&rng c.depth 1 8&&rng c.keep 1 16&&rng c.window 1 16&&rng c.queue 2 32
def pj(n lo hi why:Int):List Int:=if n<lo∨hi<n then [why] else []
def pk(c:Config):List Int:=pj c.nodes 1 8 13++pj c.topics 1 4 13++pj c.kids 1 4 13++pj c.depth 1 8 13++pj c.keep 1 16 13++pj c.window 1 16 13++pj c.queue 2 32 13
def cnt(n:Int):Bool:=rng n 1 1073741824
def val(n:Int):Bool:=rng n 0 2147483647
def ep(e:Int):Bool:=rng e 1 1073741824&&isN (e % 16)
def og(p:Peer):Bool:=rng p.inc 0 1073741824&&rng p.age 0 1000
def bB(l:List Peer):Bool:=decide (1≤l.length)&&decide (l.length≤8)&&l.all og
def lX(t:Int):Int→List Kid→Bool
 | _,[]=>true
 | a,k::r=>fD t a k.node&&cnt k.inc&&rng k.age 0 6&&lX t k.node r
def ko(t self limit:Int)(l:List Kid):Bool:=isT t&&isN self&&rng limit 1 4&&decide (l.length≤limit)&&lX t self l
def dJ:Int→List Item→Bool
 | _,[]=>true
 | n,x::r=>decide (x.seq=n)&&val x.value&&dJ (n+1) r
def fX(l:List Item)(want limit:Int):Bool:=cnt want&&rng limit 1 16&&decide (l.length≤limit)&&decide (l.length<want)&&dJ (want-l.length) l
def iB(m:Int):Int→List Item→Bool
 | _,[]=>true
 | p,x::r=>decide (p<x.seq)&&decide (x.seq<m)&&decide (x.seq<1073741824)&&val x.value&&iB m x.seq r
def mJ(l:List Item)(want window:Int):Bool:=cnt want&&rng window 1 16&&iB (want+window) want l
def ec(x:Event):Bool :=
 if x.kind=1 then ep x.epoch&&cnt x.seq&&val x.value&&decide (x.last=0)&&decide (x.count=0)
 else if x.kind=2 then ep x.epoch&&cnt x.seq&&rng x.last x.seq 1073741824&&decide (x.value=0)&&decide (x.count=0)
 else if x.kind=3 then rng x.count 1 40&&isN x.value&&decide (x.epoch=0)&&decide (x.seq=0)&&decide (x.last=0)
 else if x.kind=4 then rng x.count 1 40&&decide (x.epoch=0)&&decide (x.seq=0)&&decide (x.last=0)&&decide (x.value=0)
 else decide (x.kind=5)&&decide (x.epoch=0)&&decide (x.seq=0)&&decide (x.last=0)&&decide (x.value=0)&&decide (x.count=0)
def nH(l:List Event):Bool:=match l.getLast? with | some x=>decide (x.kind=2) | none=>false
def bh(l:List Event)(limit:Int):Bool:=rng limit 2 32&&decide (l.length≤limit)&&l.all ec&&(decide (l.length<limit)||nH l)
def nI(s:Stream):Bool:=decide (s.epoch=0)&&decide (s.want=0)&&decide (s.known=0)&&decide (s.kept=[])&&decide (s.ahead=[])
def jN(c:Config)(s:Stream):Bool:=nI s||(ep s.epoch&&cnt s.want&&rng s.known s.want 1073741824&&fX s.kept s.want c.keep&&mJ s.ahead s.want c.window)
def dK(c:Config)(s:Stream)(q:List Event):Bool:=jN c s&&bh q c.queue
def iu(t self n:Int):Bool:=decide (n=0)||(decide (0<n)&&fD t (n-1) self)
def lY(self:Int)(x:Topic):Bool:=decide (x.root=0)||(ep x.root&&decide (x.root % 16=self)&&decide (x.root≤x.top)&&decide (x.parent=0)&&decide (x.stream.epoch=x.root))
def mW(x:Topic):Bool:=match x.path with | []=>decide (x.parent=0) | p::_=>decide (x.parent=IntKind.i64.wrap (p+1))
def aM(c:Config)(t self:Int)(x:Topic):Bool :=
 rng x.top 0 1073741824&&rng x.age 0 1000&&iu t self x.parent&&iu t self x.asked&&iu t self x.other&&lY self x&&mW x &&
 decide (chk t self x.path c.depth=0)&&ko t self c.kids x.kids&&dK c x.stream x.queue
def jO(c:Config)(t self:Int):Bool:=rng t 0 (c.topics-1)&&rng self 0 (c.nodes-1)
def bM(c:Config)(asks:Int):Int→List Call→Bool
 | _,[]=>true
 | p,x::r=>decide (p<x.count)&&decide (x.count≤asks)&&rng x.topic 0 (c.topics-1)&&rng x.age 0 20&&bM c asks x.count r
def fE(m:Mark):Bool:=rng m.inc 0 1073741824&&rng m.pubs 0 1073741824&&rng m.met 0 2199023255551
def mL(c:Config)(x:Mark2):Bool:=rng x.node 0 (c.nodes-1)&&rng x.topic 0 (c.topics-1)&&cnt x.inc&&cnt x.count&&val x.value
def bI(c:Config)(self:Int):Int→List Topic→Bool
 | _,[]=>true
 | t,x::r=>aM c t self x&&bI c self (t+1) r
def nd(c:Config)(self:Int)(n:Node):Bool :=
 cnt n.inc&&rng n.pubs 0 1073741824&&rng n.asks 0 40&&bM c n.asks 0 n.calls&&decide (n.calls.length≤40) &&
 decide (n.peers.length=c.nodes)&&decide (n.topics.length=c.topics)&&decide (n.marks.length=c.nodes)&&decide (n.taken.length≤64) &&
 bI c self 0 n.topics&&bB n.peers&&n.marks.all fE&&n.taken.all (mL c)
def ax(c:Config)(self:Int)(n:Node):Int :=
 if bx c=true then (if (rng self 0 (c.nodes-1)&&n.up)=true then (if nd c self n=true then 0 else 1) else 9) else 13
def fF:Topic:=⟨false,false,0,0,0,0,0,0,[],[],⟨0,0,0,[],[]⟩,[]⟩
theorem Ad{n:Int}{k:PV→Prop}(h0:0≤n)(h1:n≤1000):OP (.repl 16 [(.int .i64 0),(.int .i64 0)]) [I n] k=k (L (List.replicate n.toNat (⟨0,0⟩:Peer))):=Hq rfl h0 (by omega)
theorem Ae{n:Int}{k:PV→Prop}(h0:0≤n)(h1:n≤1000):OP (.repl 24 [(.int .i64 0),(.int .i64 0),(.int .i64 0)]) [I n] k=k (L (List.replicate n.toNat (⟨0,0,0⟩:Mark))):=Hq rfl h0 (by omega)
theorem xV{n:Int}{k:PV→Prop}(h0:0≤n)(h1:n≤1000):OP (.repl 200 [(.bool false),(.bool false),(.int .i64 0),(.int .i64 0),(.int .i64 0),(.int .i64 0),(.int .i64 0),(.int .i64 0),.nil,.nil,(.int .i64 0),(.int .i64 0),(.int .i64 0),.nil,.nil,.nil]) [I n] k=k (L (List.replicate n.toNat fF)):=Hq rfl h0 (by omega)
def xW(s:Stream)(q:List Event):Bool:=decide (s.kept.length>30)||decide (s.ahead.length>30)||decide (q.length>50)
def cv(x:Topic):Bool:=decide (x.path.length>20)||decide (x.kids.length>20)||xW x.stream x.queue
def aA(n:Node):Bool:=decide (n.peers.length>12)||decide (n.topics.length>8)||decide (n.calls.length>60)||decide (n.marks.length>12)||decide (n.taken.length>80)||n.topics.any cv
def bi(n:Node)(t:Int):Topic:=n.topics.getD t.toNat fF
def df(x:Event):Bool:=decide (x.kind=1)||decide (x.kind=2)
def Re(c:Config)(x:Topic):Bool:=decide (x.kids.length>c.kids)||decide (x.stream.kept.length>c.keep)||decide (x.stream.ahead.length>c.window)||decide (x.queue.length>c.queue)
def t8:Config:=⟨8,4,2,8,8,8,16⟩
def nJ(x:Event):Event:=if x.kind=1 then ⟨2,x.epoch,x.seq,x.seq,0,0⟩ else if x.kind=2 then x else ⟨0,0,0,0,0,0⟩
def cx:Event:=⟨0,0,0,0,0,0⟩
def wE(l:List Event)(limit:Int)(x:Event):List Event×Int :=
 if (bh l limit&&ec x)=true then
  if (l.length:Int)<limit-1 then (l++[x],0)
  else if df x=true then
   if (l.length:Int)<limit then (l++[nJ x],0)
   else if (nJ x).epoch=(l.getD (limit-1).toNat cx).epoch∧(nJ x).seq=IntKind.i64.wrap ((l.getD (limit-1).toNat cx).last+1) then
    (l.set (limit-1).toNat { (l.getD (limit-1).toNat cx) with last:=(nJ x).last },0)
   else ([],6)
  else ([],6)
 else ([],1)
def tq(l:List Event)(limit:Int)(x:Event):List Event:=if (wE l limit x).2=0 then (wE l limit x).1 else l
def wF(l:List Event)(limit:Int)(x:Event):List Event×Bool :=
 if x.kind=3∨x.kind=4 then (if (l.length:Int)<limit-1 then l++[x] else l,decide ((l.length:Int)<limit-1)) else (tq l limit x,decide ((wE l limit x).2=0))
theorem U4{l:List Event}{m a b c d e:Int}:(wF l m ⟨3,a,b,c,d,e⟩).1=if (l.length:Int)<m-1 then l++[⟨3,a,b,c,d,e⟩] else l:=by simp[wF]
theorem U5{l:List Event}{m a b c d e:Int}:(wF l m ⟨3,a,b,c,d,e⟩).2=decide ((l.length:Int)<m-1):=by simp[wF]
theorem U6{l:List Event}{m a b c d e:Int}:(wF l m ⟨4,a,b,c,d,e⟩).1=if (l.length:Int)<m-1 then l++[⟨4,a,b,c,d,e⟩] else l:=by simp[wF]
theorem U7{l:List Event}{m a b c d e:Int}:(wF l m ⟨4,a,b,c,d,e⟩).2=decide ((l.length:Int)<m-1):=by simp[wF]
def oh(x:Topic):Bool:=decide (x.root≠0)||decide (0<x.path.length)
def oY(n:Node)(o:Int):Bool:=rng o 0 (n.peers.length-1)&&decide ((n.peers.getD o.toNat ⟨0,0⟩).inc≠0)
def pI(l:List Peer)(n:Int):Int:=if bB l=true then (if 0≤n∧n<l.length then 0 else 9) else 1
def kp(self:Int):Int→List Peer→List Int
 | _,[]=>[]
 | i,p::r=>(if i=self∨(0<p.inc∧p.age<4) then [i] else [])++kp self (i+1) r
def iC(l:List Peer)(self:Int):List Int:=kp self 0 l
def qW(self:Int)(n:Node)(t:Int):List Int :=
 (bi n t).kids.map Kid.node++[(bi n t).parent-1]++(if (bi n t).kids=[]∧oh (bi n t)=false then [iG t (iC n.peers self) self] else [])
def Af:Mark:=⟨0,0,0⟩
def kG(m:Mark)(inc:Int):Mark:=if m.inc<inc then ⟨inc,0,0⟩ else m
def pJ(m:Mark)(count:Int):Bool:=decide (m.met / 2 ^ count.toNat % 2=1)
def meets(l:List Mark)(o inc count:Int):Bool :=
 decide ((l.getD o.toNat Af).inc≤inc)&& !pJ (kG (l.getD o.toNat Af) inc) count
def jB(l:List Mark)(o inc count:Int):List Mark :=
 if meets l o inc count=true then l.set o.toNat { kG (l.getD o.toNat Af) inc with met:=(kG (l.getD o.toNat Af) inc).met+2 ^ count.toNat } else l
def bZ(t count:Int)(x:Call):Bool:=decide (x.count=count)&&decide (x.topic=t)
def wG(count who:Int):Event:=if 0≤who then ⟨3,0,0,0,who,count⟩ else ⟨4,0,0,0,0,count⟩
def Rf(c:Config)(l:List Topic)(t:Int)(x:Event):List Topic:=l.set t.toNat { (l.getD t.toNat fF) with queue:=tq (l.getD t.toNat fF).queue c.queue x }
def kd(c:Config)(n:Node)(t count who:Int):Node :=
 if n.calls.any (bZ t count)=true then { n with calls:=n.calls.eraseP (bZ t count),topics:=Rf c n.topics t (wG count who) } else n
def lL:Msg:=⟨0,0,0,0,0,0,0,0,0,0,0,0,0,0,[],[]⟩
def lP(c:Config)(self:Int)(n:Node)(x:Msg)(who:Int):Node×List Msg :=
 if x.node=self then (kd c n x.topic x.count who,[])
 else (n,[if 0≤who then { lL with kind:=12,to:=x.node,topic:=x.topic,count:=x.count,value:=who } else { lL with kind:=13,to:=x.node,topic:=x.topic,count:=x.count }])
def cO(n:Node)(path:List Int):List Int→List Int→List Int
 | todo,[]=>todo
 | todo,k::r=>cO n path (if (oY n k&& !path.contains k&& !todo.contains k)=true then todo++[k] else todo) r
def ol{α:Type}(l:List α)(k:Nat):List α:=l.drop (l.length-k)
def goN(c:Config)(self:Int)(n:Node)(x:Msg)(todo:List Int):Node×List Msg :=
 if todo=[]∨16≤x.hops then lP c self n x (-1)
 else (n,[{ lL with kind:=11,to:=todo.getLastD 0,topic:=x.topic,node:=x.node,inc:=x.inc,count:=x.count,value:=x.value,hops:=x.hops+1,path:=x.path++[self],todo:=todo.dropLast }])
def iv(c:Config)(self:Int)(n:Node)(x:Msg):Node×List Msg :=
 if (bi n x.topic).sub=true then lP c self { n with taken:=ol (n.taken++[⟨x.node,x.inc,x.count,x.topic,x.value⟩]) 64 } x self
 else goN c self n x (cO n (x.path++[self]) x.todo (qW self n x.topic))
def ba:Node:=⟨false,0,[],[],[],0,0,[],[]⟩
def aN(c:Config)(self:Int)(n:Node)(t value:Int):Node×List Msg×Int×Int :=
 if ax c self n=0 then
  if (rng t 0 (c.topics-1)&&val value)=true then
   if n.asks<40 then
    let m:Node:={ n with asks:=n.asks+1,calls:=n.calls++[⟨n.asks+1,t,0⟩],marks:=jB n.marks self n.inc (n.asks+1) }
    let r:=iv c self m { lL with topic:=t,node:=self,inc:=n.inc,count:=n.asks+1,value:=value }
    (r.1,r.2,n.asks+1,0)
   else (ba,[],0,11)
  else (ba,[],0,1)
 else (ba,[],0,ax c self n)
def u7(m:Msg):Bool:=isN m.frm&&isN m.to&&decide (m.frm≠m.to)&&cnt m.fromInc
def mX(l:List Int):Bool:=decide (l.length≤8)&&l.all isN&&decide l.Nodup
def u9(m:Msg):Bool:=rng m.epoch 1 1073741824&&cnt m.seq
def lZ(m:Msg):Bool:=isN m.node&&cnt m.inc&&val m.value&&rng m.hops 0 16
def kH(m:Msg):Msg×Bool :=
 if m.kind=1∨m.kind=5∨m.kind=6 then (m,true)
 else if m.kind=2 then ({ m with epoch:=0 },rng m.epoch 0 1073741824)
 else if m.kind=3 then ({ m with epoch:=0,seq:=0,last:=0,path:=[] },rng m.epoch 0 1073741824&&cnt m.seq&&rng m.last 0 1073741824&&decide (0<m.path.length)&&mX m.path&&decide (m.path.getD 0 0=m.frm))
 else if m.kind=4 then ({ m with node:=0 },isN m.node&&decide (m.node≠m.frm)&&decide (m.node≠m.to))
 else if m.kind=7 then ({ m with epoch:=0,seq:=0,value:=0 },u9 m&&val m.value)
 else if m.kind=8 then ({ m with epoch:=0,seq:=0 },u9 m)
 else if m.kind=9 then ({ m with epoch:=0,seq:=0,last:=0 },u9 m&&rng m.last m.seq 1073741824)
 else if m.kind=10 then ({ m with node:=0,inc:=0,count:=0,value:=0,hops:=0 },lZ m&&cnt m.count)
 else if m.kind=11 then ({ m with node:=0,inc:=0,count:=0,value:=0,hops:=0,path:=[],todo:=[] },lZ m&&rng m.count 1 40&&mX m.path&&mX m.todo&&decide (m.path++m.todo).Nodup)
 else if m.kind=12 then ({ m with count:=0,value:=0 },rng m.count 1 40&&isN m.value)
 else if m.kind=13 then ({ m with count:=0 },rng m.count 1 40)
 else (m,false)
def ln(m:Msg):Bool:=u7 m&&(if m.kind=1 then decide (m.toInc=0)&&decide (m.topic=0) else cnt m.toInc&&rng m.topic 0 3)
def rH(r:Msg):Bool:=decide (r.epoch≠0)||decide (r.seq≠0)||decide (r.last≠0)||decide (r.value≠0)||decide (r.node≠0)||decide (r.inc≠0)||decide (r.count≠0)||decide (r.hops≠0)
def gR(m:Msg):Bool:=(kH m).2&&ln m&& !rH (kH m).1&&decide ((kH m).1.path.length=0)&&decide ((kH m).1.todo.length=0)
def vM(x:Topic):Topic:={ x with parent:=0,asked:=0,other:=0,age:=0,path:=[] }
def ua(c:Config)(t self:Int)(x:Topic):Int:=if bx c=true then (if (jO c t self&&aM c t self x)=true then 0 else 1) else 13
def nz(n top:Int):Int:=if top-top % 16+n≤top then top-top % 16+n+16 else top-top % 16+n
def jP(n top:Int):Int:=if 1073741824<nz n top then 0 else nz n top
def Ph(e n:Int):Stream:=⟨e,n,n,[],[]⟩
def ak(self:Int)(x:Topic):Topic×Int :=
 if x.root≠0∧x.root=x.top then (x,0)
 else if jP self x.top=0 then (fF,11)
 else ({ vM x with root:=jP self x.top,top:=jP self x.top,stream:=Ph (jP self x.top) 1 },0)
def Iq(self:Int)(x:Topic):Topic:=if (ak self x).2=0 then (ak self x).1 else x
def Ci(x:Topic):Bool:=x.sub||decide (0<x.kids.length)
def ub(self:Int)(n:Node)(m:Msg):Msg:={ m with frm:=self,fromInc:=n.inc,toInc:=if m.kind=1 then 0 else (n.peers.getD m.to.toNat ⟨0,0⟩).inc }
def dz(self:Int)(n:Node):List Msg→Option (List Msg)
 | []=>some []
 | m::r=>if (decide (m.kind=1)||oY n m.to)=true then (if gR (ub self n m)=true then (dz self n r).map (ub self n m:: ·) else none) else dz self n r
def kI(self:Int)(n:Node)(l:List Msg):List Msg:=(dz self n l).getD []
def Gz(self t:Int)(live:List Int):Bool:=decide ((Ac t live).1=self)
def qX(l:List Item)(want limit v:Int):List Item:=ol (l++[⟨want,v⟩]) limit.toNat
def eI(c:Config)(sub:Bool)(r:Stream×List Event×List Item)(v:Int):Stream×List Event×List Item :=
  ({ r.1 with kept:=qX r.1.kept r.1.want c.keep v,want:=r.1.want+1,known:=max r.1.known (r.1.want+1) },
   if sub=true then tq r.2.1 c.queue ⟨1,r.1.epoch,r.1.want,0,v,0⟩ else r.2.1,r.2.2++[⟨r.1.want,v⟩])
def eg:Int→List Item→List Item
 | _,[]=>[]
 | w,x::r=>if x.seq=w then x::eg (w+1) r else []
def uc(l:List Item)(want:Int):List Item:=l.filter fun x=> !decide (x.seq<want)
def bu(l:List Item)(want:Int):List Item:=eg want (uc l want)
def qY(l:List Item)(want:Int):List Item:=(uc l want).drop (bu l want).length
def US(c:Config)(sub:Bool)(r:Stream×List Event×List Item):Stream×List Event×List Item :=
 let q:=((bu r.1.ahead r.1.want).foldl (fun r x=>eI c sub r x.value) r)
 ({ q.1 with ahead:=qY r.1.ahead r.1.want },q.2)
def ce(c:Config)(s:Stream)(sub:Bool)(q:List Event)(v:Int):Stream×List Event×List Item:=US c sub (eI c sub (s,q,[]) v)
def jQ(t:Int)(x:Topic)(on:List Item):List Msg :=
 on.flatMap fun i=>x.kids.map fun k=>{ lL with kind:=7,to:=k.node,topic:=t,epoch:=x.stream.epoch,seq:=i.seq,value:=i.value }
def au(c:Config)(t self:Int)(x:Topic)(v:Int):Topic×List Msg×Int :=
 if (ak self x).2≠0 then (fF,[],(ak self x).2)
 else if 1073741823≤(ak self x).1.stream.want then (fF,[],11)
 else
  let y:=(ak self x).1
  let r:=ce c y.stream y.sub y.queue v
  let z:Topic:={ y with stream:=r.1,queue:=r.2.1 }
  (z,jQ t z r.2.2,0)
def bt(c:Config)(self:Int)(n:Node)(t:Int):Int:=if ax c self n=0 then (if rng t 0 (c.topics-1)=true then 0 else 1) else ax c self n
def aH(c:Config)(self:Int)(n:Node)(t:Int):Int:=if bt c self n t=0 then (if (bi n t).made=true then 0 else 7) else bt c self n t
def bp(n:Node)(t:Int)(x:Topic):Node:={ n with topics:=n.topics.set t.toNat x }
def dl(c:Config)(self:Int)(n:Node)(t:Int):Node×Int :=
 if bt c self n t=0 then (if (bi n t).made=true then (ba,8) else (bp n t { bi n t with made:=true },0)) else (ba,bt c self n t)
def cN(c:Config)(self:Int)(n:Node)(t:Int)(sub:Bool)(why:Int):Node×Int :=
 if aH c self n t=0 then (if (bi n t).sub=sub then (ba,why) else (bp n t { bi n t with sub:=sub,queue:=[] },0)) else (ba,aH c self n t)
def Lx(self:Int)(n:Node)(t v:Int):Msg:={ lL with kind:=10,to:=iG t (iC n.peers self) self,topic:=t,node:=self,inc:=n.inc,count:=n.pubs+1,value:=v }
def GA(c:Config)(self:Int)(n:Node)(t v:Int):Node×List Msg×Int×Int :=
 let m:Node:={ n with pubs:=n.pubs+1 }
 if Gz self t (iC n.peers self)=true then
  if (au c t self (bi n t) v).2.2=0 then (bp m t (au c t self (bi n t) v).1,kI self m (au c t self (bi n t) v).2.1,n.pubs+1,0)
  else (ba,[],0,(au c t self (bi n t) v).2.2)
 else (m,kI self m [Lx self n t v],n.pubs+1,0)
def fG(c:Config)(self:Int)(n:Node)(t v:Int):Node×List Msg×Int×Int :=
 if 1073741824≤n.pubs then (ba,[],0,11) else GA c self n t v
def bf(c:Config)(self:Int)(n:Node)(t v:Int):Node×List Msg×Int×Int :=
 if aH c self n t=0 then (if val v=true then fG c self n t v else (ba,[],0,1)) else (ba,[],0,aH c self n t)
def cy(c:Config)(self:Int)(n:Node)(t v:Int):Node×List Msg×Int×Int :=
  if aH c self n t=0 then
    (if (aN c self n t v).2.2.2=0 then ((aN c self n t v).1,kI self (aN c self n t v).1 (aN c self n t v).2.1,(aN c self n t v).2.2.1,0)
     else (ba,[],0,(aN c self n t v).2.2.2))
  else (ba,[],0,aH c self n t)
def dL(c:Config)(self:Int)(n:Node)(t:Int):Node×Event×Int :=
  if aH c self n t=0 then
    (match (bi n t).queue with
     | []=>(ba,cx,10)
     | x::r=>(bp n t { bi n t with queue:=r },x,0))
  else (ba,cx,aH c self n t)
set_option linter.defProp false
theorem be{p:Config→Prop}(h: ∀x,p x): ∀a0 a1 a2 a3 a4 a5 a6,p (Config.mk a0 a1 a2 a3 a4 a5 a6):=fun _ _ _ _ _ _ _=>h _
theorem U8{p:Peer→Prop}(h: ∀x,p x): ∀a0 a1,p (Peer.mk a0 a1):=fun _ _=>h _
theorem UT{p:Kid→Prop}(h: ∀x,p x): ∀a0 a1 a2,p (Kid.mk a0 a1 a2):=fun _ _ _=>h _
theorem Rg{p:Item→Prop}(h: ∀x,p x): ∀a0 a1,p (Item.mk a0 a1):=fun _ _=>h _
theorem rI{p:Event→Prop}(h: ∀x,p x): ∀a0 a1 a2 a3 a4 a5,p (Event.mk a0 a1 a2 a3 a4 a5):=fun _ _ _ _ _ _=>h _
theorem iH{p:Stream→Prop}(h: ∀x,p x): ∀a0 a1 a2 a3 a4,p (Stream.mk a0 a1 a2 a3 a4):=fun _ _ _ _ _=>h _
theorem U9{p:Mark→Prop}(h: ∀x,p x): ∀a0 a1 a2,p (Mark.mk a0 a1 a2):=fun _ _ _=>h _
theorem SD{p:Mark2→Prop}(h: ∀x,p x): ∀a0 a1 a2 a3 a4,p (Mark2.mk a0 a1 a2 a3 a4):=fun _ _ _ _ _=>h _
theorem dA{p:Topic→Prop}(h: ∀x,p x): ∀a0 a1 a2 a3 a4 a5 a6 a7 a8 a9 a10 a11 a12 a13 a14 a15,p (Topic.mk a0 a1 a2 a3 a4 a5 a6 a7 a8 a9 (Stream.mk a10 a11 a12 a13 a14) a15):=fun _ _ _ _ _ _ _ _ _ _ _ _ _ _ _ _=>h _
theorem cM{p:Node→Prop}(h: ∀x,p x): ∀a0 a1 a2 a3 a4 a5 a6 a7 a8,p (Node.mk a0 a1 a2 a3 a4 a5 a6 a7 a8):=fun _ _ _ _ _ _ _ _ _=>h _
theorem vN{p:Msg→Prop}(h: ∀x,p x): ∀a0 a1 a2 a3 a4 a5 a6 a7 a8 a9 a10 a11 a12 a13 a14 a15,p (Msg.mk a0 a1 a2 a3 a4 a5 a6 a7 a8 a9 a10 a11 a12 a13 a14 a15):=fun _ _ _ _ _ _ _ _ _ _ _ _ _ _ _ _=>h _
def RR:=And.intro @Vr (And.intro @mk0 (And.intro @mk1 (And.intro @mk2 (And.intro @UQ (And.intro @UR (And.intro @U2 (And.intro @U3 (And.intro @UE (And.intro @UF (And.intro @UG (And.intro @List.cons_append.{0} (And.intro @List.nil_append.{0} (And.intro @Config.row_eq (And.intro @Peer.row_eq (And.intro @Kid.row_eq (And.intro @Item.row_eq (And.intro @Event.row_eq (And.intro @Stream.row_eq (And.intro @Call.row_eq (And.intro @Mark.row_eq (And.intro @Mark2.row_eq (And.intro @Topic.row_eq (And.intro @Node.row_eq (And.intro @Msg.row_eq (And.intro @Step.row_eq (And.intro @By.row_eq (And.intro @Frame.row_eq (And.intro @World.row_eq (@Ans.row_eq)))))))))))))))))))))))))))))
def S0:=And.intro @TC (And.intro @Sp (And.intro @QS (And.intro @Sq (And.intro @Sr (And.intro @TD (And.intro @TE (And.intro @TF (And.intro @Ss (And.intro @TG (And.intro @St (And.intro @Su (And.intro @QU (And.intro @Sv (And.intro @QV (And.intro @Sw (And.intro @QY (And.intro @QW (And.intro @QX (And.intro @TH (And.intro @TI (And.intro @TJ (And.intro @TK (And.intro @eH (And.intro @TL (And.intro @TM (And.intro @TN (And.intro @TO (And.intro @TP (And.intro @TQ (And.intro @UK (And.intro @UL (And.intro @TS (And.intro @UI (And.intro @Sx (And.intro @Hp (And.intro @UJ (And.intro @jM (And.intro @bn (And.intro @Sy (And.intro @Sz (And.intro @SA (And.intro @SC (And.intro @R5 (And.intro @R6 (And.intro @R7 (And.intro @Ad (And.intro @Ae (And.intro @xV (And.intro @Io (And.intro @NS (And.intro @PT (And.intro @dt (And.intro @Ls (And.intro @Ip (And.intro @NT (And.intro @NU (And.intro @Lt (And.intro @Lu (And.intro @NV (And.intro @vo (And.intro @NW (And.intro @Rd (And.intro @Lv (And.intro @Lw (@PU)))))))))))))))))))))))))))))))))))))))))))))))))))))))))))))))))
def SB:=And.intro @S0 (@C1)
def S1:=And.intro @decide_eq_true_eq (And.intro @decide_eq_false_iff_not (And.intro @Bool.not_eq_eq_eq_not (And.intro @Bool.not_true (And.intro @Bool.not_false (And.intro @Bool.false_eq_true (And.intro @Bool.true_eq_false (And.intro @false_implies (And.intro @true_implies (And.intro @true_and (And.intro @and_true (And.intro @not_true_eq_false (And.intro @not_false_eq_true (And.intro @decide_true (And.intro @decide_false (And.intro @Vn (And.intro @Vo (And.intro @Vp (And.intro @Vq (And.intro @UH (And.intro @TA (And.intro @TB (And.intro @UE (And.intro @UF (And.intro @UG (And.intro @U4 (And.intro @U5 (And.intro @U6 (And.intro @U7 (And.intro @Config.row_eq (And.intro @Config.eta (And.intro @Peer.row_eq (And.intro @Peer.eta (And.intro @Kid.row_eq (And.intro @Kid.eta (And.intro @Item.row_eq (And.intro @Item.eta (And.intro @Event.row_eq (And.intro @Event.eta (And.intro @Stream.row_eq (And.intro @Stream.eta (And.intro @Call.row_eq (And.intro @Call.eta (And.intro @Mark.row_eq (And.intro @Mark.eta (And.intro @Mark2.row_eq (And.intro @Mark2.eta (And.intro @Topic.row_eq (And.intro @Topic.eta (And.intro @Node.row_eq (And.intro @Node.eta (And.intro @Msg.row_eq (And.intro @Msg.eta (And.intro @Step.row_eq (And.intro @Step.eta (And.intro @By.row_eq (And.intro @By.eta (And.intro @Frame.row_eq (And.intro @Frame.eta (And.intro @World.row_eq (And.intro @World.eta (And.intro @Ans.row_eq (And.intro @Ans.eta (And.intro @eq_self.{1} (And.intro @if_true.{1} (And.intro @if_false.{1} (And.intro @implies_true.{0} (@implies_true.{1})))))))))))))))))))))))))))))))))))))))))))))))))))))))))))))))))))
def S2:=And.intro @TU (And.intro @UN (And.intro @TV (And.intro @UO (And.intro @UP (And.intro @TW (And.intro @TX (@ite_self.{1})))))))
def S3:=And.intro @TY (And.intro @TZ (And.intro @U0 (@UM)))
def LN:=And.intro @List.length_cons.{0} (And.intro @List.length_nil.{0} (@List.length_append.{0}))
end Go.Xt
