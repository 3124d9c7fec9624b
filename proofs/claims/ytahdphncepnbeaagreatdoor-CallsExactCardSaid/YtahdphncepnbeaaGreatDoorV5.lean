/- Steps towards the statements of this seat; the conditions stand in each theorem. -/
import Derived.Test.YtahdphncepnbeaaGreatDoorSpecs
import Derived.Test.YtahdphncepnbeaaGreatDoorV3
set_option linter.unusedSimpArgs false
set_option linter.unusedVariables false
namespace Go.Xt
open Go.RowKit Go.ChangeShapes Go.WideShapes
instance:RowTy Peer:=⟨[.int .i64,.int .i64],16,fun _=>True,fun r h=>by
 match r,h with
 | [p0,p1],⟨h0,h1,_⟩ =>
  obtain ⟨x_inc,rfl⟩:=aB h0
  obtain ⟨x_age,rfl⟩:=aB h1
  exact ⟨(Peer.mk x_inc x_age),rfl,trivial⟩⟩
instance:RowTy Kid:=⟨[.int .i64,.int .i64,.int .i64],24,fun _=>True,fun r h=>by
 match r,h with
 | [p0,p1,p2],⟨h0,h1,h2,_⟩ =>
  obtain ⟨x_node,rfl⟩:=aB h0
  obtain ⟨x_inc,rfl⟩:=aB h1
  obtain ⟨x_age,rfl⟩:=aB h2
  exact ⟨(Kid.mk x_node x_inc x_age),rfl,trivial⟩⟩
instance:RowTy Item:=⟨[.int .i64,.int .i64],16,fun _=>True,fun r h=>by
 match r,h with
 | [p0,p1],⟨h0,h1,_⟩ =>
  obtain ⟨x_seq,rfl⟩:=aB h0
  obtain ⟨x_value,rfl⟩:=aB h1
  exact ⟨(Item.mk x_seq x_value),rfl,trivial⟩⟩
instance:RowTy Event:=⟨[.int .i64,.int .i64,.int .i64,.int .i64,.int .i64,.int .i64],48,fun _=>True,fun r h=>by
 match r,h with
 | [p0,p1,p2,p3,p4,p5],⟨h0,h1,h2,h3,h4,h5,_⟩ =>
  obtain ⟨x_kind,rfl⟩:=aB h0
  obtain ⟨x_epoch,rfl⟩:=aB h1
  obtain ⟨x_seq,rfl⟩:=aB h2
  obtain ⟨x_last,rfl⟩:=aB h3
  obtain ⟨x_value,rfl⟩:=aB h4
  obtain ⟨x_count,rfl⟩:=aB h5
  exact ⟨(Event.mk x_kind x_epoch x_seq x_last x_value x_count),rfl,trivial⟩⟩
instance:RowTy Call:=⟨[.int .i64,.int .i64,.int .i64],24,fun _=>True,fun r h=>by
 match r,h with
 | [p0,p1,p2],⟨h0,h1,h2,_⟩ =>
  obtain ⟨x_count,rfl⟩:=aB h0
  obtain ⟨x_topic,rfl⟩:=aB h1
  obtain ⟨x_age,rfl⟩:=aB h2
  exact ⟨(Call.mk x_count x_topic x_age),rfl,trivial⟩⟩
instance:RowTy Mark:=⟨[.int .i64,.int .i64,.int .i64],24,fun _=>True,fun r h=>by
 match r,h with
 | [p0,p1,p2],⟨h0,h1,h2,_⟩ =>
  obtain ⟨x_inc,rfl⟩:=aB h0
  obtain ⟨x_pubs,rfl⟩:=aB h1
  obtain ⟨x_met,rfl⟩:=aB h2
  exact ⟨(Mark.mk x_inc x_pubs x_met),rfl,trivial⟩⟩
instance:RowTy Mark2:=⟨[.int .i64,.int .i64,.int .i64,.int .i64,.int .i64],40,fun _=>True,fun r h=>by
 match r,h with
 | [p0,p1,p2,p3,p4],⟨h0,h1,h2,h3,h4,_⟩ =>
  obtain ⟨x_node,rfl⟩:=aB h0
  obtain ⟨x_inc,rfl⟩:=aB h1
  obtain ⟨x_count,rfl⟩:=aB h2
  obtain ⟨x_topic,rfl⟩:=aB h3
  obtain ⟨x_value,rfl⟩:=aB h4
  exact ⟨(Mark2.mk x_node x_inc x_count x_topic x_value),rfl,trivial⟩⟩
instance:RowTy Topic:=⟨[.bool,.bool,.int .i64,.int .i64,.int .i64,.int .i64,.int .i64,.int .i64,.list 8 [.int .i64],.list 24 [.int .i64,.int .i64,.int .i64],.int .i64,.int .i64,.int .i64,.list 16 [.int .i64,.int .i64],.list 16 [.int .i64,.int .i64],.list 48 [.int .i64,.int .i64,.int .i64,.int .i64,.int .i64,.int .i64]],200,fun x=>SzL x.path∧SzL x.kids∧SzL x.stream.kept∧SzL x.stream.ahead∧SzL x.queue,fun r h=>by
 match r,h with
 | [p0,p1,p2,p3,p4,p5,p6,p7,p8,p9,p10,p11,p12,p13,p14,p15],⟨h0,h1,h2,h3,h4,h5,h6,h7,h8,h9,h10,h11,h12,h13,h14,h15,_⟩ =>
  obtain ⟨x_made,rfl⟩:=yc h0
  obtain ⟨x_sub,rfl⟩:=yc h1
  obtain ⟨x_top,rfl⟩:=aB h2
  obtain ⟨x_root,rfl⟩:=aB h3
  obtain ⟨x_parent,rfl⟩:=aB h4
  obtain ⟨x_asked,rfl⟩:=aB h5
  obtain ⟨x_other,rfl⟩:=aB h6
  obtain ⟨x_age,rfl⟩:=aB h7
  obtain ⟨x_path,rfl,z8⟩:=eh (α:=Int) h8 rfl rfl
  obtain ⟨x_kids,rfl,z9⟩:=eh (α:=Kid) h9 rfl rfl
  obtain ⟨x_stream_epoch,rfl⟩:=aB h10
  obtain ⟨x_stream_want,rfl⟩:=aB h11
  obtain ⟨x_stream_known,rfl⟩:=aB h12
  obtain ⟨x_stream_kept,rfl,z13⟩:=eh (α:=Item) h13 rfl rfl
  obtain ⟨x_stream_ahead,rfl,z14⟩:=eh (α:=Item) h14 rfl rfl
  obtain ⟨x_queue,rfl,z15⟩:=eh (α:=Event) h15 rfl rfl
  exact ⟨(Topic.mk x_made x_sub x_top x_root x_parent x_asked x_other x_age x_path x_kids (Stream.mk x_stream_epoch x_stream_want x_stream_known x_stream_kept x_stream_ahead) x_queue),rfl,⟨z8,z9,z13,z14,z15⟩⟩⟩
instance:RowTy Node:=⟨[.bool,.int .i64,.list 16 [.int .i64,.int .i64],.list 200 [.bool,.bool,.int .i64,.int .i64,.int .i64,.int .i64,.int .i64,.int .i64,.list 8 [.int .i64],.list 24 [.int .i64,.int .i64,.int .i64],.int .i64,.int .i64,.int .i64,.list 16 [.int .i64,.int .i64],.list 16 [.int .i64,.int .i64],.list 48 [.int .i64,.int .i64,.int .i64,.int .i64,.int .i64,.int .i64]],.list 24 [.int .i64,.int .i64,.int .i64],.int .i64,.int .i64,.list 24 [.int .i64,.int .i64,.int .i64],.list 40 [.int .i64,.int .i64,.int .i64,.int .i64,.int .i64]],152,fun x=>SzL x.peers∧SzL x.topics∧SzL x.calls∧SzL x.marks∧SzL x.taken,fun r h=>by
 match r,h with
 | [p0,p1,p2,p3,p4,p5,p6,p7,p8],⟨h0,h1,h2,h3,h4,h5,h6,h7,h8,_⟩ =>
  obtain ⟨x_up,rfl⟩:=yc h0
  obtain ⟨x_inc,rfl⟩:=aB h1
  obtain ⟨x_peers,rfl,z2⟩:=eh (α:=Peer) h2 rfl rfl
  obtain ⟨x_topics,rfl,z3⟩:=eh (α:=Topic) h3 rfl rfl
  obtain ⟨x_calls,rfl,z4⟩:=eh (α:=Call) h4 rfl rfl
  obtain ⟨x_pubs,rfl⟩:=aB h5
  obtain ⟨x_asks,rfl⟩:=aB h6
  obtain ⟨x_marks,rfl,z7⟩:=eh (α:=Mark) h7 rfl rfl
  obtain ⟨x_taken,rfl,z8⟩:=eh (α:=Mark2) h8 rfl rfl
  exact ⟨(Node.mk x_up x_inc x_peers x_topics x_calls x_pubs x_asks x_marks x_taken),rfl,⟨z2,z3,z4,z7,z8⟩⟩⟩
instance:RowTy Msg:=⟨[.int .i64,.int .i64,.int .i64,.int .i64,.int .i64,.int .i64,.int .i64,.int .i64,.int .i64,.int .i64,.int .i64,.int .i64,.int .i64,.int .i64,.list 8 [.int .i64],.list 8 [.int .i64]],160,fun x=>SzL x.path∧SzL x.todo,fun r h=>by
 match r,h with
 | [p0,p1,p2,p3,p4,p5,p6,p7,p8,p9,p10,p11,p12,p13,p14,p15],⟨h0,h1,h2,h3,h4,h5,h6,h7,h8,h9,h10,h11,h12,h13,h14,h15,_⟩ =>
  obtain ⟨x_kind,rfl⟩:=aB h0
  obtain ⟨x_frm,rfl⟩:=aB h1
  obtain ⟨x_fromInc,rfl⟩:=aB h2
  obtain ⟨x_to,rfl⟩:=aB h3
  obtain ⟨x_toInc,rfl⟩:=aB h4
  obtain ⟨x_topic,rfl⟩:=aB h5
  obtain ⟨x_epoch,rfl⟩:=aB h6
  obtain ⟨x_seq,rfl⟩:=aB h7
  obtain ⟨x_last,rfl⟩:=aB h8
  obtain ⟨x_value,rfl⟩:=aB h9
  obtain ⟨x_node,rfl⟩:=aB h10
  obtain ⟨x_inc,rfl⟩:=aB h11
  obtain ⟨x_count,rfl⟩:=aB h12
  obtain ⟨x_hops,rfl⟩:=aB h13
  obtain ⟨x_path,rfl,z14⟩:=eh (α:=Int) h14 rfl rfl
  obtain ⟨x_todo,rfl,z15⟩:=eh (α:=Int) h15 rfl rfl
  exact ⟨(Msg.mk x_kind x_frm x_fromInc x_to x_toInc x_topic x_epoch x_seq x_last x_value x_node x_inc x_count x_hops x_path x_todo),rfl,⟨z14,z15⟩⟩⟩
instance:RowTy Step:=⟨[.int .i64,.int .i64,.int .i64,.int .i64,.int .i64],40,fun _=>True,fun r h=>by
 match r,h with
 | [p0,p1,p2,p3,p4],⟨h0,h1,h2,h3,h4,_⟩ =>
  obtain ⟨x_kind,rfl⟩:=aB h0
  obtain ⟨x_node,rfl⟩:=aB h1
  obtain ⟨x_topic,rfl⟩:=aB h2
  obtain ⟨x_value,rfl⟩:=aB h3
  obtain ⟨x_mask,rfl⟩:=aB h4
  exact ⟨(Step.mk x_kind x_node x_topic x_value x_mask),rfl,trivial⟩⟩
instance:RowTy By:=⟨[.int .u8],1,fun _=>True,fun r h=>by
 match r,h with
 | [p0],⟨h0,_⟩ =>
  obtain ⟨x_n,rfl⟩:=aB h0
  exact ⟨(By.mk x_n),rfl,trivial⟩⟩
instance:RowTy Frame:=⟨[.int .i64,.list 1 [.int .u8]],32,fun x=>SzL x.bytes,fun r h=>by
 match r,h with
 | [p0,p1],⟨h0,h1,_⟩ =>
  obtain ⟨x_to,rfl⟩:=aB h0
  obtain ⟨x_bytes,rfl,z1⟩:=eh (α:=By) h1 rfl rfl
  exact ⟨(Frame.mk x_to x_bytes),rfl,z1⟩⟩
end Go.Xt
