/- CallsRight: for every input the law returns true, and each argument reads afterwards as it read before. No further conditions. -/
import Derived.ProofKit
import Derived.Test.YtjolhiejojfkkaaGreatDoorRows
import Derived.ChangeSame
import Derived.JoinedOf
import Derived.RowKit
import Derived.SevenTiedAt
import Derived.Test.YtjolhiejojfkkaaGreatDoorCards
import Derived.Test.YtjolhiejojfkkaaGreatDoorTie
import Derived.Test.YtjolhiejojfkkaaGreatDoorEr6
import Derived.Test.YtjolhiejojfkkaaGreatDoorV3
import Derived.Test.YtjolhiejojfkkaaGreatDoorV5
import Derived.Test.YtjolhiejojfkkaaGreatDoorV6
import Derived.Test.YtjolhiejojfkkaaGreatDoorOklCallsRight
import Derived.Test.YtjolhiejojfkkaaGreatDoorCloCallsRight
namespace Go.Proofs.YtjolhiejojfkkaaGreatDoor
open Go.ChangeShapes Go.WideShapes Go.ChangeAt Go.RowKit Go.Xt
set_option maxRecDepth 100000
set_option linter.unusedVariables false
set_option linter.unusedSimpArgs false
theorem Tryz.ownK:ownKnob Tryz.prog.godebug=none:=by kernel_rfl
theorem Tryz.laidO:laidOutB Tryz.prog=true:=by kernel_rfl
theorem CallsRight_law: ∀ps,ay Has [.int .i64,.int .i64,.int .i64,.int .i64,.int .i64,.int .i64,.int .i64,.int .i64,.bool,.int .i64,.list 16 [.int .i64,.int .i64],.list 200 [.bool,.bool,.int .i64,.int .i64,.int .i64,.int .i64,.int .i64,.int .i64,.list 8 [.int .i64],.list 24 [.int .i64,.int .i64,.int .i64],.int .i64,.int .i64,.int .i64,.list 16 [.int .i64,.int .i64],.list 16 [.int .i64,.int .i64],.list 48 [.int .i64,.int .i64,.int .i64,.int .i64,.int .i64,.int .i64]],.list 24 [.int .i64,.int .i64,.int .i64],.int .i64,.int .i64,.list 24 [.int .i64,.int .i64,.int .i64],.list 40 [.int .i64,.int .i64,.int .i64,.int .i64,.int .i64],.int .i64,.int .i64,.int .i64] ps→ov ps=some [.bool true]:=by
 intro ps h
 obtain ⟨p0,r0,rfl,h0,g0⟩:=Uw h
 obtain ⟨p1,r1,rfl,h1,g1⟩:=Uw g0
 obtain ⟨p2,r2,rfl,h2,g2⟩:=Uw g1
 obtain ⟨p3,r3,rfl,h3,g3⟩:=Uw g2
 obtain ⟨p4,r4,rfl,h4,g4⟩:=Uw g3
 obtain ⟨p5,r5,rfl,h5,g5⟩:=Uw g4
 obtain ⟨p6,r6,rfl,h6,g6⟩:=Uw g5
 obtain ⟨p7,r7,rfl,h7,g7⟩:=Uw g6
 obtain ⟨p8,r8,rfl,h8,g8⟩:=Uw g7
 obtain ⟨p9,r9,rfl,h9,g9⟩:=Uw g8
 obtain ⟨p10,r10,rfl,h10,g10⟩:=Uw g9
 obtain ⟨p11,r11,rfl,h11,g11⟩:=Uw g10
 obtain ⟨p12,r12,rfl,h12,g12⟩:=Uw g11
 obtain ⟨p13,r13,rfl,h13,g13⟩:=Uw g12
 obtain ⟨p14,r14,rfl,h14,g14⟩:=Uw g13
 obtain ⟨p15,r15,rfl,h15,g15⟩:=Uw g14
 obtain ⟨p16,r16,rfl,h16,g16⟩:=Uw g15
 obtain ⟨p17,r17,rfl,h17,g17⟩:=Uw g16
 obtain ⟨p18,r18,rfl,h18,g18⟩:=Uw g17
 obtain ⟨p19,r19,rfl,h19,g19⟩:=Uw g18
 obtain rfl:=Vh g19
 obtain ⟨c_nodes,rfl⟩:=aF h0
 obtain ⟨c_topics,rfl⟩:=aF h1
 obtain ⟨c_kids,rfl⟩:=aF h2
 obtain ⟨c_depth,rfl⟩:=aF h3
 obtain ⟨c_keep,rfl⟩:=aF h4
 obtain ⟨c_window,rfl⟩:=aF h5
 obtain ⟨c_queue,rfl⟩:=aF h6
 obtain ⟨self,rfl⟩:=aF h7
 obtain ⟨n_up,rfl⟩:=yS h8
 obtain ⟨n_inc,rfl⟩:=aF h9
 obtain ⟨n_peers,rfl,s10⟩:=eE (α:=Go.Xt.Peer) h10 rfl rfl
 obtain ⟨n_topics,rfl,s11⟩:=eE (α:=Go.Xt.Topic) h11 rfl rfl
 obtain ⟨n_calls,rfl,s12⟩:=eE (α:=Go.Xt.Call) h12 rfl rfl
 obtain ⟨n_pubs,rfl⟩:=aF h13
 obtain ⟨n_asks,rfl⟩:=aF h14
 obtain ⟨n_marks,rfl,s15⟩:=eE (α:=Go.Xt.Mark) h15 rfl rfl
 obtain ⟨n_taken,rfl,s16⟩:=eE (α:=Go.Xt.Mark2) h16 rfl rfl
 obtain ⟨t,rfl⟩:=aF h17
 obtain ⟨value,rfl⟩:=aF h18
 obtain ⟨kind,rfl⟩:=aF h19
 exact O5
theorem CallsRight_hs{H:Type}(ds gs:List (DataW H))(h:ds.length=6)(hg:gs=[]):Rows.callsRightSpec.fn H (ds++gs)={ results:=[.lit (.bool true)],args:=ds,vars:=[] }:=by
 subst hg
 match ds,h with
 | [d0,d1,d2,d3,d4,d5],_=>rfl
theorem CallsRight_met(os:Os)(args:Array Value):laidMetH Tryz.prog Rows.callsRightRow.laid ((Ux Tryz.prog 0 O8 os).forCall (fun _ _=>0) ⟨#[],args,[]⟩).memory :=
 laidMetH_of_parts (laidMet_nil _ _) (by kernel_rfl)
theorem CallsRight_lifted(os:Os)(started:os.Started)(H:Type)(enc:TypeId×Value→H) :
  ReturnsInHanded {} Tryz.checked os 10 .any (fun w args=>(Rows.callsRightSpec.pre enc Tryz.prog Tryz.f10 Rows.callsRightRow.domain false w args∧laidMetH Tryz.prog Rows.callsRightRow.laid w)∧sizedMet enc Tryz.prog Tryz.f10 (OpenSpec.ofChange Rows.callsRightSpec) false w args)
   (Rows.callsRightSpec.post enc Tryz.prog Tryz.f10 false true false false):=by
 refine returnsInHanded_of_change_and (C:=Tryz.checked) (X:=fun w _=>laidMetH Tryz.prog Rows.callsRightRow.laid w) (fun _ _ _ hh h=>h.of_heap hh) Tryz.ownK started (by kernel_rfl) Tryz.func10
  (ChangeSpec.witness_at (enc:=enc) (C:=Tryz.checked) (os:=os) (X:=fun w _=>laidMetH Tryz.prog Rows.callsRightRow.laid w) false (Ux Tryz.prog 0 O8 os) #[.agg #[.int .i64 0,.int .i64 0,.int .i64 0,.int .i64 0,.int .i64 0,.int .i64 0,.int .i64 0],.int .i64 0,.agg #[.bool false,.int .i64 0,.slice none 0 0,.slice none 0 0,.slice none 0 0,.int .i64 0,.int .i64 0,.slice none 0 0,.slice none 0 0],.int .i64 0,.int .i64 0,.int .i64 0] 8 rfl (by kernel_rfl) (by kernel_rfl) (by kernel_rfl) (by kernel_rfl) (by kernel_rfl) (CallsRight_met os _)) ?_
 intro W base args ds gs before hval0 hW _ hsz hL _
 have hval: ∀(j:Nat) t v,Tryz.f10.params[j]? =some t→args[j]? =some v→Value.okWide Tryz.prog W .any base t v:=hval0
 have hW':=hW
 obtain ⟨p,q,hA,hV,_,_,_⟩:=hW'
 have hn:ds.length=6:=Nb _ _ _ _ hA
 have hg:gs=[]:=(trodVars_none hV).1
 exact Uv (hP:=Nd) Tryz.func10 (by kernel_rfl) (tb:=Tryz.f10.resultTypes[0]!) (by kernel_rfl) (tys:=[.int .i64,.int .i64,.int .i64,.int .i64,.int .i64,.int .i64,.int .i64,.int .i64,.bool,.int .i64,.list 16 [.int .i64,.int .i64],.list 200 [.bool,.bool,.int .i64,.int .i64,.int .i64,.int .i64,.int .i64,.int .i64,.list 8 [.int .i64],.list 24 [.int .i64,.int .i64,.int .i64],.int .i64,.int .i64,.int .i64,.list 16 [.int .i64,.int .i64],.list 16 [.int .i64,.int .i64],.list 48 [.int .i64,.int .i64,.int .i64,.int .i64,.int .i64,.int .i64]],.list 24 [.int .i64,.int .i64,.int .i64],.int .i64,.int .i64,.list 24 [.int .i64,.int .i64,.int .i64],.list 40 [.int .i64,.int .i64,.int .i64,.int .i64,.int .i64],.int .i64,.int .i64,.int .i64]) (by kernel_rfl) CallsRight_law Tryz.laidO
  (by decide +kernel) rfl (Vi hL) (CallsRight_hs ds gs hn hg) hW hval (Vw rfl hg hsz)
theorem callsRight_holds:Rows.CallsRightSaid :=
 OpenClaim.holds_of_wide 10 Tryz.f10 rfl rfl rfl rfl rfl rfl rfl ⟨rfl,rfl,rfl,rfl,rfl⟩ rfl rfl rfl rfl rfl (by kernel_rfl) Tryz.func10 callsRight_closed
  (of_decide_eq_true (by kernel_rfl)) (by unfold Func.isWrapper;first | (rw[if_pos (by decide +kernel)];kernel_rfl) | (rw[if_neg (by decide +kernel)];exact ⟨rfl,rfl⟩))
  (fun os started H enc _=>CallsRight_lifted os started H enc)
theorem callsRight_card:Rows.CallsRightCardSaid :=
 Claim7.holds_tied_plain_at .later [] [.handle] true (true, "bf4c40c1f00effd6a30992f5b113f7095f5c478138ee8815c34ca87f5007e8aa") true
  callsRight_holds (fun _ h=>by cases h) callsRight_wf (fun _ h=>by cases h) callsRight_row_tie rfl ⟨rfl,rfl⟩ callsRight_main rfl
  (fun f fn hf hfn=>by
   obtain rfl:f=10:=Option.some.inj (callsRight_fn.symm.trans hf) |>.symm
   obtain rfl:fn=Tryz.f10:=(Option.some.inj (Tryz.func10.symm.trans hfn)).symm
   refine ⟨callsRight_looks,fun j t ht=>?_⟩
   have hm:t∈Tryz.f10.params.toList:=by rw[Array.mem_toList_iff];exact Array.mem_of_getElem? ht
   have h2:(!Tryz.prog.wantsStandIn t)=true:=List.all_eq_true.1 callsRight_stands t hm
   cases hb:Tryz.prog.wantsStandIn t with
   | false=>exact hb
   | true=>rw[hb] at h2;cases h2)
  callsRight_goes
end Go.Proofs.YtjolhiejojfkkaaGreatDoor
