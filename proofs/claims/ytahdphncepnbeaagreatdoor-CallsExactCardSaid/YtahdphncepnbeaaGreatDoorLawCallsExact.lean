/- CallsExact: for every input the law returns true, and each argument reads afterwards as it read before. No further conditions. -/
import Derived.ProofKit
import Derived.Test.YtahdphncepnbeaaGreatDoorRows
import Derived.ChangeSame
import Derived.JoinedOf
import Derived.RowKit
import Derived.SevenTiedAt
import Derived.Test.YtahdphncepnbeaaGreatDoorCards
import Derived.Test.YtahdphncepnbeaaGreatDoorTie
import Derived.Test.YtahdphncepnbeaaGreatDoorEr6
import Derived.Test.YtahdphncepnbeaaGreatDoorV3
import Derived.Test.YtahdphncepnbeaaGreatDoorV5
import Derived.Test.YtahdphncepnbeaaGreatDoorV6
import Derived.Test.YtahdphncepnbeaaGreatDoorOklCallsExact
import Derived.Test.YtahdphncepnbeaaGreatDoorCloCallsExact
namespace Go.Proofs.YtahdphncepnbeaaGreatDoor
open Go.ChangeShapes Go.WideShapes Go.ChangeAt Go.RowKit Go.Xt
set_option maxRecDepth 100000
set_option linter.unusedVariables false
set_option linter.unusedSimpArgs false
theorem Tryz.ownK:ownKnob Tryz.prog.godebug=none:=by kernel_rfl
theorem Tryz.laidO:laidOutB Tryz.prog=true:=by kernel_rfl
theorem CallsExact_law: ∀ps,aw Has [.int .i64,.int .i64,.int .i64,.int .i64,.int .i64,.int .i64,.int .i64,.int .i64,.bool,.int .i64,.list 16 [.int .i64,.int .i64],.list 200 [.bool,.bool,.int .i64,.int .i64,.int .i64,.int .i64,.int .i64,.int .i64,.list 8 [.int .i64],.list 24 [.int .i64,.int .i64,.int .i64],.int .i64,.int .i64,.int .i64,.list 16 [.int .i64,.int .i64],.list 16 [.int .i64,.int .i64],.list 48 [.int .i64,.int .i64,.int .i64,.int .i64,.int .i64,.int .i64]],.list 24 [.int .i64,.int .i64,.int .i64],.int .i64,.int .i64,.list 24 [.int .i64,.int .i64,.int .i64],.list 40 [.int .i64,.int .i64,.int .i64,.int .i64,.int .i64],.int .i64,.int .i64] ps→nQ ps=some [.bool true]:=by
 intro ps h
 obtain ⟨p0,r0,rfl,h0,g0⟩:=TZ h
 obtain ⟨p1,r1,rfl,h1,g1⟩:=TZ g0
 obtain ⟨p2,r2,rfl,h2,g2⟩:=TZ g1
 obtain ⟨p3,r3,rfl,h3,g3⟩:=TZ g2
 obtain ⟨p4,r4,rfl,h4,g4⟩:=TZ g3
 obtain ⟨p5,r5,rfl,h5,g5⟩:=TZ g4
 obtain ⟨p6,r6,rfl,h6,g6⟩:=TZ g5
 obtain ⟨p7,r7,rfl,h7,g7⟩:=TZ g6
 obtain ⟨p8,r8,rfl,h8,g8⟩:=TZ g7
 obtain ⟨p9,r9,rfl,h9,g9⟩:=TZ g8
 obtain ⟨p10,r10,rfl,h10,g10⟩:=TZ g9
 obtain ⟨p11,r11,rfl,h11,g11⟩:=TZ g10
 obtain ⟨p12,r12,rfl,h12,g12⟩:=TZ g11
 obtain ⟨p13,r13,rfl,h13,g13⟩:=TZ g12
 obtain ⟨p14,r14,rfl,h14,g14⟩:=TZ g13
 obtain ⟨p15,r15,rfl,h15,g15⟩:=TZ g14
 obtain ⟨p16,r16,rfl,h16,g16⟩:=TZ g15
 obtain ⟨p17,r17,rfl,h17,g17⟩:=TZ g16
 obtain ⟨p18,r18,rfl,h18,g18⟩:=TZ g17
 obtain rfl:=UL g18
 obtain ⟨c_nodes,rfl⟩:=aB h0
 obtain ⟨c_topics,rfl⟩:=aB h1
 obtain ⟨c_kids,rfl⟩:=aB h2
 obtain ⟨c_depth,rfl⟩:=aB h3
 obtain ⟨c_keep,rfl⟩:=aB h4
 obtain ⟨c_window,rfl⟩:=aB h5
 obtain ⟨c_queue,rfl⟩:=aB h6
 obtain ⟨self,rfl⟩:=aB h7
 obtain ⟨n_up,rfl⟩:=yc h8
 obtain ⟨n_inc,rfl⟩:=aB h9
 obtain ⟨n_peers,rfl,s10⟩:=eh (α:=Go.Xt.Peer) h10 rfl rfl
 obtain ⟨n_topics,rfl,s11⟩:=eh (α:=Go.Xt.Topic) h11 rfl rfl
 obtain ⟨n_calls,rfl,s12⟩:=eh (α:=Go.Xt.Call) h12 rfl rfl
 obtain ⟨n_pubs,rfl⟩:=aB h13
 obtain ⟨n_asks,rfl⟩:=aB h14
 obtain ⟨n_marks,rfl,s15⟩:=eh (α:=Go.Xt.Mark) h15 rfl rfl
 obtain ⟨n_taken,rfl,s16⟩:=eh (α:=Go.Xt.Mark2) h16 rfl rfl
 obtain ⟨t,rfl⟩:=aB h17
 obtain ⟨value,rfl⟩:=aB h18
 exact Nz
theorem CallsExact_hs{H:Type}(ds gs:List (DataW H))(h:ds.length=5)(hg:gs=[]):Rows.callsExactSpec.fn H (ds++gs)={ results:=[.lit (.bool true)],args:=ds,vars:=[] }:=by
 subst hg
 match ds,h with
 | [d0,d1,d2,d3,d4],_=>rfl
theorem CallsExact_met(os:Os)(args:Array Value):laidMetH Tryz.prog Rows.callsExactRow.laid ((U0 Tryz.prog 0 NC os).forCall (fun _ _=>0) ⟨#[],args,[]⟩).memory :=
 laidMetH_of_parts (laidMet_nil _ _) (by kernel_rfl)
theorem CallsExact_lifted(os:Os)(started:os.Started)(H:Type)(enc:TypeId×Value→H) :
  ReturnsInHanded {} Tryz.checked os 6 .any (fun w args=>(Rows.callsExactSpec.pre enc Tryz.prog Tryz.f6 Rows.callsExactRow.domain false w args∧laidMetH Tryz.prog Rows.callsExactRow.laid w)∧sizedMet enc Tryz.prog Tryz.f6 (OpenSpec.ofChange Rows.callsExactSpec) false w args)
   (Rows.callsExactSpec.post enc Tryz.prog Tryz.f6 false true false false):=by
 refine returnsInHanded_of_change_and (C:=Tryz.checked) (X:=fun w _=>laidMetH Tryz.prog Rows.callsExactRow.laid w) (fun _ _ _ hh h=>h.of_heap hh) Tryz.ownK started (by kernel_rfl) Tryz.func6
  (ChangeSpec.witness_at (enc:=enc) (C:=Tryz.checked) (os:=os) (X:=fun w _=>laidMetH Tryz.prog Rows.callsExactRow.laid w) false (U0 Tryz.prog 0 NC os) #[.agg #[.int .i64 0,.int .i64 0,.int .i64 0,.int .i64 0,.int .i64 0,.int .i64 0,.int .i64 0],.int .i64 0,.agg #[.bool false,.int .i64 0,.slice none 0 0,.slice none 0 0,.slice none 0 0,.int .i64 0,.int .i64 0,.slice none 0 0,.slice none 0 0],.int .i64 0,.int .i64 0] 8 rfl (by kernel_rfl) (by kernel_rfl) (by kernel_rfl) (by kernel_rfl) (by kernel_rfl) (CallsExact_met os _)) ?_
 intro W base args ds gs before hval0 hW _ hsz hL _
 have hval: ∀(j:Nat) t v,Tryz.f6.params[j]? =some t→args[j]? =some v→Value.okWide Tryz.prog W .any base t v:=hval0
 have hW':=hW
 obtain ⟨p,q,hA,hV,_,_,_⟩:=hW'
 have hn:ds.length=5:=ME _ _ _ _ hA
 have hg:gs=[]:=(trodVars_none hV).1
 exact TY (hP:=MG) Tryz.func6 (by kernel_rfl) (tb:=Tryz.f6.resultTypes[0]!) (by kernel_rfl) (tys:=[.int .i64,.int .i64,.int .i64,.int .i64,.int .i64,.int .i64,.int .i64,.int .i64,.bool,.int .i64,.list 16 [.int .i64,.int .i64],.list 200 [.bool,.bool,.int .i64,.int .i64,.int .i64,.int .i64,.int .i64,.int .i64,.list 8 [.int .i64],.list 24 [.int .i64,.int .i64,.int .i64],.int .i64,.int .i64,.int .i64,.list 16 [.int .i64,.int .i64],.list 16 [.int .i64,.int .i64],.list 48 [.int .i64,.int .i64,.int .i64,.int .i64,.int .i64,.int .i64]],.list 24 [.int .i64,.int .i64,.int .i64],.int .i64,.int .i64,.list 24 [.int .i64,.int .i64,.int .i64],.list 40 [.int .i64,.int .i64,.int .i64,.int .i64,.int .i64],.int .i64,.int .i64]) (by kernel_rfl) CallsExact_law Tryz.laidO
  (by decide +kernel) rfl (UM hL) (CallsExact_hs ds gs hn hg) hW hval (V0 rfl hg hsz)
theorem callsExact_holds:Rows.CallsExactSaid :=
 OpenClaim.holds_of_wide 6 Tryz.f6 rfl rfl rfl rfl rfl rfl rfl ⟨rfl,rfl,rfl,rfl,rfl⟩ rfl rfl rfl rfl rfl (by kernel_rfl) Tryz.func6 callsExact_closed
  (of_decide_eq_true (by kernel_rfl)) (by unfold Func.isWrapper;first | (rw[if_pos (by decide +kernel)];kernel_rfl) | (rw[if_neg (by decide +kernel)];exact ⟨rfl,rfl⟩))
  (fun os started H enc _=>CallsExact_lifted os started H enc)
theorem callsExact_card:Rows.CallsExactCardSaid :=
 Claim7.holds_tied_plain_at .later [] [.handle] true (true, "bc714a5adbe51648cc8fd42f9d2cd22571bb1f9baee83c42f7a599bf3993d275") true
  callsExact_holds (fun _ h=>by cases h) callsExact_wf (fun _ h=>by cases h) callsExact_row_tie rfl ⟨rfl,rfl⟩ callsExact_main rfl
  (fun f fn hf hfn=>by
   obtain rfl:f=6:=Option.some.inj (callsExact_fn.symm.trans hf) |>.symm
   obtain rfl:fn=Tryz.f6:=(Option.some.inj (Tryz.func6.symm.trans hfn)).symm
   refine ⟨callsExact_looks,fun j t ht=>?_⟩
   have hm:t∈Tryz.f6.params.toList:=by rw[Array.mem_toList_iff];exact Array.mem_of_getElem? ht
   have h2:(!Tryz.prog.wantsStandIn t)=true:=List.all_eq_true.1 callsExact_stands t hm
   cases hb:Tryz.prog.wantsStandIn t with
   | false=>exact hb
   | true=>rw[hb] at h2;cases h2)
  callsExact_goes
end Go.Proofs.YtahdphncepnbeaaGreatDoor
