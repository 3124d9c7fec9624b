/- BeatQuiet: for every input the law returns true, and each argument reads afterwards as it read before. No further conditions. -/
import Derived.ProofKit
import Derived.Test.YtbobikmalojafaaGreatDoorRows
import Derived.ChangeSame
import Derived.JoinedOf
import Derived.RowKit
import Derived.SevenTiedAt
import Derived.Test.YtbobikmalojafaaGreatDoorCards
import Derived.Test.YtbobikmalojafaaGreatDoorTie
import Derived.Test.YtbobikmalojafaaGreatDoorEr6
import Derived.Test.YtbobikmalojafaaGreatDoorOk
import Derived.Test.YtbobikmalojafaaGreatDoorV3
import Derived.Test.YtbobikmalojafaaGreatDoorV5
import Derived.Test.YtbobikmalojafaaGreatDoorV6
import Derived.Test.YtbobikmalojafaaGreatDoorCloBeatQuiet
namespace Go.Proofs.YtbobikmalojafaaGreatDoor
open Go.ChangeShapes Go.WideShapes Go.ChangeAt Go.RowKit Go.Xt
set_option maxRecDepth 100000
set_option linter.unusedVariables false
set_option linter.unusedSimpArgs false
theorem Tryz.ownK:ownKnob Tryz.prog.godebug=none:=by kernel_rfl
theorem Tryz.laidO:laidOutB Tryz.prog=true:=by kernel_rfl
theorem BeatQuiet_law: ∀ps,al Has [.int .i64,.int .i64,.int .i64,.int .i64,.int .i64,.int .i64,.int .i64,.int .i64,.bool,.int .i64,.list 16 [.int .i64,.int .i64],.list 200 [.bool,.bool,.int .i64,.int .i64,.int .i64,.int .i64,.int .i64,.int .i64,.list 8 [.int .i64],.list 24 [.int .i64,.int .i64,.int .i64],.int .i64,.int .i64,.int .i64,.list 16 [.int .i64,.int .i64],.list 16 [.int .i64,.int .i64],.list 48 [.int .i64,.int .i64,.int .i64,.int .i64,.int .i64,.int .i64]],.list 24 [.int .i64,.int .i64,.int .i64],.int .i64,.int .i64,.list 24 [.int .i64,.int .i64,.int .i64],.list 40 [.int .i64,.int .i64,.int .i64,.int .i64,.int .i64]] ps→iq ps=some [.bool true]:=by
 intro ps h
 obtain ⟨p0,r0,rfl,h0,g0⟩:=ag h
 obtain ⟨p1,r1,rfl,h1,g1⟩:=ag g0
 obtain ⟨p2,r2,rfl,h2,g2⟩:=ag g1
 obtain ⟨p3,r3,rfl,h3,g3⟩:=ag g2
 obtain ⟨p4,r4,rfl,h4,g4⟩:=ag g3
 obtain ⟨p5,r5,rfl,h5,g5⟩:=ag g4
 obtain ⟨p6,r6,rfl,h6,g6⟩:=ag g5
 obtain ⟨p7,r7,rfl,h7,g7⟩:=ag g6
 obtain ⟨p8,r8,rfl,h8,g8⟩:=ag g7
 obtain ⟨p9,r9,rfl,h9,g9⟩:=ag g8
 obtain ⟨p10,r10,rfl,h10,g10⟩:=ag g9
 obtain ⟨p11,r11,rfl,h11,g11⟩:=ag g10
 obtain ⟨p12,r12,rfl,h12,g12⟩:=ag g11
 obtain ⟨p13,r13,rfl,h13,g13⟩:=ag g12
 obtain ⟨p14,r14,rfl,h14,g14⟩:=ag g13
 obtain ⟨p15,r15,rfl,h15,g15⟩:=ag g14
 obtain ⟨p16,r16,rfl,h16,g16⟩:=ag g15
 obtain rfl:=tg g16
 obtain ⟨c_nodes,rfl⟩:=ab h0
 obtain ⟨c_topics,rfl⟩:=ab h1
 obtain ⟨c_kids,rfl⟩:=ab h2
 obtain ⟨c_depth,rfl⟩:=ab h3
 obtain ⟨c_keep,rfl⟩:=ab h4
 obtain ⟨c_window,rfl⟩:=ab h5
 obtain ⟨c_queue,rfl⟩:=ab h6
 obtain ⟨self,rfl⟩:=ab h7
 obtain ⟨n_up,rfl⟩:=lk h8
 obtain ⟨n_inc,rfl⟩:=ab h9
 obtain ⟨n_peers,rfl,s10⟩:=aS (α:=Go.Xt.Peer) h10 rfl rfl
 obtain ⟨n_topics,rfl,s11⟩:=aS (α:=Go.Xt.Topic) h11 rfl rfl
 obtain ⟨n_calls,rfl,s12⟩:=aS (α:=Go.Xt.Call) h12 rfl rfl
 obtain ⟨n_pubs,rfl⟩:=ab h13
 obtain ⟨n_asks,rfl⟩:=ab h14
 obtain ⟨n_marks,rfl,s15⟩:=aS (α:=Go.Xt.Mark) h15 rfl rfl
 obtain ⟨n_taken,rfl,s16⟩:=aS (α:=Go.Xt.Mark2) h16 rfl rfl
 exact sT
theorem BeatQuiet_hs{H:Type}(ds gs:List (DataW H))(h:ds.length=3)(hg:gs=[]):Rows.beatQuietSpec.fn H (ds++gs)={ results:=[.lit (.bool true)],args:=ds,vars:=[] }:=by
 subst hg
 match ds,h with
 | [d0,d1,d2],_=>rfl
theorem BeatQuiet_met(os:Os)(args:Array Value):laidMetH Tryz.prog Rows.beatQuietRow.laid ((gK Tryz.prog 0 rV os).forCall (fun _ _=>0) ⟨#[],args,[]⟩).memory :=
 laidMetH_of_parts (laidMet_nil _ _) (by kernel_rfl)
theorem BeatQuiet_lifted(os:Os)(started:os.Started)(H:Type)(enc:TypeId×Value→H) :
  ReturnsInHanded {} Tryz.checked os 7 .any (fun w args=>(Rows.beatQuietSpec.pre enc Tryz.prog Tryz.f7 Rows.beatQuietRow.domain false w args∧laidMetH Tryz.prog Rows.beatQuietRow.laid w)∧sizedMet enc Tryz.prog Tryz.f7 (OpenSpec.ofChange Rows.beatQuietSpec) false w args)
   (Rows.beatQuietSpec.post enc Tryz.prog Tryz.f7 false true false false):=by
 refine returnsInHanded_of_change_and (C:=Tryz.checked) (X:=fun w _=>laidMetH Tryz.prog Rows.beatQuietRow.laid w) (fun _ _ _ hh h=>h.of_heap hh) Tryz.ownK started (by kernel_rfl) Tryz.func7
  (ChangeSpec.witness_at (enc:=enc) (C:=Tryz.checked) (os:=os) (X:=fun w _=>laidMetH Tryz.prog Rows.beatQuietRow.laid w) false (gK Tryz.prog 0 rV os) #[.agg #[.int .i64 0,.int .i64 0,.int .i64 0,.int .i64 0,.int .i64 0,.int .i64 0,.int .i64 0],.int .i64 0,.agg #[.bool false,.int .i64 0,.slice none 0 0,.slice none 0 0,.slice none 0 0,.int .i64 0,.int .i64 0,.slice none 0 0,.slice none 0 0]] 8 rfl (by kernel_rfl) (by kernel_rfl) (by kernel_rfl) (by kernel_rfl) (by kernel_rfl) (BeatQuiet_met os _)) ?_
 intro W base args ds gs before hval0 hW _ hsz hL _
 have hval: ∀(j:Nat) t v,Tryz.f7.params[j]? =some t→args[j]? =some v→Value.okWide Tryz.prog W .any base t v:=hval0
 have hW':=hW
 obtain ⟨p,q,hA,hV,_,_,_⟩:=hW'
 have hn:ds.length=3:=jz _ _ _ _ hA
 have hg:gs=[]:=(trodVars_none hV).1
 exact qL (hP:=s6) Tryz.func7 (by kernel_rfl) (tb:=Tryz.f7.resultTypes[0]!) (by kernel_rfl) (tys:=[.int .i64,.int .i64,.int .i64,.int .i64,.int .i64,.int .i64,.int .i64,.int .i64,.bool,.int .i64,.list 16 [.int .i64,.int .i64],.list 200 [.bool,.bool,.int .i64,.int .i64,.int .i64,.int .i64,.int .i64,.int .i64,.list 8 [.int .i64],.list 24 [.int .i64,.int .i64,.int .i64],.int .i64,.int .i64,.int .i64,.list 16 [.int .i64,.int .i64],.list 16 [.int .i64,.int .i64],.list 48 [.int .i64,.int .i64,.int .i64,.int .i64,.int .i64,.int .i64]],.list 24 [.int .i64,.int .i64,.int .i64],.int .i64,.int .i64,.list 24 [.int .i64,.int .i64,.int .i64],.list 40 [.int .i64,.int .i64,.int .i64,.int .i64,.int .i64]]) (by kernel_rfl) BeatQuiet_law Tryz.laidO
  (by decide +kernel) rfl (tk hL) (BeatQuiet_hs ds gs hn hg) hW hval (Dj rfl hg hsz)
theorem beatQuiet_holds:Rows.BeatQuietSaid :=
 OpenClaim.holds_of_wide 7 Tryz.f7 rfl rfl rfl rfl rfl rfl rfl ⟨rfl,rfl,rfl,rfl,rfl⟩ rfl rfl rfl rfl rfl (by kernel_rfl) Tryz.func7 beatQuiet_closed
  (of_decide_eq_true (by kernel_rfl)) (by unfold Func.isWrapper;first | (rw[if_pos (by decide +kernel)];kernel_rfl) | (rw[if_neg (by decide +kernel)];exact ⟨rfl,rfl⟩))
  (fun os started H enc _=>BeatQuiet_lifted os started H enc)
theorem beatQuiet_stands:(Tryz.f7.params.toList.all fun t=> !Tryz.prog.wantsStandIn t)=true:=by kernel_rfl
theorem beatQuiet_card:Rows.BeatQuietCardSaid :=
 Claim7.holds_tied_plain_at .later [] [.handle] true (true, "9c96838d341e26dcdeea7ad17500304895db502e24ce241086ec14f18446b29b") true
  beatQuiet_holds (fun _ h=>by cases h) (by kernel_rfl) (fun _ h=>by cases h) beatQuiet_row_tie rfl ⟨rfl,rfl⟩ (by kernel_rfl) rfl
  (fun f fn hf hfn=>by
   obtain rfl:f=7:=Option.some.inj ((show Tryz.prog.funcNamed "bellwether/bellwetherlaw22.BeatQuiet" =some 7 by kernel_rfl).symm.trans hf) |>.symm
   obtain rfl:fn=Tryz.f7:=(Option.some.inj (Tryz.func7.symm.trans hfn)).symm
   refine ⟨by kernel_rfl,fun j t ht=>?_⟩
   have hm:t∈Tryz.f7.params.toList:=by rw[Array.mem_toList_iff];exact Array.mem_of_getElem? ht
   have h2:(!Tryz.prog.wantsStandIn t)=true:=List.all_eq_true.1 beatQuiet_stands t hm
   cases hb:Tryz.prog.wantsStandIn t with
   | false=>exact hb
   | true=>rw[hb] at h2;cases h2)
  (by kernel_rfl)
end Go.Proofs.YtbobikmalojafaaGreatDoor
