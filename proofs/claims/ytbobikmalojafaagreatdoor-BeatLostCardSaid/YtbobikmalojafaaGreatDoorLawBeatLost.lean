/- BeatLost: for every input the law returns true, and each argument reads afterwards as it read before. No further conditions. -/
import Derived.ProofKit
import Derived.Test.YtbobikmalojafaaGreatDoorRows
import Derived.ChangeSame
import Derived.JoinedOf
import Derived.RowKit
import Derived.SevenTiedAt
import Derived.Test.YtbobikmalojafaaGreatDoorCards
import Derived.Test.YtbobikmalojafaaGreatDoorTie
import Derived.Test.YtbobikmalojafaaGreatDoorEr6
import Derived.Test.YtbobikmalojafaaGreatDoorOk
import Derived.Test.YtbobikmalojafaaGreatDoorV3
import Derived.Test.YtbobikmalojafaaGreatDoorV5
import Derived.Test.YtbobikmalojafaaGreatDoorV6
import Derived.Test.YtbobikmalojafaaGreatDoorCloBeatLost
namespace Go.Proofs.YtbobikmalojafaaGreatDoor
open Go.ChangeShapes Go.WideShapes Go.ChangeAt Go.RowKit Go.Xt
set_option maxRecDepth 100000
set_option linter.unusedVariables false
set_option linter.unusedSimpArgs false
theorem Tryz.ownK:ownKnob Tryz.prog.godebug=none:=by kernel_rfl
theorem Tryz.laidO:laidOutB Tryz.prog=true:=by kernel_rfl
theorem BeatLost_law: ∀ps,al Has [.int .i64,.int .i64] ps→iY ps=some [.bool true]:=by
 intro ps h
 obtain ⟨p0,r0,rfl,h0,g0⟩:=ag h
 obtain ⟨p1,r1,rfl,h1,g1⟩:=ag g0
 obtain rfl:=tg g1
 obtain ⟨ticks,rfl⟩:=ab h0
 obtain ⟨t,rfl⟩:=ab h1
 exact tR
theorem BeatLost_hs{H:Type}(ds gs:List (DataW H))(h:ds.length=2)(hg:gs=[]):Rows.beatLostSpec.fn H (ds++gs)={ results:=[.lit (.bool true)],args:=ds,vars:=[] }:=by
 subst hg
 match ds,h with
 | [d0,d1],_=>rfl
theorem BeatLost_met(os:Os)(args:Array Value):laidMetH Tryz.prog Rows.beatLostRow.laid ((gK Tryz.prog 0 rV os).forCall (fun _ _=>0) ⟨#[],args,[]⟩).memory :=
 laidMetH_of_parts (laidMet_nil _ _) (by kernel_rfl)
theorem BeatLost_lifted(os:Os)(started:os.Started)(H:Type)(enc:TypeId×Value→H) :
  ReturnsInHanded {} Tryz.checked os 8 .any (fun w args=>(Rows.beatLostSpec.pre enc Tryz.prog Tryz.f8 Rows.beatLostRow.domain false w args∧laidMetH Tryz.prog Rows.beatLostRow.laid w)∧sizedMet enc Tryz.prog Tryz.f8 (OpenSpec.ofChange Rows.beatLostSpec) false w args)
   (Rows.beatLostSpec.post enc Tryz.prog Tryz.f8 false true false false):=by
 refine returnsInHanded_of_change_and (C:=Tryz.checked) (X:=fun w _=>laidMetH Tryz.prog Rows.beatLostRow.laid w) (fun _ _ _ hh h=>h.of_heap hh) Tryz.ownK started (by kernel_rfl) Tryz.func8
  (ChangeSpec.witness_at (enc:=enc) (C:=Tryz.checked) (os:=os) (X:=fun w _=>laidMetH Tryz.prog Rows.beatLostRow.laid w) false (gK Tryz.prog 0 rV os) #[.int .i64 0,.int .i64 0] 8 rfl (by kernel_rfl) (by kernel_rfl) (by kernel_rfl) (by kernel_rfl) (by kernel_rfl) (BeatLost_met os _)) ?_
 intro W base args ds gs before hval0 hW _ hsz hL _
 have hval: ∀(j:Nat) t v,Tryz.f8.params[j]? =some t→args[j]? =some v→Value.okWide Tryz.prog W .any base t v:=hval0
 have hW':=hW
 obtain ⟨p,q,hA,hV,_,_,_⟩:=hW'
 have hn:ds.length=2:=jz _ _ _ _ hA
 have hg:gs=[]:=(trodVars_none hV).1
 exact qL (hP:=tf) Tryz.func8 (by kernel_rfl) (tb:=Tryz.f8.resultTypes[0]!) (by kernel_rfl) (tys:=[.int .i64,.int .i64]) (by kernel_rfl) BeatLost_law Tryz.laidO
  (by decide +kernel) rfl (tk hL) (BeatLost_hs ds gs hn hg) hW hval (Dj rfl hg hsz)
theorem beatLost_holds:Rows.BeatLostSaid :=
 OpenClaim.holds_of_wide 8 Tryz.f8 rfl rfl rfl rfl rfl rfl rfl ⟨rfl,rfl,rfl,rfl,rfl⟩ rfl rfl rfl rfl rfl (by kernel_rfl) Tryz.func8 beatLost_closed
  (of_decide_eq_true (by kernel_rfl)) (by unfold Func.isWrapper;first | (rw[if_pos (by decide +kernel)];kernel_rfl) | (rw[if_neg (by decide +kernel)];exact ⟨rfl,rfl⟩))
  (fun os started H enc _=>BeatLost_lifted os started H enc)
theorem beatLost_stands:(Tryz.f8.params.toList.all fun t=> !Tryz.prog.wantsStandIn t)=true:=by kernel_rfl
theorem beatLost_card:Rows.BeatLostCardSaid :=
 Claim7.holds_tied_plain_at .later [] [.handle] true (true, "9c96838d341e26dcdeea7ad17500304895db502e24ce241086ec14f18446b29b") true
  beatLost_holds (fun _ h=>by cases h) (by kernel_rfl) (fun _ h=>by cases h) beatLost_row_tie rfl ⟨rfl,rfl⟩ (by kernel_rfl) rfl
  (fun f fn hf hfn=>by
   obtain rfl:f=8:=Option.some.inj ((show Tryz.prog.funcNamed "bellwether/bellwetherlaw22.BeatLost" =some 8 by kernel_rfl).symm.trans hf) |>.symm
   obtain rfl:fn=Tryz.f8:=(Option.some.inj (Tryz.func8.symm.trans hfn)).symm
   refine ⟨by kernel_rfl,fun j t ht=>?_⟩
   have hm:t∈Tryz.f8.params.toList:=by rw[Array.mem_toList_iff];exact Array.mem_of_getElem? ht
   have h2:(!Tryz.prog.wantsStandIn t)=true:=List.all_eq_true.1 beatLost_stands t hm
   cases hb:Tryz.prog.wantsStandIn t with
   | false=>exact hb
   | true=>rw[hb] at h2;cases h2)
  (by kernel_rfl)
end Go.Proofs.YtbobikmalojafaaGreatDoor
