/- BeatSwitch: for every input the law returns true, and each argument reads afterwards as it read before. No further conditions. -/
import Derived.ProofKit
import Derived.Test.YtahdphncepnbeaaGreatDoorRows
import Derived.ChangeSame
import Derived.JoinedOf
import Derived.RowKit
import Derived.SevenTiedAt
import Derived.Test.YtahdphncepnbeaaGreatDoorCards
import Derived.Test.YtahdphncepnbeaaGreatDoorTie
import Derived.Test.YtahdphncepnbeaaGreatDoorEr6
import Derived.Test.YtahdphncepnbeaaGreatDoorV3
import Derived.Test.YtahdphncepnbeaaGreatDoorV5
import Derived.Test.YtahdphncepnbeaaGreatDoorV6
import Derived.Test.YtahdphncepnbeaaGreatDoorOklBeatSwitch
import Derived.Test.YtahdphncepnbeaaGreatDoorCloBeatSwitch
namespace Go.Proofs.YtahdphncepnbeaaGreatDoor
open Go.ChangeShapes Go.WideShapes Go.ChangeAt Go.RowKit Go.Xt
set_option maxRecDepth 100000
set_option linter.unusedVariables false
set_option linter.unusedSimpArgs false
theorem Tryz.ownK:ownKnob Tryz.prog.godebug=none:=by kernel_rfl
theorem Tryz.laidO:laidOutB Tryz.prog=true:=by kernel_rfl
theorem BeatSwitch_law: ∀ps,af Has [.int .i64,.int .i64] ps→iY ps=some [.bool true]:=by
 intro ps h
 obtain ⟨p0,r0,rfl,h0,g0⟩:=H2 h
 obtain ⟨p1,r1,rfl,h1,g1⟩:=H2 g0
 obtain rfl:=Hz g1
 obtain ⟨t,rfl⟩:=aj h0
 obtain ⟨age,rfl⟩:=aj h1
 exact C0
theorem BeatSwitch_hs{H:Type}(ds gs:List (DataW H))(h:ds.length=2)(hg:gs=[]):Rows.beatSwitchSpec.fn H (ds++gs)={ results:=[.lit (.bool true)],args:=ds,vars:=[] }:=by
 subst hg
 match ds,h with
 | [d0,d1],_=>rfl
theorem BeatSwitch_met(os:Os)(args:Array Value):laidMetH Tryz.prog Rows.beatSwitchRow.laid ((H3 Tryz.prog 0 C3 os).forCall (fun _ _=>0) ⟨#[],args,[]⟩).memory :=
 laidMetH_of_parts (laidMet_nil _ _) (by kernel_rfl)
theorem BeatSwitch_lifted(os:Os)(started:os.Started)(H:Type)(enc:TypeId×Value→H) :
  ReturnsInHanded {} Tryz.checked os 4 .any (fun w args=>(Rows.beatSwitchSpec.pre enc Tryz.prog Tryz.f4 Rows.beatSwitchRow.domain false w args∧laidMetH Tryz.prog Rows.beatSwitchRow.laid w)∧sizedMet enc Tryz.prog Tryz.f4 (OpenSpec.ofChange Rows.beatSwitchSpec) false w args)
   (Rows.beatSwitchSpec.post enc Tryz.prog Tryz.f4 false true false false):=by
 refine returnsInHanded_of_change_and (C:=Tryz.checked) (X:=fun w _=>laidMetH Tryz.prog Rows.beatSwitchRow.laid w) (fun _ _ _ hh h=>h.of_heap hh) Tryz.ownK started (by kernel_rfl) Tryz.func4
  (ChangeSpec.witness_at (enc:=enc) (C:=Tryz.checked) (os:=os) (X:=fun w _=>laidMetH Tryz.prog Rows.beatSwitchRow.laid w) false (H3 Tryz.prog 0 C3 os) #[.int .i64 0,.int .i64 0] 8 rfl (by kernel_rfl) (by kernel_rfl) (by kernel_rfl) (by kernel_rfl) (by kernel_rfl) (BeatSwitch_met os _)) ?_
 intro W base args ds gs before hval0 hW _ hsz hL _
 have hval: ∀(j:Nat) t v,Tryz.f4.params[j]? =some t→args[j]? =some v→Value.okWide Tryz.prog W .any base t v:=hval0
 have hW':=hW
 obtain ⟨p,q,hA,hV,_,_,_⟩:=hW'
 have hn:ds.length=2:=Bb _ _ _ _ hA
 have hg:gs=[]:=(trodVars_none hV).1
 exact H1 (hP:=Bd) Tryz.func4 (by kernel_rfl) (tb:=Tryz.f4.resultTypes[0]!) (by kernel_rfl) (tys:=[.int .i64,.int .i64]) (by kernel_rfl) BeatSwitch_law Tryz.laidO
  (by decide +kernel) rfl (HA hL) (BeatSwitch_hs ds gs hn hg) hW hval (HU rfl hg hsz)
theorem beatSwitch_holds:Rows.BeatSwitchSaid :=
 OpenClaim.holds_of_wide 4 Tryz.f4 rfl rfl rfl rfl rfl rfl rfl ⟨rfl,rfl,rfl,rfl,rfl⟩ rfl rfl rfl rfl rfl (by kernel_rfl) Tryz.func4 beatSwitch_closed
  (of_decide_eq_true (by kernel_rfl)) (by unfold Func.isWrapper;first | (rw[if_pos (by decide +kernel)];kernel_rfl) | (rw[if_neg (by decide +kernel)];exact ⟨rfl,rfl⟩))
  (fun os started H enc _=>BeatSwitch_lifted os started H enc)
theorem beatSwitch_card:Rows.BeatSwitchCardSaid :=
 Claim7.holds_tied_plain_at .later [] [.handle] true (true, "bc714a5adbe51648cc8fd42f9d2cd22571bb1f9baee83c42f7a599bf3993d275") true
  beatSwitch_holds (fun _ h=>by cases h) beatSwitch_wf (fun _ h=>by cases h) beatSwitch_row_tie rfl ⟨rfl,rfl⟩ beatSwitch_main rfl
  (fun f fn hf hfn=>by
   obtain rfl:f=4:=Option.some.inj (beatSwitch_fn.symm.trans hf) |>.symm
   obtain rfl:fn=Tryz.f4:=(Option.some.inj (Tryz.func4.symm.trans hfn)).symm
   refine ⟨beatSwitch_looks,fun j t ht=>?_⟩
   have hm:t∈Tryz.f4.params.toList:=by rw[Array.mem_toList_iff];exact Array.mem_of_getElem? ht
   have h2:(!Tryz.prog.wantsStandIn t)=true:=List.all_eq_true.1 beatSwitch_stands t hm
   cases hb:Tryz.prog.wantsStandIn t with
   | false=>exact hb
   | true=>rw[hb] at h2;cases h2)
  beatSwitch_goes
end Go.Proofs.YtahdphncepnbeaaGreatDoor
