/- CallsAlone: for every input the law returns true, and each argument reads afterwards as it read before. No further conditions. -/
import Derived.ProofKit
import Derived.Test.YtahdphncepnbeaaGreatDoorRows
import Derived.ChangeSame
import Derived.JoinedOf
import Derived.RowKit
import Derived.SevenTiedAt
import Derived.Test.YtahdphncepnbeaaGreatDoorCards
import Derived.Test.YtahdphncepnbeaaGreatDoorTie
import Derived.Test.YtahdphncepnbeaaGreatDoorEr6
import Derived.Test.YtahdphncepnbeaaGreatDoorV3
import Derived.Test.YtahdphncepnbeaaGreatDoorV5
import Derived.Test.YtahdphncepnbeaaGreatDoorV6
import Derived.Test.YtahdphncepnbeaaGreatDoorOklCallsAlone
import Derived.Test.YtahdphncepnbeaaGreatDoorCloCallsAlone
namespace Go.Proofs.YtahdphncepnbeaaGreatDoor
open Go.ChangeShapes Go.WideShapes Go.ChangeAt Go.RowKit Go.Xt
set_option maxRecDepth 100000
set_option linter.unusedVariables false
set_option linter.unusedSimpArgs false
theorem Tryz.ownK:ownKnob Tryz.prog.godebug=none:=by kernel_rfl
theorem Tryz.laidO:laidOutB Tryz.prog=true:=by kernel_rfl
theorem CallsAlone_law: ∀ps,aw Has [.int .i64,.int .i64,.int .i64] ps→nP ps=some [.bool true]:=by
 intro ps h
 obtain ⟨p0,r0,rfl,h0,g0⟩:=TZ h
 obtain ⟨p1,r1,rfl,h1,g1⟩:=TZ g0
 obtain ⟨p2,r2,rfl,h2,g2⟩:=TZ g1
 obtain rfl:=UL g2
 obtain ⟨t,rfl⟩:=aB h0
 obtain ⟨limit,rfl⟩:=aB h1
 obtain ⟨n,rfl⟩:=aB h2
 exact Ny
theorem CallsAlone_hs{H:Type}(ds gs:List (DataW H))(h:ds.length=3)(hg:gs=[]):Rows.callsAloneSpec.fn H (ds++gs)={ results:=[.lit (.bool true)],args:=ds,vars:=[] }:=by
 subst hg
 match ds,h with
 | [d0,d1,d2],_=>rfl
theorem CallsAlone_met(os:Os)(args:Array Value):laidMetH Tryz.prog Rows.callsAloneRow.laid ((U0 Tryz.prog 0 NC os).forCall (fun _ _=>0) ⟨#[],args,[]⟩).memory :=
 laidMetH_of_parts (laidMet_nil _ _) (by kernel_rfl)
theorem CallsAlone_lifted(os:Os)(started:os.Started)(H:Type)(enc:TypeId×Value→H) :
  ReturnsInHanded {} Tryz.checked os 5 .any (fun w args=>(Rows.callsAloneSpec.pre enc Tryz.prog Tryz.f5 Rows.callsAloneRow.domain false w args∧laidMetH Tryz.prog Rows.callsAloneRow.laid w)∧sizedMet enc Tryz.prog Tryz.f5 (OpenSpec.ofChange Rows.callsAloneSpec) false w args)
   (Rows.callsAloneSpec.post enc Tryz.prog Tryz.f5 false true false false):=by
 refine returnsInHanded_of_change_and (C:=Tryz.checked) (X:=fun w _=>laidMetH Tryz.prog Rows.callsAloneRow.laid w) (fun _ _ _ hh h=>h.of_heap hh) Tryz.ownK started (by kernel_rfl) Tryz.func5
  (ChangeSpec.witness_at (enc:=enc) (C:=Tryz.checked) (os:=os) (X:=fun w _=>laidMetH Tryz.prog Rows.callsAloneRow.laid w) false (U0 Tryz.prog 0 NC os) #[.int .i64 0,.int .i64 0,.int .i64 0] 8 rfl (by kernel_rfl) (by kernel_rfl) (by kernel_rfl) (by kernel_rfl) (by kernel_rfl) (CallsAlone_met os _)) ?_
 intro W base args ds gs before hval0 hW _ hsz hL _
 have hval: ∀(j:Nat) t v,Tryz.f5.params[j]? =some t→args[j]? =some v→Value.okWide Tryz.prog W .any base t v:=hval0
 have hW':=hW
 obtain ⟨p,q,hA,hV,_,_,_⟩:=hW'
 have hn:ds.length=3:=ME _ _ _ _ hA
 have hg:gs=[]:=(trodVars_none hV).1
 exact TY (hP:=MF) Tryz.func5 (by kernel_rfl) (tb:=Tryz.f5.resultTypes[0]!) (by kernel_rfl) (tys:=[.int .i64,.int .i64,.int .i64]) (by kernel_rfl) CallsAlone_law Tryz.laidO
  (by decide +kernel) rfl (UM hL) (CallsAlone_hs ds gs hn hg) hW hval (V0 rfl hg hsz)
theorem callsAlone_holds:Rows.CallsAloneSaid :=
 OpenClaim.holds_of_wide 5 Tryz.f5 rfl rfl rfl rfl rfl rfl rfl ⟨rfl,rfl,rfl,rfl,rfl⟩ rfl rfl rfl rfl rfl (by kernel_rfl) Tryz.func5 callsAlone_closed
  (of_decide_eq_true (by kernel_rfl)) (by unfold Func.isWrapper;first | (rw[if_pos (by decide +kernel)];kernel_rfl) | (rw[if_neg (by decide +kernel)];exact ⟨rfl,rfl⟩))
  (fun os started H enc _=>CallsAlone_lifted os started H enc)
theorem callsAlone_card:Rows.CallsAloneCardSaid :=
 Claim7.holds_tied_plain_at .later [] [.handle] true (true, "bc714a5adbe51648cc8fd42f9d2cd22571bb1f9baee83c42f7a599bf3993d275") true
  callsAlone_holds (fun _ h=>by cases h) callsAlone_wf (fun _ h=>by cases h) callsAlone_row_tie rfl ⟨rfl,rfl⟩ callsAlone_main rfl
  (fun f fn hf hfn=>by
   obtain rfl:f=5:=Option.some.inj (callsAlone_fn.symm.trans hf) |>.symm
   obtain rfl:fn=Tryz.f5:=(Option.some.inj (Tryz.func5.symm.trans hfn)).symm
   refine ⟨callsAlone_looks,fun j t ht=>?_⟩
   have hm:t∈Tryz.f5.params.toList:=by rw[Array.mem_toList_iff];exact Array.mem_of_getElem? ht
   have h2:(!Tryz.prog.wantsStandIn t)=true:=List.all_eq_true.1 callsAlone_stands t hm
   cases hb:Tryz.prog.wantsStandIn t with
   | false=>exact hb
   | true=>rw[hb] at h2;cases h2)
  callsAlone_goes
end Go.Proofs.YtahdphncepnbeaaGreatDoor
