/- Steps towards the statements of this seat; the conditions stand in each theorem. -/
import Derived.Test.YtahdphncepnbeaaGreatDoorOk1
open Go.Proofs
set_option maxRecDepth 100000
set_option linter.unusedVariables false
set_option linter.unusedSimpArgs false
namespace Go.Xt
theorem oo:O 148:=aF ai aE de 4 lb wC (ac bz (ac nz (ac uH an))) (.inl fun _=>rfl) (.inl rfl) (by kernel_rfl) (fun _=>rfl) fun _ hp hg=>xJ _ _ _ _ hg
theorem uI:O 261:=aF ai aE df 2 lc wD (ac eq an) (.inl fun _=>rfl) (.inl rfl) (by kernel_rfl) (fun _=>rfl) fun _ hp hg=>xK _ _ hp hg
theorem uJ:O 241:=aF ai aE dg 3 ld wE (ac aN (ac uI an)) (.inl fun _=>rfl) (.inl rfl) (by kernel_rfl) (fun _=>rfl) fun _ hp hg=>xL _ _ _ hg
theorem uK:O 211:=aF ai aE ed 3 lf wF (an (ρ:=ρ)) (.inl fun _=>rfl) (.inl rfl) (by kernel_rfl) (fun _=>rfl) fun _ hp hg=>xG _ _ _ hp
theorem tG:O 208:=aF ai aE cz 3 jK tV (ac eq (ac aN (ac uK an))) (.inl fun _=>rfl) (.inl rfl) (by kernel_rfl) (fun _=>rfl) fun _ hp hg=>uk _ _ _ hg
theorem nB:O 234:=aF ai aE dz 6 jL tW (ac eq (ac du (ac aN (ac jd an)))) (.inl fun _=>rfl) (.inl rfl) (by kernel_rfl) (fun _=>rfl) fun _ hp hg=>ul _
theorem nC:O 233:=aF ai aE cA 2 jM tX (ac nB an) (.inl fun _=>rfl) (.inl rfl) (by kernel_rfl) (fun _=>rfl) fun _ hp hg=>um _ _ hg
theorem yq:O 260:=aF ai aE fh 5 mZ zo (an (ρ:=ρ)) (.inl fun _=>rfl) (.inl rfl) (by kernel_rfl) (fun _=>rfl) fun _ hp hg=>Al _
theorem uL:O 240:=aF ai aE dh 12 lg wG (ac aN (ac jd (ac tG (ac uJ (ac yq an))))) (.inl fun _=>rfl) (.inl rfl) (by kernel_rfl) (fun _=>rfl) fun _ hp hg=>xN _ _ hg
theorem uM:O 204:=aF ai aE dj 13 lh wH (ac gx (ac nC (ac uL an))) (.inl fun _=>rfl) (.inl rfl) (by kernel_rfl) (fun _=>rfl) fun _ hp hg=>xP _ _ _ hg
theorem uN:O 200:=aF ai aE dk 3 lj wI (ac bz an) (.inl fun _=>rfl) (.inl rfl) (by kernel_rfl) (fun _=>rfl) fun _ hp hg=>xH _ _ _ hg
theorem rF:O 201:=aF ai aE cN 17 iT sC (ac yp an) (.inl fun _=>rfl) (.inl rfl) (by kernel_rfl) (fun _=>rfl) fun _ hp hg=>tc _ _
theorem rG:O 202:=aF ai aE bP 16 iU sD (an (ρ:=ρ)) (.inl fun _=>rfl) (.inl rfl) (by kernel_rfl) (fun _=>rfl) fun _ hp hg=>td _ hp hg
theorem tH:O 157:=aF ai aE cB 25 jN tY (ac oo (ac uN (ac rF (ac rG (ac uD (ac uM an)))))) (.inl fun _=>rfl) (.inl rfl) (by kernel_rfl) (fun _=>rfl) fun _ hp hg=>uo _ _ _ _ hp hg
theorem gc:O 92:=aF ai aE cC 25 jO tZ (ac gx (ac tH an)) (.inl fun _=>rfl) (.inl rfl) (by kernel_rfl) (fun _=>rfl) fun _ hp hg=>uq _ _ _ _ hg
theorem uO:O 134:=aF ai aE dl 16 lk wJ (ac gy an) (.inl fun _=>rfl) (.inl rfl) (by kernel_rfl) (fun _=>rfl) fun _ hp hg=>xU _ _ hp hg
theorem yr:O 137:=aF ai aE fi 3 n5 zp (ac gy an) (.inl fun _=>rfl) (.inl rfl) (by kernel_rfl) (fun _=>rfl) fun _ hp hg=>Aq _
theorem uP:O 140:=aF ai aE ee 12 ll wK (ac eq (ac gy (ac aN an))) (.inl fun _=>rfl) (.inl rfl) (by kernel_rfl) (fun _=>rfl) fun _ hp hg=>xR _ _ hp
theorem uQ:O 71:=aF ai aE dm 17 lm wM (ac gy (ac ka (ac gc (ac aN (ac uO (ac yr (ac uP an))))))) (.inl fun _=>rfl) (.inl rfl) (by kernel_rfl) (fun _=>rfl) fun _ hp hg=>xV _ _ _ hp hg
theorem oq:O 31:=aF ai aE dp 17 ln wN (ac gx (ac gy (ac uQ an))) (.inl fun _=>rfl) (.inl rfl) (by kernel_rfl) (fun _=>rfl) fun _ hp hg=>xW _ _ _ hg
theorem kc:O 7:=aF ai aE fS 0 lp wO (an (ρ:=ρ)) (.inl fun _=>rfl) (.inl rfl) (by kernel_rfl) (fun _=>rfl) fun _ hp hg=>xX
theorem bX:bC Tryz.prog ⟨73,[0],none,true⟩ (ρ 73):=aF ai aE ar 1 bk fK (an (ρ:=ρ)) (.inr (by kernel_rfl)) (.inr fun a=>by exact bj (by simp[ar,mkF,gL,fH,PV.scalar])) (by kernel_rfl) (fun _=>rfl) fun _ hp hg=>fY _ hp
theorem fu:bC Tryz.prog ⟨74,[0],none,true⟩ (ρ 74):=aF ai aE au 1 bm fL (an (ρ:=ρ)) (.inr (by kernel_rfl)) (.inr fun a=>by exact bj (by simp[au,mkF,gL,fH,PV.scalar])) (by kernel_rfl) (fun _=>rfl) fun _ hp hg=>fZ _ hp
theorem fv:bC Tryz.prog ⟨75,[0],none,true⟩ (ρ 75):=aF ai aE av 1 bn fM (an (ρ:=ρ)) (.inr (by kernel_rfl)) (.inr fun a=>by exact bj (by simp[av,mkF,gL,fH,PV.scalar])) (by kernel_rfl) (fun _=>rfl) fun _ hp hg=>ga _ hp
theorem eI:bC Tryz.prog ⟨76,[0],none,true⟩ (ρ 76):=aF ai aE ao 1 bc eP (an (ρ:=ρ)) (.inr (by kernel_rfl)) (.inr fun a=>by exact bj (by simp[ao,mkF,gL,fH,PV.scalar])) (by kernel_rfl) (fun _=>rfl) fun _ hp hg=>eX _ hp
theorem gd:bC Tryz.prog ⟨142,[0],none,true⟩ (ρ 142):=aF ai aE aA 1 bu gk (an (ρ:=ρ)) (.inr (by kernel_rfl)) (.inr fun a=>by exact bj (by simp[aA,mkF,gL,fH,PV.scalar])) (by kernel_rfl) (fun _=>rfl) fun _ hp hg=>gw _ hp
theorem aX:bC Tryz.prog ⟨96,[0],none,true⟩ (ρ 96):=aF ai aE ap 1 bd eQ (an (ρ:=ρ)) (.inr (by kernel_rfl)) (.inr fun a=>by exact bj (by simp[ap,mkF,gL,fH,PV.scalar])) (by kernel_rfl) (fun _=>rfl) fun _ hp hg=>eY _ hp
theorem fw:bC Tryz.prog ⟨189,[0],none,true⟩ (ρ 189):=aF ai aE aw 1 bp fN (an (ρ:=ρ)) (.inr (by kernel_rfl)) (.inr fun a=>by exact bj (by simp[aw,mkF,gL,fH,PV.scalar])) (by kernel_rfl) (fun _=>rfl) fun _ hp hg=>gb _ hp
theorem ft:bC Tryz.prog ⟨141,[0],none,true⟩ (ρ 141):=aF ai aE aM 1 cW kQ (an (ρ:=ρ)) (.inr (by kernel_rfl)) (.inr fun a=>by exact bj (by simp[aM,mkF,gL,fH,PV.scalar])) (by kernel_rfl) (fun _=>rfl) fun _ hp hg=>lK _ hp
theorem gG:O 72:=aF ai aE ef 16 lq wP (ac aX (ac ft (ac gd (ac fw an)))) (.inr (by kernel_rfl)) (.inl rfl) (by kernel_rfl) (fun _=>rfl) fun _ hp hg=>yb _ hp
theorem yt:O 235:=aF ai aE fj 6 n6 zq (an (ρ:=ρ)) (.inl fun _=>rfl) (.inl rfl) (by kernel_rfl) (fun _=>rfl) fun _ hp hg=>At _
end Go.Xt
