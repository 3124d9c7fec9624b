/- Steps towards the statements of this seat; the conditions stand in each theorem. -/
import Derived.Test.YtahdphncepnbeaaGreatDoorOk2
open Go.Proofs
set_option maxRecDepth 100000
set_option linter.unusedVariables false
set_option linter.unusedSimpArgs false
namespace Go.Xt
theorem D7:O 54:=ar ab aq eQ 17 pO DM (ac um (ac Ap (ac FI an))) (.inl fun _=>rfl) (.inl rfl) (by kernel_rfl) (fun _=>rfl) fun _ hp hg=>F7 _ _ _ hg
theorem FM:O 51:=ar ab aq iU 19 rW Hz (ac vz (ac cy (ac jY (ac qh (ac dM (ac dN (ac dO (ac dm (ac xW (ac fE (ac xV (ac dJ (ac JO (ac jR an)))))))))))))) (.inr (by kernel_rfl)) (.inl rfl) (by kernel_rfl) (fun _=>rfl) fun _ hp hg=>Jn _ _ _ _ _ hg
theorem MB:O 155:=ar ab aq ly 16 wd Nl (ac gA (ac bt an)) (.inl fun _=>rfl) (.inl rfl) (by kernel_rfl) (fun _=>rfl) fun _ hp hg=>O3 _
theorem vB:O 198:=ar ab aq gm 1 rX HA (ac dJ an) (.inl fun _=>rfl) (.inl rfl) (by kernel_rfl) (fun _=>rfl) fun _ hp hg=>Jo _ hg
theorem Of:O 195:=ar ab aq lz 1 yD Pn (ac uk (ac vB an)) (.inl fun _=>rfl) (.inl rfl) (by kernel_rfl) (fun _=>rfl) fun _ hp hg=>PU _ hg
theorem JP:O 196:=ar ab aq ko 16 tU KO (ac nz (ac bt an)) (.inl fun _=>rfl) (.inl rfl) (by kernel_rfl) (fun _=>rfl) fun _ hp hg=>M5 _
theorem JQ:O 197:=ar ab aq kp 16 tV KP (ac cy (ac nz (ac gA (ac bt an)))) (.inl fun _=>rfl) (.inl rfl) (by kernel_rfl) (fun _=>rfl) fun _ hp hg=>M7 _
theorem qi:bZ Tryz.prog ⟨199,[0],none,true⟩ (ρ 199):=ar ab aq bf 1 fA qr (ac rj an) (.inr (by kernel_rfl)) (.inr fun a=>by exact bM (by simp[bf,mkF,kE,jg,PV.scalar])) (by kernel_rfl) (fun _=>rfl) fun _ hp hg=>qE _ hp hg
theorem MC:O 154:=ar ab aq jQ 16 we Nm (ac cy (ac nz (ac gA (ac bt (ac Of (ac JP (ac JQ (ac vB (ac qi an))))))))) (.inr (by kernel_rfl)) (.inl rfl) (by kernel_rfl) (fun _=>rfl) fun _ hp hg=>O4 _ hg
theorem JR:O 88:=ar ab aq iw 16 tW KQ (ac nz (ac bt (ac MC (ac MB an)))) (.inl fun _=>rfl) (.inl rfl) (by kernel_rfl) (fun _=>rfl) fun _ hp hg=>M8 _ hg
theorem JS:O 120:=ar ab aq ix 2 tX KR (an (ρ:=ρ)) (.inl fun _=>rfl) (.inl rfl) (by kernel_rfl) (fun _=>rfl) fun _ hp hg=>M9 _ _ hg
theorem Av:O 125:=ar ab aq dC 1 oa BD (an (ρ:=ρ)) (.inl fun _=>rfl) (.inl rfl) (by kernel_rfl) (fun _=>rfl) fun _ hp hg=>Cu _ hg
theorem D8:O 124:=ar ab aq eR 1 pP DN (ac dX an) (.inl fun _=>rfl) (.inl rfl) (by kernel_rfl) (fun _=>rfl) fun _ hp hg=>F9 _ hg
theorem D9:O 122:=ar ab aq gO 1 pQ DO (ac ku an) (.inl fun _=>rfl) (.inl rfl) (by kernel_rfl) (fun _=>rfl) fun _ hp hg=>F8 _
theorem Aw:O 119:=ar ab aq fx 16 ob BE (an (ρ:=ρ)) (.inl fun _=>rfl) (.inl rfl) (by kernel_rfl) (fun _=>rfl) fun _ hp hg=>Ct _
theorem vC:bZ Tryz.prog ⟨110,[0],none,true⟩ (ρ 110):=ar ab aq ec 2 rY HE (an (ρ:=ρ)) (.inr (by kernel_rfl)) (.inr fun a=>by obtain ⟨_,_⟩:=a;exact bM (by simp[ec,mkF,kE,jg,PV.scalar])) (by kernel_rfl) (fun _=>rfl) fun _ hp hg=>Jp _ _ hp hg
theorem xZ:O 226:=ar ab aq iy 8 tY KS (ac jj an) (.inr (by kernel_rfl)) (.inl rfl) (by kernel_rfl) (fun _=>rfl) fun _ hp hg=>Ma _ _ _ hp hg
theorem y9:O 61:=ar ab aq iz 32 tZ KT (ac vr an) (.inl fun _=>rfl) (.inl rfl) (by kernel_rfl) (fun _=>rfl) fun _ hp hg=>Mb _ _ hg
theorem FN:O 26:=ar ab aq gn 2 rZ HF (ac y9 an) (.inl fun _=>rfl) (.inl rfl) (by kernel_rfl) (fun _=>rfl) fun _ hp hg=>Jq _ _ hg
theorem JT:O 66:=ar ab aq iA 16 u0 KU (ac fD (ac ku (ac y9 (ac ig (ac dX (ac D9 (ac lM (ac D8 (ac Av an))))))))) (.inl fun _=>rfl) (.inl rfl) (by kernel_rfl) (fun _=>rfl) fun _ hp hg=>Mc _ hp hg
theorem Da:O 27:=ar ab aq eS 19 pR DP (ac ot (ac gB (ac vt (ac ig (ac vC (ac Aw (ac JS (ac xZ an)))))))) (.inr (by kernel_rfl)) (.inl rfl) (by kernel_rfl) (fun _=>rfl) fun _ hp hg=>Fa _ _ _ _ _ hp hg
theorem FO:O 150:=ar ab aq iV 2 s0 HI (ac gA an) (.inl fun _=>rfl) (.inl rfl) (by kernel_rfl) (fun _=>rfl) fun _ hp hg=>Js _ _ hp
theorem ws:O 175:=ar ab aq cZ 2 kS xd (an (ρ:=ρ)) (.inl fun _=>rfl) (.inl rfl) (by kernel_rfl) (fun _=>rfl) fun _ hp hg=>xJ _ _ hp
theorem vD:O 151:=ar ab aq iW 2 s4 HJ (an (ρ:=ρ)) (.inr (by kernel_rfl)) (.inl rfl) (by kernel_rfl) (fun _=>rfl) fun _ hp hg=>Jt _ _
theorem ut:O 177:=ar ab aq gP 2 pS DQ (an (ρ:=ρ)) (.inr (by kernel_rfl)) (.inl rfl) (by kernel_rfl) (fun _=>rfl) fun _ hp hg=>Fb _ _
theorem FP:O 176:=ar ab aq iX 16 s5 HK (ac gB an) (.inr (by kernel_rfl)) (.inl rfl) (by kernel_rfl) (fun _=>rfl) fun _ hp hg=>Ju _ hp
theorem Db:O 83:=ar ab aq eT 25 pT DR (ac qh (ac oq (ac FO (ac vD an)))) (.inr (by kernel_rfl)) (.inl rfl) (by kernel_rfl) (fun _=>rfl) fun _ hp hg=>Fc _ _ _ _ hp hg
theorem Ax:O 112:=ar ab aq dD 17 oc BF (ac gB (ac ws (ac FP (ac ut an)))) (.inr (by kernel_rfl)) (.inl rfl) (by kernel_rfl) (fun _=>rfl) fun _ hp hg=>Cw _ _ hp hg
theorem yS:O 64:=ar ab aq dV 16 mN zP (ac ig an) (.inr (by kernel_rfl)) (.inl rfl) (by kernel_rfl) (fun _=>rfl) fun _ hp hg=>Aj _ hp
theorem MD:O 87:=ar ab aq lA 16 wg Nn (ac fE an) (.inr (by kernel_rfl)) (.inl rfl) (by kernel_rfl) (fun _=>rfl) fun _ hp hg=>O6 _ hp
theorem yb:bZ Tryz.prog ⟨37,[0],none,false⟩ (ρ 37):=ar ab aq iB 11 oM KV (ac xW (ac MD (ac JR an))) (.inr (by kernel_rfl)) (.inl rfl) (by kernel_rfl) (fun _=>rfl) fun _ hp hg=>Mh _ _ _ hp hg
theorem uu:bZ Tryz.prog ⟨28,[0],none,false⟩ (ρ 28):=ar ab aq eU 11 pU DS (ac yS (ac um (ac JT an))) (.inr (by kernel_rfl)) (.inl rfl) (by kernel_rfl) (fun _=>rfl) fun _ hp hg=>Fd _ _ _ hp hg
theorem Dc:bZ Tryz.prog ⟨59,[0],none,false⟩ (ρ 59):=ar ab aq eV 11 pV DT (ac uu an) (.inr (by kernel_rfl)) (.inl rfl) (by kernel_rfl) (fun _=>rfl) fun _ hp hg=>Fe _ _ _ hp hg
theorem np:bZ Tryz.prog ⟨32,[3],none,false⟩ (ρ 32):=ar ab aq iC 9 u4 KW (ac qh (ac dM (ac dN (ac dO (ac dm an))))) (.inr (by kernel_rfl)) (.inl rfl) (by kernel_rfl) (fun _=>rfl) fun _ hp hg=>Mi _ hp hg
theorem JU:O 205:=ar ab aq iD 4 u5 KX (ac cy (ac bv (ac vv an))) (.inr (by kernel_rfl)) (.inl rfl) (by kernel_rfl) (fun _=>rfl) fun _ hp hg=>Mp _ _ _ _ hp hg
theorem FQ:O 207:=ar ab aq go 2 s6 HL (ac bv an) (.inr (by kernel_rfl)) (.inl rfl) (by kernel_rfl) (fun _=>rfl) fun _ hp hg=>JA _ _ hp hg
theorem JV:bZ Tryz.prog ⟨163,[],none,false⟩ (ρ 163):=by
 show PureOK _ _ oG
 have h0: ∀ps rs,oG ps=some rs→False:=fun ps rs h=>by obtain ⟨a,h1,_⟩:=gC h;exact h1
 exact ⟨fun _ _ _ ps rs h=>(h0 ps rs h).elim,fun _ ps rs h=>(h0 ps rs h).elim,fun _ _ ps rs h=>(h0 ps rs h).elim⟩
theorem JW:O 93:=ar ab aq iE 17 u6 KY (ac cy (ac bc (ac xV (ac vD (ac kZ (ac JV (ac bv (ac vw (ac JU (ac FQ an)))))))))) (.inr (by kernel_rfl)) (.inl rfl) (by kernel_rfl) (fun _=>rfl) fun _ hp hg=>Mt _ _ _ _ _ _ hp hg
theorem JX:O 94:=ar ab aq iF 18 u7 KZ (an (ρ:=ρ)) (.inr (by kernel_rfl)) (.inl rfl) (by kernel_rfl) (fun _=>rfl) fun _ hp hg=>Ms _ _ _ hp hg
theorem Dd:O 45:=ar ab aq eW 26 pW DU (ac cy (ac Db (ac oq (ac JW (ac JX an))))) (.inr (by kernel_rfl)) (.inl rfl) (by kernel_rfl) (fun _=>rfl) fun _ hp hg=>Fg _ _ _ _ _ hp hg
theorem JY:O 44:=ar ab aq iG 11 u9 L1 (ac Fp (ac xX an)) (.inl fun _=>rfl) (.inl rfl) (by kernel_rfl) (fun _=>rfl) fun _ hp hg=>Mr _ _ _ hp hg
theorem FR:O 47:=ar ab aq gp 1 s7 HM (ac bc an) (.inr (by kernel_rfl)) (.inl rfl) (by kernel_rfl) (fun _=>rfl) fun _ hp hg=>Jy _ hp hg
theorem uv:O 40:=ar ab aq eX 18 pX DV (ac vz an) (.inl fun _=>rfl) (.inl rfl) (by kernel_rfl) (fun _=>rfl) fun _ hp hg=>Fh _ _ _ _ hp hg
theorem lZ:O 42:=ar ab aq gr 18 s8 HP (ac uv an) (.inl fun _=>rfl) (.inl rfl) (by kernel_rfl) (fun _=>rfl) fun _ hp hg=>JD _ _ _ _ hp hg
theorem mS:O 13:=ar ab aq cV 18 od BG (ac np (ac uv an)) (.inr (by kernel_rfl)) (.inl rfl) (by kernel_rfl) (fun _=>rfl) fun _ hp hg=>CH _ _ _ _ hp hg
theorem vE:O 41:=ar ab aq gt 20 s9 HQ (ac np (ac lZ an)) (.inr (by kernel_rfl)) (.inl rfl) (by kernel_rfl) (fun _=>rfl) fun _ hp hg=>JE _ _ _ _ _ _ hp hg
theorem jZ:O 14:=ar ab aq bz 18 kT xe (ac vE an) (.inr (by kernel_rfl)) (.inl rfl) (by kernel_rfl) (fun _=>rfl) fun _ hp hg=>xP _ _ _ _ hp hg
theorem uw:O 20:=ar ab aq bO 18 ji uO (ac vE an) (.inr (by kernel_rfl)) (.inl rfl) (by kernel_rfl) (fun _=>rfl) fun _ hp hg=>uR _ _ _ _ hp hg
theorem lP:O 15:=ar ab aq cB 19 mO zQ (ac np (ac yb (ac lZ (ac cy (ac JY (ac Dd (ac xY an))))))) (.inr (by kernel_rfl)) (.inl rfl) (by kernel_rfl) (fun _=>rfl) fun _ hp hg=>Al _ _ _ _ _ hp hg
theorem yT:O 21:=ar ab aq de 19 mP zR (ac yb (ac lZ (ac FM an))) (.inr (by kernel_rfl)) (.inl rfl) (by kernel_rfl) (fun _=>rfl) fun _ hp hg=>Am _ _ _ _ _ hp hg
theorem qj:O 16:=ar ab aq dj 18 sa HS (ac np (ac lZ (ac FR an))) (.inr (by kernel_rfl)) (.inl rfl) (by kernel_rfl) (fun _=>rfl) fun _ hp hg=>JF _ _ _ _ hp hg
theorem FS:O 224:=ar ab aq gu 4 sb HU (an (ρ:=ρ)) (.inr (by kernel_rfl)) (.inl rfl) (by kernel_rfl) (fun _=>rfl) fun _ hp hg=>JB _ _ _ _ hp hg
theorem JZ:O 225:=ar ab aq iH 8 ua L2 (ac xZ an) (.inr (by kernel_rfl)) (.inl rfl) (by kernel_rfl) (fun _=>rfl) fun _ hp hg=>Mu _ _ _ hp hg
theorem K0:bZ Tryz.prog ⟨179,[],none,false⟩ (ρ 179):=by
 show PureOK _ _ oH
 have h0: ∀ps rs,oH ps=some rs→False:=fun ps rs h=>by obtain ⟨a,h1,_⟩:=gC h;exact h1
 exact ⟨fun _ _ _ ps rs h=>(h0 ps rs h).elim,fun _ ps rs h=>(h0 ps rs h).elim,fun _ _ ps rs h=>(h0 ps rs h).elim⟩
theorem FT:O 113:=ar ab aq gv 17 sc HV (ac mV (ac jj (ac ut (ac K0 (ac FS (ac JZ an)))))) (.inr (by kernel_rfl)) (.inl rfl) (by kernel_rfl) (fun _=>rfl) fun _ hp hg=>JH _ _ _ _ _ _ hp hg
theorem De:O 114:=ar ab aq eY 18 pY DW (an (ρ:=ρ)) (.inr (by kernel_rfl)) (.inl rfl) (by kernel_rfl) (fun _=>rfl) fun _ hp hg=>Ff _ _ _ hp hg
theorem Ay:O 58:=ar ab aq dE 26 oe BH (ac Ax (ac FT (ac De an))) (.inr (by kernel_rfl)) (.inl rfl) (by kernel_rfl) (fun _=>rfl) fun _ hp hg=>CL _ _ _ _ _ hp hg
theorem yU:O 25:=ar ab aq df 19 mQ zS (ac oQ (ac ul (ac Ay (ac Dc (ac vt (ac vC an)))))) (.inr (by kernel_rfl)) (.inl rfl) (by kernel_rfl) (fun _=>rfl) fun _ hp hg=>An _ _ _ _ _ hp hg
theorem ux:O 17:=ar ab aq jw 0 pZ DX (ac vA (ac mS (ac jZ (ac lP (ac qj an))))) (.inl fun _=>rfl) (.inl rfl) (by kernel_rfl) (fun _=>rfl) fun _ hp hg=>Fj
theorem Df:O 23:=ar ab aq eZ 19 qa DY (ac D7 an) (.inl fun _=>rfl) (.inl rfl) (by kernel_rfl) (fun _=>rfl) fun _ hp hg=>Fk _ _ _ _ _ hp hg
end Go.Xt
