/- Steps towards the statements of this seat; the conditions stand in each theorem. -/
import Derived.Test.YtahdphncepnbeaaGreatDoorOk1
open Go.Proofs
set_option maxRecDepth 100000
set_option linter.unusedVariables false
set_option linter.unusedSimpArgs false
namespace Go.Xt
theorem CW:O 208:=ar ab aq eD 3 pA Dy (ac cy (ac bt (ac Fz an))) (.inl fun _=>rfl) (.inl rfl) (by kernel_rfl) (fun _=>rfl) fun _ hp hg=>EK _ _ _ hg
theorem Aq:O 268:=ar ab aq dx 3 o4 Bw (ac fD (ac cX an)) (.inl fun _=>rfl) (.inl rfl) (by kernel_rfl) (fun _=>rfl) fun _ hp hg=>Ca _ _ _ hg
theorem uq:O 234:=ar ab aq gM 6 pB Dz (ac cy (ac gA (ac bt (ac kZ an)))) (.inl fun _=>rfl) (.inl rfl) (by kernel_rfl) (fun _=>rfl) fun _ hp hg=>EL _
theorem CX:O 269:=ar ab aq gN 6 pC DA (ac fD (ac dX (ac cX (ac oo (ac uo an))))) (.inl fun _=>rfl) (.inl rfl) (by kernel_rfl) (fun _=>rfl) fun _ hp hg=>EM _
theorem ur:O 233:=ar ab aq eE 2 pD DB (ac uq an) (.inl fun _=>rfl) (.inl rfl) (by kernel_rfl) (fun _=>rfl) fun _ hp hg=>EN _ _ hg
theorem CY:O 254:=ar ab aq eF 2 pE DC (ac cX (ac CX an)) (.inl fun _=>rfl) (.inl rfl) (by kernel_rfl) (fun _=>rfl) fun _ hp hg=>EO _ _ hg
theorem JJ:O 260:=ar ab aq ki 5 tK KE (an (ρ:=ρ)) (.inl fun _=>rfl) (.inl rfl) (by kernel_rfl) (fun _=>rfl) fun _ hp hg=>LJ _
theorem FA:O 240:=ar ab aq fZ 12 rH Hk (ac bt (ac kZ (ac CW (ac vv (ac JJ an))))) (.inl fun _=>rfl) (.inl rfl) (by kernel_rfl) (fun _=>rfl) fun _ hp hg=>IV _ _ hg
theorem vw:O 204:=ar ab aq ga 13 rI Hl (ac lN (ac ur (ac FA an))) (.inl fun _=>rfl) (.inl rfl) (by kernel_rfl) (fun _=>rfl) fun _ hp hg=>IX _ _ _ hg
theorem CZ:O 169:=ar ab aq eK 2 pJ DH (an (ρ:=ρ)) (.inl fun _=>rfl) (.inl rfl) (by kernel_rfl) (fun _=>rfl) fun _ hp hg=>ET _ _ hg
theorem su:O 106:=ar ab aq dB 10 o9 BC (ac CZ an) (.inl fun _=>rfl) (.inl rfl) (by kernel_rfl) (fun _=>rfl) fun _ hp hg=>Cf _ _ hg
theorem Ar:O 253:=ar ab aq dy 12 o5 Bx (ac su (ac cX (ac oo (ac uo (ac Fy (ac Aq an)))))) (.inl fun _=>rfl) (.inl rfl) (by kernel_rfl) (fun _=>rfl) fun _ hp hg=>Cc _ _ hg
theorem FB:O 223:=ar ab aq gc 13 rJ Hm (ac Ar (ac CY an)) (.inl fun _=>rfl) (.inl rfl) (by kernel_rfl) (fun _=>rfl) fun _ hp hg=>IZ _ _ _ hg
theorem FC:O 200:=ar ab aq gd 3 rK Hn (ac fC an) (.inl fun _=>rfl) (.inl rfl) (by kernel_rfl) (fun _=>rfl) fun _ hp hg=>IJ _ _ _ hg
theorem FD:O 220:=ar ab aq ge 3 rL Ho (ac jG (ac cX an)) (.inl fun _=>rfl) (.inl rfl) (by kernel_rfl) (fun _=>rfl) fun _ hp hg=>IK _ _ _ hg
theorem As:O 201:=ar ab aq fw 17 o6 Bz (ac JI an) (.inl fun _=>rfl) (.inl rfl) (by kernel_rfl) (fun _=>rfl) fun _ hp hg=>C7 _ _
theorem At:O 202:=ar ab aq dz 16 o7 BA (an (ρ:=ρ)) (.inl fun _=>rfl) (.inl rfl) (by kernel_rfl) (fun _=>rfl) fun _ hp hg=>C8 _ hp hg
theorem D0:O 157:=ar ab aq eG 25 pF DD (ac Fv (ac FC (ac As (ac At (ac Fm (ac vw an)))))) (.inl fun _=>rfl) (.inl rfl) (by kernel_rfl) (fun _=>rfl) fun _ hp hg=>EP _ _ _ _ hp hg
theorem oq:O 92:=ar ab aq eH 25 pG DE (ac lN (ac D0 an)) (.inl fun _=>rfl) (.inl rfl) (by kernel_rfl) (fun _=>rfl) fun _ hp hg=>EQ _ _ _ _ hg
theorem D1:O 171:=ar ab aq eI 25 pH DF (ac cX (ac oo (ac FD (ac Fo (ac Fw (ac FB an)))))) (.inl fun _=>rfl) (.inl rfl) (by kernel_rfl) (fun _=>rfl) fun _ hp hg=>ER _ _ _ _ hp hg
theorem FE:O 134:=ar ab aq gf 16 rM Hp (ac jY an) (.inl fun _=>rfl) (.inl rfl) (by kernel_rfl) (fun _=>rfl) fun _ hp hg=>J3 _ _ hp hg
theorem JK:O 137:=ar ab aq kj 3 tL KF (ac jY an) (.inl fun _=>rfl) (.inl rfl) (by kernel_rfl) (fun _=>rfl) fun _ hp hg=>LL _
theorem FF:O 140:=ar ab aq iS 12 rN Hq (ac cy (ac jY (ac bt an))) (.inl fun _=>rfl) (.inl rfl) (by kernel_rfl) (fun _=>rfl) fun _ hp hg=>J2 _ _ hp
theorem FH:O 71:=ar ab aq gg 17 rO Hr (ac jY (ac vu (ac oq (ac bt (ac FE (ac JK (ac FF an))))))) (.inl fun _=>rfl) (.inl rfl) (by kernel_rfl) (fun _=>rfl) fun _ hp hg=>J4 _ _ _ hp hg
theorem vz:O 31:=ar ab aq gh 17 rP Hs (ac lN (ac jY (ac FH an))) (.inl fun _=>rfl) (.inl rfl) (by kernel_rfl) (fun _=>rfl) fun _ hp hg=>J5 _ _ _ hg
theorem FI:O 109:=ar ab aq gi 17 rQ Ht (ac fD (ac um (ac CV (ac D1 an)))) (.inl fun _=>rfl) (.inl rfl) (by kernel_rfl) (fun _=>rfl) fun _ hp hg=>J6 _ _ _ hp hg
theorem D2:O 52:=ar ab aq eJ 2 pI DG (an (ρ:=ρ)) (.inl fun _=>rfl) (.inl rfl) (by kernel_rfl) (fun _=>rfl) fun _ hp hg=>ES _ _ hg
theorem FJ:O 105:=ar ab aq gj 2 rR Hu (an (ρ:=ρ)) (.inl fun _=>rfl) (.inl rfl) (by kernel_rfl) (fun _=>rfl) fun _ hp hg=>J7 _ _ hg
theorem Au:O 107:=ar ab aq dA 2 o8 BB (an (ρ:=ρ)) (.inl fun _=>rfl) (.inl rfl) (by kernel_rfl) (fun _=>rfl) fun _ hp hg=>Ce _ _ hg
theorem D3:O 53:=ar ab aq eM 32 pK DI (ac vr (ac FJ (ac su (ac Au an)))) (.inl fun _=>rfl) (.inl rfl) (by kernel_rfl) (fun _=>rfl) fun _ hp hg=>EV _ _ hg
theorem FK:O 22:=ar ab aq gk 18 rS Hv (ac D2 (ac D3 an)) (.inl fun _=>rfl) (.inl rfl) (by kernel_rfl) (fun _=>rfl) fun _ hp hg=>J8 _ _ hg
theorem xU:bZ Tryz.prog ⟨99,[0],none,true⟩ (ρ 99):=ar ab aq cG 1 lE yv (an (ρ:=ρ)) (.inr (by kernel_rfl)) (.inr fun a=>by exact bM (by simp[cG,mkF,kE,jg,PV.scalar])) (by kernel_rfl) (fun _=>rfl) fun _ hp hg=>yF _ hp
theorem wq:bZ Tryz.prog ⟨166,[0],none,true⟩ (ρ 166):=ar ab aq cn 1 kP x9 (an (ρ:=ρ)) (.inr (by kernel_rfl)) (.inr fun a=>by exact bM (by simp[cn,mkF,kE,jg,PV.scalar])) (by kernel_rfl) (fun _=>rfl) fun _ hp hg=>xB _ hp
theorem jj:bZ Tryz.prog ⟨101,[0],none,true⟩ (ρ 101):=ar ab aq bW 1 jS vN (an (ρ:=ρ)) (.inr (by kernel_rfl)) (.inr fun a=>by exact bM (by simp[bW,mkF,kE,jg,PV.scalar])) (by kernel_rfl) (fun _=>rfl) fun _ hp hg=>wh _ hp
theorem ot:bZ Tryz.prog ⟨49,[0],none,true⟩ (ρ 49):=ar ab aq co 1 kQ xb (an (ρ:=ρ)) (.inr (by kernel_rfl)) (.inr fun a=>by exact bM (by simp[co,mkF,kE,jg,PV.scalar])) (by kernel_rfl) (fun _=>rfl) fun _ hp hg=>xC _ hp
theorem mV:O 100:=ar ab aq cH 5 jT vO (ac wq an) (.inr (by kernel_rfl)) (.inl rfl) (by kernel_rfl) (fun _=>rfl) fun _ hp hg=>wi _ hp
theorem gB:O 50:=ar ab aq cY 16 kR xc (ac ig (ac xU (ac mV (ac jj an)))) (.inr (by kernel_rfl)) (.inl rfl) (by kernel_rfl) (fun _=>rfl) fun _ hp hg=>xE _ hp
theorem oQ:bZ Tryz.prog ⟨19,[3],none,false⟩ (ρ 19):=ar ab aq cI 9 lF yw (ac ot (ac gB an)) (.inr (by kernel_rfl)) (.inl rfl) (by kernel_rfl) (fun _=>rfl) fun _ hp hg=>yG _ hp hg
theorem D4:O 97:=ar ab aq eN 6 pL DJ (an (ρ:=ρ)) (.inl fun _=>rfl) (.inl rfl) (by kernel_rfl) (fun _=>rfl) fun _ hp hg=>EX _ _ hg
theorem D5:O 48:=ar ab aq eO 16 pM DK (ac D4 an) (.inl fun _=>rfl) (.inl rfl) (by kernel_rfl) (fun _=>rfl) fun _ hp hg=>EY _ hg
theorem D6:O 18:=ar ab aq eP 9 pN DL (ac D5 an) (.inl fun _=>rfl) (.inl rfl) (by kernel_rfl) (fun _=>rfl) fun _ hp hg=>EZ _ hg
theorem vA:O 7:=ar ab aq kM 0 rT Hw (an (ρ:=ρ)) (.inl fun _=>rfl) (.inl rfl) (by kernel_rfl) (fun _=>rfl) fun _ hp hg=>Ja
theorem dM:bZ Tryz.prog ⟨73,[0],none,true⟩ (ρ 73):=ar ab aq aL 1 cr kF (an (ρ:=ρ)) (.inr (by kernel_rfl)) (.inr fun a=>by exact bM (by simp[aL,mkF,kE,jg,PV.scalar])) (by kernel_rfl) (fun _=>rfl) fun _ hp hg=>kU _ hp
theorem dN:bZ Tryz.prog ⟨74,[0],none,true⟩ (ρ 74):=ar ab aq aM 1 ct kG (an (ρ:=ρ)) (.inr (by kernel_rfl)) (.inr fun a=>by exact bM (by simp[aM,mkF,kE,jg,PV.scalar])) (by kernel_rfl) (fun _=>rfl) fun _ hp hg=>kV _ hp
theorem dO:bZ Tryz.prog ⟨75,[0],none,true⟩ (ρ 75):=ar ab aq aN 1 cu kH (an (ρ:=ρ)) (.inr (by kernel_rfl)) (.inr fun a=>by exact bM (by simp[aN,mkF,kE,jg,PV.scalar])) (by kernel_rfl) (fun _=>rfl) fun _ hp hg=>kW _ hp
theorem dm:bZ Tryz.prog ⟨76,[0],none,true⟩ (ρ 76):=ar ab aq aE 1 bX jJ (an (ρ:=ρ)) (.inr (by kernel_rfl)) (.inr fun a=>by exact bM (by simp[aE,mkF,kE,jg,PV.scalar])) (by kernel_rfl) (fun _=>rfl) fun _ hp hg=>jW _ hp
theorem lb:bZ Tryz.prog ⟨142,[0],none,true⟩ (ρ 142):=ar ab aq aW 1 cK lm (an (ρ:=ρ)) (.inr (by kernel_rfl)) (.inr fun a=>by exact bM (by simp[aW,mkF,kE,jg,PV.scalar])) (by kernel_rfl) (fun _=>rfl) fun _ hp hg=>lI _ hp
theorem bc:bZ Tryz.prog ⟨96,[0],none,true⟩ (ρ 96):=ar ab aq aF 1 bY jK (an (ρ:=ρ)) (.inr (by kernel_rfl)) (.inr fun a=>by exact bM (by simp[aF,mkF,kE,jg,PV.scalar])) (by kernel_rfl) (fun _=>rfl) fun _ hp hg=>jX _ hp
theorem bv:bZ Tryz.prog ⟨189,[0],none,true⟩ (ρ 189):=ar ab aq aO 1 cv kI (an (ρ:=ρ)) (.inr (by kernel_rfl)) (.inr fun a=>by exact bM (by simp[aO,mkF,kE,jg,PV.scalar])) (by kernel_rfl) (fun _=>rfl) fun _ hp hg=>kX _ hp
theorem fE:bZ Tryz.prog ⟨141,[0],none,true⟩ (ρ 141):=ar ab aq bp 1 gx qX (an (ρ:=ρ)) (.inr (by kernel_rfl)) (.inr fun a=>by exact bM (by simp[bp,mkF,kE,jg,PV.scalar])) (by kernel_rfl) (fun _=>rfl) fun _ hp hg=>sk _ hp
theorem JL:O 217:=ar ab aq km 16 tM KG (an (ρ:=ρ)) (.inl fun _=>rfl) (.inl rfl) (by kernel_rfl) (fun _=>rfl) fun _ hp hg=>LR _
theorem qh:O 72:=ar ab aq iT 16 rU Hx (ac bc (ac fE (ac lb (ac bv an)))) (.inr (by kernel_rfl)) (.inl rfl) (by kernel_rfl) (fun _=>rfl) fun _ hp hg=>Jj _ hp
theorem JM:O 235:=ar ab aq kn 6 tN KH (an (ρ:=ρ)) (.inl fun _=>rfl) (.inl rfl) (by kernel_rfl) (fun _=>rfl) fun _ hp hg=>LS _
theorem JN:O 191:=ar ab aq io 8 tO KI (ac bc (ac ur (ac uq (ac JM an)))) (.inr (by kernel_rfl)) (.inl rfl) (by kernel_rfl) (fun _=>rfl) fun _ hp hg=>LV _ _ _ hg
theorem xV:O 147:=ar ab aq iq 8 tP KJ (ac bc (ac JN an)) (.inr (by kernel_rfl)) (.inl rfl) (by kernel_rfl) (fun _=>rfl) fun _ hp hg=>LU _ _ _ hp hg
theorem xW:O 86:=ar ab aq ir 10 tQ KK (ac jY an) (.inl fun _=>rfl) (.inl rfl) (by kernel_rfl) (fun _=>rfl) fun _ hp hg=>LW _ _ hg
theorem FL:O 78:=ar ab aq gl 2 rV Hy (ac vu an) (.inl fun _=>rfl) (.inl rfl) (by kernel_rfl) (fun _=>rfl) fun _ hp hg=>Jk _ _ hg
theorem xX:bZ Tryz.prog ⟨34,[0],none,true⟩ (ρ 34):=ar ab aq fH 2 tR KL (ac FL an) (.inr (by kernel_rfl)) (.inr fun a=>by obtain ⟨_,_⟩:=a;exact bM (by simp[fH,mkF,kE,jg,PV.scalar])) (by kernel_rfl) (fun _=>rfl) fun _ hp hg=>LX _ _ hg
theorem xY:O 46:=ar ab aq iu 11 tS KM (ac xX (ac Fs an)) (.inl fun _=>rfl) (.inl rfl) (by kernel_rfl) (fun _=>rfl) fun _ hp hg=>LZ _ _ _ hp hg
theorem JO:bZ Tryz.prog ⟨168,[0],none,true⟩ (ρ 168):=ar ab aq iv 11 tT KN (ac xY (ac JL an)) (.inr (by kernel_rfl)) (.inr fun a=>by obtain ⟨_,_,_⟩:=a;exact bM (by simp[iv,mkF,kE,jg,PV.scalar])) (by kernel_rfl) (fun _=>rfl) fun _ hp hg=>M0 _ _ _ hp hg
end Go.Xt
