/- Steps towards the statements of this seat; the conditions stand in each theorem. -/
import Derived.Test.YtahdphncepnbeaaGreatDoorRows
import Derived.Test.YtahdphncepnbeaaGreatDoorH
import Derived.Test.YtahdphncepnbeaaGreatDoorIp
import Derived.Test.YtahdphncepnbeaaGreatDoorEr6
import Derived.Test.YtahdphncepnbeaaGreatDoorPartW44
open Go.Proofs
set_option maxRecDepth 100000
set_option linter.unusedVariables false
set_option linter.unusedSimpArgs false
namespace Go.Xt
theorem ab:(Tryz.prog.funcs.toList.all fun fn=> !(fn.name == "runtime.NumGoroutine"))=true:=by kernel_rfl
theorem aq:Tryz.prog.follows .mixedOrders=true:=by kernel_rfl
abbrev O(K:Nat):Prop:=bZ Tryz.prog ⟨K,[],none,false⟩ (ρ K)
theorem gA:O 130:=ar ab aq nv 1 yA Pk (an (ρ:=ρ)) (.inl fun _=>rfl) (.inl rfl) (by kernel_rfl) (fun _=>rfl) fun _ hp hg=>PH _
theorem nm:O 89:=ar ab aq kf 1 tG KA (ac gA an) (.inl fun _=>rfl) (.inl rfl) (by kernel_rfl) (fun _=>rfl) fun _ hp hg=>LF _
theorem qf:O 67:=ar ab aq iO 1 rk H0 (an (ρ:=ρ)) (.inl fun _=>rfl) (.inl rfl) (by kernel_rfl) (fun _=>rfl) fun _ hp hg=>Iz _
theorem sn:O 90:=ar ab aq nw 2 yB Pl (an (ρ:=ρ)) (.inl fun _=>rfl) (.inl rfl) (by kernel_rfl) (fun _=>rfl) fun _ hp hg=>PI _ _ hp
theorem qg:O 174:=ar ab aq kL 1 rl H2 (an (ρ:=ρ)) (.inl fun _=>rfl) (.inl rfl) (by kernel_rfl) (fun _=>rfl) fun _ hp hg=>IA _ hp
theorem CO:O 173:=ar ab aq jv 1 ph Dk (an (ρ:=ρ)) (.inl fun _=>rfl) (.inl rfl) (by kernel_rfl) (fun _=>rfl) fun _ hp hg=>EC _ hp
theorem mR:O 172:=ar ab aq im 2 nW Br (an (ρ:=ρ)) (.inl fun _=>rfl) (.inl rfl) (by kernel_rfl) (fun _=>rfl) fun _ hp hg=>C3 _ _ hp
theorem uj:O 39:=ar ab aq lr 2 vX Nf (ac qf (ac nm (ac sn an))) (.inl fun _=>rfl) (.inl rfl) (by kernel_rfl) (fun _=>rfl) fun _ hp hg=>NG _ _
theorem fC:O 12:=ar ab aq gG 3 pi Dl (ac uj an) (.inl fun _=>rfl) (.inl rfl) (by kernel_rfl) (fun _=>rfl) fun _ hp hg=>ED _ _ _
theorem ku:O 55:=ar ab aq lv 3 wa Ni (an (ρ:=ρ)) (.inl fun _=>rfl) (.inl rfl) (by kernel_rfl) (fun _=>rfl) fun _ hp hg=>NI _ _ _
theorem lM:O 123:=ar ab aq dS 1 mG zK (ac ku an) (.inl fun _=>rfl) (.inl rfl) (by kernel_rfl) (fun _=>rfl) fun _ hp hg=>Ac _
theorem dX:O 121:=ar ab aq fq 1 nX Bs (ac ku an) (.inl fun _=>rfl) (.inl rfl) (by kernel_rfl) (fun _=>rfl) fun _ hp hg=>C4 _
theorem xS:O 111:=ar ab aq mj 2 tH KB (ac mR (ac CO (ac qg an))) (.inl fun _=>rfl) (.inl rfl) (by kernel_rfl) (fun _=>rfl) fun _ hp hg=>LG _ _ hp
theorem jG:O 117:=ar ab aq ft 3 nY Bt (ac xS (ac dX (ac lM an))) (.inl fun _=>rfl) (.inl rfl) (by kernel_rfl) (fun _=>rfl) fun _ hp hg=>C5 _ _ _
theorem uk:O 68:=ar ab aq jP 1 vY Ng (ac gA an) (.inl fun _=>rfl) (.inl rfl) (by kernel_rfl) (fun _=>rfl) fun _ hp hg=>NH _ hg
theorem Fl:O 239:=ar ab aq fL 3 rm H3 (ac fC an) (.inl fun _=>rfl) (.inl rfl) (by kernel_rfl) (fun _=>rfl) fun _ hp hg=>IB _ _ _ hg
theorem Fm:O 203:=ar ab aq fM 4 rn H4 (ac uj (ac uk (ac Fl an))) (.inl fun _=>rfl) (.inl rfl) (by kernel_rfl) (fun _=>rfl) fun _ hp hg=>IC _ _ _ _ hg
theorem ig:bZ Tryz.prog ⟨98,[0],none,false⟩ (ρ 98):=ar ab aq dq 1 lD yu (an (ρ:=ρ)) (.inr (by kernel_rfl)) (.inl rfl) (by kernel_rfl) (fun _=>rfl) fun _ hp hg=>yE _ hp
theorem vr:O 104:=ar ab aq fN 2 ro H5 (an (ρ:=ρ)) (.inl fun _=>rfl) (.inl rfl) (by kernel_rfl) (fun _=>rfl) fun _ hp hg=>ID _ _ hg
theorem Fo:O 221:=ar ab aq fO 4 rp H6 (ac jG (ac dX an)) (.inl fun _=>rfl) (.inl rfl) (by kernel_rfl) (fun _=>rfl) fun _ hp hg=>IE _ _ _ _ hp hg
theorem dJ:O 152:=ar ab aq bg 2 dR ou (an (ρ:=ρ)) (.inl fun _=>rfl) (.inl rfl) (by kernel_rfl) (fun _=>rfl) fun _ hp hg=>ox _ _ hg
theorem Q2:O 263:=ar ab aq qv 1 C1 Qv (an (ρ:=ρ)) (.inl fun _=>rfl) (.inl rfl) (by kernel_rfl) (fun _=>rfl) fun _ hp hg=>R8 _
theorem MA:O 246:=ar ab aq lu 2 vZ Nh (ac sn (ac Q2 an)) (.inl fun _=>rfl) (.inl rfl) (by kernel_rfl) (fun _=>rfl) fun _ hp hg=>NP _ _
theorem Fp:O 29:=ar ab aq fP 2 rq H7 (ac fC (ac qf (ac uk an))) (.inl fun _=>rfl) (.inl rfl) (by kernel_rfl) (fun _=>rfl) fun _ hp hg=>Jc _ _ hg
theorem CP:O 213:=ar ab aq eu 2 pj Dm (ac gA (ac dJ an)) (.inl fun _=>rfl) (.inl rfl) (by kernel_rfl) (fun _=>rfl) fun _ hp hg=>F0 _ _ hg
theorem CQ:O 247:=ar ab aq ew 2 pk Dn (ac nm (ac sn an)) (.inl fun _=>rfl) (.inl rfl) (by kernel_rfl) (fun _=>rfl) fun _ hp hg=>F1 _ _ hp hg
theorem CR:O 215:=ar ab aq ey 2 pm Do (ac nm (ac sn an)) (.inl fun _=>rfl) (.inl rfl) (by kernel_rfl) (fun _=>rfl) fun _ hp hg=>F2 _ _ hp hg
theorem yO:bZ Tryz.prog ⟨214,[0],none,false⟩ (ρ 214):=ar ab aq db 2 mH zL (ac nm (ac MA (ac CQ (ac ri (ac ow an))))) (.inr (by kernel_rfl)) (.inl rfl) (by kernel_rfl) (fun _=>rfl) fun _ hp hg=>Ah _ _ hp hg
theorem Fq:O 165:=ar ab aq fQ 3 rr H8 (ac fC (ac yO (ac CR an))) (.inl fun _=>rfl) (.inl rfl) (by kernel_rfl) (fun _=>rfl) fun _ hp hg=>Jd _ _ _ hp hg
theorem CT:O 164:=ar ab aq ez 3 pn Dp (ac qf (ac CP an)) (.inl fun _=>rfl) (.inl rfl) (by kernel_rfl) (fun _=>rfl) fun _ hp hg=>F4 _ _ _ hg
theorem Fs:O 95:=ar ab aq fR 3 rt H9 (ac CT (ac Fq an)) (.inl fun _=>rfl) (.inl rfl) (by kernel_rfl) (fun _=>rfl) fun _ hp hg=>Je _ _ _ hg
theorem Ao:O 180:=ar ab aq fu 2 nZ Bu (ac mR (ac qg an)) (.inl fun _=>rfl) (.inl rfl) (by kernel_rfl) (fun _=>rfl) fun _ hp hg=>Cm _ _ hp
theorem CU:O 116:=ar ab aq eA 2 po Dq (ac Ao an) (.inl fun _=>rfl) (.inl rfl) (by kernel_rfl) (fun _=>rfl) fun _ hp hg=>F5 _ _ hp hg
theorem yP:bZ Tryz.prog ⟨115,[0],none,false⟩ (ρ 115):=ar ab aq dc 2 mJ zM (ac mR (ac qg an)) (.inr (by kernel_rfl)) (.inl rfl) (by kernel_rfl) (fun _=>rfl) fun _ hp hg=>Ai _ _ hp hg
theorem ul:O 57:=ar ab aq eB 2 pp Dr (ac xS an) (.inl fun _=>rfl) (.inl rfl) (by kernel_rfl) (fun _=>rfl) fun _ hp hg=>F6 _ _ hp hg
theorem vt:O 60:=ar ab aq fS 3 ru Ha (ac ul (ac yP (ac CU (ac jG an)))) (.inl fun _=>rfl) (.inl rfl) (by kernel_rfl) (fun _=>rfl) fun _ hp hg=>Jh _ _ _ hp hg
theorem yQ:O 132:=ar ab aq dT 7 mL zN (ac C0 (ac Ab an)) (.inr (by kernel_rfl)) (.inl rfl) (by kernel_rfl) (fun _=>rfl) fun _ hp hg=>Ae _
theorem lN:O 69:=ar ab aq dU 7 mM zO (ac Aa (ac yQ an)) (.inl fun _=>rfl) (.inl rfl) (by kernel_rfl) (fun _=>rfl) fun _ hp hg=>Ag _
theorem Ap:O 108:=ar ab aq fv 7 o0 Bv (ac ku an) (.inl fun _=>rfl) (.inl rfl) (by kernel_rfl) (fun _=>rfl) fun _ hp hg=>C6 _
theorem kZ:O 159:=ar ab aq gH 1 pq Ds (ac gA an) (.inl fun _=>rfl) (.inl rfl) (by kernel_rfl) (fun _=>rfl) fun _ hp hg=>EH _
theorem JI:O 238:=ar ab aq kg 1 tI KC (ac kZ an) (.inl fun _=>rfl) (.inl rfl) (by kernel_rfl) (fun _=>rfl) fun _ hp hg=>LI _
theorem nz:O 91:=ar ab aq qw 3 C2 Qw (an (ρ:=ρ)) (.inl fun _=>rfl) (.inl rfl) (by kernel_rfl) (fun _=>rfl) fun _ hp hg=>R5 _ _ _
theorem bt:O 133:=ar ab aq gI 1 pu Dt (ac nz an) (.inl fun _=>rfl) (.inl rfl) (by kernel_rfl) (fun _=>rfl) fun _ hp hg=>EE _
theorem cy:O 43:=ar ab aq kh 1 tJ KD (ac nz an) (.inl fun _=>rfl) (.inl rfl) (by kernel_rfl) (fun _=>rfl) fun _ hp hg=>LH _
theorem jY:O 70:=ar ab aq ny 3 yC Pm (an (ρ:=ρ)) (.inl fun _=>rfl) (.inl rfl) (by kernel_rfl) (fun _=>rfl) fun _ hp hg=>PM _ _ _
theorem um:O 65:=ar ab aq lw 3 wb Nj (an (ρ:=ρ)) (.inl fun _=>rfl) (.inl rfl) (by kernel_rfl) (fun _=>rfl) fun _ hp hg=>NJ _ _ _
theorem cX:O 218:=ar ab aq lx 3 wc Nk (an (ρ:=ρ)) (.inl fun _=>rfl) (.inl rfl) (by kernel_rfl) (fun _=>rfl) fun _ hp hg=>NK _ _ _
theorem fD:O 24:=ar ab aq gJ 1 pw Du (ac ku an) (.inl fun _=>rfl) (.inl rfl) (by kernel_rfl) (fun _=>rfl) fun _ hp hg=>EF _
theorem uo:O 266:=ar ab aq gK 1 px Dv (ac cX an) (.inl fun _=>rfl) (.inl rfl) (by kernel_rfl) (fun _=>rfl) fun _ hp hg=>EG _
theorem oo:O 219:=ar ab aq gL 1 py Dw (ac cX an) (.inl fun _=>rfl) (.inl rfl) (by kernel_rfl) (fun _=>rfl) fun _ hp hg=>EI _
theorem Ft:O 146:=ar ab aq iP 2 rv Hb (an (ρ:=ρ)) (.inl fun _=>rfl) (.inl rfl) (by kernel_rfl) (fun _=>rfl) fun _ hp hg=>IF _
theorem vu:O 77:=ar ab aq fT 1 rz Hc (ac Ft an) (.inl fun _=>rfl) (.inl rfl) (by kernel_rfl) (fun _=>rfl) fun _ hp hg=>IL _ hg
theorem CV:O 170:=ar ab aq eC 1 pz Dx (ac cX an) (.inl fun _=>rfl) (.inl rfl) (by kernel_rfl) (fun _=>rfl) fun _ hp hg=>EJ _ hg
theorem Fu:O 192:=ar ab aq iQ 5 rA Hd (ac fC (ac bt an)) (.inl fun _=>rfl) (.inl rfl) (by kernel_rfl) (fun _=>rfl) fun _ hp hg=>IH _ _ _
theorem Fv:O 148:=ar ab aq fU 4 rB He (ac fC (ac uj (ac Fu an))) (.inl fun _=>rfl) (.inl rfl) (by kernel_rfl) (fun _=>rfl) fun _ hp hg=>IM _ _ _ _ hg
theorem Fw:O 222:=ar ab aq fV 4 rC Hf (ac jG (ac dX (ac lM (ac cX an)))) (.inl fun _=>rfl) (.inl rfl) (by kernel_rfl) (fun _=>rfl) fun _ hp hg=>IO _ _ _ _ hg
theorem Fx:O 261:=ar ab aq fW 2 rD Hg (ac cy an) (.inl fun _=>rfl) (.inl rfl) (by kernel_rfl) (fun _=>rfl) fun _ hp hg=>IP _ _ hp hg
theorem vv:O 241:=ar ab aq fX 3 rE Hh (ac bt (ac Fx an)) (.inl fun _=>rfl) (.inl rfl) (by kernel_rfl) (fun _=>rfl) fun _ hp hg=>IQ _ _ _ hg
theorem Fy:O 267:=ar ab aq fY 3 rF Hi (ac fD (ac cX an)) (.inl fun _=>rfl) (.inl rfl) (by kernel_rfl) (fun _=>rfl) fun _ hp hg=>IR _ _ _ hg
theorem Fz:O 211:=ar ab aq iR 3 rG Hj (an (ρ:=ρ)) (.inl fun _=>rfl) (.inl rfl) (by kernel_rfl) (fun _=>rfl) fun _ hp hg=>II _ _ _ hp
end Go.Xt
