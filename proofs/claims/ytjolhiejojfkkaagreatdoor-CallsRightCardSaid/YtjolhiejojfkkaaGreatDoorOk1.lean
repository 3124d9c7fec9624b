/- Steps towards the statements of this seat; the conditions stand in each theorem. -/
import Derived.Test.YtjolhiejojfkkaaGreatDoorRows
import Derived.Test.YtjolhiejojfkkaaGreatDoorH
import Derived.Test.YtjolhiejojfkkaaGreatDoorIp
import Derived.Test.YtjolhiejojfkkaaGreatDoorEr6
import Derived.Test.YtjolhiejojfkkaaGreatDoorPartW44
open Go.Proofs
set_option maxRecDepth 100000
set_option linter.unusedVariables false
set_option linter.unusedSimpArgs false
namespace Go.Xt
theorem af:(Tryz.prog.funcs.toList.all fun fn=> !(fn.name == "runtime.NumGoroutine"))=true:=by kernel_rfl
theorem ar:Tryz.prog.follows .mixedOrders=true:=by kernel_rfl
abbrev O(K:Nat):Prop:=ck Tryz.prog ⟨K,none,none,false⟩ (ρ K)
theorem gN:O 147:=av af ar nY 1 zo PM (an (ρ:=ρ)) (.inl fun _=>rfl) (.inl rfl) (by kernel_rfl) (fun _=>rfl) fun _ hp hg=>Qa _
theorem nT:O 100:=av af ar kJ 1 uf KZ (ac gN an) (.inl fun _=>rfl) (.inl rfl) (by kernel_rfl) (fun _=>rfl) fun _ hp hg=>M7 _
theorem qJ:O 81:=av af ar jl 1 rS Hr (an (ρ:=ρ)) (.inl fun _=>rfl) (.inl rfl) (by kernel_rfl) (fun _=>rfl) fun _ hp hg=>J0 _
theorem t6:O 101:=av af ar nZ 2 zp PN (an (ρ:=ρ)) (.inl fun _=>rfl) (.inl rfl) (by kernel_rfl) (fun _=>rfl) fun _ hp hg=>Qb _ _ hp
theorem qK:O 184:=av af ar lq 1 rT Hs (an (ρ:=ρ)) (.inl fun _=>rfl) (.inl rfl) (by kernel_rfl) (fun _=>rfl) fun _ hp hg=>J1 _ hp
theorem Dm:O 183:=av af ar jR 1 pQ DN (an (ρ:=ρ)) (.inl fun _=>rfl) (.inl rfl) (by kernel_rfl) (fun _=>rfl) fun _ hp hg=>F4 _ hp
theorem nw:O 182:=av af ar iI 2 oA C2 (an (ρ:=ρ)) (.inl fun _=>rfl) (.inl rfl) (by kernel_rfl) (fun _=>rfl) fun _ hp hg=>CC _ _ hp
theorem uU:O 46:=av af ar ma 2 wJ NI (ac qJ (ac nT (ac t6 an))) (.inl fun _=>rfl) (.inl rfl) (by kernel_rfl) (fun _=>rfl) fun _ hp hg=>Oc _ _
theorem fQ:O 16:=av af ar gW 3 pR DO (ac uU an) (.inl fun _=>rfl) (.inl rfl) (by kernel_rfl) (fun _=>rfl) fun _ hp hg=>F5 _ _ _
theorem kW:O 67:=av af ar mc 3 wM NL (an (ρ:=ρ)) (.inl fun _=>rfl) (.inl rfl) (by kernel_rfl) (fun _=>rfl) fun _ hp hg=>Oe _ _ _
theorem mC:O 130:=av af ar ej 1 nj Az (ac kW an) (.inl fun _=>rfl) (.inl rfl) (by kernel_rfl) (fun _=>rfl) fun _ hp hg=>AR _
theorem eu:O 128:=av af ar fH 1 oB C3 (ac kW an) (.inl fun _=>rfl) (.inl rfl) (by kernel_rfl) (fun _=>rfl) fun _ hp hg=>CD _
theorem yI:O 118:=av af ar mY 2 ug L1 (ac nw (ac Dm (ac qK an))) (.inl fun _=>rfl) (.inl rfl) (by kernel_rfl) (fun _=>rfl) fun _ hp hg=>M8 _ _ hp
theorem kf:O 124:=av af ar fI 3 oC C4 (ac yI (ac eu (ac mC an))) (.inl fun _=>rfl) (.inl rfl) (by kernel_rfl) (fun _=>rfl) fun _ hp hg=>CF _ _ _
theorem uV:O 82:=av af ar kq 1 wK NJ (ac gN an) (.inl fun _=>rfl) (.inl rfl) (by kernel_rfl) (fun _=>rfl) fun _ hp hg=>Od _ hg
theorem FQ:O 249:=av af ar fY 3 rU Ht (ac fQ an) (.inl fun _=>rfl) (.inl rfl) (by kernel_rfl) (fun _=>rfl) fun _ hp hg=>J2 _ _ _ hg
theorem FR:O 215:=av af ar fZ 4 rV Hu (ac uU (ac uV (ac FQ an))) (.inl fun _=>rfl) (.inl rfl) (by kernel_rfl) (fun _=>rfl) fun _ hp hg=>J3 _ _ _ _ hg
theorem iE:ck Tryz.prog ⟨105,some 0,none,false⟩ (ρ 105):=av af ar dG 1 mq zi (an (ρ:=ρ)) (.inr (by kernel_rfl)) (.inl rfl) (by kernel_rfl) (fun _=>rfl) fun _ hp hg=>zt _ hp
theorem vZ:O 60:=av af ar ga 2 rW Hv (an (ρ:=ρ)) (.inl fun _=>rfl) (.inl rfl) (by kernel_rfl) (fun _=>rfl) fun _ hp hg=>J4 _ _ hg
theorem FS:O 167:=av af ar gc 4 rX Hw (ac kf (ac eu an)) (.inl fun _=>rfl) (.inl rfl) (by kernel_rfl) (fun _=>rfl) fun _ hp hg=>J5 _ _ _ _ hp hg
theorem dX:O 159:=av af ar bm 2 eh oX (an (ρ:=ρ)) (.inl fun _=>rfl) (.inl rfl) (by kernel_rfl) (fun _=>rfl) fun _ hp hg=>pb _ _ hg
theorem Qv:O 271:=av af ar qZ 1 CA QZ (an (ρ:=ρ)) (.inl fun _=>rfl) (.inl rfl) (by kernel_rfl) (fun _=>rfl) fun _ hp hg=>RB _
theorem N7:O 256:=av af ar mb 2 wL NK (ac t6 (ac Qv an)) (.inl fun _=>rfl) (.inl rfl) (by kernel_rfl) (fun _=>rfl) fun _ hp hg=>Ok _ _
theorem FT:O 37:=av af ar gd 2 rY Hx (ac fQ (ac qJ (ac uV an))) (.inl fun _=>rfl) (.inl rfl) (by kernel_rfl) (fun _=>rfl) fun _ hp hg=>JA _ _ hg
theorem Dn:O 225:=av af ar eK 2 pS DP (ac gN (ac dX an)) (.inl fun _=>rfl) (.inl rfl) (by kernel_rfl) (fun _=>rfl) fun _ hp hg=>Fu _ _ hg
theorem Do:O 257:=av af ar eM 2 pT DQ (ac nT (ac t6 an)) (.inl fun _=>rfl) (.inl rfl) (by kernel_rfl) (fun _=>rfl) fun _ hp hg=>Fv _ _ hp hg
theorem Dp:O 227:=av af ar eN 2 pU DR (ac nT (ac t6 an)) (.inl fun _=>rfl) (.inl rfl) (by kernel_rfl) (fun _=>rfl) fun _ hp hg=>Fw _ _ hp hg
theorem zG:ck Tryz.prog ⟨226,some 0,none,false⟩ (ρ 226):=av af ar du 2 nk AA (ac nT (ac N7 (ac Do (ac rQ (ac oZ an))))) (.inr (by kernel_rfl)) (.inl rfl) (by kernel_rfl) (fun _=>rfl) fun _ hp hg=>AY _ _ hp hg
theorem FU:O 179:=av af ar ge 3 rZ Hy (ac fQ (ac zG (ac Dp an))) (.inl fun _=>rfl) (.inl rfl) (by kernel_rfl) (fun _=>rfl) fun _ hp hg=>JB _ _ _ hp hg
theorem Dq:O 178:=av af ar eO 3 pV DS (ac qJ (ac Dn an)) (.inl fun _=>rfl) (.inl rfl) (by kernel_rfl) (fun _=>rfl) fun _ hp hg=>Fy _ _ _ hg
theorem FV:O 113:=av af ar gf 3 s0 Hz (ac Dq (ac FU an)) (.inl fun _=>rfl) (.inl rfl) (by kernel_rfl) (fun _=>rfl) fun _ hp hg=>JC _ _ _ hg
theorem B8:O 190:=av af ar fJ 2 oD C5 (ac nw (ac qK an)) (.inl fun _=>rfl) (.inl rfl) (by kernel_rfl) (fun _=>rfl) fun _ hp hg=>CW _ _ hp
theorem Dr:O 123:=av af ar eP 2 pW DT (ac B8 an) (.inl fun _=>rfl) (.inl rfl) (by kernel_rfl) (fun _=>rfl) fun _ hp hg=>Fz _ _ hp hg
theorem zH:ck Tryz.prog ⟨122,some 0,none,false⟩ (ρ 122):=av af ar dv 2 nm AB (ac nw (ac qK an)) (.inr (by kernel_rfl)) (.inl rfl) (by kernel_rfl) (fun _=>rfl) fun _ hp hg=>AZ _ _ hp hg
theorem uW:O 69:=av af ar eQ 2 pX DU (ac yI an) (.inl fun _=>rfl) (.inl rfl) (by kernel_rfl) (fun _=>rfl) fun _ hp hg=>FA _ _ hp hg
theorem wa:O 72:=av af ar gg 3 s4 HA (ac uW (ac zH (ac Dr (ac kf an)))) (.inl fun _=>rfl) (.inl rfl) (by kernel_rfl) (fun _=>rfl) fun _ hp hg=>JF _ _ _ hp hg
theorem zI:O 134:=av af ar ek 7 np AC (ac Cz (ac AQ an)) (.inr (by kernel_rfl)) (.inl rfl) (by kernel_rfl) (fun _=>rfl) fun _ hp hg=>AV _
theorem mD:O 78:=av af ar eo 7 nq AD (ac AP (ac zI an)) (.inl fun _=>rfl) (.inl rfl) (by kernel_rfl) (fun _=>rfl) fun _ hp hg=>AX _
theorem B9:O 48:=av af ar fK 7 oE C6 (ac kW an) (.inl fun _=>rfl) (.inl rfl) (by kernel_rfl) (fun _=>rfl) fun _ hp hg=>CG _
theorem lK:O 173:=av af ar gX 1 pY DV (ac gN an) (.inl fun _=>rfl) (.inl rfl) (by kernel_rfl) (fun _=>rfl) fun _ hp hg=>F9 _
theorem Kc:O 248:=av af ar kK 1 uh L2 (ac lK an) (.inl fun _=>rfl) (.inl rfl) (by kernel_rfl) (fun _=>rfl) fun _ hp hg=>Ma _
theorem o5:O 109:=av af ar ra 3 CB R4 (an (ρ:=ρ)) (.inl fun _=>rfl) (.inl rfl) (by kernel_rfl) (fun _=>rfl) fun _ hp hg=>Ry _ _ _
theorem bz:O 135:=av af ar gY 1 pZ DW (ac o5 an) (.inl fun _=>rfl) (.inl rfl) (by kernel_rfl) (fun _=>rfl) fun _ hp hg=>F6 _
theorem cJ:O 56:=av af ar kL 1 ui L3 (ac o5 an) (.inl fun _=>rfl) (.inl rfl) (by kernel_rfl) (fun _=>rfl) fun _ hp hg=>M9 _
theorem kE:O 79:=av af ar o0 3 zq PO (an (ρ:=ρ)) (.inl fun _=>rfl) (.inl rfl) (by kernel_rfl) (fun _=>rfl) fun _ hp hg=>Qf _ _ _
theorem uX:O 49:=av af ar md 3 wN NM (an (ρ:=ρ)) (.inl fun _=>rfl) (.inl rfl) (by kernel_rfl) (fun _=>rfl) fun _ hp hg=>Of _ _ _
theorem dk:O 164:=av af ar mf 3 wO NO (an (ρ:=ρ)) (.inl fun _=>rfl) (.inl rfl) (by kernel_rfl) (fun _=>rfl) fun _ hp hg=>Og _ _ _
theorem fR:O 31:=av af ar gZ 1 qa DX (ac kW an) (.inl fun _=>rfl) (.inl rfl) (by kernel_rfl) (fun _=>rfl) fun _ hp hg=>F7 _
theorem uY:O 244:=av af ar hU 1 qb DY (ac dk an) (.inl fun _=>rfl) (.inl rfl) (by kernel_rfl) (fun _=>rfl) fun _ hp hg=>F8 _
theorem oU:O 165:=av af ar hZ 1 qc DZ (ac dk an) (.inl fun _=>rfl) (.inl rfl) (by kernel_rfl) (fun _=>rfl) fun _ hp hg=>Fa _
theorem FW:O 153:=av af ar jm 2 s5 HE (an (ρ:=ρ)) (.inl fun _=>rfl) (.inl rfl) (by kernel_rfl) (fun _=>rfl) fun _ hp hg=>J6 _
theorem wb:O 88:=av af ar gh 1 s6 HF (ac FW an) (.inl fun _=>rfl) (.inl rfl) (by kernel_rfl) (fun _=>rfl) fun _ hp hg=>Jc _ hg
theorem Ds:O 103:=av af ar eR 1 qd E0 (ac dk an) (.inl fun _=>rfl) (.inl rfl) (by kernel_rfl) (fun _=>rfl) fun _ hp hg=>Fb _ hg
theorem FX:O 202:=av af ar jn 5 s7 HI (ac fQ (ac bz an)) (.inl fun _=>rfl) (.inl rfl) (by kernel_rfl) (fun _=>rfl) fun _ hp hg=>J8 _ _ _
theorem FY:O 155:=av af ar gi 4 s8 HJ (ac fQ (ac uU (ac FX an))) (.inl fun _=>rfl) (.inl rfl) (by kernel_rfl) (fun _=>rfl) fun _ hp hg=>Jd _ _ _ _ hg
theorem FZ:O 168:=av af ar gj 4 s9 HK (ac kf (ac eu (ac mC (ac dk an)))) (.inl fun _=>rfl) (.inl rfl) (by kernel_rfl) (fun _=>rfl) fun _ hp hg=>Je _ _ _ _ hg
theorem G0:O 269:=av af ar gk 2 sa HL (ac cJ an) (.inl fun _=>rfl) (.inl rfl) (by kernel_rfl) (fun _=>rfl) fun _ hp hg=>Jf _ _ hp hg
theorem wc:O 251:=av af ar gl 3 sb HM (ac bz (ac G0 an)) (.inl fun _=>rfl) (.inl rfl) (by kernel_rfl) (fun _=>rfl) fun _ hp hg=>Jg _ _ _ hg
theorem G1:O 245:=av af ar gm 3 sc HP (ac fR (ac dk an)) (.inl fun _=>rfl) (.inl rfl) (by kernel_rfl) (fun _=>rfl) fun _ hp hg=>Jh _ _ _ hg
theorem G2:O 223:=av af ar jp 3 sd HQ (an (ρ:=ρ)) (.inl fun _=>rfl) (.inl rfl) (by kernel_rfl) (fun _=>rfl) fun _ hp hg=>J9 _ _ _ hp
end Go.Xt
