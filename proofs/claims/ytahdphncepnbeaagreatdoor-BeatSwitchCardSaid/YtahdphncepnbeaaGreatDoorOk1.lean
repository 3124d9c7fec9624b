/- Steps towards the statements of this seat; the conditions stand in each theorem. -/
import Derived.Test.YtahdphncepnbeaaGreatDoorRows
import Derived.Test.YtahdphncepnbeaaGreatDoorH
import Derived.Test.YtahdphncepnbeaaGreatDoorEb
import Derived.Test.YtahdphncepnbeaaGreatDoorIp
import Derived.Test.YtahdphncepnbeaaGreatDoorEr6
import Derived.Test.YtahdphncepnbeaaGreatDoorPartW1
open Go.Proofs
set_option maxRecDepth 100000
set_option linter.unusedVariables false
set_option linter.unusedSimpArgs false
namespace Go.Xt
theorem ai:(Tryz.prog.funcs.toList.all fun fn=> !(fn.name == "runtime.NumGoroutine"))=true:=by kernel_rfl
theorem aE:Tryz.prog.follows .mixedOrders=true:=by kernel_rfl
abbrev O(K:Nat):Prop:=bC Tryz.prog ⟨K,[],none,false⟩ (ρ K)
theorem du:O 130:=aF ai aE iB 1 qy Dp (an (ρ:=ρ)) (.inl fun _=>rfl) (.inl rfl) (by kernel_rfl) (fun _=>rfl) fun _ hp hg=>DI _
theorem ix:O 89:=aF ai aE fc 1 mW zl (ac du an) (.inl fun _=>rfl) (.inl rfl) (by kernel_rfl) (fun _=>rfl) fun _ hp hg=>Ah _
theorem jZ:O 67:=aF ai aE dY 1 kU wt (an (ρ:=ρ)) (.inl fun _=>rfl) (.inl rfl) (by kernel_rfl) (fun _=>rfl) fun _ hp hg=>xA _
theorem lM:O 90:=aF ai aE iC 2 qz Dq (an (ρ:=ρ)) (.inl fun _=>rfl) (.inl rfl) (by kernel_rfl) (fun _=>rfl) fun _ hp hg=>DJ _ _ hp
theorem nz:O 39:=aF ai aE gn 2 oH BI (ac jZ (ac ix (ac lM an))) (.inl fun _=>rfl) (.inl rfl) (by kernel_rfl) (fun _=>rfl) fun _ hp hg=>C7 _ _
theorem bz:O 12:=aF ai aE dw 3 jD tO (ac nz an) (.inl fun _=>rfl) (.inl rfl) (by kernel_rfl) (fun _=>rfl) fun _ hp hg=>uh _ _ _
theorem nA:O 68:=aF ai aE eU 1 oI BJ (ac du an) (.inl fun _=>rfl) (.inl rfl) (by kernel_rfl) (fun _=>rfl) fun _ hp hg=>C8 _ hg
theorem uC:O 239:=aF ai aE cX 3 kV wu (ac bz an) (.inl fun _=>rfl) (.inl rfl) (by kernel_rfl) (fun _=>rfl) fun _ hp hg=>xB _ _ _ hg
theorem uD:O 203:=aF ai aE cY 4 kW wv (ac nz (ac nA (ac uC an))) (.inl fun _=>rfl) (.inl rfl) (by kernel_rfl) (fun _=>rfl) fun _ hp hg=>xC _ _ _ _ hg
theorem bV:O 152:=aF ai aE aH 2 ca je (an (ρ:=ρ)) (.inl fun _=>rfl) (.inl rfl) (by kernel_rfl) (fun _=>rfl) fun _ hp hg=>jg _ _ hg
theorem DW:O 263:=aF ai aE kp 1 sO En (an (ρ:=ρ)) (.inl fun _=>rfl) (.inl rfl) (by kernel_rfl) (fun _=>rfl) fun _ hp hg=>ES _
theorem B8:O 246:=aF ai aE go 2 oJ BK (ac lM (ac DW an)) (.inl fun _=>rfl) (.inl rfl) (by kernel_rfl) (fun _=>rfl) fun _ hp hg=>Cc _ _
theorem om:O 29:=aF ai aE cZ 2 kX ww (ac bz (ac jZ (ac nA an))) (.inl fun _=>rfl) (.inl rfl) (by kernel_rfl) (fun _=>rfl) fun _ hp hg=>xY _ _ hg
theorem tC:O 213:=aF ai aE cv 2 jE tP (ac du (ac bV an)) (.inl fun _=>rfl) (.inl rfl) (by kernel_rfl) (fun _=>rfl) fun _ hp hg=>ut _ _ hg
theorem tD:O 247:=aF ai aE cw 2 jF tQ (ac ix (ac lM an)) (.inl fun _=>rfl) (.inl rfl) (by kernel_rfl) (fun _=>rfl) fun _ hp hg=>uu _ _ hp hg
theorem tE:O 215:=aF ai aE cx 2 jG tR (ac ix (ac lM an)) (.inl fun _=>rfl) (.inl rfl) (by kernel_rfl) (fun _=>rfl) fun _ hp hg=>uv _ _ hp hg
theorem qH:bC Tryz.prog ⟨214,[0],none,false⟩ (ρ 214):=aF ai aE bB 2 gT ri (ac ix (ac B8 (ac tD (ac lG (ac jf an))))) (.inr (by kernel_rfl)) (.inl rfl) (by kernel_rfl) (fun _=>rfl) fun _ hp hg=>rC _ _ hp hg
theorem uE:O 165:=aF ai aE da 3 kY wx (ac bz (ac qH (ac tE an))) (.inl fun _=>rfl) (.inl rfl) (by kernel_rfl) (fun _=>rfl) fun _ hp hg=>xZ _ _ _ hp hg
theorem tF:O 164:=aF ai aE cy 3 jH tS (ac jZ (ac tC an)) (.inl fun _=>rfl) (.inl rfl) (by kernel_rfl) (fun _=>rfl) fun _ hp hg=>ux _ _ _ hg
theorem uF:O 95:=aF ai aE db 3 kZ wy (ac tF (ac uE an)) (.inl fun _=>rfl) (.inl rfl) (by kernel_rfl) (fun _=>rfl) fun _ hp hg=>y8 _ _ _ hg
theorem qI:O 132:=aF ai aE cb 7 gU rj (ac t7 (ac ru an)) (.inr (by kernel_rfl)) (.inl rfl) (by kernel_rfl) (fun _=>rfl) fun _ hp hg=>rz _
theorem gx:O 69:=aF ai aE cd 7 gV rk (ac rt (ac qI an)) (.inl fun _=>rfl) (.inl rfl) (by kernel_rfl) (fun _=>rfl) fun _ hp hg=>rB _
theorem jd:O 159:=aF ai aE dx 1 jI tT (ac du an) (.inl fun _=>rfl) (.inl rfl) (by kernel_rfl) (fun _=>rfl) fun _ hp hg=>uj _
theorem yp:O 238:=aF ai aE fe 1 mX zm (ac jd an) (.inl fun _=>rfl) (.inl rfl) (by kernel_rfl) (fun _=>rfl) fun _ hp hg=>Aj _
theorem iE:O 91:=aF ai aE kq 3 sP Eo (an (ρ:=ρ)) (.inl fun _=>rfl) (.inl rfl) (by kernel_rfl) (fun _=>rfl) fun _ hp hg=>EO _ _ _
theorem aN:O 133:=aF ai aE dy 1 jJ tU (ac iE an) (.inl fun _=>rfl) (.inl rfl) (by kernel_rfl) (fun _=>rfl) fun _ hp hg=>ui _
theorem eq:O 43:=aF ai aE fg 1 mY zn (ac iE an) (.inl fun _=>rfl) (.inl rfl) (by kernel_rfl) (fun _=>rfl) fun _ hp hg=>Ai _
theorem gy:O 70:=aF ai aE iD 3 qA Dr (an (ρ:=ρ)) (.inl fun _=>rfl) (.inl rfl) (by kernel_rfl) (fun _=>rfl) fun _ hp hg=>DN _ _ _
theorem uG:O 146:=aF ai aE dZ 2 l7 wz (an (ρ:=ρ)) (.inl fun _=>rfl) (.inl rfl) (by kernel_rfl) (fun _=>rfl) fun _ hp hg=>xD _
theorem ka:O 77:=aF ai aE dc 1 l8 wA (ac uG an) (.inl fun _=>rfl) (.inl rfl) (by kernel_rfl) (fun _=>rfl) fun _ hp hg=>xI _ hg
theorem uH:O 192:=aF ai aE ec 5 l9 wB (ac bz (ac aN an)) (.inl fun _=>rfl) (.inl rfl) (by kernel_rfl) (fun _=>rfl) fun _ hp hg=>xF _ _ _
end Go.Xt
