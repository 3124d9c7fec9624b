/- Steps towards the statements of this seat; the conditions stand in each theorem. -/
import Derived.Test.YtjolhiejojfkkaaGreatDoorOk1
open Go.Proofs
set_option maxRecDepth 100000
set_option linter.unusedVariables false
set_option linter.unusedSimpArgs false
namespace Go.Xt
theorem Dt:O 220:=av af ar eS 3 qe E5 (ac cJ (ac bz (ac G2 an))) (.inl fun _=>rfl) (.inl rfl) (by kernel_rfl) (fun _=>rfl) fun _ hp hg=>Fc _ _ _ hg
theorem Ba:O 246:=av af ar dM 3 oF C7 (ac fR (ac dk an)) (.inl fun _=>rfl) (.inl rfl) (by kernel_rfl) (fun _=>rfl) fun _ hp hg=>CK _ _ _ hg
theorem uZ:O 240:=av af ar ib 6 qf E6 (ac cJ (ac bz (ac gN (ac lK an)))) (.inl fun _=>rfl) (.inl rfl) (by kernel_rfl) (fun _=>rfl) fun _ hp hg=>Fd _
theorem Du:O 247:=av af ar ic 6 qg E7 (ac fR (ac eu (ac dk (ac oU (ac uY an))))) (.inl fun _=>rfl) (.inl rfl) (by kernel_rfl) (fun _=>rfl) fun _ hp hg=>Fe _
theorem v7:O 239:=av af ar eT 2 qh E8 (ac uZ an) (.inl fun _=>rfl) (.inl rfl) (by kernel_rfl) (fun _=>rfl) fun _ hp hg=>Ff _ _ hg
theorem Dv:O 211:=av af ar eU 2 qi E9 (ac dk (ac Du an)) (.inl fun _=>rfl) (.inl rfl) (by kernel_rfl) (fun _=>rfl) fun _ hp hg=>Fg _ _ hg
theorem Kd:O 268:=av af ar kM 5 uj L4 (an (ρ:=ρ)) (.inl fun _=>rfl) (.inl rfl) (by kernel_rfl) (fun _=>rfl) fun _ hp hg=>Mb _
theorem G3:O 250:=av af ar gn 12 se HS (ac bz (ac lK (ac Dt (ac wc (ac Kd an))))) (.inl fun _=>rfl) (.inl rfl) (by kernel_rfl) (fun _=>rfl) fun _ hp hg=>Jj _ _ hg
theorem wd:O 216:=av af ar go 13 sf HU (ac mD (ac v7 (ac G3 an))) (.inl fun _=>rfl) (.inl rfl) (by kernel_rfl) (fun _=>rfl) fun _ hp hg=>Jl _ _ _ hg
theorem Dw:O 114:=av af ar eZ 2 qn Ee (an (ρ:=ρ)) (.inl fun _=>rfl) (.inl rfl) (by kernel_rfl) (fun _=>rfl) fun _ hp hg=>Fl _ _ hg
theorem tg:O 62:=av af ar dQ 10 oK Cc (ac Dw an) (.inl fun _=>rfl) (.inl rfl) (by kernel_rfl) (fun _=>rfl) fun _ hp hg=>CP _ _ hg
theorem Bb:O 210:=av af ar dN 12 oG C8 (ac tg (ac dk (ac oU (ac uY (ac G1 (ac Ba an)))))) (.inl fun _=>rfl) (.inl rfl) (by kernel_rfl) (fun _=>rfl) fun _ hp hg=>CM _ _ hg
theorem G4:O 169:=av af ar gp 13 sg HV (ac Bb (ac Dv an)) (.inl fun _=>rfl) (.inl rfl) (by kernel_rfl) (fun _=>rfl) fun _ hp hg=>Jn _ _ _ hg
theorem G5:O 212:=av af ar gr 3 si HW (ac fQ an) (.inl fun _=>rfl) (.inl rfl) (by kernel_rfl) (fun _=>rfl) fun _ hp hg=>Ja _ _ _ hg
theorem G6:O 166:=av af ar gt 3 sj HX (ac kf (ac dk an)) (.inl fun _=>rfl) (.inl rfl) (by kernel_rfl) (fun _=>rfl) fun _ hp hg=>Jb _ _ _ hg
theorem Bc:O 213:=av af ar fL 17 oH C9 (ac Kc an) (.inl fun _=>rfl) (.inl rfl) (by kernel_rfl) (fun _=>rfl) fun _ hp hg=>CH _ _
theorem Bd:O 214:=av af ar dO 16 oI Ca (an (ρ:=ρ)) (.inl fun _=>rfl) (.inl rfl) (by kernel_rfl) (fun _=>rfl) fun _ hp hg=>CI _ hp hg
theorem Dx:O 171:=av af ar eV 25 qj Ea (ac FY (ac G5 (ac Bc (ac Bd (ac FR (ac wd an)))))) (.inl fun _=>rfl) (.inl rfl) (by kernel_rfl) (fun _=>rfl) fun _ hp hg=>Fh _ _ _ _ hp hg
theorem oV:O 110:=av af ar eW 25 qk Eb (ac mD (ac Dx an)) (.inl fun _=>rfl) (.inl rfl) (by kernel_rfl) (fun _=>rfl) fun _ hp hg=>Fi _ _ _ _ hg
theorem Dy:O 104:=av af ar eX 25 ql Ec (ac dk (ac oU (ac G6 (ac FS (ac FZ (ac G4 an)))))) (.inl fun _=>rfl) (.inl rfl) (by kernel_rfl) (fun _=>rfl) fun _ hp hg=>Fj _ _ _ _ hp hg
theorem G7:O 136:=av af ar gu 16 sk HY (ac kE an) (.inl fun _=>rfl) (.inl rfl) (by kernel_rfl) (fun _=>rfl) fun _ hp hg=>Jr _ _ hp hg
theorem Ke:O 139:=av af ar kN 3 uk L5 (ac kE an) (.inl fun _=>rfl) (.inl rfl) (by kernel_rfl) (fun _=>rfl) fun _ hp hg=>Md _
theorem G8:O 142:=av af ar jq 12 sl HZ (ac cJ (ac kE (ac bz an))) (.inl fun _=>rfl) (.inl rfl) (by kernel_rfl) (fun _=>rfl) fun _ hp hg=>Jq _ _ hp
theorem G9:O 80:=av af ar gv 17 sm I0 (ac kE (ac wb (ac oV (ac bz (ac G7 (ac Ke (ac G8 an))))))) (.inl fun _=>rfl) (.inl rfl) (by kernel_rfl) (fun _=>rfl) fun _ hp hg=>Js _ _ _ hp hg
theorem qL:O 36:=av af ar gw 17 sn I1 (ac mD (ac kE (ac G9 an))) (.inl fun _=>rfl) (.inl rfl) (by kernel_rfl) (fun _=>rfl) fun _ hp hg=>Jt _ _ _ hg
theorem Ga:O 50:=av af ar gx 17 so I2 (ac fR (ac uX (ac Ds (ac Dy an)))) (.inl fun _=>rfl) (.inl rfl) (by kernel_rfl) (fun _=>rfl) fun _ hp hg=>Ju _ _ _ hp hg
theorem Dz:O 55:=av af ar eY 2 qm Ed (an (ρ:=ρ)) (.inl fun _=>rfl) (.inl rfl) (by kernel_rfl) (fun _=>rfl) fun _ hp hg=>Fk _ _ hg
theorem Gb:O 61:=av af ar gy 2 sq I3 (an (ρ:=ρ)) (.inl fun _=>rfl) (.inl rfl) (by kernel_rfl) (fun _=>rfl) fun _ hp hg=>Jv _ _ hg
theorem Be:O 63:=av af ar dP 2 oJ Cb (an (ρ:=ρ)) (.inl fun _=>rfl) (.inl rfl) (by kernel_rfl) (fun _=>rfl) fun _ hp hg=>CO _ _ hg
theorem v8:O 25:=av af ar fa 32 qo Ef (ac vZ (ac Gb (ac tg (ac Be an)))) (.inl fun _=>rfl) (.inl rfl) (by kernel_rfl) (fun _=>rfl) fun _ hp hg=>Fo _ _ hg
theorem mO:O 23:=av af ar gz 18 sr I4 (ac v8 (ac Dz an)) (.inl fun _=>rfl) (.inl rfl) (by kernel_rfl) (fun _=>rfl) fun _ hp hg=>Jw _ _ hg
theorem yJ:ck Tryz.prog ⟨106,some 0,none,true⟩ (ρ 106):=av af ar cT 1 mr zj (an (ρ:=ρ)) (.inr (by kernel_rfl)) (.inr fun a=>by exact bW (by simp[cT,mkF,lh,jE,PV.scalar])) (by kernel_rfl) (fun _=>rfl) fun _ hp hg=>zu _ hp
theorem xb:ck Tryz.prog ⟨170,some 0,none,true⟩ (ρ 170):=av af ar cz 1 ly xL (an (ρ:=ρ)) (.inr (by kernel_rfl)) (.inr fun a=>by exact bW (by simp[cz,mkF,lh,jE,PV.scalar])) (by kernel_rfl) (fun _=>rfl) fun _ hp hg=>yo _ hp
theorem jI:ck Tryz.prog ⟨108,some 0,none,true⟩ (ρ 108):=av af ar cf 1 kv ww (an (ρ:=ρ)) (.inr (by kernel_rfl)) (.inr fun a=>by exact bW (by simp[cf,mkF,lh,jE,PV.scalar])) (by kernel_rfl) (fun _=>rfl) fun _ hp hg=>wW _ hp
theorem oW:ck Tryz.prog ⟨53,some 0,none,true⟩ (ρ 53):=av af ar cA 1 lz xM (an (ρ:=ρ)) (.inr (by kernel_rfl)) (.inr fun a=>by exact bW (by simp[cA,mkF,lh,jE,PV.scalar])) (by kernel_rfl) (fun _=>rfl) fun _ hp hg=>yp _ hp
theorem nA:O 107:=av af ar cV 5 kw wx (ac xb an) (.inr (by kernel_rfl)) (.inl rfl) (by kernel_rfl) (fun _=>rfl) fun _ hp hg=>wX _ hp
theorem gO:O 54:=av af ar dm 16 lA xN (ac iE (ac yJ (ac nA (ac jI an)))) (.inr (by kernel_rfl)) (.inl rfl) (by kernel_rfl) (fun _=>rfl) fun _ hp hg=>yr _ hp
theorem iF:ck Tryz.prog ⟨22,some 3,none,false⟩ (ρ 22):=av af ar cW 9 mu zk (ac oW (ac gO an)) (.inr (by kernel_rfl)) (.inl rfl) (by kernel_rfl) (fun _=>rfl) fun _ hp hg=>zw _ hp hg
theorem DA:O 102:=av af ar fc 6 qp Eg (an (ρ:=ρ)) (.inl fun _=>rfl) (.inl rfl) (by kernel_rfl) (fun _=>rfl) fun _ hp hg=>Fq _ _ hg
theorem DB:O 47:=av af ar fe 16 qq Eh (ac DA an) (.inl fun _=>rfl) (.inl rfl) (by kernel_rfl) (fun _=>rfl) fun _ hp hg=>Fs _ hg
theorem je:O 17:=av af ar fg 9 qr Ei (ac DB an) (.inl fun _=>rfl) (.inl rfl) (by kernel_rfl) (fun _=>rfl) fun _ hp hg=>Ft _ hg
theorem we:O 11:=av af ar lr 0 ss I5 (an (ρ:=ρ)) (.inl fun _=>rfl) (.inl rfl) (by kernel_rfl) (fun _=>rfl) fun _ hp hg=>Jy
theorem ed:ck Tryz.prog ⟨84,some 0,none,true⟩ (ρ 84):=av af ar aS 1 cD lj (an (ρ:=ρ)) (.inr (by kernel_rfl)) (.inr fun a=>by exact bW (by simp[aS,mkF,lh,jE,PV.scalar])) (by kernel_rfl) (fun _=>rfl) fun _ hp hg=>lE _ hp
theorem ee:ck Tryz.prog ⟨85,some 0,none,true⟩ (ρ 85):=av af ar aT 1 cE lk (an (ρ:=ρ)) (.inr (by kernel_rfl)) (.inr fun a=>by exact bW (by simp[aT,mkF,lh,jE,PV.scalar])) (by kernel_rfl) (fun _=>rfl) fun _ hp hg=>lF _ hp
theorem ef:ck Tryz.prog ⟨86,some 0,none,true⟩ (ρ 86):=av af ar aU 1 cF ll (an (ρ:=ρ)) (.inr (by kernel_rfl)) (.inr fun a=>by exact bW (by simp[aU,mkF,lh,jE,PV.scalar])) (by kernel_rfl) (fun _=>rfl) fun _ hp hg=>lG _ hp
theorem dE:ck Tryz.prog ⟨87,some 0,none,true⟩ (ρ 87):=av af ar aI 1 cg kj (an (ρ:=ρ)) (.inr (by kernel_rfl)) (.inr fun a=>by exact bW (by simp[aI,mkF,lh,jE,PV.scalar])) (by kernel_rfl) (fun _=>rfl) fun _ hp hg=>kB _ hp
theorem lM:ck Tryz.prog ⟨149,some 0,none,true⟩ (ρ 149):=av af ar aX 1 da lW (an (ρ:=ρ)) (.inr (by kernel_rfl)) (.inr fun a=>by exact bW (by simp[aX,mkF,lh,jE,PV.scalar])) (by kernel_rfl) (fun _=>rfl) fun _ hp hg=>my _ hp
theorem bg:ck Tryz.prog ⟨52,some 0,none,true⟩ (ρ 52):=av af ar aJ 1 ci km (an (ρ:=ρ)) (.inr (by kernel_rfl)) (.inr fun a=>by exact bW (by simp[aJ,mkF,lh,jE,PV.scalar])) (by kernel_rfl) (fun _=>rfl) fun _ hp hg=>kC _ hp
theorem bC:ck Tryz.prog ⟨199,some 0,none,true⟩ (ρ 199):=av af ar aV 1 cG lm (an (ρ:=ρ)) (.inr (by kernel_rfl)) (.inr fun a=>by exact bW (by simp[aV,mkF,lh,jE,PV.scalar])) (by kernel_rfl) (fun _=>rfl) fun _ hp hg=>lH _ hp
theorem fS:ck Tryz.prog ⟨148,some 0,none,true⟩ (ρ 148):=av af ar bw 1 gK rG (an (ρ:=ρ)) (.inr (by kernel_rfl)) (.inr fun a=>by exact bW (by simp[bw,mkF,lh,jE,PV.scalar])) (by kernel_rfl) (fun _=>rfl) fun _ hp hg=>sV _ hp
theorem Kf:O 229:=av af ar kO 16 ul L6 (an (ρ:=ρ)) (.inl fun _=>rfl) (.inl rfl) (by kernel_rfl) (fun _=>rfl) fun _ hp hg=>Mi _
theorem qM:O 83:=av af ar jr 16 su I6 (ac bg (ac fS (ac lM (ac bC an)))) (.inr (by kernel_rfl)) (.inl rfl) (by kernel_rfl) (fun _=>rfl) fun _ hp hg=>JH _ hp
theorem Kg:O 241:=av af ar kP 6 um L7 (an (ρ:=ρ)) (.inl fun _=>rfl) (.inl rfl) (by kernel_rfl) (fun _=>rfl) fun _ hp hg=>Mj _
theorem Kh:O 201:=av af ar iJ 8 uo L8 (ac bg (ac v7 (ac uZ (ac Kg an)))) (.inr (by kernel_rfl)) (.inl rfl) (by kernel_rfl) (fun _=>rfl) fun _ hp hg=>Mm _ _ _ hg
theorem yK:O 154:=av af ar iK 8 uq L9 (ac bg (ac Kh an)) (.inr (by kernel_rfl)) (.inl rfl) (by kernel_rfl) (fun _=>rfl) fun _ hp hg=>Ml _ _ _ hp hg
theorem yL:O 97:=av af ar iL 10 ur La (ac kE an) (.inl fun _=>rfl) (.inl rfl) (by kernel_rfl) (fun _=>rfl) fun _ hp hg=>Mn _ _ hg
theorem Gc:O 89:=av af ar gA 2 sA I7 (ac wb an) (.inl fun _=>rfl) (.inl rfl) (by kernel_rfl) (fun _=>rfl) fun _ hp hg=>JI _ _ hg
theorem yM:ck Tryz.prog ⟨41,some 0,none,true⟩ (ρ 41):=av af ar fV 2 ut Lb (ac Gc an) (.inr (by kernel_rfl)) (.inr fun a=>by obtain ⟨_,_⟩:=a;exact bW (by simp[fV,mkF,lh,jE,PV.scalar])) (by kernel_rfl) (fun _=>rfl) fun _ hp hg=>Mo _ _ hg
theorem yN:O 59:=av af ar iM 11 uu Lc (ac yM (ac FV an)) (.inl fun _=>rfl) (.inl rfl) (by kernel_rfl) (fun _=>rfl) fun _ hp hg=>Mq _ _ _ hp hg
theorem Ki:ck Tryz.prog ⟨181,some 0,none,true⟩ (ρ 181):=av af ar iN 11 uv Ld (ac yN (ac Kf an)) (.inr (by kernel_rfl)) (.inr fun a=>by obtain ⟨_,_,_⟩:=a;exact bW (by simp[iN,mkF,lh,jE,PV.scalar])) (by kernel_rfl) (fun _=>rfl) fun _ hp hg=>Mr _ _ _ hp hg
end Go.Xt
