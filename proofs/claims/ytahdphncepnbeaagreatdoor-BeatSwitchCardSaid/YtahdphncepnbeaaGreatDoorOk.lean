/- Steps towards the statements of this seat; the conditions stand in each theorem. -/
import Derived.Test.YtahdphncepnbeaaGreatDoorOk2
open Go.Proofs
set_option maxRecDepth 100000
set_option linter.unusedVariables false
set_option linter.unusedSimpArgs false
namespace Go.Xt
theorem yu:O 191:=aF ai aE dK 8 n7 zr (ac aX (ac nC (ac nB (ac yt an)))) (.inr (by kernel_rfl)) (.inl rfl) (by kernel_rfl) (fun _=>rfl) fun _ hp hg=>Aw _ _ _ hg
theorem yv:O 147:=aF ai aE dL 8 n9 zt (ac aX (ac yu an)) (.inr (by kernel_rfl)) (.inl rfl) (by kernel_rfl) (fun _=>rfl) fun _ hp hg=>Av _ _ _ hp hg
theorem qa:O 86:=aF ai aE dM 10 na zu (ac gy an) (.inl fun _=>rfl) (.inl rfl) (by kernel_rfl) (fun _=>rfl) fun _ hp hg=>Ax _ _ hg
theorem uR:O 78:=aF ai aE dq 2 lr wQ (ac ka an) (.inl fun _=>rfl) (.inl rfl) (by kernel_rfl) (fun _=>rfl) fun _ hp hg=>yc _ _ hg
theorem qb:bC Tryz.prog ⟨34,[0],none,true⟩ (ρ 34):=aF ai aE cQ 2 nb zw (ac uR an) (.inr (by kernel_rfl)) (.inr fun a=>by obtain ⟨_,_⟩:=a;exact bj (by simp[cQ,mkF,gL,fH,PV.scalar])) (by kernel_rfl) (fun _=>rfl) fun _ hp hg=>Ay _ _ hg
theorem yw:O 46:=aF ai aE dN 11 nc zx (ac qb (ac uF an)) (.inl fun _=>rfl) (.inl rfl) (by kernel_rfl) (fun _=>rfl) fun _ hp hg=>AC _ _ _ hp hg
theorem B9:O 155:=aF ai aE gp 16 oK BL (ac du (ac aN an)) (.inl fun _=>rfl) (.inl rfl) (by kernel_rfl) (fun _=>rfl) fun _ hp hg=>Cn _
theorem ot:O 198:=aF ai aE dr 1 lu wS (ac bV an) (.inl fun _=>rfl) (.inl rfl) (by kernel_rfl) (fun _=>rfl) fun _ hp hg=>ye _ hg
theorem CA:O 195:=aF ai aE gr 1 qB Ds (ac nA (ac ot an)) (.inl fun _=>rfl) (.inl rfl) (by kernel_rfl) (fun _=>rfl) fun _ hp hg=>DS _ hg
theorem yx:O 196:=aF ai aE fk 16 nd zy (ac iE (ac aN an)) (.inl fun _=>rfl) (.inl rfl) (by kernel_rfl) (fun _=>rfl) fun _ hp hg=>AH _
theorem yy:O 197:=aF ai aE fm 16 ng zz (ac eq (ac iE (ac du (ac aN an)))) (.inl fun _=>rfl) (.inl rfl) (by kernel_rfl) (fun _=>rfl) fun _ hp hg=>AK _
theorem kd:bC Tryz.prog ⟨199,[0],none,true⟩ (ρ 199):=aF ai aE aG 1 cM km (ac lH an) (.inr (by kernel_rfl)) (.inr fun a=>by exact bj (by simp[aG,mkF,gL,fH,PV.scalar])) (by kernel_rfl) (fun _=>rfl) fun _ hp hg=>kw _ hp hg
theorem Ba:O 154:=aF ai aE eV 16 oL BM (ac eq (ac iE (ac du (ac aN (ac CA (ac yx (ac yy (ac ot (ac kd an))))))))) (.inr (by kernel_rfl)) (.inl rfl) (by kernel_rfl) (fun _=>rfl) fun _ hp hg=>Co _ hg
theorem qc:O 88:=aF ai aE dO 16 nh zA (ac iE (ac aN (ac Ba (ac B9 an)))) (.inl fun _=>rfl) (.inl rfl) (by kernel_rfl) (fun _=>rfl) fun _ hp hg=>AL _ hg
theorem uS:bC Tryz.prog ⟨80,[0],none,true⟩ (ρ 80):=aF ai aE cj 4 lw wU (ac oo an) (.inr (by kernel_rfl)) (.inr fun a=>by obtain ⟨_,_,_,_⟩:=a;exact bj (by simp[cj,mkF,gL,fH,PV.scalar])) (by kernel_rfl) (fun _=>rfl) fun _ hp hg=>yf _ _ _ _ hp hg
theorem uT:bC Tryz.prog ⟨33,[0],none,true⟩ (ρ 33):=aF ai aE ck 1 lx wV (ac bX (ac ka an)) (.inr (by kernel_rfl)) (.inr fun a=>by exact bj (by simp[ck,mkF,gL,fH,PV.scalar])) (by kernel_rfl) (fun _=>rfl) fun _ hp hg=>yg _ hp hg
theorem uU:O 150:=aF ai aE eg 2 ly wW (ac du an) (.inl fun _=>rfl) (.inl rfl) (by kernel_rfl) (fun _=>rfl) fun _ hp hg=>yh _ _ hp
theorem uV:O 151:=aF ai aE eh 2 lz wX (an (ρ:=ρ)) (.inr (by kernel_rfl)) (.inl rfl) (by kernel_rfl) (fun _=>rfl) fun _ hp hg=>yi _ _
theorem uW:O 153:=aF ai aE ei 5 lA wY (an (ρ:=ρ)) (.inl fun _=>rfl) (.inl rfl) (by kernel_rfl) (fun _=>rfl) fun _ hp hg=>yj _
theorem qJ:O 236:=aF ai aE ce 16 gW rl (ac gG an) (.inr (by kernel_rfl)) (.inl rfl) (by kernel_rfl) (fun _=>rfl) fun _ hp hg=>rD _ hp
theorem uX:O 193:=aF ai aE dt 25 lB wZ (ac gc (ac qJ an)) (.inr (by kernel_rfl)) (.inl rfl) (by kernel_rfl) (fun _=>rfl) fun _ hp hg=>ym _ _ _ _ hp hg
theorem tI:O 83:=aF ai aE cD 25 jP u0 (ac gG (ac gc (ac uU (ac uV an)))) (.inr (by kernel_rfl)) (.inl rfl) (by kernel_rfl) (fun _=>rfl) fun _ hp hg=>uy _ _ _ _ hp hg
theorem yz:O 84:=aF ai aE dP 25 ni zB (ac gG (ac gc an)) (.inr (by kernel_rfl)) (.inl rfl) (by kernel_rfl) (fun _=>rfl) fun _ hp hg=>AO _ _ _ _ hp hg
theorem qK:O 81:=aF ai aE cf 16 gX rm (an (ρ:=ρ)) (.inl fun _=>rfl) (.inl rfl) (by kernel_rfl) (fun _=>rfl) fun _ hp hg=>rE _
theorem rh:O 87:=aF ai aE gt 16 oM BN (ac ft an) (.inr (by kernel_rfl)) (.inl rfl) (by kernel_rfl) (fun _=>rfl) fun _ hp hg=>Cq _ hp
theorem yA:bC Tryz.prog ⟨37,[0],none,false⟩ (ρ 37):=aF ai aE dQ 11 fa zC (ac qa (ac rh (ac qc an))) (.inr (by kernel_rfl)) (.inl rfl) (by kernel_rfl) (fun _=>rfl) fun _ hp hg=>AQ _ _ _ hp hg
theorem uY:bC Tryz.prog ⟨38,[0],none,false⟩ (ρ 38):=aF ai aE ej 18 lC x3 (ac oq (ac yA an)) (.inr (by kernel_rfl)) (.inl rfl) (by kernel_rfl) (fun _=>rfl) fun _ hp hg=>yo _ _ _ _ hp hg
theorem yB:bC Tryz.prog ⟨32,[3],none,false⟩ (ρ 32):=aF ai aE dS 9 nk zE (ac gG (ac bX (ac fu (ac fv (ac eI an))))) (.inr (by kernel_rfl)) (.inl rfl) (by kernel_rfl) (fun _=>rfl) fun _ hp hg=>AY _ hp hg
theorem lN:bC Tryz.prog ⟨10,[2,3],none,false⟩ (ρ 10):=aF ai aE fo 17 jr ra (ac om (ac oq (ac yB (ac uT (ac qb (ac yw (ac uS (ac qK (ac tI (ac yz (ac qa (ac rh (ac qc (ac yv (ac bV (ac uW (ac uX an))))))))))))))))) (.inr (by kernel_rfl)) (.inl rfl) zN (fun _=>rfl) fun _ hp hg=>B0 _ _ _ hp hg
theorem nD:O 11:=aF ai aE eF 0 jQ u2 (ac kc (ac lN (ac uY an))) (.inl fun _=>rfl) (.inl rfl) (by kernel_rfl) (fun _=>rfl) fun _ hp hg=>uA
theorem yC:bC Tryz.prog ⟨30,[0],none,true⟩ (ρ 30):=aF ai aE dR 2 nj zD (ac bz an) (.inr (by kernel_rfl)) (.inr fun a=>by obtain ⟨_,_⟩:=a;exact bj (by simp[dR,mkF,gL,fH,PV.scalar])) (by kernel_rfl) (fun _=>rfl) fun _ hp hg=>B6 _ _
theorem nE:bC Tryz.prog ⟨8,[0],none,true⟩ (ρ 8):=aF ai aE cE 1 jR u3 (ac om (ac yC an)) (.inr (by kernel_rfl)) (.inr fun a=>by exact bj (by simp[cE,mkF,gL,fH,PV.scalar])) (by kernel_rfl) (fun _=>rfl) fun _ hp hg=>uB _
end Go.Xt
