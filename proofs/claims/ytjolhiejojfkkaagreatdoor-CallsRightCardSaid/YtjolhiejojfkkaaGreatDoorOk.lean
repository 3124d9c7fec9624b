/- Steps towards the statements of this seat; the conditions stand in each theorem. -/
import Derived.Test.YtjolhiejojfkkaaGreatDoorOk2
open Go.Proofs
set_option maxRecDepth 100000
set_option linter.unusedVariables false
set_option linter.unusedSimpArgs false
namespace Go.Xt
theorem jf:O 18:=av af ar fh 17 qt Ej (ac B9 (ac uX (ac Ga an))) (.inl fun _=>rfl) (.inl rfl) (by kernel_rfl) (fun _=>rfl) fun _ hp hg=>FB _ _ _ hg
theorem Gd:O 66:=av af ar js 19 sB I8 (ac qL (ac cJ (ac kE (ac qM (ac ed (ac ee (ac ef (ac dE (ac yL (ac fS (ac yK (ac dX (ac Ki (ac ku an)))))))))))))) (.inr (by kernel_rfl)) (.inl rfl) (by kernel_rfl) (fun _=>rfl) fun _ hp hg=>JL _ _ _ _ _ hg
theorem N8:O 162:=av af ar mg 16 wR NP (ac bz (ac gN an)) (.inl fun _=>rfl) (.inl rfl) (by kernel_rfl) (fun _=>rfl) fun _ hp hg=>OA _
theorem wg:O 208:=av af ar gB 1 sC I9 (ac dX an) (.inl fun _=>rfl) (.inl rfl) (by kernel_rfl) (fun _=>rfl) fun _ hp hg=>JM _ hg
theorem OM:O 205:=av af ar mh 1 zr PP (ac uV (ac wg an)) (.inl fun _=>rfl) (.inl rfl) (by kernel_rfl) (fun _=>rfl) fun _ hp hg=>Qm _ hg
theorem Kj:O 206:=av af ar kQ 16 uw Le (ac o5 (ac bz an)) (.inl fun _=>rfl) (.inl rfl) (by kernel_rfl) (fun _=>rfl) fun _ hp hg=>Mw _
theorem Kk:O 207:=av af ar kR 16 ux Lf (ac cJ (ac o5 (ac bz (ac gN an)))) (.inl fun _=>rfl) (.inl rfl) (by kernel_rfl) (fun _=>rfl) fun _ hp hg=>My _
theorem qN:ck Tryz.prog ⟨209,some 0,none,true⟩ (ρ 209):=av af ar bj 1 fO qV (ac rR an) (.inr (by kernel_rfl)) (.inr fun a=>by exact bW (by simp[bj,mkF,lh,jE,PV.scalar])) (by kernel_rfl) (fun _=>rfl) fun _ hp hg=>rh _ hp hg
theorem N9:O 161:=av af ar kr 16 wT NQ (ac cJ (ac o5 (ac bz (ac gN (ac OM (ac Kj (ac Kk (ac wg (ac qN an))))))))) (.inr (by kernel_rfl)) (.inl rfl) (by kernel_rfl) (fun _=>rfl) fun _ hp hg=>OB _ hg
theorem Kl:O 99:=av af ar iO 16 uy Lg (ac o5 (ac bz (ac N9 (ac N8 an)))) (.inl fun _=>rfl) (.inl rfl) (by kernel_rfl) (fun _=>rfl) fun _ hp hg=>Mz _ hg
theorem Km:O 127:=av af ar iP 2 uz Lh (an (ρ:=ρ)) (.inl fun _=>rfl) (.inl rfl) (by kernel_rfl) (fun _=>rfl) fun _ hp hg=>MA _ _ hg
theorem Bf:O 132:=av af ar dR 1 oL Cd (an (ρ:=ρ)) (.inl fun _=>rfl) (.inl rfl) (by kernel_rfl) (fun _=>rfl) fun _ hp hg=>D4 _ hg
theorem DC:O 131:=av af ar fi 1 qu Ek (ac eu an) (.inl fun _=>rfl) (.inl rfl) (by kernel_rfl) (fun _=>rfl) fun _ hp hg=>FD _ hg
theorem DD:O 129:=av af ar ig 1 qv El (ac kW an) (.inl fun _=>rfl) (.inl rfl) (by kernel_rfl) (fun _=>rfl) fun _ hp hg=>FC _
theorem Bg:O 126:=av af ar fM 16 oM Ce (an (ρ:=ρ)) (.inl fun _=>rfl) (.inl rfl) (by kernel_rfl) (fun _=>rfl) fun _ hp hg=>D3 _
theorem wh:ck Tryz.prog ⟨117,some 0,none,true⟩ (ρ 117):=av af ar ez 2 sD Ia (an (ρ:=ρ)) (.inr (by kernel_rfl)) (.inr fun a=>by obtain ⟨_,_⟩:=a;exact bW (by simp[ez,mkF,lh,jE,PV.scalar])) (by kernel_rfl) (fun _=>rfl) fun _ hp hg=>JN _ _ hp hg
theorem yO:O 232:=av af ar iQ 8 uA Li (ac jI an) (.inr (by kernel_rfl)) (.inl rfl) (by kernel_rfl) (fun _=>rfl) fun _ hp hg=>MB _ _ _ hp hg
theorem yP:O 73:=av af ar iR 32 uB Lj (ac vZ an) (.inl fun _=>rfl) (.inl rfl) (by kernel_rfl) (fun _=>rfl) fun _ hp hg=>MC _ _ hg
theorem Ge:O 33:=av af ar gC 2 sE Ib (ac yP an) (.inl fun _=>rfl) (.inl rfl) (by kernel_rfl) (fun _=>rfl) fun _ hp hg=>JO _ _ hg
theorem Kn:O 77:=av af ar iS 16 uC Lk (ac fR (ac kW (ac yP (ac iE (ac eu (ac DD (ac mC (ac DC (ac Bf an))))))))) (.inl fun _=>rfl) (.inl rfl) (by kernel_rfl) (fun _=>rfl) fun _ hp hg=>MD _ hp hg
theorem DE:O 34:=av af ar fj 19 qw Em (ac oW (ac gO (ac wa (ac iE (ac wh (ac Bg (ac Km (ac yO an)))))))) (.inr (by kernel_rfl)) (.inl rfl) (by kernel_rfl) (fun _=>rfl) fun _ hp hg=>FE _ _ _ _ _ hp hg
theorem Gf:O 157:=av af ar jt 2 sF Ic (ac gN an) (.inl fun _=>rfl) (.inl rfl) (by kernel_rfl) (fun _=>rfl) fun _ hp hg=>JQ _ _ hp
theorem xc:O 185:=av af ar dp 2 lB xO (an (ρ:=ρ)) (.inl fun _=>rfl) (.inl rfl) (by kernel_rfl) (fun _=>rfl) fun _ hp hg=>yw _ _ hp
theorem wi:O 158:=av af ar ju 2 sG Id (an (ρ:=ρ)) (.inr (by kernel_rfl)) (.inl rfl) (by kernel_rfl) (fun _=>rfl) fun _ hp hg=>JR _ _
theorem va:O 187:=av af ar ii 2 qx En (an (ρ:=ρ)) (.inr (by kernel_rfl)) (.inl rfl) (by kernel_rfl) (fun _=>rfl) fun _ hp hg=>FF _ _
theorem Gg:O 186:=av af ar jv 16 sH Ie (ac gO an) (.inr (by kernel_rfl)) (.inl rfl) (by kernel_rfl) (fun _=>rfl) fun _ hp hg=>JS _ hp
theorem DF:O 94:=av af ar fk 25 qy Eo (ac qM (ac oV (ac Gf (ac wi an)))) (.inr (by kernel_rfl)) (.inl rfl) (by kernel_rfl) (fun _=>rfl) fun _ hp hg=>FH _ _ _ _ hp hg
theorem Bh:O 119:=av af ar dS 17 oN Cf (ac gO (ac xc (ac Gg (ac va an)))) (.inr (by kernel_rfl)) (.inl rfl) (by kernel_rfl) (fun _=>rfl) fun _ hp hg=>D6 _ _ hp hg
theorem zJ:O 76:=av af ar er 16 nr AE (ac iE an) (.inr (by kernel_rfl)) (.inl rfl) (by kernel_rfl) (fun _=>rfl) fun _ hp hg=>B0 _ hp
theorem Na:O 98:=av af ar mi 16 wV NR (ac fS an) (.inr (by kernel_rfl)) (.inl rfl) (by kernel_rfl) (fun _=>rfl) fun _ hp hg=>OD _ hp
theorem yQ:ck Tryz.prog ⟨44,some 0,none,false⟩ (ρ 44):=av af ar iT 11 uD Ll (ac yL (ac Na (ac Kl an))) (.inr (by kernel_rfl)) (.inl rfl) (by kernel_rfl) (fun _=>rfl) fun _ hp hg=>MI _ _ _ hp hg
theorem vb:ck Tryz.prog ⟨35,some 0,none,false⟩ (ρ 35):=av af ar fm 11 qz Ep (ac uX (ac zJ (ac Kn an))) (.inr (by kernel_rfl)) (.inl rfl) (by kernel_rfl) (fun _=>rfl) fun _ hp hg=>FI _ _ _ hp hg
theorem DG:ck Tryz.prog ⟨71,some 0,none,false⟩ (ρ 71):=av af ar fo 11 qA Es (ac vb an) (.inr (by kernel_rfl)) (.inl rfl) (by kernel_rfl) (fun _=>rfl) fun _ hp hg=>FJ _ _ _ hp hg
theorem nU:ck Tryz.prog ⟨39,some 3,none,false⟩ (ρ 39):=av af ar iU 9 uE Lm (ac qM (ac ed (ac ee (ac ef (ac dE an))))) (.inr (by kernel_rfl)) (.inl rfl) (by kernel_rfl) (fun _=>rfl) fun _ hp hg=>MJ _ hp hg
theorem Ko:O 217:=av af ar iV 4 uF Ln (ac cJ (ac bC (ac wc an))) (.inr (by kernel_rfl)) (.inl rfl) (by kernel_rfl) (fun _=>rfl) fun _ hp hg=>MP _ _ _ _ hp hg
theorem Gh:O 219:=av af ar gD 2 sI Ig (ac bC an) (.inr (by kernel_rfl)) (.inl rfl) (by kernel_rfl) (fun _=>rfl) fun _ hp hg=>K4 _ _ hp hg
theorem Kq:ck Tryz.prog ⟨177,none,none,false⟩ (ρ 177):=by
 show PureOK _ _ pn
 have h0: ∀ps rs,pn ps=some rs→False:=fun ps rs h=>by obtain ⟨a,h1,_⟩:=gQ h;exact h1
 exact ⟨fun _ _ _ ps rs h=>(h0 ps rs h).elim,fun _ ps rs h=>(h0 ps rs h).elim,fun _ _ ps rs h=>(h0 ps rs h).elim⟩
theorem Kr:O 111:=av af ar iW 17 uG Lo (ac bg (ac cJ (ac yK (ac wi (ac lK (ac Kq (ac bC (ac wd (ac Ko (ac Gh an)))))))))) (.inr (by kernel_rfl)) (.inl rfl) (by kernel_rfl) (fun _=>rfl) fun _ hp hg=>MT _ _ _ _ _ _ hp hg
theorem Kt:O 112:=av af ar iX 18 uH Lp (an (ρ:=ρ)) (.inr (by kernel_rfl)) (.inl rfl) (by kernel_rfl) (fun _=>rfl) fun _ hp hg=>MS _ _ _ hp hg
theorem DH:O 58:=av af ar fp 26 qB Et (ac cJ (ac DF (ac oV (ac Kr (ac Kt an))))) (.inr (by kernel_rfl)) (.inl rfl) (by kernel_rfl) (fun _=>rfl) fun _ hp hg=>FL _ _ _ _ _ hp hg
theorem Ku:O 57:=av af ar iY 11 uI Lq (ac FT (ac yM an)) (.inl fun _=>rfl) (.inl rfl) (by kernel_rfl) (fun _=>rfl) fun _ hp hg=>MR _ _ _ hp hg
theorem wj:O 21:=av af ar gE 1 sJ Ih (ac bg an) (.inr (by kernel_rfl)) (.inl rfl) (by kernel_rfl) (fun _=>rfl) fun _ hp hg=>K2 _ hp hg
theorem vc:O 64:=av af ar fq 18 qC Eu (ac qL an) (.inl fun _=>rfl) (.inl rfl) (by kernel_rfl) (fun _=>rfl) fun _ hp hg=>FM _ _ _ _ hp hg
theorem mP:O 51:=av af ar gF 18 sK Ii (ac vc an) (.inl fun _=>rfl) (.inl rfl) (by kernel_rfl) (fun _=>rfl) fun _ hp hg=>K7 _ _ _ _ hp hg
theorem kg:O 26:=av af ar dg 18 oO Cg (ac nU (ac vc an)) (.inr (by kernel_rfl)) (.inl rfl) (by kernel_rfl) (fun _=>rfl) fun _ hp hg=>Dg _ _ _ _ hp hg
theorem wk:O 65:=av af ar gG 20 sL Ij (ac nU (ac mP an)) (.inr (by kernel_rfl)) (.inl rfl) (by kernel_rfl) (fun _=>rfl) fun _ hp hg=>K8 _ _ _ _ _ _ hp hg
theorem dY:O 27:=av af ar bJ 18 lC xP (ac wk an) (.inr (by kernel_rfl)) (.inl rfl) (by kernel_rfl) (fun _=>rfl) fun _ hp hg=>yC _ _ _ _ hp hg
theorem jg:O 28:=av af ar bX 18 jH vz (ac wk an) (.inr (by kernel_rfl)) (.inl rfl) (by kernel_rfl) (fun _=>rfl) fun _ hp hg=>vA _ _ _ _ hp hg
theorem fT:O 24:=av af ar cL 19 ns AF (ac nU (ac yQ (ac mP (ac cJ (ac Ku (ac DH (ac yN an))))))) (.inr (by kernel_rfl)) (.inl rfl) (by kernel_rfl) (fun _=>rfl) fun _ hp hg=>B5 _ _ _ _ _ hp hg
theorem rm:O 29:=av af ar dw 19 nu AG (ac yQ (ac mP (ac Gd an))) (.inr (by kernel_rfl)) (.inl rfl) (by kernel_rfl) (fun _=>rfl) fun _ hp hg=>B6 _ _ _ _ _ hp hg
theorem jZ:O 19:=av af ar dB 18 sM Ik (ac wj (ac nU (ac mP an))) (.inr (by kernel_rfl)) (.inl rfl) (by kernel_rfl) (fun _=>rfl) fun _ hp hg=>K9 _ _ _ _ hp hg
theorem Gi:O 230:=av af ar gH 4 sN Il (an (ρ:=ρ)) (.inr (by kernel_rfl)) (.inl rfl) (by kernel_rfl) (fun _=>rfl) fun _ hp hg=>K5 _ _ _ _ hp hg
theorem Kv:O 231:=av af ar iZ 8 uJ Lr (ac yO an) (.inr (by kernel_rfl)) (.inl rfl) (by kernel_rfl) (fun _=>rfl) fun _ hp hg=>MU _ _ _ hp hg
theorem Kw:ck Tryz.prog ⟨189,none,none,false⟩ (ρ 189):=by
 show PureOK _ _ po
 have h0: ∀ps rs,po ps=some rs→False:=fun ps rs h=>by obtain ⟨a,h1,_⟩:=gQ h;exact h1
 exact ⟨fun _ _ _ ps rs h=>(h0 ps rs h).elim,fun _ ps rs h=>(h0 ps rs h).elim,fun _ _ ps rs h=>(h0 ps rs h).elim⟩
theorem Gj:O 120:=av af ar gI 17 sO Im (ac nA (ac jI (ac va (ac Kw (ac Gi (ac Kv an)))))) (.inr (by kernel_rfl)) (.inl rfl) (by kernel_rfl) (fun _=>rfl) fun _ hp hg=>Kb _ _ _ _ _ _ hp hg
theorem DI:O 121:=av af ar ft 18 qD Ev (an (ρ:=ρ)) (.inr (by kernel_rfl)) (.inl rfl) (by kernel_rfl) (fun _=>rfl) fun _ hp hg=>FK _ _ _ hp hg
theorem Bi:O 70:=av af ar dT 26 oP Ch (ac Bh (ac Gj (ac DI an))) (.inr (by kernel_rfl)) (.inl rfl) (by kernel_rfl) (fun _=>rfl) fun _ hp hg=>Dj _ _ _ _ _ hp hg
theorem zK:O 32:=av af ar dx 19 nv AH (ac iF (ac uW (ac Bi (ac DG (ac wa (ac wh an)))))) (.inr (by kernel_rfl)) (.inl rfl) (by kernel_rfl) (fun _=>rfl) fun _ hp hg=>B7 _ _ _ _ _ hp hg
theorem fU:O 20:=av af ar jS 0 qE Ew (ac we (ac jZ (ac fT (ac kg (ac dY an))))) (.inl fun _=>rfl) (.inl rfl) (by kernel_rfl) (fun _=>rfl) fun _ hp hg=>FO
theorem DJ:O 30:=av af ar fu 19 qF Ey (ac jf an) (.inl fun _=>rfl) (.inl rfl) (by kernel_rfl) (fun _=>rfl) fun _ hp hg=>FP _ _ _ _ _ hp hg
end Go.Xt
