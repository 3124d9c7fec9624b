/- Steps towards the statements of this seat; the conditions stand in each theorem. -/
import Derived.Test.YtbobikmalojafaaGreatDoorRows
import Derived.Test.YtbobikmalojafaaGreatDoorH
import Derived.Test.YtbobikmalojafaaGreatDoorEb
import Derived.Test.YtbobikmalojafaaGreatDoorIp
import Derived.Test.YtbobikmalojafaaGreatDoorEr6
import Derived.Test.YtbobikmalojafaaGreatDoorW58
open Go.Proofs
set_option maxRecDepth 100000
set_option linter.unusedVariables false
set_option linter.unusedSimpArgs false
namespace Go.Xt
theorem af:(Tryz.prog.funcs.toList.all fun fn=> !(fn.name == "runtime.NumGoroutine"))=true:=by kernel_rfl
theorem au:Tryz.prog.follows .mixedOrders=true:=by kernel_rfl
abbrev O(K:Nat):Prop:=cx Tryz.prog ⟨K,none,none,false⟩ (ρ K)
theorem ew:O 155:=aw af au kw 1 tN HD (an (ρ:=ρ)) (.inl fun _=>rfl) (.inl rfl) (by kernel_rfl) (fun _=>rfl) fun _ hp hg=>I3 _
theorem kq:O 159:=aw af au gv 1 pT DM (ac ew an) (.inl fun _=>rfl) (.inl rfl) (by kernel_rfl) (fun _=>rfl) fun _ hp hg=>EF _
theorem mV:O 89:=aw af au fx 1 nQ AW (an (ρ:=ρ)) (.inl fun _=>rfl) (.inl rfl) (by kernel_rfl) (fun _=>rfl) fun _ hp hg=>Cb _
theorem oT:O 160:=aw af au kx 2 tO HE (an (ρ:=ρ)) (.inl fun _=>rfl) (.inl rfl) (by kernel_rfl) (fun _=>rfl) fun _ hp hg=>I4 _ _ hp
theorem ze:O 196:=aw af au il 1 nR AX (an (ρ:=ρ)) (.inl fun _=>rfl) (.inl rfl) (by kernel_rfl) (fun _=>rfl) fun _ hp hg=>Cc _ hp
theorem xl:O 195:=aw af au fS 1 lY xF (an (ρ:=ρ)) (.inl fun _=>rfl) (.inl rfl) (by kernel_rfl) (fun _=>rfl) fun _ hp hg=>yB _ hp
theorem uW:O 194:=aw af au fc 2 kM vZ (an (ρ:=ρ)) (.inl fun _=>rfl) (.inl rfl) (by kernel_rfl) (fun _=>rfl) fun _ hp hg=>wI _ _ hp
theorem qy:O 93:=aw af au iQ 2 rK FR (ac mV (ac kq (ac oT an))) (.inl fun _=>rfl) (.inl rfl) (by kernel_rfl) (fun _=>rfl) fun _ hp hg=>Ge _ _
theorem cE:O 34:=aw af au eD 3 lZ xG (ac qy an) (.inl fun _=>rfl) (.inl rfl) (by kernel_rfl) (fun _=>rfl) fun _ hp hg=>yC _ _ _
theorem lM:O 60:=aw af au iS 3 rN FU (an (ρ:=ρ)) (.inl fun _=>rfl) (.inl rfl) (by kernel_rfl) (fun _=>rfl) fun _ hp hg=>Gg _ _ _
theorem ns:O 68:=aw af au cJ 1 jJ uC (ac lM an) (.inl fun _=>rfl) (.inl rfl) (by kernel_rfl) (fun _=>rfl) fun _ hp hg=>uO _
theorem ge:O 66:=aw af au dE 1 kN wa (ac lM an) (.inl fun _=>rfl) (.inl rfl) (by kernel_rfl) (fun _=>rfl) fun _ hp hg=>wJ _
theorem D4:O 146:=aw af au jw 2 pU DN (ac uW (ac xl (ac ze an))) (.inl fun _=>rfl) (.inl rfl) (by kernel_rfl) (fun _=>rfl) fun _ hp hg=>EG _ _ hp
theorem jR:O 151:=aw af au dF 3 kO wb (ac ge (ac ns (ac D4 an))) (.inl fun _=>rfl) (.inl rfl) (by kernel_rfl) (fun _=>rfl) fun _ hp hg=>wK _ _ _
theorem qz:O 90:=aw af au gl 1 rL FS (ac ew an) (.inl fun _=>rfl) (.inl rfl) (by kernel_rfl) (fun _=>rfl) fun _ hp hg=>Gf _ hg
theorem zf:O 236:=aw af au dQ 3 nS AY (ac cE an) (.inl fun _=>rfl) (.inl rfl) (by kernel_rfl) (fun _=>rfl) fun _ hp hg=>Cd _ _ _ hg
theorem zg:O 218:=aw af au dR 4 nT AZ (ac qz (ac qy (ac zf an))) (.inl fun _=>rfl) (.inl rfl) (by kernel_rfl) (fun _=>rfl) fun _ hp hg=>Ce _ _ _ _ hg
theorem zh:O 176:=aw af au dS 4 nU B0 (ac ge (ac jR an)) (.inl fun _=>rfl) (.inl rfl) (by kernel_rfl) (fun _=>rfl) fun _ hp hg=>Cf _ _ _ _ hp hg
theorem cF:O 50:=aw af au aP 2 cI ll (an (ρ:=ρ)) (.inl fun _=>rfl) (.inl rfl) (by kernel_rfl) (fun _=>rfl) fun _ hp hg=>ln _ _ hg
theorem Il:O 223:=aw af au ng 1 ws IO (an (ρ:=ρ)) (.inl fun _=>rfl) (.inl rfl) (by kernel_rfl) (fun _=>rfl) fun _ hp hg=>Jg _
theorem Fk:O 198:=aw af au iR 2 rM FT (ac oT (ac Il an)) (.inl fun _=>rfl) (.inl rfl) (by kernel_rfl) (fun _=>rfl) fun _ hp hg=>Gn _ _
theorem mW:O 32:=aw af au dT 2 nV B5 (ac cE (ac mV (ac qz an))) (.inl fun _=>rfl) (.inl rfl) (by kernel_rfl) (fun _=>rfl) fun _ hp hg=>CH _ _ hg
theorem xm:O 156:=aw af au cZ 2 m0 xH (ac cF (ac ew an)) (.inl fun _=>rfl) (.inl rfl) (by kernel_rfl) (fun _=>rfl) fun _ hp hg=>yV _ _ hg
theorem xn:O 199:=aw af au da 2 ma xI (ac kq (ac oT an)) (.inl fun _=>rfl) (.inl rfl) (by kernel_rfl) (fun _=>rfl) fun _ hp hg=>yW _ _ hp hg
theorem xo:O 158:=aw af au db 2 mb xJ (ac kq (ac oT an)) (.inl fun _=>rfl) (.inl rfl) (by kernel_rfl) (fun _=>rfl) fun _ hp hg=>yX _ _ hp hg
theorem tY:cx Tryz.prog ⟨157,some 0,none,false⟩ (ρ 157):=aw af au co 2 jK uD (ac kq (ac Fk (ac xn (ac oM (ac lm an))))) (.inr (by kernel_rfl)) (.inl rfl) (by kernel_rfl) (fun _=>rfl) fun _ hp hg=>uT _ _ hp hg
theorem zi:O 92:=aw af au dU 3 nW B6 (ac cE (ac tY (ac xo an))) (.inl fun _=>rfl) (.inl rfl) (by kernel_rfl) (fun _=>rfl) fun _ hp hg=>CI _ _ _ hp hg
theorem xp:O 91:=aw af au dc 3 mc xK (ac mV (ac xm an)) (.inl fun _=>rfl) (.inl rfl) (by kernel_rfl) (fun _=>rfl) fun _ hp hg=>yZ _ _ _ hg
theorem rq:O 33:=aw af au dV 3 nX B7 (ac xp (ac zi an)) (.inl fun _=>rfl) (.inl rfl) (by kernel_rfl) (fun _=>rfl) fun _ hp hg=>CJ _ _ _ hg
theorem tZ:O 123:=aw af au cK 7 jL uE (ac wH (ac uN an)) (.inr (by kernel_rfl)) (.inl rfl) (by kernel_rfl) (fun _=>rfl) fun _ hp hg=>uQ _
theorem jf:O 56:=aw af au cL 7 jM uF (ac uM (ac tZ an)) (.inl fun _=>rfl) (.inl rfl) (by kernel_rfl) (fun _=>rfl) fun _ hp hg=>uS _
theorem uX:O 53:=aw af au dG 7 kP wc (ac lM an) (.inl fun _=>rfl) (.inl rfl) (by kernel_rfl) (fun _=>rfl) fun _ hp hg=>wM _
theorem lf:O 253:=aw af au eE 1 md xL (ac ew an) (.inl fun _=>rfl) (.inl rfl) (by kernel_rfl) (fun _=>rfl) fun _ hp hg=>yG _
theorem D5:O 235:=aw af au gw 1 pV DO (ac lf an) (.inl fun _=>rfl) (.inl rfl) (by kernel_rfl) (fun _=>rfl) fun _ hp hg=>EI _
theorem kA:O 101:=aw af au nh 3 wt IP (an (ρ:=ρ)) (.inl fun _=>rfl) (.inl rfl) (by kernel_rfl) (fun _=>rfl) fun _ hp hg=>Jd _ _ _
theorem aW:O 95:=aw af au eF 1 mf xM (ac kA an) (.inl fun _=>rfl) (.inl rfl) (by kernel_rfl) (fun _=>rfl) fun _ hp hg=>yD _
theorem fK:O 43:=aw af au gx 1 pW DP (ac kA an) (.inl fun _=>rfl) (.inl rfl) (by kernel_rfl) (fun _=>rfl) fun _ hp hg=>EH _
theorem jg:O 42:=aw af au ky 3 tP HF (an (ρ:=ρ)) (.inl fun _=>rfl) (.inl rfl) (by kernel_rfl) (fun _=>rfl) fun _ hp hg=>I8 _ _ _
theorem uB:O 54:=aw af au iT 3 rO FV (an (ρ:=ρ)) (.inl fun _=>rfl) (.inl rfl) (by kernel_rfl) (fun _=>rfl) fun _ hp hg=>Gh _ _ _
theorem cg:O 173:=aw af au iU 3 rP FW (an (ρ:=ρ)) (.inl fun _=>rfl) (.inl rfl) (by kernel_rfl) (fun _=>rfl) fun _ hp hg=>Gi _ _ _
theorem iC:O 19:=aw af au eG 1 mg xN (ac lM an) (.inl fun _=>rfl) (.inl rfl) (by kernel_rfl) (fun _=>rfl) fun _ hp hg=>yE _
theorem qA:O 229:=aw af au eH 1 mh xO (ac cg an) (.inl fun _=>rfl) (.inl rfl) (by kernel_rfl) (fun _=>rfl) fun _ hp hg=>yF _
theorem lg:O 174:=aw af au eI 1 mi xP (ac cg an) (.inl fun _=>rfl) (.inl rfl) (by kernel_rfl) (fun _=>rfl) fun _ hp hg=>yH _
theorem zj:O 187:=aw af au fy 2 nY B8 (an (ρ:=ρ)) (.inl fun _=>rfl) (.inl rfl) (by kernel_rfl) (fun _=>rfl) fun _ hp hg=>Cg _
theorem mX:O 129:=aw af au dW 1 nZ B9 (ac zj an) (.inl fun _=>rfl) (.inl rfl) (by kernel_rfl) (fun _=>rfl) fun _ hp hg=>Cm _ hg
theorem xq:O 120:=aw af au de 1 mj xQ (ac cg an) (.inl fun _=>rfl) (.inl rfl) (by kernel_rfl) (fun _=>rfl) fun _ hp hg=>yI _ hg
theorem zk:O 221:=aw af au fA 5 o0 Ba (ac cE (ac aW an)) (.inl fun _=>rfl) (.inl rfl) (by kernel_rfl) (fun _=>rfl) fun _ hp hg=>Ci _ _ _
theorem rr:O 189:=aw af au dX 4 o8 Bb (ac cE (ac qy (ac zk an))) (.inl fun _=>rfl) (.inl rfl) (by kernel_rfl) (fun _=>rfl) fun _ hp hg=>Cn _ _ _ _ hg
theorem zl:O 177:=aw af au dY 4 o9 Bc (ac ge (ac ns (ac jR (ac cg an)))) (.inl fun _=>rfl) (.inl rfl) (by kernel_rfl) (fun _=>rfl) fun _ hp hg=>Co _ _ _ _ hg
theorem zm:O 263:=aw af au dZ 2 oa Bd (ac fK an) (.inl fun _=>rfl) (.inl rfl) (by kernel_rfl) (fun _=>rfl) fun _ hp hg=>Cq _ _ hp hg
theorem zn:O 255:=aw af au ec 3 ob Be (ac aW (ac zm an)) (.inl fun _=>rfl) (.inl rfl) (by kernel_rfl) (fun _=>rfl) fun _ hp hg=>Cr _ _ _ hg
theorem zo:O 230:=aw af au ed 3 oc Bf (ac iC (ac cg an)) (.inl fun _=>rfl) (.inl rfl) (by kernel_rfl) (fun _=>rfl) fun _ hp hg=>Cs _ _ _ hg
theorem zp:O 264:=aw af au fB 3 od Bg (an (ρ:=ρ)) (.inl fun _=>rfl) (.inl rfl) (by kernel_rfl) (fun _=>rfl) fun _ hp hg=>Cj _ _ _ hp
theorem xr:O 256:=aw af au df 3 mm xR (ac fK (ac aW (ac zp an))) (.inl fun _=>rfl) (.inl rfl) (by kernel_rfl) (fun _=>rfl) fun _ hp hg=>yJ _ _ _ hg
theorem uY:O 231:=aw af au cA 3 kQ wd (ac iC (ac cg an)) (.inl fun _=>rfl) (.inl rfl) (by kernel_rfl) (fun _=>rfl) fun _ hp hg=>wQ _ _ _ hg
theorem qB:O 205:=aw af au eJ 6 mq xS (ac fK (ac aW (ac ew (ac lf an)))) (.inl fun _=>rfl) (.inl rfl) (by kernel_rfl) (fun _=>rfl) fun _ hp hg=>yK _
theorem xt:O 232:=aw af au eK 6 mr xU (ac iC (ac ge (ac cg (ac lg (ac qA an))))) (.inl fun _=>rfl) (.inl rfl) (by kernel_rfl) (fun _=>rfl) fun _ hp hg=>yL _
theorem qC:O 204:=aw af au dg 2 mu xV (ac qB an) (.inl fun _=>rfl) (.inl rfl) (by kernel_rfl) (fun _=>rfl) fun _ hp hg=>yM _ _ hg
theorem xu:O 208:=aw af au dh 2 mv xW (ac cg (ac xt an)) (.inl fun _=>rfl) (.inl rfl) (by kernel_rfl) (fun _=>rfl) fun _ hp hg=>yN _ _ hg
theorem D6:O 254:=aw af au gy 5 pX DQ (an (ρ:=ρ)) (.inl fun _=>rfl) (.inl rfl) (by kernel_rfl) (fun _=>rfl) fun _ hp hg=>EJ _
theorem zq:O 237:=aw af au ee 12 oe Bh (ac aW (ac lf (ac D6 (ac zn (ac xr an))))) (.inl fun _=>rfl) (.inl rfl) (by kernel_rfl) (fun _=>rfl) fun _ hp hg=>Cu _ _ hg
theorem zr:O 219:=aw af au ef 13 og Bi (ac jf (ac qC (ac zq an))) (.inl fun _=>rfl) (.inl rfl) (by kernel_rfl) (fun _=>rfl) fun _ hp hg=>Cw _ _ _ hg
theorem xv:O 94:=aw af au dm 2 mB y8 (an (ρ:=ρ)) (.inl fun _=>rfl) (.inl rfl) (by kernel_rfl) (fun _=>rfl) fun _ hp hg=>yR _ _ hg
theorem pb:O 35:=aw af au cD 10 kU wi (ac xv an) (.inl fun _=>rfl) (.inl rfl) (by kernel_rfl) (fun _=>rfl) fun _ hp hg=>wW _ _ hg
theorem uZ:O 207:=aw af au cB 12 kR we (ac pb (ac cg (ac lg (ac qA (ac zo (ac uY an)))))) (.inl fun _=>rfl) (.inl rfl) (by kernel_rfl) (fun _=>rfl) fun _ hp hg=>wU _ _ hg
theorem zt:O 178:=aw af au eg 13 oh Bj (ac uZ (ac xu an)) (.inl fun _=>rfl) (.inl rfl) (by kernel_rfl) (fun _=>rfl) fun _ hp hg=>Cy _ _ _ hg
theorem zu:O 215:=aw af au eh 3 ol Bk (ac cE an) (.inl fun _=>rfl) (.inl rfl) (by kernel_rfl) (fun _=>rfl) fun _ hp hg=>Ck _ _ _ hg
theorem zw:O 175:=aw af au ei 3 om Bl (ac jR (ac cg an)) (.inl fun _=>rfl) (.inl rfl) (by kernel_rfl) (fun _=>rfl) fun _ hp hg=>Cl _ _ _ hg
theorem va:O 216:=aw af au dH 17 kS wg (ac D5 an) (.inl fun _=>rfl) (.inl rfl) (by kernel_rfl) (fun _=>rfl) fun _ hp hg=>wN _ _
theorem vb:O 217:=aw af au cC 16 kT wh (an (ρ:=ρ)) (.inl fun _=>rfl) (.inl rfl) (by kernel_rfl) (fun _=>rfl) fun _ hp hg=>wO _ hp hg
theorem xw:O 183:=aw af au dj 25 mw xX (ac rr (ac zu (ac va (ac vb (ac zg (ac zr an)))))) (.inl fun _=>rfl) (.inl rfl) (by kernel_rfl) (fun _=>rfl) fun _ hp hg=>yO _ _ _ _ hp hg
theorem iD:O 125:=aw af au dk 25 my xY (ac jf (ac xw an)) (.inl fun _=>rfl) (.inl rfl) (by kernel_rfl) (fun _=>rfl) fun _ hp hg=>yP _ _ _ _ hg
theorem xx:O 121:=aw af au dl 25 mz xZ (ac cg (ac lg (ac zw (ac zh (ac zl (ac zt an)))))) (.inl fun _=>rfl) (.inl rfl) (by kernel_rfl) (fun _=>rfl) fun _ hp hg=>yQ _ _ _ _ hp hg
theorem zx:O 124:=aw af au ej 16 oo Bm (ac jg an) (.inl fun _=>rfl) (.inl rfl) (by kernel_rfl) (fun _=>rfl) fun _ hp hg=>CB _ _ hp hg
theorem D7:O 128:=aw af au gz 3 pY DR (ac jg an) (.inl fun _=>rfl) (.inl rfl) (by kernel_rfl) (fun _=>rfl) fun _ hp hg=>EL _
theorem zy:O 132:=aw af au fC 12 oq Bn (ac jg (ac fK (ac aW an))) (.inl fun _=>rfl) (.inl rfl) (by kernel_rfl) (fun _=>rfl) fun _ hp hg=>CA _ _ hp
theorem zz:O 57:=aw af au ek 17 ot Bo (ac jg (ac aW (ac zx (ac iD (ac D7 (ac mX (ac zy an))))))) (.inl fun _=>rfl) (.inl rfl) (by kernel_rfl) (fun _=>rfl) fun _ hp hg=>CC _ _ _ hp hg
theorem jn:O 16:=aw af au eo 17 ou Bp (ac jg (ac jf (ac zz an))) (.inl fun _=>rfl) (.inl rfl) (by kernel_rfl) (fun _=>rfl) fun _ hp hg=>CD _ _ _ hg
theorem zA:O 55:=aw af au eq 17 ov Bq (ac iC (ac uB (ac xq (ac xx an)))) (.inl fun _=>rfl) (.inl rfl) (by kernel_rfl) (fun _=>rfl) fun _ hp hg=>CF _ _ _ hp hg
theorem xy:O 97:=aw af au dp 6 mC y9 (an (ρ:=ρ)) (.inl fun _=>rfl) (.inl rfl) (by kernel_rfl) (fun _=>rfl) fun _ hp hg=>yS _ _ hg
theorem xz:O 39:=aw af au dq 16 mD yb (ac xy an) (.inl fun _=>rfl) (.inl rfl) (by kernel_rfl) (fun _=>rfl) fun _ hp hg=>yT _ hg
theorem lh:O 9:=aw af au dr 9 mF yc (ac xz an) (.inl fun _=>rfl) (.inl rfl) (by kernel_rfl) (fun _=>rfl) fun _ hp hg=>yU _ hg
theorem rt:O 36:=aw af au im 0 ow Br (an (ρ:=ρ)) (.inl fun _=>rfl) (.inl rfl) (by kernel_rfl) (fun _=>rfl) fun _ hp hg=>CG
theorem bB:cx Tryz.prog ⟨96,some 0,none,true⟩ (ρ 96):=aw af au aA 1 bJ gW (an (ρ:=ρ)) (.inr (by kernel_rfl)) (.inr fun a=>by exact bX (by simp[aA,mkF,jS,iM,PV.scalar])) (by kernel_rfl) (fun _=>rfl) fun _ hp hg=>iy _ hp
theorem gL:cx Tryz.prog ⟨103,some 0,none,true⟩ (ρ 103):=aw af au aB 1 bK gX (an (ρ:=ρ)) (.inr (by kernel_rfl)) (.inr fun a=>by exact bX (by simp[aB,mkF,jS,iM,PV.scalar])) (by kernel_rfl) (fun _=>rfl) fun _ hp hg=>iz _ hp
theorem gM:cx Tryz.prog ⟨104,some 0,none,true⟩ (ρ 104):=aw af au aC 1 bM gY (an (ρ:=ρ)) (.inr (by kernel_rfl)) (.inr fun a=>by exact bX (by simp[aC,mkF,jS,iM,PV.scalar])) (by kernel_rfl) (fun _=>rfl) fun _ hp hg=>iA _ hp
theorem fZ:cx Tryz.prog ⟨105,some 0,none,true⟩ (ρ 105):=aw af au ax 1 bu gh (an (ρ:=ρ)) (.inr (by kernel_rfl)) (.inr fun a=>by exact bX (by simp[ax,mkF,jS,iM,PV.scalar])) (by kernel_rfl) (fun _=>rfl) fun _ hp hg=>gr _ hp
theorem iH:cx Tryz.prog ⟨162,some 0,none,true⟩ (ρ 162):=aw af au aG 1 bY iN (an (ρ:=ρ)) (.inr (by kernel_rfl)) (.inr fun a=>by exact bX (by simp[aG,mkF,jS,iM,PV.scalar])) (by kernel_rfl) (fun _=>rfl) fun _ hp hg=>jd _ hp
theorem bm:cx Tryz.prog ⟨163,some 0,none,true⟩ (ρ 163):=aw af au ay 1 bv gi (an (ρ:=ρ)) (.inr (by kernel_rfl)) (.inr fun a=>by exact bX (by simp[ay,mkF,jS,iM,PV.scalar])) (by kernel_rfl) (fun _=>rfl) fun _ hp hg=>gt _ hp
theorem gN:cx Tryz.prog ⟨203,some 0,none,true⟩ (ρ 203):=aw af au aD 1 bO gZ (an (ρ:=ρ)) (.inr (by kernel_rfl)) (.inr fun a=>by exact bX (by simp[aD,mkF,jS,iM,PV.scalar])) (by kernel_rfl) (fun _=>rfl) fun _ hp hg=>iB _ hp
theorem gJ:cx Tryz.prog ⟨107,some 0,none,true⟩ (ρ 107):=aw af au aX 1 dP nM (an (ρ:=ρ)) (.inr (by kernel_rfl)) (.inr fun a=>by exact bX (by simp[aX,mkF,jS,iM,PV.scalar])) (by kernel_rfl) (fun _=>rfl) fun _ hp hg=>oQ _ hp
theorem jp:O 102:=aw af au fD 16 ox Bs (ac gJ (ac iH (ac bm (ac gN an)))) (.inr (by kernel_rfl)) (.inl rfl) (by kernel_rfl) (fun _=>rfl) fun _ hp hg=>CL _ hp
theorem D8:O 206:=aw af au gA 6 pZ DS (an (ρ:=ρ)) (.inl fun _=>rfl) (.inl rfl) (by kernel_rfl) (fun _=>rfl) fun _ hp hg=>EP _
theorem D9:O 172:=aw af au fe 8 qa DT (ac bm (ac qC (ac qB (ac D8 an)))) (.inr (by kernel_rfl)) (.inl rfl) (by kernel_rfl) (fun _=>rfl) fun _ hp hg=>ES _ _ _ hg
theorem Da:O 119:=aw af au fg 8 qb DU (ac bm (ac D9 an)) (.inr (by kernel_rfl)) (.inl rfl) (by kernel_rfl) (fun _=>rfl) fun _ hp hg=>ER _ _ _ hp hg
theorem Db:O 109:=aw af au fh 10 qc DV (ac jg an) (.inl fun _=>rfl) (.inl rfl) (by kernel_rfl) (fun _=>rfl) fun _ hp hg=>ET _ _ hg
theorem ru:O 88:=aw af au er 2 oy Bt (ac mX an) (.inl fun _=>rfl) (.inl rfl) (by kernel_rfl) (fun _=>rfl) fun _ hp hg=>CM _ _ hg
theorem oU:cx Tryz.prog ⟨31,some 0,none,true⟩ (ρ 31):=aw af au dK 2 qd DW (ac ru an) (.inr (by kernel_rfl)) (.inr fun a=>by obtain ⟨_,_⟩:=a;exact bX (by simp[dK,mkF,jS,iM,PV.scalar])) (by kernel_rfl) (fun _=>rfl) fun _ hp hg=>EU _ _ hg
theorem Dc:O 166:=aw af au fi 11 qe DX (ac oU (ac rq an)) (.inl fun _=>rfl) (.inl rfl) (by kernel_rfl) (fun _=>rfl) fun _ hp hg=>EX _ _ _ hp hg
theorem lj:O 15:=aw af au dt 17 mG yd (ac uX (ac uB (ac zA an))) (.inl fun _=>rfl) (.inl rfl) (by kernel_rfl) (fun _=>rfl) fun _ hp hg=>za _ _ _ hg
theorem Fl:O 111:=aw af au iV 16 rQ FX (ac aW (ac ew an)) (.inl fun _=>rfl) (.inl rfl) (by kernel_rfl) (fun _=>rfl) fun _ hp hg=>Gx _
theorem rv:O 170:=aw af au et 1 oz Bu (ac cF an) (.inl fun _=>rfl) (.inl rfl) (by kernel_rfl) (fun _=>rfl) fun _ hp hg=>CO _ hg
theorem GO:O 167:=aw af au iW 1 tQ HH (ac qz (ac rv an)) (.inl fun _=>rfl) (.inl rfl) (by kernel_rfl) (fun _=>rfl) fun _ hp hg=>Ie _ hg
theorem Dd:O 168:=aw af au gB 16 qf DY (ac aW (ac kA an)) (.inl fun _=>rfl) (.inl rfl) (by kernel_rfl) (fun _=>rfl) fun _ hp hg=>F2 _
theorem De:O 169:=aw af au gC 16 qg DZ (ac fK (ac aW (ac kA (ac ew an)))) (.inl fun _=>rfl) (.inl rfl) (by kernel_rfl) (fun _=>rfl) fun _ hp hg=>F4 _
theorem mY:cx Tryz.prog ⟨49,some 0,none,true⟩ (ρ 49):=aw af au aO 1 dD na (ac oN an) (.inr (by kernel_rfl)) (.inr fun a=>by exact bX (by simp[aO,mkF,jS,iM,PV.scalar])) (by kernel_rfl) (fun _=>rfl) fun _ hp hg=>np _ hp hg
theorem Fm:O 110:=aw af au gm 16 rR FY (ac fK (ac mY (ac aW (ac kA (ac ew (ac GO (ac Dd (ac De (ac rv an))))))))) (.inr (by kernel_rfl)) (.inl rfl) (by kernel_rfl) (fun _=>rfl) fun _ hp hg=>Gy _ hg
theorem Df:O 47:=aw af au fj 16 qh E0 (ac aW (ac kA (ac Fm (ac Fl an)))) (.inl fun _=>rfl) (.inl rfl) (by kernel_rfl) (fun _=>rfl) fun _ hp hg=>F5 _ hg
theorem zB:cx Tryz.prog ⟨138,some 0,none,true⟩ (ρ 138):=aw af au cQ 4 oA Bv (ac rr an) (.inr (by kernel_rfl)) (.inr fun a=>by obtain ⟨_,_,_,_⟩:=a;exact bX (by simp[cQ,mkF,jS,iM,PV.scalar])) (by kernel_rfl) (fun _=>rfl) fun _ hp hg=>CP _ _ _ _ hp hg
theorem zC:cx Tryz.prog ⟨74,some 0,none,true⟩ (ρ 74):=aw af au cS 1 oB Bw (ac bB (ac mX an)) (.inr (by kernel_rfl)) (.inr fun a=>by exact bX (by simp[cS,mkF,jS,iM,PV.scalar])) (by kernel_rfl) (fun _=>rfl) fun _ hp hg=>CR _ hp hg
theorem zD:O 191:=aw af au fE 2 oC Bx (ac ew an) (.inl fun _=>rfl) (.inl rfl) (by kernel_rfl) (fun _=>rfl) fun _ hp hg=>CT _ _ hp
theorem zE:O 192:=aw af au fF 2 oD Bz (an (ρ:=ρ)) (.inr (by kernel_rfl)) (.inl rfl) (by kernel_rfl) (fun _=>rfl) fun _ hp hg=>CU _ _
theorem zF:O 193:=aw af au fG 5 oE BA (an (ρ:=ρ)) (.inl fun _=>rfl) (.inl rfl) (by kernel_rfl) (fun _=>rfl) fun _ hp hg=>CV _
theorem u0:O 238:=aw af au cM 16 jN uG (ac jp an) (.inr (by kernel_rfl)) (.inl rfl) (by kernel_rfl) (fun _=>rfl) fun _ hp hg=>uU _ hp
theorem zG:O 222:=aw af au eu 25 oF BB (ac iD (ac u0 an)) (.inr (by kernel_rfl)) (.inl rfl) (by kernel_rfl) (fun _=>rfl) fun _ hp hg=>CY _ _ _ _ hp hg
theorem xA:O 141:=aw af au du 25 mH ye (ac jp (ac iD (ac zD (ac zE an)))) (.inr (by kernel_rfl)) (.inl rfl) (by kernel_rfl) (fun _=>rfl) fun _ hp hg=>zb _ _ _ _ hp hg
theorem Dg:O 142:=aw af au fk 25 qi E1 (ac jp (ac iD an)) (.inr (by kernel_rfl)) (.inl rfl) (by kernel_rfl) (fun _=>rfl) fun _ hp hg=>F8 _ _ _ _ hp hg
theorem u4:O 139:=aw af au cN 16 jO uH (an (ρ:=ρ)) (.inl fun _=>rfl) (.inl rfl) (by kernel_rfl) (fun _=>rfl) fun _ hp hg=>uV _
theorem Fo:O 137:=aw af au iX 16 rS FZ (ac gJ an) (.inr (by kernel_rfl)) (.inl rfl) (by kernel_rfl) (fun _=>rfl) fun _ hp hg=>GA _ hp
theorem td:cx Tryz.prog ⟨73,some 0,none,false⟩ (ρ 73):=aw af au fm 11 qj E2 (ac Df (ac Db (ac Fo an))) (.inr (by kernel_rfl)) (.inl rfl) (by kernel_rfl) (fun _=>rfl) fun _ hp hg=>F9 _ _ _ hp hg
theorem zH:cx Tryz.prog ⟨26,some 0,none,false⟩ (ρ 26):=aw af au fH 18 oG BC (ac jn (ac td an)) (.inr (by kernel_rfl)) (.inl rfl) (by kernel_rfl) (fun _=>rfl) fun _ hp hg=>CZ _ _ _ _ hp hg
theorem Dh:cx Tryz.prog ⟨44,some 3,none,false⟩ (ρ 44):=aw af au fo 9 ql E4 (ac bB (ac jp (ac gL (ac gM (ac fZ an))))) (.inr (by kernel_rfl)) (.inl rfl) (by kernel_rfl) (fun _=>rfl) fun _ hp hg=>Fb _ hp hg
theorem iE:O 27:=aw af au gD 17 lE uo (ac jn (ac oU (ac mW (ac Dh (ac cF (ac td (ac zC (ac Da (ac zB (ac u4 (ac xA (ac Dg (ac Dc (ac zF (ac zG an))))))))))))))) (.inr (by kernel_rfl)) (.inl rfl) Eb (fun _=>rfl) fun _ hp hg=>Fc _ _ _ hp hg
theorem iF:O 28:=aw af au fT 0 mJ yf (ac zH (ac iE (ac rt an))) (.inl fun _=>rfl) (.inl rfl) (by kernel_rfl) (fun _=>rfl) fun _ hp hg=>zd
theorem s5:O 5:=aw af au ci 17 ig sL (ac lh (ac lj (ac jn (ac iE (ac iF an))))) (.inl fun _=>rfl) (.inl rfl) (by kernel_rfl) (fun _=>rfl) fun _ hp hg=>tc _ _ _ hg
theorem qV:O 6:=aw af au bZ 17 gk rH (ac lh (ac lj (ac iE (ac iF (ac oU (ac mW (ac rq (ac cE an)))))))) (.inl fun _=>rfl) (.inl rfl) (by kernel_rfl) (fun _=>rfl) fun _ hp hg=>s4 _ _ _ hg
theorem s6:O 7:=aw af au ck 17 ii sM (ac lh (ac lj (ac iE (ac iF (ac pb an))))) (.inl fun _=>rfl) (.inl rfl) (by kernel_rfl) (fun _=>rfl) fun _ hp hg=>t7 _ _ _ hg
theorem Di:cx Tryz.prog ⟨38,some 0,none,true⟩ (ρ 38):=aw af au dL 3 qk E3 (ac ru (ac aW (ac bB an))) (.inr (by kernel_rfl)) (.inr fun a=>by obtain ⟨_,_,_⟩:=a;exact bX (by simp[dL,mkF,jS,iM,PV.scalar])) (by kernel_rfl) (fun _=>rfl) fun _ hp hg=>Fi _ _ _ hp hg
theorem tf:O 8:=aw af au dI 2 iP tI (ac jn (ac iE (ac iF (ac mW (ac rt (ac Di an)))))) (.inl fun _=>rfl) (.inl rfl) (by kernel_rfl) (fun _=>rfl) fun _ hp hg=>tX _ _
end Go.Xt
