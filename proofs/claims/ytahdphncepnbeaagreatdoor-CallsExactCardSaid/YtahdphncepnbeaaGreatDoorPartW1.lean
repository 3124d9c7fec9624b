/- Steps towards the statements of this seat; the conditions stand in each theorem. -/
import Derived.Test.YtahdphncepnbeaaGreatDoorRho
import Derived.Test.YtahdphncepnbeaaGreatDoorT
section
set_option linter.unusedSimpArgs false
set_option linter.unusedVariables false
set_option maxRecDepth 100000
namespace Go.Xt
set_option linter.defProp false
theorem qA(v:Int):0≤nn v∧nn v<4611686018427387904:=by
 unfold nn NN
 match v.toNat with
 | 0=>simp | 1=>simp | 2=>simp | 3=>simp | 4=>simp | 5=>simp | 6=>simp | 7=>simp
 | n+8=>simp
theorem SR(v:Int):0≤tt v∧tt v<4611686018427387904:=by
 unfold tt TT
 match v.toNat with
 | 0=>simp | 1=>simp | 2=>simp | 3=>simp
 | n+4=>simp
theorem dk{v:Int}:isN v=true↔0≤v∧v<8:=by simp[isN]
theorem iZ{v:Int}:isT v=true↔0≤v∧v<4:=by simp[isT]
theorem Ur{v:Int}{k:PV→Prop}(h0:0≤v)(h1:v<8):OP .pickA [I v,I 2342812313538366385,I 1863050908023769503,I 81111313352671826,I 2434324899588211290,I 2454816673080883147,I 1342378062264523301,I 820659310660760249,I 2006264061484817761] k=k (I (nn v)):=by
 obtain ⟨n,rfl⟩:=Int.eq_ofNat_of_zero_le h0
 have:n<8:=by omega
 match n with
 | 0=>exact aH rfl | 1=>exact aH rfl | 2=>exact aH rfl | 3=>exact aH rfl | 4=>exact aH rfl | 5=>exact aH rfl | 6=>exact aH rfl | 7=>exact aH rfl
 | n+8=>omega
theorem Us{v:Int}{k:PV→Prop}(h0:0≤v)(h1:v<4):OP .pickA [I v,I 1462484242049070477,I 1775212608919665246,I 3535639072113518480,I 3725500155902745375] k=k (I (tt v)):=by
 obtain ⟨n,rfl⟩:=Int.eq_ofNat_of_zero_le h0
 have:n<4:=by omega
 match n with
 | 0=>exact aH rfl | 1=>exact aH rfl | 2=>exact aH rfl | 3=>exact aH rfl
 | n+4=>omega
theorem PH(n:Int):WW ρ 1 yA nv n:=by
 simp only[nv,RR]
 unfold yA
 simp (disch:=first|omega|assumption|(constructor<;>first|assumption|omega)|simp only[LN];omega) only[↓SB,S1]
 refine ⟨fun h=>?_,fun h=>?_⟩ <;>simp[isN,h]
 try omega
theorem LF(n:Int):WW ρ 1 tG kf n:=by
 simp only[kf,RR]
 unfold tG
 simp (disch:=first|omega|assumption|(constructor<;>first|assumption|omega)|simp only[LN];omega) only[↓SB,S1,↓dW]
 refine ⟨fun h=>?_,fun h=>?_⟩
 ·simp[h]
 ·rw[dk] at h
  rw[Ur h.1 h.2];simp[dk,h]
theorem Iz(t:Int):WW ρ 1 rk iO t:=by
 simp only[iO,RR]
 unfold rk
 simp (disch:=first|omega|assumption|(constructor<;>first|assumption|omega)|simp only[LN];omega) only[↓SB,S1]
 refine ⟨fun h=>⟨fun h2=>?_,fun h2=>?_⟩,fun h=>?_⟩
 ·simp[isT,h];try omega
 ·rw[Us h (by omega)];simp[iZ,h];try omega
 ·simp[isT,h];try omega
theorem PI(k:Int)(n:Int)(hp:0≤k∧k<4611686018427387904∧0≤n∧n<4611686018427387904):WW ρ 2 yB nw (k,n):=by
 simp only[nw,RR]
 unfold yB far
 obtain ⟨h1,h2,h3,h4⟩:=hp
 simp (disch:=first|omega|assumption|(constructor<;>first|assumption|omega)|simp only[LN];omega) only[↓SB,S1]
 refine ⟨fun h=>?_,fun h=>?_⟩
 ·simp[h]
 ·simp[h];try omega
theorem IA(n:Int)(hp:isN n=true):WW ρ 1 rl kL n:=by
 simp only[kL,RR]
 unfold rl
 rw[dk] at hp
 simp (disch:=first|omega|assumption|(constructor<;>first|assumption|omega)|simp only[LN];omega) only[↓SB,S1]
 rw[Qo hp.1 (by simp only[List.length_cons,List.length_nil];omega)];rfl
theorem EC(t:Int)(hp:isT t=true):WW ρ 1 ph jv t:=by
 simp only[jv,RR]
 unfold ph
 rw[iZ] at hp
 simp (disch:=first|omega|assumption|(constructor<;>first|assumption|omega)|simp only[LN];omega) only[↓SB,S1]
 rw[Qo hp.1 (by simp only[List.length_cons,List.length_nil];omega)];rfl
theorem C3(k:Int)(n:Int)(hp:0≤k∧k<4611686018427387904∧0≤n∧n<4611686018427387904):WW ρ 2 nW im (k,n):=by
 simp only[im,RR]
 unfold nW far
 obtain ⟨h1,h2,h3,h4⟩:=hp
 simp (disch:=first|omega|assumption|(constructor<;>first|assumption|omega)|simp only[LN];omega) only[↓SB,S1]
 refine ⟨fun h=>?_,fun h=>?_⟩
 ·simp;omega
 ·simp;omega
theorem Ac(t:Int):WW ρ 1 mG dS t:=by
 simp only[dS,RR]
 unfold mG
 simp (disch:=first|omega|assumption|(constructor<;>first|assumption|omega)|simp only[LN];omega) only[↓SB,S1,↓lB]
 first
 | (refine ⟨fun h=>?_,fun h=>?_⟩ <;>simp[isT,h]<;>omega)
 | (simp only[isT,List.cons.injEq,PV.bool.injEq,and_true];rw[Bool.eq_iff_iff];simp;omega)
theorem C4(n:Int):WW ρ 1 nX fq n:=by
 simp only[fq,RR]
 unfold nX
 simp (disch:=first|omega|assumption|(constructor<;>first|assumption|omega)|simp only[LN];omega) only[↓SB,S1,↓lB]
 first
 | (refine ⟨fun h=>?_,fun h=>?_⟩ <;>simp[isN,h]<;>omega)
 | (simp only[isN,List.cons.injEq,PV.bool.injEq,and_true];rw[Bool.eq_iff_iff];simp;omega)
def NF:=And.intro @ra (And.intro @oI (@uJ))
theorem NG(t:Int)(n:Int):WW ρ 2 vX lr (t,n):=by
 simp only[lr,RR]
 unfold vX gap
 have:=SR t;have:=qA n
 simp (disch:=first|omega|assumption|(constructor<;>first|assumption|omega)|simp only[LN];omega) only[↓SB,S1,↓NF]
 cases h1:isT t<;>cases h2:isN n<;>simp
theorem ED(t:Int)(a:Int)(b:Int):WW ρ 3 pi gG (t,a,b):=by
 simp only[gG,RR]
 unfold pi fm
 simp (disch:=first|omega|assumption|(constructor<;>first|assumption|omega)|simp only[LN];omega) only[↓SB,S1,↓nS]
 cases h1:isT t<;>cases h2:isN a<;>cases h3:isN b<;>simp
theorem LG(t:Int)(n:Int)(hp:isT t=true∧isN n=true):WW ρ 2 tH mj (t,n):=by
 simp only[mj,RR]
 unfold tH gap
 have:=SR t;have:=qA n
 obtain ⟨h1,h2⟩:=hp
 rw[Ea h1,rb h2,nR (by omega)]
def ub:=And.intro @kq (And.intro @dG (@mB))
theorem C5(t:Int)(a:Int)(b:Int):WW ρ 3 nY ft (t,a,b):=by
 simp only[ft,RR]
 unfold nY fm
 simp (disch:=first|omega|assumption|(constructor<;>first|assumption|omega)|simp only[LN];omega) only[↓SB,S1,↓ub]
 cases h1:isT t<;>cases h2:isN a<;>cases h3:isN b<;>simp
 rw[kq ⟨h1,h2⟩,kq ⟨h1,h3⟩]
 simp (disch:=first|omega|assumption|(constructor<;>first|assumption|omega)|simp only[LN];omega) only[↓SB,S1,↓ub]
theorem iI{t a b:Int}(h:fm t a b=true):(0≤t∧t<4)∧(0≤a∧a<8)∧(0≤b∧b<8)∧gap t a<gap t b:=by
 simp only[fm,Bool.and_eq_true,decide_eq_true_eq,iZ,dk] at h
 exact ⟨h.1.1.1,h.1.1.2,h.1.2,h.2⟩
end Go.Xt
end
section
set_option linter.unusedSimpArgs false
set_option linter.unusedVariables false
set_option maxRecDepth 100000
namespace Go.Xt
set_option linter.defProp false
theorem NH(l:List Int)(hg:ag (jP l).2.1):WW ρ 1 vY jP l:=by
 simp only[jP,RR] at hg ⊢
 unfold vY
 simp only[ag,aV] at hg
 simp (disch:=first|omega|assumption|(constructor<;>first|assumption|omega)|simp only[LN];omega) only[↓SB,S1,↓dW]
 refine ax.rule (α:=Nat) (fun i=>[I i]) (fun i=>i≤l.length∧(l.drop i).all isN=l.all isN) (fun i=>l.length-i) 0 rfl ⟨by omega,rfl⟩ (fun _=>rfl) ?_
 rintro i ⟨h1,h2⟩
 simp only[app]
 simp (disch:=first|omega|assumption|(constructor<;>first|assumption|omega)|simp only[LN];omega) only[↓SB,S1,↓dW]
 refine ⟨fun h=>?_,fun h=>?_⟩
 ·obtain ⟨x,hx⟩:=ak h
  rw[ay hx,List.all_cons] at h2
  simp (disch:=first|omega|assumption|(constructor<;>first|assumption|omega)|simp only[LN];omega) only[↓SB,S1,↓dW,af hx]
  refine ⟨fun h3=>?_,fun h3=>⟨i+1,rfl,⟨by omega,by simpa[h3] using h2⟩,by omega⟩⟩
  rw[h3] at h2;simp[←h2]
 ·rw[ap h] at h2
  simp[←h2]
theorem IB(t:Int)(self:Int)(l:List Int)(hg:ag (fL (t,self,l)).2.1):WW ρ 3 rm fL (t,self,l):=by
 simp only[fL,RR] at hg ⊢
 unfold rm
 simp only[ag,aV] at hg
 simp (disch:=first|omega|assumption|(constructor<;>first|assumption|omega)|simp only[LN];omega) only[↓SB,S1,↓dl]
 refine ax.rule (α:=Nat×Int) (fun a=>[I a.2,I a.1]) (fun a=>a.1≤l.length∧oD t a.2 (l.drop a.1)=oD t self l) (fun a=>l.length-a.1) (0,self) rfl ⟨by simp,rfl⟩ (fun _=>rfl) ?_
 rintro ⟨i,s⟩ ⟨h1,h2⟩
 simp only[app] at *
 simp (disch:=first|omega|assumption|(constructor<;>first|assumption|omega)|simp only[LN];omega) only[↓SB,S1,↓dl]
 refine ⟨fun h=>?_,fun h=>?_⟩
 ·obtain ⟨x,hx⟩:=ak h
  rw[ay hx,oD] at h2
  simp (disch:=first|omega|assumption|(constructor<;>first|assumption|omega)|simp only[LN];omega) only[↓SB,S1,↓dl,af hx]
  refine ⟨fun h3=>?_,fun h3=>⟨(i+1,x),rfl,⟨by simp;omega,by simpa[h3] using h2⟩,by simp;omega⟩⟩
  rw[h3] at h2;simp[←h2]
 ·rw[ap h] at h2
  simp[←h2,oD]
def xw:=And.intro @nS (And.intro @vV (@I1))
theorem IC(t:Int)(self:Int)(l:List Int)(depth:Int)(hg:ag (fM (t,self,l,depth)).2.1):WW ρ 4 rn fM (t,self,l,depth):=by
 simp only[fM,RR] at hg ⊢
 unfold rn chk
 rw[nS]
 refine SUB.v1 (bb (!(isT t&&isN self&&decide (1≤depth)&&decide (depth≤8)&&l.all isN))) ?_ ?_
 ·simp (disch:=first|omega|assumption|(constructor<;>first|assumption|omega)|simp only[LN];omega) only[↓SB,S1,↓xw]
  by_cases h3:1≤depth<;>by_cases h4:depth≤8<;>cases h1:isT t<;>cases h2:isN self<;>simp[h3,h4]<;>omega
 simp (disch:=first|omega|assumption|(constructor<;>first|assumption|omega)|simp only[LN];omega) only[↓SB,S1,↓xw]
 by_cases h:(isT t&&isN self&&decide (1≤depth)&&decide (depth≤8)&&l.all isN)=true
 ·rw[if_pos h];simp only[h]
  cases h5:oD t self l<;>simp<;>omega
 ·rw[if_neg h];simp[h]
theorem yE(l:List Int)(hp:l.length≤1000000):WW ρ 1 lD dq l:=by
 simp only[dq,RR]
 unfold lD
 simp (disch:=first|omega|assumption|(constructor<;>first|assumption|omega)|simp only[LN];omega) only[↓SB,S1]
theorem ID(a:List Int)(b:List Int)(hg:ag (fN (a,b)).2.1):WW ρ 2 ro fN (a,b):=by
 simp only[fN,RR] at hg ⊢
 unfold ro
 simp only[ag,aV] at hg
 simp (disch:=first|omega|assumption|(constructor<;>first|assumption|omega)|simp only[LN];omega) only[↓SB,S1]
 refine ⟨fun h=>?_,fun h=>?_⟩
 ·have:a≠b:=by rintro rfl;simp at h
  simp[this]
 have hl:a.length=b.length:=by omega
 refine ax.rule (α:=Nat) (fun i=>[I i]) (fun i=>i≤a.length∧((a=b)=(a.drop i=b.drop i))) (fun i=>a.length-i) 0 rfl ⟨by omega,by simp⟩ (fun _=>rfl) ?_
 rintro i ⟨h1,h2⟩
 simp only[app]
 simp (disch:=first|omega|assumption|(constructor<;>first|assumption|omega)|simp only[LN];omega) only[↓SB,S1]
 refine ⟨fun h=>?_,fun h=>?_⟩
 ·obtain ⟨x,hx⟩:=ak h
  obtain ⟨y,hy⟩:=ak (xs:=b) (i:=i) (by omega)
  simp (disch:=first|omega|assumption|(constructor<;>first|assumption|omega)|simp only[LN];omega) only[↓SB,S1,af hx,af hy]
  rw[ay hx,ay hy,List.cons.injEq] at h2
  refine ⟨fun h3=>?_,fun h3=>⟨i+1,rfl,⟨by omega,?_⟩,by omega⟩⟩
  ·simp[h2,h3]
  ·simpa[h3] using h2
 ·rw[ap h,ap (by omega)] at h2
  simp[h2]
def nc:=And.intro @kN (@dG)
theorem IE(t:Int)(self:Int)(l:List Int)(depth:Int)(hp:isT t=true∧isN self=true)(hg:ag (fO (t,self,l,depth)).2.1):WW ρ 4 rp fO (t,self,l,depth):=by
 simp only[fO,RR] at hg ⊢
 unfold rp Pq
 simp only[ag,aV] at hg
 refine ax.rule (α:=Nat) (fun i=>[I i]) (fun i=>i≤l.length∧(l.drop i).all isN=l.all isN) (fun i=>l.length-i) 0 rfl ⟨by omega,by simp⟩ (fun _=>rfl) ?_
 rintro i ⟨h1,h2⟩
 simp only[app]
 simp (disch:=first|omega|assumption|(constructor<;>first|assumption|omega)|simp only[LN];omega) only[↓SB,S1,↓nc]
 refine ⟨fun h=>?_,fun h=>?_⟩
 ·obtain ⟨x,hx⟩:=ak h
  rw[ay hx,List.all_cons] at h2
  simp (disch:=first|omega|assumption|(constructor<;>first|assumption|omega)|simp only[LN];omega) only[↓SB,S1,↓nc,af hx]
  refine ⟨fun h3=>?_,fun h3=>⟨i+1,rfl,⟨by omega,by simpa[h3] using h2⟩,by omega⟩⟩
  rw[h3] at h2;simp[←h2]
 ·rw[ap h] at h2
  simp only[←h2,List.all_nil,if_true]
  refine ⟨fun h3=>by simp[h3],fun h3=>?_⟩
  rw[if_neg (by omega)]
  refine ax.rule (α:=Nat×Int) (fun a=>[I a.2,I a.1]) (fun a=>a.1≤l.length∧oD t a.2 (l.drop a.1)=oD t self l) (fun a=>l.length-a.1) (0,self) rfl ⟨by simp,rfl⟩ (fun _=>rfl) ?_
  rintro ⟨i,s⟩ ⟨h1,h2⟩
  simp only[app] at *
  simp (disch:=first|omega|assumption|(constructor<;>first|assumption|omega)|simp only[LN];omega) only[↓SB,S1,↓nc]
  refine ⟨fun h=>?_,fun h=>?_⟩
  ·obtain ⟨x,hx⟩:=ak h
   rw[ay hx,oD] at h2
   simp (disch:=first|omega|assumption|(constructor<;>first|assumption|omega)|simp only[LN];omega) only[↓SB,S1,↓nc,af hx]
   refine ⟨fun h3=>?_,fun h3=>⟨(i+1,x),rfl,⟨by simp;omega,by simpa[h3] using h2⟩,by simp;omega⟩⟩
   rw[h3] at h2;simp[←h2]
  ·rw[ap h] at h2
   simp[←h2,oD]
end Go.Xt
end
section
set_option linter.unusedSimpArgs false
set_option linter.unusedVariables false
set_option maxRecDepth 100000
namespace Go.Xt
set_option linter.defProp false
theorem NI(n:Int)(lo:Int)(hi:Int):WW ρ 3 wa lv (n,lo,hi):=by
 simp only[lv,RR]
 unfold wa
 simp (disch:=first|omega|assumption|(constructor<;>first|assumption|omega)|simp only[LN];omega) only[↓S0,S3,S2,S1]
 simp
theorem C6(c:Config):WW ρ 7 o0 fv c:=by
 simp only[fv,RR]
 unfold o0
 simp (disch:=first|omega|assumption|(constructor<;>first|assumption|omega)|simp only[LN];omega) only[↓S0,S3,S2,S1,↓lB]
 simp[bC,rng,Bool.and_assoc]
def Ad:=And.intro @vg (@BL)
theorem Ae(c:Config):WW ρ 7 mL dT c:=by
 simp only[dT,RR]
 unfold mL
 simp (disch:=first|omega|assumption|(constructor<;>first|assumption|omega)|simp only[LN];omega) only[↓SB,S1,↓Ad]
 rw[vg]
 ·simp[oF,oE]
 ·simp
theorem Sn: ∀ {l:List Int},(∀e∈l,e=13)→iN l=if l=[] then 0 else 13
 | [],_=>by simp[iN]
 | e::r,h=>by
  have h9: ¬9∈e::r:=fun h'=>absurd (h 9 h') (by decide)
  simp only[iN,if_neg h9]
  simp[h e (by simp)]
theorem PJ{n lo hi why:Int}:(oE n lo hi why=[])=(rng n lo hi=true):=by
 unfold oE rng
 by_cases h:n<lo∨hi<n
 ·rw[if_pos h];simp;omega
 ·rw[if_neg h];simp;omega
theorem PK{n lo hi why e:Int}(h:e∈oE n lo hi why):e=why:=by
 unfold oE at h;split at h<;>simp at h;exact h
theorem lG{n lo hi why:Int}:(oE n lo hi why).length≤1:=by unfold oE;split<;>simp
theorem PL(c:Config):iN (oF c)=if bC c=true then 0 else 13:=by
 rw[Sn]
 ·have:(oF c=[])=(bC c=true):=by
   simp only[oF,List.append_eq_nil_iff,PJ,bC,Bool.and_eq_true]
  simp only[this]
 ·intro e h
  simp only[oF,List.mem_append] at h
  rcases h with (((((h | h) | h) | h) | h) | h) | h<;>exact PK h
def Af:=And.intro @BN (@zW)
theorem Ag(c:Config):WW ρ 7 mM dU c:=by
 simp only[dU,RR]
 unfold mM
 have h:(oF c).length≤1000:=by
  have h1:=@lG c.nodes 1 8 13;have h2:=@lG c.topics 1 4 13;have h3:=@lG c.kids 1 4 13;have h4:=@lG c.depth 1 8 13
  have h5:=@lG c.keep 1 16 13;have h6:=@lG c.window 1 16 13;have h7:=@lG c.queue 2 32 13
  simp only[oF,List.length_append];omega
 simp (disch:=first|omega|assumption|(constructor<;>first|assumption|omega)|simp only[LN];omega) only[↓SB,S1,↓Af]
 exact congrArg (fun x=>[I x]) (PL c)
end Go.Xt
end
section
set_option linter.unusedSimpArgs false
set_option linter.unusedVariables false
set_option maxRecDepth 100000
namespace Go.Xt
set_option linter.defProp false
theorem R5(n:Int)(lo:Int)(hi:Int):WW ρ 3 C2 qw (n,lo,hi):=by
 simp only[qw,RR]
 unfold C2 rng
 simp (disch:=first|omega|assumption|(constructor<;>first|assumption|omega)|simp only[LN];omega) only[↓S0,S3,S2,S1]
 simp
theorem PM(n:Int)(lo:Int)(hi:Int):WW ρ 3 yC ny (n,lo,hi):=by
 simp only[ny,RR]
 unfold yC rng
 simp (disch:=first|omega|assumption|(constructor<;>first|assumption|omega)|simp only[LN];omega) only[↓S0,S3,S2,S1]
 simp
theorem NJ(n:Int)(lo:Int)(hi:Int):WW ρ 3 wb lw (n,lo,hi):=by
 simp only[lw,RR]
 unfold wb rng
 simp (disch:=first|omega|assumption|(constructor<;>first|assumption|omega)|simp only[LN];omega) only[↓S0,S3,S2,S1]
 simp
theorem NK(n:Int)(lo:Int)(hi:Int):WW ρ 3 wc lx (n,lo,hi):=by
 simp only[lx,RR]
 unfold wc rng
 simp (disch:=first|omega|assumption|(constructor<;>first|assumption|omega)|simp only[LN];omega) only[↓S0,S3,S2,S1]
 simp
theorem EE(n:Int):WW ρ 1 pu gI n:=by
 simp only[gI,RR]
 unfold pu cnt
 simp (disch:=first|omega|assumption|(constructor<;>first|assumption|omega)|simp only[LN];omega) only[↓S0,S3,S2,S1,↓qx]
theorem LH(n:Int):WW ρ 1 tJ kh n:=by
 simp only[kh,RR]
 unfold tJ val
 simp (disch:=first|omega|assumption|(constructor<;>first|assumption|omega)|simp only[LN];omega) only[↓S0,S3,S2,S1,↓qx]
theorem EF(n:Int):WW ρ 1 pw gJ n:=by
 simp only[gJ,RR]
 unfold pw val
 simp (disch:=first|omega|assumption|(constructor<;>first|assumption|omega)|simp only[LN];omega) only[↓S0,S3,S2,S1,↓lB]
 try simp[rng]
theorem EG(n:Int):WW ρ 1 px gK n:=by
 simp only[gK,RR]
 unfold px cnt
 simp (disch:=first|omega|assumption|(constructor<;>first|assumption|omega)|simp only[LN];omega) only[↓S0,S3,S2,S1,↓cq]
theorem EH(e:Int):WW ρ 1 pq gH e:=by
 simp only[gH,RR]
 unfold pq
 repeat' (first | apply And.intro | intro _ | simp (disch:=first|omega|assumption|(constructor<;>first|assumption|omega)|simp only[LN];omega) only[↓SB,S1,↓dW])
 all_goals (simp_all[ep,rng];try omega)
theorem LI(e:Int):WW ρ 1 tI kg e:=by
 simp only[kg,RR]
 unfold tI
 cases he:ep e
 ·simp (disch:=first|omega|assumption|(constructor<;>first|assumption|omega)|simp only[LN];omega) only[↓SB,S1,↓jx]
  simp[he]
 ·have h0:0≤e:=by simp only[ep,rng,Bool.and_eq_true,decide_eq_true_eq] at he;omega
  simp (disch:=first|omega|assumption|(constructor<;>first|assumption|omega)|simp only[LN];omega) only[↓SB,S1,↓jx]
  simp[he]
theorem EI(e:Int):WW ρ 1 py gL e:=by
 simp only[gL,RR]
 unfold py
 cases he:rng e 1 1073741824
 ·simp (disch:=first|omega|assumption|(constructor<;>first|assumption|omega)|simp only[LN];omega) only[↓SB,S1,↓cq]
  simp[he,ep]
 ·have h0:0≤e:=by simp only[rng,Bool.and_eq_true,decide_eq_true_eq] at he;omega
  simp (disch:=first|omega|assumption|(constructor<;>first|assumption|omega)|simp only[LN];omega) only[↓SB,S1,↓cq]
  simp[he,ep,isN];omega
theorem IF(p:Peer):WW ρ 2 rv iP p:=by
 simp only[iP,RR]
 unfold rv
 simp (disch:=first|omega|assumption|(constructor<;>first|assumption|omega)|simp only[LN];omega) only[↓S0,S3,S2,S1]
 simp[nJ,rng,Bool.and_assoc]
def IG:=And.intro @dl (@bI)
theorem IH(t:Int)(self:Int)(k:Kid):WW ρ 5 rA iQ (t,self,k):=by
 simp only[iQ,RR]
 unfold rA
 simp (disch:=first|omega|assumption|(constructor<;>first|assumption|omega)|simp only[LN];omega) only[↓S0,S3,S2,S1,↓IG]
 simp[rng,Bool.and_assoc]
theorem II(seq:Int)(want:Int)(window:Int)(hp:cnt want=true∧rng window 1 16=true):WW ρ 3 rG iR (seq,want,window):=by
 simp only[iR,RR]
 unfold rG
 obtain ⟨h1,h2⟩:=hp
 simp only[cnt,rng,Bool.and_eq_true,decide_eq_true_eq] at h1 h2
 simp (disch:=first|omega|assumption|(constructor<;>first|assumption|omega)|simp only[LN];omega) only[↓S0,S3,S2,S1]
 simp[Bool.and_assoc]
theorem IJ(t:Int)(self:Int)(n:Int)(hg:ag (gd (t,self,n)).2.1):WW ρ 3 rK gd (t,self,n):=by
 simp only[gd,RR] at hg ⊢
 unfold rK
 simp only[ag,cj] at hg
 repeat' (first | apply And.intro | intro _ | simp (disch:=first|omega|assumption|(constructor<;>first|assumption|omega)|simp only[LN];omega) only[↓SB,S1,↓dl])
 all_goals (simp_all[gV];try omega)
def xx:=And.intro @kN (@cq)
theorem IK(t:Int)(self:Int)(n:Int)(hg:ag (ge (t,self,n)).2.1):WW ρ 3 rL ge (t,self,n):=by
 simp only[ge,RR] at hg ⊢
 unfold rL
 simp only[ag,cj] at hg
 cases h2:rng n 1 8
 ·simp (disch:=first|omega|assumption|(constructor<;>first|assumption|omega)|simp only[LN];omega) only[↓SB,S1,↓xx,h2]
  refine ⟨fun h1=>by simp[gV,h1],fun h1=>?_⟩
  have h9: ¬(0<n∧fm t (n-1) self=true):=by
   rintro ⟨h3,h4⟩
   have:=(iI h4).2.1
   simp[rng] at h2;omega
  simp only[gV,h1]
  cases h3:decide (0<n)<;>cases h4:fm t (n-1) self<;>simp_all<;>omega
 ·have h3:1≤n∧n≤8:=by simpa[rng] using h2
  simp (disch:=first|omega|assumption|(constructor<;>first|assumption|omega)|simp only[LN];omega) only[↓SB,S1,↓xx,h2]
  refine ⟨fun h1=>by omega,fun h1=>?_⟩
  simp[gV,h1];omega
theorem C7(self:Int)(x:Topic):WW ρ 17 o6 fw (self,x):=by
 simp only[fw,RR]
 unfold o6
 simp (disch:=first|omega|assumption|(constructor<;>first|assumption|omega)|simp only[LN];omega) only[↓S0,S3,S2,S1,↓L8]
 cases h0:decide (x.root=0)<;>cases h1:ep x.root<;>simp_all[my,Bool.and_assoc]
theorem C8(x:Topic)(hp:0≤x.parent∧x.parent≤8)(hg:ag (dz x).2.1):WW ρ 16 o7 dz x:=by
 simp only[dz,RR] at hg ⊢
 unfold o7 mg
 simp only[ag,cj,aV] at hg
 cases hx:x.path with
 | nil=>simp (disch:=first|omega|assumption|(constructor<;>first|assumption|omega)|simp only[LN];omega) only[↓SB,S1];simp
 | cons p r =>
  have h1: ¬((r.length:Int)+1=0):=by omega
  simp (disch:=first|omega|assumption|(constructor<;>first|assumption|omega)|simp only[LN];omega) only[↓SB,S1,OL,List.length_cons,Int.natCast_add,Int.cast_ofNat_Int,h1]
theorem LJ(s:Stream):WW ρ 5 tK ki s:=by
 simp only[ki,RR]
 unfold tK n7
 simp (disch:=first|omega|assumption|(constructor<;>first|assumption|omega)|simp only[LN];omega) only[↓S0,S3,S2,S1]
 simp[Bool.and_assoc]
end Go.Xt
end
section
set_option linter.unusedSimpArgs false
set_option linter.unusedVariables false
set_option maxRecDepth 100000
namespace Go.Xt
set_option linter.defProp false
theorem IL(l:List Peer)(hg:ag (fT l).2.1):WW ρ 1 rz fT l:=by
 simp only[fT,RR] at hg ⊢
 unfold rz bu
 simp only[ag,aV] at hg
 simp (disch:=first|omega|assumption|(constructor<;>first|assumption|omega)|simp only[LN];omega) only[↓SB,S1,↓rc]
 refine ⟨fun h=>?_,fun h=>⟨fun h2=>?_,fun h2=>?_⟩⟩
 ·simp[show ¬1≤l.length by omega]
 ·simp[show ¬l.length≤8 by omega]
 have e1:decide (1≤l.length)=true:=by simp;omega
 have e2:decide (l.length≤8)=true:=by simp;omega
 have e3:decide ((8:Int)<l.length)=false:=by simp;omega
 simp only[e1,e2,e3,Bool.true_and]
 refine ax.rule (α:=Nat) (fun i=>[I i]) (fun i=>i≤l.length∧(l.drop i).all (nJ)=l.all (nJ)) (fun i=>l.length-i) 0 rfl ⟨by omega,by simp⟩ (fun _=>rfl) ?_
 rintro i ⟨hl_i,hs_i⟩
 simp only[app]
 simp (disch:=first|omega|assumption|(constructor<;>first|assumption|omega)|simp only[LN];omega) only[↓SB,S1,↓rc]
 refine ⟨fun hc_i=>?_,fun hc_i=>?_⟩
 ·obtain ⟨x,hx⟩:=ak hc_i
  rw[ay hx,List.all_cons] at hs_i
  simp (disch:=first|omega|assumption|(constructor<;>first|assumption|omega)|simp only[LN];omega) only[↓SB,S1,↓rc,af hx]
  refine ⟨fun h3=>?_,fun h3=>⟨i+1,rfl,⟨by omega,by simpa[h3] using hs_i⟩,by omega⟩⟩
  rw[h3,Bool.false_and] at hs_i;simp[←hs_i,jm]
 ·rw[ap hc_i] at hs_i
  simp only[←hs_i];simp[h2,bh]
theorem EJ(l:List Peer)(hg:ag (eC l).2.1):WW ρ 1 pz eC l:=by
 simp only[eC,RR] at hg ⊢
 unfold pz bu
 simp only[ag,aV] at hg
 simp (disch:=first|omega|assumption|(constructor<;>first|assumption|omega)|simp only[LN];omega) only[↓SB,S1,↓cq]
 refine ⟨fun h=>?_,fun h=>?_⟩
 ·simp only[rng,Bool.and_eq_false_iff,decide_eq_false_iff_not] at h
  by_cases h1:1≤l.length<;>by_cases h2:l.length≤8<;>simp[h1,h2]<;>omega
 simp only[rng,Bool.and_eq_true,decide_eq_true_eq] at h
 have e1:decide (1≤l.length)=true:=by simp;omega
 have e2:decide (l.length≤8)=true:=by simp;omega
 simp only[e1,e2,Bool.true_and]
 refine ax.rule (α:=Nat) (fun i=>[I i]) (fun i=>i≤l.length∧(l.drop i).all (nJ)=l.all (nJ)) (fun i=>l.length-i) 0 rfl ⟨by omega,by simp⟩ (fun _=>rfl) ?_
 rintro i ⟨hl_i,hs_i⟩
 simp only[app]
 simp (disch:=first|omega|assumption|(constructor<;>first|assumption|omega)|simp only[LN];omega) only[↓SB,S1,↓cq]
 refine ⟨fun hc_i=>?_,fun hc_i=>?_⟩
 ·obtain ⟨x,hx⟩:=ak hc_i
  rw[ay hx,List.all_cons] at hs_i
  simp (disch:=first|omega|assumption|(constructor<;>first|assumption|omega)|simp only[LN];omega) only[↓SB,S1,↓cq,af hx]
  refine ⟨fun h3=>?_,fun h3=>⟨fun h4=>?_,fun h4=>⟨i+1,rfl,⟨by omega,by simpa[nJ,h3,h4] using hs_i⟩,by omega⟩⟩⟩
  ·rw[←hs_i];simp[nJ,h3]
  ·rw[←hs_i];simp[nJ,h4]
 ·rw[ap hc_i] at hs_i
  simp only[←hs_i];simp
theorem dlt(a b:Int):decide (a<b)= !decide (b≤a):=by rw[Bool.eq_iff_iff];simp
theorem sd{t a b c:Int}(h1:fm t a b=true)(h2:fm t b c=true):fm t a c=true:=by
 obtain ⟨a1,a2,a3,a4⟩:=iI h1
 obtain ⟨b1,b2,b3,b4⟩:=iI h2
 simp only[fm,Bool.and_eq_true,decide_eq_true_eq,iZ,dk]
 exact ⟨⟨⟨a1,a2⟩,b3⟩,by omega⟩
theorem zz{t a:Int}{k:Kid}{r:List Kid}:ln t a (k::r)=(fm t a k.node&&cnt k.inc&&rng k.age 0 6&&ln t k.node r):=rfl
def jb:=And.intro @dl (And.intro @nS (@I7))
theorem IM(t:Int)(self:Int)(limit:Int)(l:List Kid)(hg:ag (fU (t,self,limit,l)).2.1):WW ρ 4 rB fU (t,self,limit,l):=by
 simp only[fU,RR] at hg ⊢
 unfold rB jM
 simp only[ag,cj,aV] at hg
 rw[nS]
 refine SUB.v1 (bb (!(isT t&&isN self&&rng limit 1 4&&decide ((l.length:Int)≤limit)))) ?_ ?_
 ·cases h1:(isT t&&isN self)
  ·simp (disch:=first|omega|assumption|(constructor<;>first|assumption|omega)|simp only[LN];omega) only[↓SB,S1,↓jb,h1]
   simp
  ·repeat' (first | apply And.intro | intro _ | simp (disch:=first|omega|assumption|(constructor<;>first|assumption|omega)|simp only[LN];omega) only[↓SB,S1,↓jb])
   all_goals (simp_all[rng];try (first | omega | exact dlt _ _))
 simp (disch:=first|omega|assumption|(constructor<;>first|assumption|omega)|simp only[LN];omega) only[↓SB,S1,↓jb]
 refine ⟨fun h=>by simp[h],fun h=>?_⟩
 simp only[h,Bool.true_and]
 refine ax.rule (α:=Nat) (fun i=>[I i]) (fun i=>i≤l.length∧ ∃p,(i=0→p=self)∧(0<i→ ∃k,l[i-1]? =some k∧p=k.node∧fm t self p=true)∧ln t p (l.drop i)=ln t self l) (fun i=>l.length-i) 0 rfl ⟨by omega,self,by simp⟩ (fun _=>rfl) ?_
 rintro i ⟨hl,p,hp0,hp1,hs⟩
 simp only[app]
 simp (disch:=first|omega|assumption|(constructor<;>first|assumption|omega)|simp only[LN];omega) only[↓SB,S1,↓jb]
 refine ⟨fun hc=>?_,fun hc=>?_⟩
 ·obtain ⟨x,hx⟩:=ak hc
  rw[ay hx,zz] at hs
  simp (disch:=first|omega|assumption|(constructor<;>first|assumption|omega)|simp only[LN];omega) only[↓SB,S1,↓jb,af hx]
  refine ⟨fun h3=>?_,fun h3=>⟨fun h4=>?_,fun h4=>?_⟩⟩
  ·have hf:ln t self l=false:=by
    rw[←hs]
    cases hn:fm t p x.node with
    | false=>simp
    | true =>
     have hns:fm t self x.node=true:=by
      rcases Nat.eq_zero_or_pos i with h0 | h0
      ·rw[←hp0 h0];exact hn
      ·obtain ⟨k,_,_,hk⟩:=hp1 h0;exact sd hk hn
     rw[hns] at h3
     cases h5:cnt x.inc<;>cases h6:rng x.age 0 6<;>simp_all
   rw[hf];simp
  ·simp only[Bool.and_eq_true] at h3
   obtain ⟨⟨h5,h6⟩,h7⟩:=h3
   obtain ⟨k,hk,rfl,hnk⟩:=hp1 (by omega)
   have e1:((i:Int)-1)=((i-1:Nat):Int):=by omega
   simp (disch:=first|omega|assumption|(constructor<;>first|assumption|omega)|simp only[LN];omega) only[↓SB,S1,↓jb,e1,af hk]
   refine ⟨fun h8=>?_,fun h8=>⟨i+1,by simp,⟨by omega,x.node,by simp,fun _=>⟨x,by simpa using hx,rfl,h5⟩,?_⟩,by omega⟩⟩
   ·rw[←hs,h8];simp
   ·rw[←hs,h8,h6,h7];simp
  ·simp only[Bool.and_eq_true] at h3
   obtain ⟨⟨h5,h6⟩,h7⟩:=h3
   have h0:i=0:=by omega
   rw[hp0 h0] at hs
   refine ⟨i+1,by simp,⟨by omega,x.node,by simp,fun _=>⟨x,by simpa using hx,rfl,h5⟩,?_⟩,by omega⟩
   rw[←hs,h5,h6,h7];simp
 ·rw[ap hc] at hs
  simp[←hs,ln]
def nd:=And.intro @kN (And.intro @dG (And.intro @mB (@cq)))
theorem IO(t:Int)(self:Int)(limit:Int)(l:List Kid)(hg:ag (fV (t,self,limit,l)).2.1):WW ρ 4 rC fV (t,self,limit,l):=by
 simp only[fV,RR] at hg ⊢
 unfold rC jM
 simp only[ag,cj,aV] at hg
 refine SUB.v1 (bb (!(isT t&&isN self&&rng limit 1 4&&decide ((l.length:Int)≤limit)))) ?_ ?_
 ·repeat' (first | apply And.intro | intro _ | simp (disch:=first|omega|assumption|(constructor<;>first|assumption|omega)|simp only[LN];omega) only[↓SB,S1,↓nd])
  all_goals (simp_all;try (first | omega | exact dlt _ _))
 simp (disch:=first|omega|assumption|(constructor<;>first|assumption|omega)|simp only[LN];omega) only[↓SB,S1,↓nd]
 refine ⟨fun h=>by simp[h],fun h=>?_⟩
 simp only[h,Bool.true_and]
 refine ax.rule (α:=Nat×Int) (fun a=>[I a.2,I a.1]) (fun a=>a.1≤l.length∧ln t a.2 (l.drop a.1)=ln t self l) (fun a=>l.length-a.1) (0,self) rfl ⟨by simp,by simp⟩ (fun _=>rfl) ?_
 rintro ⟨i,p⟩ ⟨hl,hs⟩
 simp only[app] at *
 simp (disch:=first|omega|assumption|(constructor<;>first|assumption|omega)|simp only[LN];omega) only[↓SB,S1,↓nd]
 refine ⟨fun hc=>?_,fun hc=>?_⟩
 ·obtain ⟨x,hx⟩:=ak hc
  rw[ay hx,zz] at hs
  simp (disch:=first|omega|assumption|(constructor<;>first|assumption|omega)|simp only[LN];omega) only[↓SB,S1,↓nd,af hx]
  refine ⟨fun h3=>?_,fun h3=>⟨fun h4=>?_,fun h4=>⟨fun h5=>?_,fun h5=>⟨fun h6=>?_,fun h6=>⟨(i+1,x.node),by simp,⟨by omega,?_⟩,by simp;omega⟩⟩⟩⟩⟩
  ·have:fm t p x.node=false:=by
    cases hn:fm t p x.node with
    | false=>rfl
    | true=>have:=(iI hn).2.2.1;rw[dk.2 this] at h3;cases h3
   rw[←hs,this];simp
  ·rw[←hs,h4];simp
  ·rw[←hs];simp[cnt,h5]
  ·rw[←hs,h6];simp
  ·rw[←hs,h4,h6];simp[cnt,h5]
 ·rw[ap hc] at hs
  simp[←hs,ln]
end Go.Xt
end
section
set_option linter.unusedSimpArgs false
set_option linter.unusedVariables false
set_option maxRecDepth 100000
namespace Go.Xt
set_option linter.defProp false
theorem zA{n:Int}{x:Item}{r:List Item}:du n (x::r)=(decide (x.seq=n)&&val x.value&&du (n+1) r):=rfl
theorem C9{m p:Int}{x:Item}{r:List Item}:hZ m p (x::r)=(decide (p<x.seq)&&decide (x.seq<m)&&decide (x.seq<1073741824)&&val x.value&&hZ m x.seq r):=rfl
theorem se{n:Int}(h:cnt n=true):1≤n∧n≤1073741824:=by simpa[cnt,rng] using h
theorem aZ{n a b:Int}(h:rng n a b=true):a≤n∧n≤b:=by simpa[rng] using h
theorem IP(l:List Item)(want:Int)(hp:cnt want=true∧l.length≤16)(hg:ag (fW (l,want)).2.1):WW ρ 2 rD fW (l,want):=by
 simp only[fW,RR] at hg ⊢
 unfold rD
 obtain ⟨hw,hl16⟩:=hp
 have hw:=se hw
 simp (disch:=first|omega|assumption|(constructor<;>first|assumption|omega)|simp only[LN];omega) only[↓SB,S1,↓cb]
 refine ax.rule (α:=Nat) (fun i=>[I i]) (fun i=>i≤l.length∧(0<i→(l.length:Int)<want)∧du (want-l.length+i) (l.drop i)=du (want-l.length) l) (fun i=>l.length-i) 0 rfl ⟨by omega,by omega,by simp⟩ (fun _=>rfl) ?_
 rintro i ⟨hl,hpos,hs⟩
 simp only[app]
 simp (disch:=first|omega|assumption|(constructor<;>first|assumption|omega)|simp only[LN];omega) only[↓SB,S1,↓cb]
 refine ⟨fun hc=>?_,fun hc=>?_⟩
 ·obtain ⟨x,hx⟩:=ak hc
  rw[ay hx,zA] at hs
  simp (disch:=first|omega|assumption|(constructor<;>first|assumption|omega)|simp only[LN];omega) only[↓SB,S1,↓cb,af hx]
  refine ⟨fun h1=>?_,fun h1=>⟨fun h2=>?_,fun h2=>⟨fun h3=>?_,fun h3=>⟨i+1,by simp,⟨by omega,fun _=>?_,?_⟩,by omega⟩⟩⟩⟩
  ·rw[←hs]
   by_cases h2:x.seq=want-l.length+i
   ·have: ¬(l.length:Int)<want:=fun h=>by omega
    simp[this]
   ·simp[h2]
  ·rw[←hs];simp[h2]
  ·rw[←hs];simp[h3]
  ·rcases Nat.eq_zero_or_pos i with h0 | h0
   ·subst h0;omega
   ·exact hpos h0
  ·rw[←hs,h3];simp[h2,Int.add_assoc]
 ·rw[ap hc] at hs
  rw[←hs]
  have:(l.length:Int)<want:=by
   rcases Nat.eq_zero_or_pos i with h0 | h0
   ·omega
   ·exact hpos h0
  simp[this,du]
def sf:=And.intro @bI (@Ia)
theorem IQ(l:List Item)(want:Int)(limit:Int)(hg:ag (fX (l,want,limit)).2.1):WW ρ 3 rE fX (l,want,limit):=by
 simp only[fX,RR] at hg ⊢
 unfold rE fJ
 simp only[ag,cj,aV] at hg
 cases h1:cnt want
 ·simp (disch:=first|omega|assumption|(constructor<;>first|assumption|omega)|simp only[LN];omega) only[↓SB,S1,↓sf,h1]
  simp
 cases h2:(rng limit 1 16&&decide ((l.length:Int)≤limit))
 ·repeat' (first | apply And.intro | intro _ | simp (disch:=first|omega|assumption|(constructor<;>first|assumption|omega)|simp only[LN];omega) only[↓SB,S1,↓sf])
  all_goals (simp_all[rng];try omega)
 ·simp only[Bool.and_eq_true,decide_eq_true_eq] at h2
  have h3:=aZ h2.1
  rw[h2.1]
  simp (disch:=first|omega|assumption|(constructor<;>first|assumption|omega)|simp only[LN];omega) only[↓SB,S1,↓sf,h1]
  have e1: ¬limit<1:=by omega
  have e2: ¬16<limit:=by omega
  have e3: ¬limit<(l.length:Int):=by omega
  have e4:decide ((l.length:Int)≤limit)=true:=by simp;omega
  refine ⟨fun h=>absurd h e1,fun _=>⟨fun h=>absurd h e2,fun _=>⟨fun h=>absurd h e3,fun _=>?_⟩⟩⟩
  cases h5:(decide ((l.length:Int)<want)&&du (want-l.length) l)<;>simp_all
def ng:=And.intro @gQ (@cq)
theorem IR(l:List Item)(want:Int)(limit:Int)(hg:ag (fY (l,want,limit)).2.1):WW ρ 3 rF fY (l,want,limit):=by
 simp only[fY,RR] at hg ⊢
 unfold rF fJ
 simp only[ag,cj,aV] at hg
 refine SUB.v1 (bb (!(cnt want&&rng limit 1 16&&decide ((l.length:Int)≤limit)&&decide ((l.length:Int)<want)))) ?_ ?_
 ·repeat' (first | apply And.intro | intro _ | simp (disch:=first|omega|assumption|(constructor<;>first|assumption|omega)|simp only[LN];omega) only[↓SB,S1,↓ng])
  all_goals (simp_all[cnt];try (first | omega | exact dlt _ _))
  all_goals (rw[Bool.eq_iff_iff];simp)
 simp (disch:=first|omega|assumption|(constructor<;>first|assumption|omega)|simp only[LN];omega) only[↓SB,S1,↓ng]
 refine ⟨fun h=>by simp[h],fun h=>?_⟩
 simp only[h,Bool.true_and]
 simp only[Bool.and_eq_true,decide_eq_true_eq] at h
 obtain ⟨⟨⟨h1,h2⟩,h3⟩,h4⟩:=h
 have h1:=se h1
 have h2:=aZ h2
 refine ax.rule (α:=Nat) (fun i=>[I i]) (fun i=>i≤l.length∧du (want-l.length+i) (l.drop i)=du (want-l.length) l) (fun i=>l.length-i) 0 rfl ⟨by omega,by simp⟩ (fun _=>rfl) ?_
 rintro i ⟨hl,hs⟩
 simp only[app]
 simp (disch:=first|omega|assumption|(constructor<;>first|assumption|omega)|simp only[LN];omega) only[↓SB,S1,↓ng]
 refine ⟨fun hc=>?_,fun hc=>?_⟩
 ·obtain ⟨x,hx⟩:=ak hc
  rw[ay hx,zA] at hs
  simp (disch:=first|omega|assumption|(constructor<;>first|assumption|omega)|simp only[LN];omega) only[↓SB,S1,↓ng,af hx]
  refine ⟨fun h2=>?_,fun h2=>⟨fun h3=>?_,fun h3=>⟨i+1,by simp,⟨by omega,?_⟩,by omega⟩⟩⟩
  ·rw[←hs];simp[h2]
  ·rw[←hs];simp[h3]
  ·rw[←hs,h3];simp[h2,Int.add_assoc]
 ·rw[ap hc] at hs
  rw[←hs];simp[du]
def jz:=And.intro @cb (And.intro @bI (@Ic))
theorem EK(l:List Item)(want:Int)(window:Int)(hg:ag (eD (l,want,window)).2.1):WW ρ 3 pA eD (l,want,window):=by
 simp only[eD,RR] at hg ⊢
 unfold pA lV
 simp only[ag,cj,aV] at hg
 refine SUB.v1 (bb (!(cnt want&&rng window 1 16))) ?_ ?_
 ·repeat' (first | apply And.intro | intro _ | simp (disch:=first|omega|assumption|(constructor<;>first|assumption|omega)|simp only[LN];omega) only[↓SB,S1,↓jz])
  all_goals (simp_all[rng];try (first | omega | exact dlt _ _))
 simp (disch:=first|omega|assumption|(constructor<;>first|assumption|omega)|simp only[LN];omega) only[↓SB,S1,↓jz]
 refine ⟨fun h=>by simp[h],fun h=>?_⟩
 simp only[h,Bool.true_and]
 simp only[Bool.and_eq_true,decide_eq_true_eq] at h
 obtain ⟨h1',h2'⟩:=h
 have h1:=se h1'
 have h2:=aZ h2'
 refine ax.rule (α:=Nat) (fun i=>[I i]) (fun i=>i≤l.length∧ ∃p,(i=0→p=want)∧(0<i→ ∃k,l[i-1]? =some k∧p=k.seq)∧want≤p∧hZ (want+window) p (l.drop i)=hZ (want+window) want l) (fun i=>l.length-i) 0 rfl ⟨by omega,want,by simp⟩ (fun _=>rfl) ?_
 rintro i ⟨hl,p,hp0,hp1,hwp,hs⟩
 simp only[app]
 simp (disch:=first|omega|assumption|(constructor<;>first|assumption|omega)|simp only[LN];omega) only[↓SB,S1,↓jz]
 refine ⟨fun hc=>?_,fun hc=>?_⟩
 ·obtain ⟨x,hx⟩:=ak hc
  rw[ay hx,C9] at hs
  simp (disch:=first|omega|assumption|(constructor<;>first|assumption|omega)|simp only[LN];omega) only[↓SB,S1,↓jz,af hx]
  refine ⟨fun h3=>?_,fun h3=>⟨fun h4=>?_,fun h4=>⟨fun h5=>?_,fun h5=>?_⟩⟩⟩
  ·have:(decide (p<x.seq)&&decide (x.seq<want+window)&&decide (x.seq<1073741824))=false:=by
    rw[Bool.eq_false_iff] at h3 ⊢
    intro h6;apply h3
    simp only[Bool.and_eq_true,decide_eq_true_eq] at h6 ⊢
    omega
   rw[←hs,this];simp
  ·rw[←hs,h4];simp
  ·obtain ⟨k,hk,rfl⟩:=hp1 (by omega)
   have e1:((i:Int)-1)=((i-1:Nat):Int):=by omega
   simp (disch:=first|omega|assumption|(constructor<;>first|assumption|omega)|simp only[LN];omega) only[↓SB,S1,↓jz,e1,af hk]
   simp only[Bool.and_eq_true,decide_eq_true_eq] at h3
   refine ⟨fun h8=>?_,fun h8=>⟨i+1,by simp,⟨by omega,x.seq,by simp,fun _=>⟨x,by simpa using hx,rfl⟩,by omega,?_⟩,by omega⟩⟩
   ·rw[←hs];simp[show ¬k.seq<x.seq by omega]
   ·rw[←hs,h4];simp[show k.seq<x.seq by omega,h3]
  ·have h0:i=0:=by omega
   rw[hp0 h0] at hs
   simp only[Bool.and_eq_true,decide_eq_true_eq] at h3
   refine ⟨i+1,by simp,⟨by omega,x.seq,by simp,fun _=>⟨x,by simpa using hx,rfl⟩,by omega,?_⟩,by omega⟩
   rw[←hs,h4];simp[h3]
 ·rw[ap hc] at hs
  simp[←hs,hZ]
def iJ:=And.intro @gQ (@cq)
theorem Ca(l:List Item)(want:Int)(window:Int)(hg:ag (dx (l,want,window)).2.1):WW ρ 3 o4 dx (l,want,window):=by
 simp only[dx,RR] at hg ⊢
 unfold o4 lV
 simp only[ag,cj,aV] at hg
 refine SUB.v1 (bb (!(cnt want&&rng window 1 16))) ?_ ?_
 ·repeat' (first | apply And.intro | intro _ | simp (disch:=first|omega|assumption|(constructor<;>first|assumption|omega)|simp only[LN];omega) only[↓SB,S1,↓iJ])
  all_goals (simp_all[cnt];try (first | omega | exact dlt _ _))
 simp (disch:=first|omega|assumption|(constructor<;>first|assumption|omega)|simp only[LN];omega) only[↓SB,S1,↓iJ]
 refine ⟨fun h=>by simp[h],fun h=>?_⟩
 simp only[h,Bool.true_and]
 simp only[Bool.and_eq_true,decide_eq_true_eq] at h
 obtain ⟨h1',h2'⟩:=h
 have h1:=se h1'
 have h2:=aZ h2'
 refine ax.rule (α:=Nat) (fun i=>[I i]) (fun i=>i≤l.length∧ ∃p,(i=0→p=want)∧(0<i→ ∃k,l[i-1]? =some k∧p=k.seq)∧want≤p∧hZ (want+window) p (l.drop i)=hZ (want+window) want l) (fun i=>l.length-i) 0 rfl ⟨by omega,want,by simp⟩ (fun _=>rfl) ?_
 rintro i ⟨hl,p,hp0,hp1,hwp,hs⟩
 simp only[app]
 simp (disch:=first|omega|assumption|(constructor<;>first|assumption|omega)|simp only[LN];omega) only[↓SB,S1,↓iJ]
 refine ⟨fun hc=>?_,fun hc=>?_⟩
 ·obtain ⟨x,hx⟩:=ak hc
  rw[ay hx,C9] at hs
  simp (disch:=first|omega|assumption|(constructor<;>first|assumption|omega)|simp only[LN];omega) only[↓SB,S1,↓iJ,af hx]
  refine ⟨fun h3=>?_,fun h3=>⟨fun h4=>?_,fun h4=>⟨fun h5=>?_,fun h5=>⟨fun h6=>?_,fun h6=>?_⟩⟩⟩⟩
  ·rw[←hs];simp[show ¬p<x.seq by omega]
  ·rw[←hs];simp[show ¬x.seq<want+window by omega]
  ·rw[←hs];simp[show ¬x.seq<1073741824 by omega]
  ·obtain ⟨k,hk,rfl⟩:=hp1 (by omega)
   have e1:((i:Int)-1)=((i-1:Nat):Int):=by omega
   simp (disch:=first|omega|assumption|(constructor<;>first|assumption|omega)|simp only[LN];omega) only[↓SB,S1,↓iJ,e1,af hk]
   refine ⟨fun h8=>?_,fun h8=>⟨fun h9=>?_,fun h9=>⟨i+1,by simp,⟨by omega,x.seq,by simp,fun _=>⟨x,by simpa using hx,rfl⟩,by omega,?_⟩,by omega⟩⟩⟩
   ·rw[←hs];simp[show ¬k.seq<x.seq by omega]
   ·rw[←hs,h9];simp
   ·rw[←hs,h9];simp[show k.seq<x.seq by omega,show x.seq<want+window by omega,show x.seq<1073741824 by omega]
  ·have h0:i=0:=by omega
   rw[hp0 h0] at hs
   refine ⟨fun h9=>?_,fun h9=>⟨i+1,by simp,⟨by omega,x.seq,by simp,fun _=>⟨x,by simpa using hx,rfl⟩,by omega,?_⟩,by omega⟩⟩
   ·rw[←hs,h9];simp
   ·rw[←hs,h9];simp[show want<x.seq by omega,show x.seq<want+window by omega,show x.seq<1073741824 by omega]
 ·rw[ap hc] at hs
  simp[←hs,hZ]
end Go.Xt
end
section
set_option linter.unusedSimpArgs false
set_option linter.unusedVariables false
set_option maxRecDepth 100000
namespace Go.Xt
set_option linter.defProp false
def gR:=And.intro @cb (And.intro @dW (And.intro @bI (@jx)))
theorem EL(x:Event):WW ρ 6 pB gM x:=by
 simp only[gM,RR]
 unfold pB
 generalize hE:dL x=q
 unfold dL at hE
 by_cases k1:x.kind=1
 ·rw[eo,decide_eq_true k1,jm]
  simp (disch:=first|omega|assumption|(constructor<;>first|assumption|omega)|simp only[LN];omega) only[↓S0,S3,S2,S1,↓gR,k1]
  simp only[k1,if_true] at hE
  subst hE
  cases ep x.epoch<;>cases cnt x.seq<;>cases val x.value<;>by_cases h1:x.last=0<;>by_cases h2:x.count=0<;>simp[h1,h2]
 by_cases k2:x.kind=2
 ·rw[eo,decide_eq_false k1,bh,eo,decide_eq_true k2,jm]
  simp (disch:=first|omega|assumption|(constructor<;>first|assumption|omega)|simp only[LN];omega) only[↓S0,S3,S2,S1,↓gR,k2]
  simp only[k2,if_true] at hE
  simp at hE
  subst hE
  cases ep x.epoch<;>cases cnt x.seq<;>by_cases h3:x.seq≤x.last<;>by_cases h4:x.last≤1073741824<;>by_cases h1:x.value=0<;>by_cases h2:x.count=0<;>simp[h1,h2,h3,h4,rng]
 by_cases k3:x.kind=3
 ·rw[eo,decide_eq_false k1,bh,eo,decide_eq_false k2,bh,eo,decide_eq_true k3,jm]
  simp (disch:=first|omega|assumption|(constructor<;>first|assumption|omega)|simp only[LN];omega) only[↓S0,S3,S2,S1,↓gR,k3]
  simp[k3] at hE
  subst hE
  cases isN x.value<;>by_cases h3:1≤x.count<;>by_cases h4:x.count≤40<;>by_cases h1:x.epoch=0<;>by_cases h2:x.seq=0<;>by_cases h5:x.last=0<;>simp[h1,h2,h3,h4,h5,rng]
 by_cases k4:x.kind=4
 ·rw[eo,decide_eq_false k1,bh,eo,decide_eq_false k2,bh,eo,decide_eq_false k3,bh,eo,decide_eq_true k4,jm]
  simp (disch:=first|omega|assumption|(constructor<;>first|assumption|omega)|simp only[LN];omega) only[↓S0,S3,S2,S1,↓gR,k4]
  simp[k4] at hE
  subst hE
  by_cases h3:1≤x.count<;>by_cases h4:x.count≤40<;>by_cases h1:x.epoch=0<;>by_cases h2:x.seq=0<;>by_cases h5:x.last=0<;>by_cases h6:x.value=0<;>simp[h1,h2,h3,h4,h5,h6,rng]
 by_cases k5:x.kind=5
 ·rw[eo,decide_eq_false k1,bh,eo,decide_eq_false k2,bh,eo,decide_eq_false k3,bh,eo,decide_eq_false k4,bh,eo,decide_eq_true k5,jm]
  simp (disch:=first|omega|assumption|(constructor<;>first|assumption|omega)|simp only[LN];omega) only[↓S0,S3,S2,S1,↓gR,k5]
  simp[k5] at hE
  subst hE
  by_cases h3:x.count=0<;>by_cases h1:x.epoch=0<;>by_cases h2:x.seq=0<;>by_cases h5:x.last=0<;>by_cases h6:x.value=0<;>simp[h1,h2,h3,h5,h6]
 ·rw[eo,decide_eq_false k1,bh,eo,decide_eq_false k2,bh,eo,decide_eq_false k3,bh,eo,decide_eq_false k4,bh,eo,decide_eq_false k5,bh]
  simp (disch:=first|omega|assumption|(constructor<;>first|assumption|omega)|simp only[LN];omega) only[↓S0,S3,S2,S1,↓gR]
  simp[k1,k2,k3,k4,k5] at hE
  subst hE
  simp
def gS:=And.intro @gQ (And.intro @dG (And.intro @cq (And.intro @pd (@vh))))
theorem EM(x:Event):WW ρ 6 pC gN x:=by
 simp only[gN,RR]
 unfold pC
 generalize hE:dL x=q
 unfold dL at hE
 by_cases k1:x.kind=1
 ·simp (disch:=first|omega|assumption|(constructor<;>first|assumption|omega)|simp only[LN];omega) only[↓S0,S3,S2,S1,↓gS,k1]
  simp only[k1,if_true] at hE
  subst hE
  cases ep x.epoch<;>cases cnt x.seq<;>cases val x.value<;>simp
 by_cases k2:x.kind=2
 ·simp (disch:=first|omega|assumption|(constructor<;>first|assumption|omega)|simp only[LN];omega) only[↓S0,S3,S2,S1,↓gS,k2]
  simp[k2] at hE
  subst hE
  cases ep x.epoch<;>cases cnt x.seq<;>cases rng x.last x.seq 1073741824<;>simp
 by_cases k3:x.kind=3
 ·simp (disch:=first|omega|assumption|(constructor<;>first|assumption|omega)|simp only[LN];omega) only[↓S0,S3,S2,S1,↓gS,k3]
  simp[k3] at hE
  subst hE
  cases isN x.value<;>cases rng x.count 1 40<;>simp[Bool.and_assoc]
 by_cases k4:x.kind=4
 ·simp (disch:=first|omega|assumption|(constructor<;>first|assumption|omega)|simp only[LN];omega) only[↓S0,S3,S2,S1,↓gS,k4]
  simp[k4] at hE
  subst hE
  cases rng x.count 1 40<;>simp[Bool.and_assoc]
 by_cases k5:x.kind=5
 ·simp (disch:=first|omega|assumption|(constructor<;>first|assumption|omega)|simp only[LN];omega) only[↓S0,S3,S2,S1,↓gS,k5]
  simp[k5] at hE
  subst hE
  simp[Bool.and_assoc]
 ·simp (disch:=first|omega|assumption|(constructor<;>first|assumption|omega)|simp only[LN];omega) only[↓S0,S3,S2,S1,↓gS,k1,k2,k3,k4,k5]
  simp[k1,k2,k3,k4,k5] at hE
  subst hE
  simp
end Go.Xt
end
section
set_option linter.unusedSimpArgs false
set_option linter.unusedVariables false
set_option maxRecDepth 100000
namespace Go.Xt
set_option linter.defProp false
theorem zB{l:List Event}{x:Event}(h:l[l.length-1]? =some x):n6 l=decide (x.kind=2):=by
 unfold n6
 rw[List.getLast?_eq_getElem?,h]
theorem LK{α:Type}{l:List α}(h:0<l.length): ∃x,l[l.length-1]? =some x:=⟨l[l.length-1]'(by omega),by simp[show l.length-1<l.length by omega]⟩
theorem EN(l:List Event)(limit:Int)(hg:ag (eE (l,limit)).2.1):WW ρ 2 pD eE (l,limit):=by
 simp only[eE,RR] at hg ⊢
 unfold pD
 simp only[ag,cj,aV] at hg
 refine SUB.v1 (bb (!(rng limit 2 32&&decide ((l.length:Int)≤limit)))) ?_ ?_
 ·repeat' (first | apply And.intro | intro _ | simp (disch:=first|omega|assumption|(constructor<;>first|assumption|omega)|simp only[LN];omega) only[↓SB,S1,↓cM])
  all_goals (simp_all[rng];try (first | omega | exact dlt _ _))
 cases hr:(rng limit 2 32&&decide ((l.length:Int)≤limit))
 ·refine SUB.v1 (bb true) (by simp (disch:=first|omega|assumption|(constructor<;>first|assumption|omega)|simp only[LN];omega) only[↓SB,S1,↓cM]) ?_
  simp (disch:=first|omega|assumption|(constructor<;>first|assumption|omega)|simp only[LN];omega) only[↓SB,S1,↓cM]
  simp[bd,hr]
 simp only[Bool.and_eq_true,decide_eq_true_eq] at hr
 have hb:=aZ hr.1
 refine SUB.v1 (bb (!(l.all dL))) ?_ ?_
 ·simp (disch:=first|omega|assumption|(constructor<;>first|assumption|omega)|simp only[LN];omega) only[↓SB,S1,↓cM]
  refine ax.rule (α:=Nat) (fun i=>[I i]) (fun i=>i≤l.length∧(l.drop i).all (dL)=l.all (dL)) (fun i=>l.length-i) 0 rfl ⟨by omega,by simp⟩ (fun _=>rfl) ?_
  rintro i ⟨hl_i,hs_i⟩
  simp only[app]
  simp (disch:=first|omega|assumption|(constructor<;>first|assumption|omega)|simp only[LN];omega) only[↓SB,S1,↓cM]
  refine ⟨fun hc_i=>?_,fun hc_i=>?_⟩
  ·obtain ⟨x,hx⟩:=ak hc_i
   rw[ay hx,List.all_cons] at hs_i
   simp (disch:=first|omega|assumption|(constructor<;>first|assumption|omega)|simp only[LN];omega) only[↓SB,S1,↓cM,af hx]
   refine ⟨fun h3=>?_,fun h3=>⟨i+1,rfl,⟨by omega,by rw[←hs_i];cases he:dL x<;>simp_all⟩,by omega⟩⟩
   have:dL x=false:=by cases he:dL x<;>simp_all
   rw[←hs_i,this];simp
  ·rw[ap hc_i] at hs_i
   rw[←hs_i];simp
 simp (disch:=first|omega|assumption|(constructor<;>first|assumption|omega)|simp only[LN];omega) only[↓SB,S1,↓cM]
 unfold bd
 refine ⟨fun h=>by simp[h],fun h=>⟨fun h2=>?_,fun h2=>?_⟩⟩
 ·have h0:0<l.length:=by omega
  obtain ⟨x,hx⟩:=LK h0
  have e1:limit-1=((l.length-1:Nat):Int):=by omega
  simp (disch:=first|omega|assumption|(constructor<;>first|assumption|omega)|simp only[LN];omega) only[↓SB,S1,↓cM,e1,af hx]
  have e2:decide ((l.length:Int)<limit)=false:=by simp;omega
  rw[zB hx,hr.1,e2,h]
  by_cases hk:x.kind=2<;>simp[hk]<;>omega
 ·have e2:decide ((l.length:Int)<limit)=true:=by simp;omega
  have e3:decide ((l.length:Int)≤limit)=true:=by simp;omega
  rw[hr.1,e2,e3,h];simp
def gT:=And.intro @cq (@Ej)
theorem EO(l:List Event)(limit:Int)(hg:ag (eF (l,limit)).2.1):WW ρ 2 pE eF (l,limit):=by
 simp only[eF,RR] at hg ⊢
 unfold pE
 simp only[ag,cj,aV] at hg
 refine SUB.v1 (bb (!(rng limit 2 32&&decide ((l.length:Int)≤limit)))) ?_ ?_
 ·repeat' (first | apply And.intro | intro _ | simp (disch:=first|omega|assumption|(constructor<;>first|assumption|omega)|simp only[LN];omega) only[↓SB,S1,↓gT])
  all_goals (simp_all;try (first | omega | exact dlt _ _))
 cases hr:(rng limit 2 32&&decide ((l.length:Int)≤limit))
 ·simp (disch:=first|omega|assumption|(constructor<;>first|assumption|omega)|simp only[LN];omega) only[↓SB,S1,↓gT]
  simp[bd,hr]
 simp only[Bool.and_eq_true,decide_eq_true_eq] at hr
 have hb:=aZ hr.1
 have e3:decide ((l.length:Int)≤limit)=true:=by simp;omega
 unfold bd
 rw[hr.1,e3]
 simp (disch:=first|omega|assumption|(constructor<;>first|assumption|omega)|simp only[LN];omega) only[↓SB,S1,↓gT]
 refine ax.rule (α:=Nat) (fun i=>[I i]) (fun i=>i≤l.length∧(l.drop i).all (dL)=l.all (dL)) (fun i=>l.length-i) 0 rfl ⟨by omega,by simp⟩ (fun _=>rfl) ?_
 rintro i ⟨hl_i,hs_i⟩
 simp only[app]
 simp (disch:=first|omega|assumption|(constructor<;>first|assumption|omega)|simp only[LN];omega) only[↓SB,S1,↓gT]
 refine ⟨fun hc_i=>?_,fun hc_i=>?_⟩
 ·obtain ⟨x,hx⟩:=ak hc_i
  rw[ay hx,List.all_cons] at hs_i
  simp (disch:=first|omega|assumption|(constructor<;>first|assumption|omega)|simp only[LN];omega) only[↓SB,S1,↓gT,af hx]
  refine ⟨fun h3=>?_,fun h3=>⟨i+1,rfl,⟨by omega,by rw[←hs_i,h3];simp⟩,by omega⟩⟩
  rw[←hs_i,h3];simp
 ·rw[ap hc_i] at hs_i
  rw[←hs_i]
  refine ⟨fun h=>by simp[h],fun h=>?_⟩
  have h0:0<l.length:=by omega
  obtain ⟨x,hx⟩:=LK h0
  have e1:(l.length:Int)-1=((l.length-1:Nat):Int):=by omega
  have e2:decide ((l.length:Int)<limit)=false:=by simp;omega
  simp (disch:=first|omega|assumption|(constructor<;>first|assumption|omega)|simp only[LN];omega) only[↓SB,S1,↓gT,e1,af hx]
  rw[zB hx,e2];simp
def IU:=And.intro @bI (And.intro @jx (And.intro @Ei (And.intro @xm (@L9))))
theorem IV(c:Config)(s:Stream)(hg:ag (fZ (c,s)).2.1):WW ρ 12 rH fZ (c,s):=by
 simp only[fZ,RR] at hg ⊢
 unfold rH
 simp (disch:=first|omega|assumption|(constructor<;>first|assumption|omega)|simp only[LN];omega) only[↓S0,S3,S2,S1,↓IU]
 unfold jn
 cases n7 s<;>cases ep s.epoch<;>cases cnt s.want<;>cases fJ s.kept s.want c.keep<;>cases lV s.ahead s.want c.window<;>simp[rng]
def IW:=And.intro @mC (And.intro @vj (@Id))
theorem IX(c:Config)(s:Stream)(q:List Event)(hg:ag (ga (c,s,q)).2.1):WW ρ 13 rI ga (c,s,q):=by
 simp only[ga,RR] at hg ⊢
 unfold rI
 simp (disch:=first|omega|assumption|(constructor<;>first|assumption|omega)|simp only[LN];omega) only[↓S0,S3,S2,S1,↓IW]
 unfold dv
 cases bC c<;>cases jn c s<;>cases bd q c.queue<;>simp
theorem NL(s:Stream):decide (s=⟨0,0,0,[],[]⟩)=n7 s:=by
 rw[Bool.eq_iff_iff];simp[n7,Stream.eq_iff,and_assoc]
def Cb:=And.intro @tF (And.intro @cq (And.intro @pd (And.intro @vh (And.intro @Ib (@BP)))))
theorem Cc(c:Config)(s:Stream)(hg:ag (dy (c,s)).2.1):WW ρ 12 o5 dy (c,s):=by
 simp only[dy,RR] at hg ⊢
 unfold o5
 simp (disch:=first|omega|assumption|(constructor<;>first|assumption|omega)|simp only[LN];omega) only[↓S0,S3,S2,S1,↓Cb,NL]
 unfold jn
 cases n7 s<;>simp[Bool.and_assoc]
def IY:=And.intro @BQ (@Ek)
theorem IZ(c:Config)(s:Stream)(q:List Event)(hg:ag (gc (c,s,q)).2.1):WW ρ 13 rJ gc (c,s,q):=by
 simp only[gc,RR] at hg ⊢
 unfold rJ
 simp (disch:=first|omega|assumption|(constructor<;>first|assumption|omega)|simp only[LN];omega) only[↓S0,S3,S2,S1,↓IY]
 unfold dv
 try simp
def jA:=And.intro @I8 (And.intro @Ig (And.intro @BR (And.intro @BS (And.intro @I2 (@xn)))))
theorem EP(c:Config)(t:Int)(self:Int)(x:Topic)(hp:bC c=true)(hg:ag (eG (c,t,self,x)).2.1):WW ρ 25 pF eG (c,t,self,x):=by
 simp only[eG,RR] at hg ⊢
 unfold pF
 generalize hE:aS c t self x=q
 refine SUB.v1 (bb (!(rng x.top 0 1073741824&&rng x.age 0 1000))) ?_ ?_
 ·repeat' (first | apply And.intro | intro _ | simp (disch:=first|omega|assumption|(constructor<;>first|assumption|omega)|simp only[LN];omega) only[↓SB,S1,↓jA])
  all_goals (simp_all[rng];try (first | omega | exact dlt _ _))
 unfold aS at hE
 cases h1:(rng x.top 0 1073741824&&rng x.age 0 1000)
 ·rw[h1] at hE
  simp (disch:=first|omega|assumption|(constructor<;>first|assumption|omega)|simp only[LN];omega) only[↓SB,S1,↓jA]
  simp[←hE]
 rw[Bool.not_true,bh]
 refine SUB.v1 (bb (gV t self x.parent&&gV t self x.asked&&gV t self x.other)) ?_ ?_
 ·simp (disch:=first|omega|assumption|(constructor<;>first|assumption|omega)|simp only[LN];omega) only[↓S0,S3,S2,S1,↓jA]
  simp[Bool.and_assoc]
 cases h2:(gV t self x.parent&&gV t self x.asked&&gV t self x.other)
 ·simp (disch:=first|omega|assumption|(constructor<;>first|assumption|omega)|simp only[LN];omega) only[↓SB,S1,↓jA]
  rw[←hE]
  cases h3:gV t self x.parent<;>cases h4:gV t self x.asked<;>cases h5:gV t self x.other<;>simp_all
 simp only[Bool.and_eq_true] at h2
 have hpar:0≤x.parent∧x.parent≤8:=by
  have:=h2.1.1
  simp only[gV,Bool.or_eq_true,Bool.and_eq_true,decide_eq_true_eq] at this
  rcases this with h | ⟨h,h'⟩
  ·omega
  ·have:=(iI h').2.1;omega
 rw[h1] at hE
 rw[h2.1.1,h2.1.2,h2.2] at hE
 simp (disch:=first|omega|assumption|(constructor<;>first|assumption|omega)|simp only[LN];omega) only[↓S0,S3,S2,S1,↓jA,hp]
 rw[←hE]
 cases my self x<;>cases mg x<;>cases jM t self c.kids x.kids<;>cases dv c x.stream x.queue<;>by_cases h9:chk t self x.path c.depth=0<;>simp[h9]
def vo:=And.intro @mC (@El)
theorem EQ(c:Config)(t:Int)(self:Int)(x:Topic)(hg:ag (eH (c,t,self,x)).2.1):WW ρ 25 pG eH (c,t,self,x):=by
 simp only[eH,RR] at hg ⊢
 unfold pG
 cases hc:bC c
 ·simp (disch:=first|omega|assumption|(constructor<;>first|assumption|omega)|simp only[LN];omega) only[↓SB,S1,↓vo,hc]
  simp
 ·simp (disch:=first|omega|assumption|(constructor<;>first|assumption|omega)|simp only[LN];omega) only[↓SB,S1,↓vo,hc]
  unfold jp
  refine ⟨fun h=>?_,fun h=>⟨fun h1=>?_,fun h1=>⟨fun h2=>?_,fun h2=>⟨fun h3=>?_,fun h3=>?_⟩⟩⟩⟩
  ·simp[rng,show ¬0≤t by omega]
  ·simp[rng,show ¬t≤c.topics-1 by omega]
  ·simp[rng,show ¬0≤self by omega]
  ·simp[rng,show ¬self≤c.nodes-1 by omega]
  ·have e1:rng t 0 (c.topics-1)=true:=by simp[rng];omega
   have e2:rng self 0 (c.nodes-1)=true:=by simp[rng];omega
   rw[e1,e2]
   cases aS c t self x<;>simp
end Go.Xt
end
section
set_option linter.unusedSimpArgs false
set_option linter.unusedVariables false
set_option maxRecDepth 100000
namespace Go.Xt
set_option linter.defProp false
theorem fa{c:Config}(h:bC c=true):(1≤c.nodes∧c.nodes≤8)∧(1≤c.topics∧c.topics≤4)∧(1≤c.kids∧c.kids≤4)∧(1≤c.depth∧c.depth≤8)∧(1≤c.keep∧c.keep≤16)∧(1≤c.window∧c.window≤16)∧(2≤c.queue∧c.queue≤32):=by
 simp only[bC,rng,Bool.and_eq_true,decide_eq_true_eq] at h
 obtain ⟨⟨⟨⟨⟨⟨a,b⟩,d⟩,e⟩,f⟩,g⟩,i⟩:=h
 exact ⟨a,b,d,e,f,g,i⟩
theorem xy{c:Config}{t self:Int}(hc:bC c=true)(h:jp c t self=true):isT t=true∧isN self=true∧(0≤t∧t<c.topics)∧(0≤self∧self<c.nodes):=by
 have hb:=fa hc
 simp only[jp,Bool.and_eq_true] at h
 have h1:=aZ h.1;have h2:=aZ h.2
 exact ⟨iZ.2 (by omega),dk.2 (by omega),by omega,by omega⟩
theorem R6{t self c:Int}{l:List Int}(ht:isT t=true)(hs:isN self=true)(h1:1≤c)(h2:c≤8):chk t self l c=Pq t self l c:=by
 simp[chk,Pq,ht,hs,h1,h2]
theorem R7{t self c:Int}{l:List Int}(h:Pq t self l c=0):l.all isN=true:=by
 unfold Pq at h
 by_cases e:l.all isN=true
 ·exact e
 ·rw[if_neg e] at h;omega
theorem J0{t self n:Int}(h:gV t self n=true):0≤n∧n≤8:=by
 simp only[gV,Bool.or_eq_true,Bool.and_eq_true,decide_eq_true_eq] at h
 rcases h with h | ⟨h,h'⟩
 ·omega
 ·have:=(iI h').2.1;omega
def nh(x:Topic):Bool:=(decide (0<x.path.length) == decide (0<x.parent))&&match x.path with | []=>true | p::_=>decide (p=x.parent-1)
theorem NM{t self:Int}{x:Topic}(hl:gV t self x.parent=true)(hp:x.path.all isN=true):mg x=nh x:=by
 have hb:=J0 hl
 unfold mg nh
 cases hx:x.path with
 | nil =>
  rw[Bool.eq_iff_iff];simp;omega
 | cons p r =>
  rw[hx,List.all_cons,Bool.and_eq_true] at hp
  have:=dk.1 hp.1
  have hw:IntKind.i64.wrap (p+1)=p+1:=wr (by omega) (by omega)
  simp only[hw]
  rw[Bool.eq_iff_iff];simp;omega
def jB:=And.intro @cq (And.intro @pd (And.intro @Ih (And.intro @I3 (And.intro @I9 (@Ie)))))
theorem ER(c:Config)(t:Int)(self:Int)(x:Topic)(hp:bC c=true∧jp c t self=true)(hg:ag (eI (c,t,self,x)).2.1):WW ρ 25 pH eI (c,t,self,x):=by
 simp only[eI,RR] at hg ⊢
 unfold pH
 generalize hE:aS c t self x=q
 obtain ⟨hc,hpl⟩:=hp
 have hb:=fa hc
 obtain ⟨ht,hs,ht2,hs2⟩:=xy hc hpl
 simp only[ag,cj,aV] at hg
 unfold aS at hE
 rw[R6 ht hs hb.2.2.2.1.1 hb.2.2.2.1.2] at hE
 have hroot:my self x=((decide (x.root=0)||(ep x.root&&decide (x.root % 16=self)&&decide (x.root≤x.top)))&&(decide (x.root=0)||(decide (x.parent=0)&&decide (x.stream.epoch=x.root)))):=by
  unfold my
  cases h:decide (x.root=0)<;>simp[Bool.and_assoc]
 rw[hroot] at hE
 refine SUB.v1 (bb (!(rng x.top 0 1073741824&&(decide (x.root=0)||(ep x.root&&decide (x.root % 16=self)&&decide (x.root≤x.top)))&&gV t self x.parent&&gV t self x.asked&&gV t self x.other&&rng x.age 0 1000))) ?_ ?_
 ·cases he:ep x.root
  ·repeat' (first | apply And.intro | intro _ | simp (disch:=first|omega|assumption|(constructor<;>first|assumption|omega)|simp only[LN];omega) only[↓SB,S1,↓jB])
   all_goals simp_all
  ·have h0:0≤x.root:=by simp only[ep,rng,Bool.and_eq_true,decide_eq_true_eq] at he;omega
   repeat' (first | apply And.intro | intro _ | simp (disch:=first|omega|assumption|(constructor<;>first|assumption|omega)|simp only[LN];omega) only[↓SB,S1,↓jB])
   all_goals simp_all
   all_goals omega
 cases hA:(rng x.top 0 1073741824&&(decide (x.root=0)||(ep x.root&&decide (x.root % 16=self)&&decide (x.root≤x.top)))&&gV t self x.parent&&gV t self x.asked&&gV t self x.other&&rng x.age 0 1000)
 ·simp (disch:=first|omega|assumption|(constructor<;>first|assumption|omega)|simp only[LN];omega) only[↓SB,S1,↓jB]
  rw[←hE]
  clear hE hroot
  revert hA
  cases rng x.top 0 1073741824<;>cases rng x.age 0 1000<;>cases gV t self x.parent<;>cases gV t self x.asked<;>cases gV t self x.other<;>cases (decide (x.root=0)||(ep x.root&&decide (x.root % 16=self)&&decide (x.root≤x.top)))<;>simp
 simp only[Bool.and_eq_true] at hA
 obtain ⟨⟨⟨⟨⟨A1,A2⟩,A3⟩,A4⟩,A5⟩,A6⟩:=hA
 rw[A1,A2,A3,A4,A5,A6] at hE
 simp only[Bool.true_and] at hE
 have hlb:=J0 A3
 simp (disch:=first|omega|assumption|(constructor<;>first|assumption|omega)|simp only[LN];omega) only[↓SB,S1,↓jB]
 refine ⟨fun h=>?_,fun h=>?_⟩
 ·rw[←hE];simp[h]
 have h0:=R7 h
 rw[NM A3 h0] at hE
 simp only[h,eq_self,decide_true,Bool.and_true] at hE
 refine ⟨fun h1=>?_,fun h1=>?_⟩
 ·rw[←hE]
  have:nh x=false:=by
   unfold nh
   rw[Bool.and_eq_false_iff];left
   revert h1
   by_cases a:0<x.path.length<;>by_cases b:0<x.parent<;>simp[a,b]
  rw[this];simp
 have fin:nh x=true→(¬x.root=0→(¬x.parent=0→[bb false]=[bb q])∧(x.parent=0→(¬x.stream.epoch=x.root→[bb false]=[bb q])∧(x.stream.epoch=x.root →
   (jM t self c.kids x.kids=true→[bb (dv c x.stream x.queue)]=[bb q])∧(jM t self c.kids x.kids=false→[bb false]=[bb q])))) ∧
   (x.root=0→(jM t self c.kids x.kids=true→[bb (dv c x.stream x.queue)]=[bb q])∧(jM t self c.kids x.kids=false→[bb false]=[bb q])):=by
  intro hp2
  rw[←hE,hp2]
  by_cases r0:x.root=0<;>by_cases p0:x.parent=0<;>by_cases e0:x.stream.epoch=x.root<;>cases jM t self c.kids x.kids<;>simp[r0,p0,e0]
 refine ⟨fun h2=>?_,fun h2=>fin ?_⟩
 ·cases hx:x.path with
  | nil=>rw[hx] at h2;simp at h2
  | cons p r =>
   have h3:(0:Int)<((p::r).length:Nat):=by simp
   have hp3:0<x.parent:=by
    revert h1;rw[hx]
    by_cases b:0<x.parent<;>simp[b]
   simp (disch:=first|omega|assumption|(constructor<;>first|assumption|omega)|simp only[LN];omega) only[↓SB,S1,↓jB]
   refine ⟨fun h4=>?_,fun h4=>fin ?_⟩
   ·rw[←hE]
    have:nh x=false:=by unfold nh;rw[hx];simp[h4]
    rw[this];simp
   ·unfold nh;rw[hx];simp[hp3,h4]
 ·unfold nh
  cases hx:x.path with
  | nil =>
   revert h1;rw[hx]
   by_cases b:0<x.parent<;>simp[b]
  | cons p r=>rw[hx] at h2;simp at h2
theorem LL(m:Mark):WW ρ 3 tL kj m:=by
 simp only[kj,RR]
 unfold tL
 simp (disch:=first|omega|assumption|(constructor<;>first|assumption|omega)|simp only[LN];omega) only[↓S0,S3,S2,S1,↓fy]
 simp[fo,Bool.and_assoc]
def J1:=And.intro @cb (And.intro @fy (@bI))
theorem J2(c:Config)(x:Mark2)(hp:bC c=true):WW ρ 12 rN iS (c,x):=by
 simp only[iS,RR]
 unfold rN
 have hb:=fa hp
 simp (disch:=first|omega|assumption|(constructor<;>first|assumption|omega)|simp only[LN];omega) only[↓S0,S3,S2,S1,↓J1]
 simp[lW,Bool.and_assoc]
theorem xz{c:Config}{asks p:Int}{x:Call}{r:List Call}:bD c asks p (x::r)=(decide (p<x.count)&&decide (x.count≤asks)&&rng x.topic 0 (c.topics-1)&&rng x.age 0 20&&bD c asks x.count r):=rfl
theorem J3(c:Config)(n:Node)(hp:bC c=true)(hg:ag (gf (c,n)).2.1):WW ρ 16 rM gf (c,n):=by
 simp only[gf,RR] at hg ⊢
 unfold rM
 have hb:=fa hp
 simp only[ag,cj,aV] at hg
 simp (disch:=first|omega|assumption|(constructor<;>first|assumption|omega)|simp only[LN];omega) only[↓SB,S1,↓fy]
 refine ax.rule (α:=Nat×Int) (fun a=>[I a.2,I a.1]) (fun a=>a.1≤n.calls.length∧bD c n.asks a.2 (n.calls.drop a.1)=bD c n.asks 0 n.calls) (fun a=>n.calls.length-a.1) (0,0) rfl ⟨by simp,by simp⟩ (fun _=>rfl) ?_
 rintro ⟨i,p⟩ ⟨hl,hs⟩
 simp only[app] at *
 simp (disch:=first|omega|assumption|(constructor<;>first|assumption|omega)|simp only[LN];omega) only[↓SB,S1,↓fy]
 refine ⟨fun h=>?_,fun h=>?_⟩
 ·obtain ⟨x,hx⟩:=ak h
  rw[ay hx,xz] at hs
  simp (disch:=first|omega|assumption|(constructor<;>first|assumption|omega)|simp only[LN];omega) only[↓SB,S1,↓fy,af hx]
  refine ⟨fun h1=>?_,fun h1=>⟨fun h2=>?_,fun h2=>⟨fun h3=>?_,fun h3=>⟨fun h4=>?_,fun h4=>⟨(i+1,x.count),by simp,⟨by omega,?_⟩,by simp;omega⟩⟩⟩⟩⟩
  ·rw[←hs];simp[show ¬p<x.count by omega]
  ·rw[←hs];simp[show ¬x.count≤n.asks by omega]
  ·rw[←hs,h3];simp
  ·rw[←hs,h4];simp
  ·rw[←hs,h3,h4];simp[show p<x.count by omega,show x.count≤n.asks by omega]
 ·rw[ap h] at hs
  rw[←hs]
  simp[bD];omega
end Go.Xt
end
section
set_option linter.unusedSimpArgs false
set_option linter.unusedVariables false
set_option maxRecDepth 100000
namespace Go.Xt
set_option linter.defProp false
theorem vp{c:Config}{self t:Int}{x:Topic}{r:List Topic}:bx c self t (x::r)=(aS c t self x&&bx c self (t+1) r):=rfl
theorem LM{c:Config}{t self:Int}(h0:0≤t)(h1:t<c.topics)(hs:rng self 0 (c.nodes-1)=true):jp c t self=true:=by
 simp only[jp,hs,Bool.and_true];simp[rng];omega
def bT:=And.intro @fy (And.intro @rd (And.intro @pe (And.intro @bI (And.intro @Ii (And.intro @La (@Ij))))))
theorem J4(c:Config)(self:Int)(n:Node)(hp:bC c=true∧rng self 0 (c.nodes-1)=true)(hg:ag (gg (c,self,n)).2.1):WW ρ 17 rO gg (c,self,n):=by
 simp only[gg,RR] at hg ⊢
 unfold rO
 generalize hE:mz c self n=q
 obtain ⟨hc,hself⟩:=hp
 have hb:=fa hc
 simp only[ag,cj,aV] at hg
 unfold mz at hE
 refine SUB.v1 (bb (!(cnt n.inc&&rng n.pubs 0 1073741824&&rng n.asks 0 40&&(bD c n.asks 0 n.calls&&decide (n.calls.length≤40))))) ?_ ?_
 ·simp (disch:=first|omega|assumption|(constructor<;>first|assumption|omega)|simp only[LN];omega) only[↓S0,S3,S2,S1,↓bT]
  simp[Bool.and_assoc]
 cases hA:(cnt n.inc&&rng n.pubs 0 1073741824&&rng n.asks 0 40&&(bD c n.asks 0 n.calls&&decide (n.calls.length≤40)))
 ·simp (disch:=first|omega|assumption|(constructor<;>first|assumption|omega)|simp only[LN];omega) only[↓SB,S1,↓bT]
  rw[←hE]
  simp only[←Bool.and_assoc] at hA
  rw[hA];simp
 simp only[←Bool.and_assoc] at hA
 rw[hA] at hE
 rw[Bool.not_true,bh]
 refine SUB.v1 (bb (!(decide ((n.peers.length:Int)=c.nodes)&&decide ((n.topics.length:Int)=c.topics)&&decide ((n.marks.length:Int)=c.nodes)&&decide (n.taken.length≤64)))) ?_ ?_
 ·simp (disch:=first|omega|assumption|(constructor<;>first|assumption|omega)|simp only[LN];omega) only[↓S0,S3,S2,S1,↓bT]
  by_cases h1:(n.peers.length:Int)=c.nodes<;>by_cases h2:(n.topics.length:Int)=c.topics<;>by_cases h3:(n.marks.length:Int)=c.nodes<;>by_cases h4:n.taken.length≤64<;>simp[h1,h2,h3,h4]<;>omega
 cases hB:(decide ((n.peers.length:Int)=c.nodes)&&decide ((n.topics.length:Int)=c.topics)&&decide ((n.marks.length:Int)=c.nodes)&&decide (n.taken.length≤64))
 ·simp (disch:=first|omega|assumption|(constructor<;>first|assumption|omega)|simp only[LN];omega) only[↓SB,S1,↓bT]
  rw[←hE]
  revert hB
  by_cases h1:(n.peers.length:Int)=c.nodes<;>by_cases h2:(n.topics.length:Int)=c.topics<;>by_cases h3:(n.marks.length:Int)=c.nodes<;>by_cases h4:n.taken.length≤64<;>simp[h1,h2,h3,h4]
 simp only[Bool.and_eq_true,decide_eq_true_eq] at hB
 obtain ⟨⟨⟨B1,B2⟩,B3⟩,B4⟩:=hB
 have e1:decide ((n.peers.length:Int)=c.nodes)=true:=by simp[B1]
 have e2:decide ((n.topics.length:Int)=c.topics)=true:=by simp[B2]
 have e3:decide ((n.marks.length:Int)=c.nodes)=true:=by simp[B3]
 have e4:decide (n.taken.length≤64)=true:=by simp[B4]
 rw[e1,e2,e3,e4] at hE
 simp only[Bool.true_and] at hE
 simp (disch:=first|omega|assumption|(constructor<;>first|assumption|omega)|simp only[LN];omega) only[↓SB,S1,↓bT]
 refine ax.rule (α:=Nat) (fun i=>[I i]) (fun i=>i≤n.topics.length∧bx c self i (n.topics.drop i)=bx c self 0 n.topics) (fun i=>n.topics.length-i) 0 rfl ⟨by omega,by simp⟩ (fun _=>rfl) ?_
 rintro i ⟨hl,hs⟩
 simp only[app]
 simp (disch:=first|omega|assumption|(constructor<;>first|assumption|omega)|simp only[LN];omega) only[↓SB,S1,↓bT]
 refine ⟨fun h=>?_,fun h=>?_⟩
 ·obtain ⟨x,hx⟩:=ak h
  rw[ay hx,vp] at hs
  have hpl:=LM (c:=c) (t:=i) (by omega) (by omega) hself
  simp (disch:=first|omega|assumption|(constructor<;>first|assumption|omega)|simp only[LN];omega) only[↓SB,S1,↓bT,af hx,hc,hpl]
  cases ht:aS c i self x
  ·simp
   rw[←hE,←hs,ht];simp
  ·simp
   exact ⟨i+1,by simp,⟨by omega,by rw[←hs,ht];simp⟩,by omega⟩
 rw[ap h] at hs
 have hT:bx c self 0 n.topics=true:=by rw[←hs];rfl
 rw[hT] at hE
 simp only[Bool.true_and] at hE
 refine ax.rule (α:=Nat) (fun i=>[I i]) (fun i=>i≤n.marks.length∧(n.marks.drop i).all (fo)=n.marks.all (fo)) (fun i=>n.marks.length-i) 0 rfl ⟨by omega,by simp⟩ (fun _=>rfl) ?_
 rintro i ⟨hl_i,hs_i⟩
 simp only[app]
 simp (disch:=first|omega|assumption|(constructor<;>first|assumption|omega)|simp only[LN];omega) only[↓SB,S1,↓bT]
 refine ⟨fun hc_i=>?_,fun hc_i=>?_⟩
 ·obtain ⟨m,hm⟩:=ak hc_i
  rw[ay hm,List.all_cons] at hs_i
  simp (disch:=first|omega|assumption|(constructor<;>first|assumption|omega)|simp only[LN];omega) only[↓SB,S1,↓bT,af hm]
  refine ⟨fun h3=>?_,fun h3=>⟨i+1,rfl,⟨by omega,by simpa[h3] using hs_i⟩,by omega⟩⟩
  rw[h3,Bool.false_and] at hs_i
  simp only[Int.natCast_nonneg,decide_true,Bool.not_true,bh]
  simp (disch:=first|omega|assumption|(constructor<;>first|assumption|omega)|simp only[LN];omega) only[↓SB,S1,↓bT]
  rw[←hE,←hs_i]
  simp
 rw[ap hc_i] at hs_i
 have hM:n.marks.all fo=true:=by rw[←hs_i];rfl
 rw[hM] at hE
 refine ⟨fun h5=>?_,fun h5=>?_⟩
 ·cases hp5:bu n.peers
  ·rw[hp5] at h5;simp at h5
  rw[hp5] at hE
  simp only[Bool.true_and] at hE
  clear hs_i
  simp only[show ¬(0:Int)≤ -1 by decide,not_false_eq_true,true_implies,false_implies,and_true]
  refine ax.rule (α:=Nat) (fun i=>[I i]) (fun i=>i≤n.taken.length∧(n.taken.drop i).all (lW c)=n.taken.all (lW c)) (fun i=>n.taken.length-i) 0 rfl ⟨by omega,by simp⟩ (fun _=>rfl) ?_
  rintro i ⟨hl_i,hs_i⟩
  simp only[app]
  simp (disch:=first|omega|assumption|(constructor<;>first|assumption|omega)|simp only[LN];omega) only[↓SB,S1,↓bT]
  refine ⟨fun hc_i=>?_,fun hc_i=>?_⟩
  ·obtain ⟨m,hm⟩:=ak hc_i
   rw[ay hm,List.all_cons] at hs_i
   simp (disch:=first|omega|assumption|(constructor<;>first|assumption|omega)|simp only[LN];omega) only[↓SB,S1,↓bT,af hm]
   refine ⟨fun h3=>?_,fun h3=>⟨i+1,rfl,⟨by omega,by simpa[h3] using hs_i⟩,by omega⟩⟩
   rw[h3,Bool.false_and] at hs_i
   rw[←hE,←hs_i]
   simp
  ·rw[ap hc_i] at hs_i
   rw[←hE,←hs_i];simp
 ·cases hp5:bu n.peers
  ·rw[←hE,hp5];simp
  ·rw[hp5] at h5;simp at h5
def jc:=And.intro @mC (And.intro @fy (@Ik))
theorem J5(c:Config)(self:Int)(n:Node)(hg:ag (gh (c,self,n)).2.1):WW ρ 17 rP gh (c,self,n):=by
 simp only[gh,RR] at hg ⊢
 unfold rP aU
 cases hc:bC c
 ·simp (disch:=first|omega|assumption|(constructor<;>first|assumption|omega)|simp only[LN];omega) only[↓SB,S1,↓jc,hc]
  simp
 have hb:=fa hc
 simp (disch:=first|omega|assumption|(constructor<;>first|assumption|omega)|simp only[LN];omega) only[↓SB,S1,↓jc,hc]
 cases hs:rng self 0 (c.nodes-1)
 ·simp (disch:=first|omega|assumption|(constructor<;>first|assumption|omega)|simp only[LN];omega) only[↓SB,S1,↓jc,hs]
  simp
 ·simp (disch:=first|omega|assumption|(constructor<;>first|assumption|omega)|simp only[LN];omega) only[↓SB,S1,↓jc,hs]
  cases hu:n.up
  ·simp (disch:=first|omega|assumption|(constructor<;>first|assumption|omega)|simp only[LN];omega) only[↓SB,S1,↓jc]
   simp
  ·simp (disch:=first|omega|assumption|(constructor<;>first|assumption|omega)|simp only[LN];omega) only[↓SB,S1,↓jc]
   cases mz c self n<;>simp
end Go.Xt
end
section
set_option linter.unusedSimpArgs false
set_option linter.unusedVariables false
set_option maxRecDepth 100000
namespace Go.Xt
set_option linter.defProp false
def cx:=And.intro @gQ (And.intro @vW (And.intro @Eh (@Em)))
theorem J6(c:Config)(self:Int)(n:Node)(hp:bC c=true∧rng self 0 (c.nodes-1)=true)(hg:ag (gi (c,self,n)).2.1):WW ρ 17 rQ gi (c,self,n):=by
 simp only[gi,RR] at hg ⊢
 unfold rQ
 generalize hE:mz c self n=q
 obtain ⟨hc,hself⟩:=hp
 have hb:=fa hc
 simp only[ag,cj,aV] at hg
 unfold mz at hE
 refine SUB.v1 (bb (!(cnt n.inc&&decide ((n.peers.length:Int)=c.nodes)&&bu n.peers&&decide ((n.topics.length:Int)=c.topics)&&decide (n.calls.length≤40)&&rng n.pubs 0 1073741824&&rng n.asks 0 40&&decide ((n.marks.length:Int)=c.nodes)&&decide (n.taken.length≤64)))) ?_ ?_
 ·simp (disch:=first|omega|assumption|(constructor<;>first|assumption|omega)|simp only[LN];omega) only[↓S0,S3,S2,S1,↓cx]
  by_cases h1:(n.peers.length:Int)=c.nodes<;>by_cases h2:(n.topics.length:Int)=c.topics<;>by_cases h3:(n.marks.length:Int)=c.nodes<;>by_cases h4:n.taken.length≤64<;>by_cases h5:n.calls.length≤40<;>cases bu n.peers<;>cases rng n.asks 0 40<;>cases rng n.pubs 0 1073741824<;>simp[h1,h2,h3,h4,h5,cnt]<;>omega
 cases hA:(cnt n.inc&&decide ((n.peers.length:Int)=c.nodes)&&bu n.peers&&decide ((n.topics.length:Int)=c.topics)&&decide (n.calls.length≤40)&&rng n.pubs 0 1073741824&&rng n.asks 0 40&&decide ((n.marks.length:Int)=c.nodes)&&decide (n.taken.length≤64))
 ·simp (disch:=first|omega|assumption|(constructor<;>first|assumption|omega)|simp only[LN];omega) only[↓SB,S1,↓cx]
  rw[←hE]
  revert hA
  by_cases h1:(n.peers.length:Int)=c.nodes<;>by_cases h2:(n.topics.length:Int)=c.topics<;>by_cases h3:(n.marks.length:Int)=c.nodes<;>by_cases h4:n.taken.length≤64<;>by_cases h5:n.calls.length≤40<;>cases bu n.peers<;>cases rng n.asks 0 40<;>cases rng n.pubs 0 1073741824<;>cases cnt n.inc<;>simp[h1,h2,h3,h4,h5]
 simp only[Bool.and_eq_true,decide_eq_true_eq] at hA
 obtain ⟨⟨⟨⟨⟨⟨⟨⟨A1,A2⟩,A3⟩,A4⟩,A5⟩,A6⟩,A7⟩,A8⟩,A9⟩:=hA
 have e1:decide ((n.peers.length:Int)=c.nodes)=true:=by simp[A2]
 have e2:decide ((n.topics.length:Int)=c.topics)=true:=by simp[A4]
 have e3:decide ((n.marks.length:Int)=c.nodes)=true:=by simp[A8]
 have e4:decide (n.taken.length≤64)=true:=by simp[A9]
 have e5:decide (n.calls.length≤40)=true:=by simp[A5]
 rw[A1,A3,A6,A7,e1,e2,e3,e4,e5] at hE
 simp only[Bool.true_and,Bool.and_true] at hE
 rw[Bool.not_true,bh]
 refine ax.rule (α:=Nat) (fun i=>[I i]) (fun i=>i≤n.topics.length∧bx c self i (n.topics.drop i)=bx c self 0 n.topics) (fun i=>n.topics.length-i) 0 rfl ⟨by omega,by simp⟩ (fun _=>rfl) ?_
 rintro i ⟨hl,hs⟩
 simp only[app]
 simp (disch:=first|omega|assumption|(constructor<;>first|assumption|omega)|simp only[LN];omega) only[↓SB,S1,↓cx]
 refine ⟨fun h=>?_,fun h=>?_⟩
 ·have h':(i:Int)<n.topics.length:=by omega
  obtain ⟨x,hx⟩:=ak h'
  rw[ay hx,vp] at hs
  have hpl:=LM (c:=c) (t:=i) (by omega) (by omega) hself
  simp (disch:=first|omega|assumption|(constructor<;>first|assumption|omega)|simp only[LN];omega) only[↓SB,S1,↓cx,af hx]
  refine ⟨fun ht=>?_,fun ht=>⟨i+1,by simp,⟨by omega,by rw[←hs,ht];simp⟩,by omega⟩⟩
  rw[←hE,←hs,ht];simp
 rw[ap (by omega)] at hs
 have hT:bx c self 0 n.topics=true:=by rw[←hs];rfl
 rw[hT] at hE
 simp only[Bool.true_and,Bool.and_true] at hE
 refine ax.rule (α:=Nat) (fun i=>[I i]) (fun i=>i≤n.calls.length∧ ∃p,(i=0→p=0)∧(0<i→ ∃k,n.calls[i-1]? =some k∧p=k.count)∧0≤p∧bD c n.asks p (n.calls.drop i)=bD c n.asks 0 n.calls) (fun i=>n.calls.length-i) 0 rfl ⟨by omega,0,by simp⟩ (fun _=>rfl) ?_
 rintro i ⟨hl,p,hp0,hp1,hp2,hs⟩
 simp only[app]
 simp (disch:=first|omega|assumption|(constructor<;>first|assumption|omega)|simp only[LN];omega) only[↓SB,S1,↓cx]
 refine ⟨fun h=>?_,fun h=>?_⟩
 ·obtain ⟨x,hx⟩:=ak h
  rw[ay hx,xz] at hs
  simp (disch:=first|omega|assumption|(constructor<;>first|assumption|omega)|simp only[LN];omega) only[↓SB,S1,↓cx,af hx]
  refine ⟨fun h1=>?_,fun h1=>⟨fun h2=>?_,fun h2=>?_⟩⟩
  ·rw[←hE,←hs]
   have:(decide (p<x.count)&&decide (x.count≤n.asks))=false:=by
    rw[Bool.eq_false_iff] at h1 ⊢
    simp only[rng,Bool.and_eq_true,decide_eq_true_eq,ne_eq] at h1 ⊢
    omega
   rw[this];simp
  ·have h1:=aZ h1
   obtain ⟨k,hk,rfl⟩:=hp1 (by omega)
   have e1:((i:Int)-1)=((i-1:Nat):Int):=by omega
   simp (disch:=first|omega|assumption|(constructor<;>first|assumption|omega)|simp only[LN];omega) only[↓SB,S1,↓cx,e1,af hk]
   refine ⟨fun h8=>?_,fun h8=>⟨fun h9=>?_,fun h9=>⟨fun h10=>?_,fun h10=>⟨i+1,by simp,⟨by omega,x.count,by simp,fun _=>⟨x,by simpa using hx,rfl⟩,by omega,?_⟩,by omega⟩⟩⟩⟩
   ·rw[←hE,←hs];simp[show ¬k.count<x.count by omega]
   ·rw[←hE,←hs,h9];simp
   ·rw[←hE,←hs,h10];simp
   ·rw[←hs,h9,h10];simp[show k.count<x.count by omega,h1]
  ·have h1:=aZ h1
   have h0:i=0:=by omega
   rw[hp0 h0] at hs
   refine ⟨fun h9=>?_,fun h9=>⟨fun h10=>?_,fun h10=>⟨i+1,by simp,⟨by omega,x.count,by simp,fun _=>⟨x,by simpa using hx,rfl⟩,by omega,?_⟩,by omega⟩⟩⟩
   ·rw[←hE,←hs,h9];simp
   ·rw[←hE,←hs,h10];simp
   ·rw[←hs,h9,h10];simp[show 0<x.count by omega,h1]
 rw[ap h] at hs
 have hC:bD c n.asks 0 n.calls=true:=by rw[←hs];rfl
 rw[hC] at hE
 simp only[Bool.true_and,Bool.and_true] at hE
 refine ax.rule (α:=Nat) (fun i=>[I i]) (fun i=>i≤n.marks.length∧(n.marks.drop i).all (fo)=n.marks.all (fo)) (fun i=>n.marks.length-i) 0 rfl ⟨by omega,by simp⟩ (fun _=>rfl) ?_
 rintro i ⟨hl_i,hs_i⟩
 simp only[app]
 simp (disch:=first|omega|assumption|(constructor<;>first|assumption|omega)|simp only[LN];omega) only[↓SB,S1,↓cx]
 refine ⟨fun hc_i=>?_,fun hc_i=>?_⟩
 ·obtain ⟨m,hm⟩:=ak hc_i
  rw[ay hm,List.all_cons] at hs_i
  simp (disch:=first|omega|assumption|(constructor<;>first|assumption|omega)|simp only[LN];omega) only[↓SB,S1,↓cx,af hm]
  have hm:fo m=(rng m.inc 0 1073741824&&rng m.pubs 0 1073741824&&rng m.met 0 2199023255551):=rfl
  refine ⟨fun h1=>?_,fun h1=>⟨fun h2=>?_,fun h2=>⟨fun h3=>?_,fun h3=>⟨i+1,rfl,⟨by omega,by rw[←hs_i,hm,h1,h2,h3];simp⟩,by omega⟩⟩⟩⟩
  ·rw[←hE,←hs_i,hm,h1];simp
  ·rw[←hE,←hs_i,hm,h2];simp
  ·rw[←hE,←hs_i,hm,h3];simp
 rw[ap hc_i] at hs_i
 have hM:n.marks.all fo=true:=by rw[←hs_i];rfl
 rw[hM] at hE
 simp only[Bool.true_and,Bool.and_true] at hE
 clear hs_i
 refine ax.rule (α:=Nat) (fun i=>[I i]) (fun i=>i≤n.taken.length∧(n.taken.drop i).all (lW c)=n.taken.all (lW c)) (fun i=>n.taken.length-i) 0 rfl ⟨by omega,by simp⟩ (fun _=>rfl) ?_
 rintro i ⟨hl_i,hs_i⟩
 simp only[app]
 simp (disch:=first|omega|assumption|(constructor<;>first|assumption|omega)|simp only[LN];omega) only[↓SB,S1,↓cx]
 refine ⟨fun hc_i=>?_,fun hc_i=>?_⟩
 ·obtain ⟨m,hm⟩:=ak hc_i
  rw[ay hm,List.all_cons] at hs_i
  simp (disch:=first|omega|assumption|(constructor<;>first|assumption|omega)|simp only[LN];omega) only[↓SB,S1,↓cx,af hm]
  have hm:lW c m=(rng m.node 0 (c.nodes-1)&&rng m.topic 0 (c.topics-1)&&cnt m.inc&&cnt m.count&&val m.value):=rfl
  refine ⟨fun h1=>?_,fun h1=>⟨fun h2=>?_,fun h2=>⟨fun h3=>?_,fun h3=>⟨fun h4=>?_,fun h4=>⟨fun h5=>?_,fun h5=>⟨i+1,rfl,⟨by omega,by rw[←hs_i,hm,h1,h4,h5];simp[cnt,h2,h3]⟩,by omega⟩⟩⟩⟩⟩⟩
  ·rw[←hE,←hs_i,hm,h1];simp
  ·rw[←hE,←hs_i,hm];simp[cnt,h2]
  ·rw[←hE,←hs_i,hm];simp[cnt,h3]
  ·rw[←hE,←hs_i,hm,h4];simp
  ·rw[←hE,←hs_i,hm,h5];simp
 ·rw[ap hc_i] at hs_i
  rw[←hE,←hs_i];simp
end Go.Xt
end
section
set_option linter.unusedSimpArgs false
set_option linter.unusedVariables false
set_option maxRecDepth 100000
namespace Go.Xt
set_option linter.defProp false
theorem Cd{α:Type}{a b:List α}(h: ¬(a.length:Int)=b.length): ¬a=b:=by rintro rfl;exact h rfl
theorem ES(a:List Peer)(b:List Peer)(hg:ag (eJ (a,b)).2.1):WW ρ 2 pI eJ (a,b):=by
 simp only[eJ,RR] at hg ⊢
 unfold pI
 simp only[ag,aV] at hg
 simp (disch:=first|omega|assumption|(constructor<;>first|assumption|omega)|simp only[LN];omega) only[↓SB,S1]
 refine ⟨fun h=>by simp[Cd h],fun h=>?_⟩
 have hl:a.length=b.length:=by omega
 refine ax.rule (α:=Nat) (fun i=>[I i]) (fun i=>i≤a.length∧((a=b)=(a.drop i=b.drop i))) (fun i=>a.length-i) 0 rfl ⟨by omega,by simp⟩ (fun _=>rfl) ?_
 rintro i ⟨hl_i,hs_i⟩
 simp only[app]
 simp (disch:=first|omega|assumption|(constructor<;>first|assumption|omega)|simp only[LN];omega) only[↓SB,S1]
 refine ⟨fun hc_i=>?_,fun hc_i=>?_⟩
 ·obtain ⟨x,hx⟩:=ak hc_i
  obtain ⟨y,hy⟩:=ak (xs:=b) (i:=i) (by omega)
  rw[ay hx,ay hy,List.cons.injEq] at hs_i
  simp (disch:=first|omega|assumption|(constructor<;>first|assumption|omega)|simp only[LN];omega) only[↓SB,S1,af hx,af hy,Peer.deq]
  refine ⟨fun h3=>?_,fun h3=>⟨i+1,rfl,⟨by omega,by simpa[h3] using hs_i⟩,by omega⟩⟩
  have hn: ¬a=b:=fun e=>h3 (hs_i.mp e).1
  simp[hn]
 ·rw[ap hc_i,ap (by omega)] at hs_i
  simp[hs_i]
theorem J7(a:List Kid)(b:List Kid)(hg:ag (gj (a,b)).2.1):WW ρ 2 rR gj (a,b):=by
 simp only[gj,RR] at hg ⊢
 unfold rR
 simp only[ag,aV] at hg
 simp (disch:=first|omega|assumption|(constructor<;>first|assumption|omega)|simp only[LN];omega) only[↓SB,S1]
 refine ⟨fun h=>by simp[Cd h],fun h=>?_⟩
 have hl:a.length=b.length:=by omega
 refine ax.rule (α:=Nat) (fun i=>[I i]) (fun i=>i≤a.length∧((a=b)=(a.drop i=b.drop i))) (fun i=>a.length-i) 0 rfl ⟨by omega,by simp⟩ (fun _=>rfl) ?_
 rintro i ⟨hl_i,hs_i⟩
 simp only[app]
 simp (disch:=first|omega|assumption|(constructor<;>first|assumption|omega)|simp only[LN];omega) only[↓SB,S1]
 refine ⟨fun hc_i=>?_,fun hc_i=>?_⟩
 ·obtain ⟨x,hx⟩:=ak hc_i
  obtain ⟨y,hy⟩:=ak (xs:=b) (i:=i) (by omega)
  rw[ay hx,ay hy,List.cons.injEq] at hs_i
  simp (disch:=first|omega|assumption|(constructor<;>first|assumption|omega)|simp only[LN];omega) only[↓SB,S1,af hx,af hy,Kid.deq]
  refine ⟨fun h3=>?_,fun h3=>⟨i+1,rfl,⟨by omega,by simpa[h3] using hs_i⟩,by omega⟩⟩
  have hn: ¬a=b:=fun e=>h3 (hs_i.mp e).1
  simp[hn]
 ·rw[ap hc_i,ap (by omega)] at hs_i
  simp[hs_i]
theorem ET(a:List Item)(b:List Item)(hg:ag (eK (a,b)).2.1):WW ρ 2 pJ eK (a,b):=by
 simp only[eK,RR] at hg ⊢
 unfold pJ
 simp only[ag,aV] at hg
 simp (disch:=first|omega|assumption|(constructor<;>first|assumption|omega)|simp only[LN];omega) only[↓SB,S1]
 refine ⟨fun h=>by simp[Cd h],fun h=>?_⟩
 have hl:a.length=b.length:=by omega
 refine ax.rule (α:=Nat) (fun i=>[I i]) (fun i=>i≤a.length∧((a=b)=(a.drop i=b.drop i))) (fun i=>a.length-i) 0 rfl ⟨by omega,by simp⟩ (fun _=>rfl) ?_
 rintro i ⟨hl_i,hs_i⟩
 simp only[app]
 simp (disch:=first|omega|assumption|(constructor<;>first|assumption|omega)|simp only[LN];omega) only[↓SB,S1]
 refine ⟨fun hc_i=>?_,fun hc_i=>?_⟩
 ·obtain ⟨x,hx⟩:=ak hc_i
  obtain ⟨y,hy⟩:=ak (xs:=b) (i:=i) (by omega)
  rw[ay hx,ay hy,List.cons.injEq] at hs_i
  simp (disch:=first|omega|assumption|(constructor<;>first|assumption|omega)|simp only[LN];omega) only[↓SB,S1,af hx,af hy,Item.deq]
  refine ⟨fun h3=>?_,fun h3=>⟨i+1,rfl,⟨by omega,by simpa[h3] using hs_i⟩,by omega⟩⟩
  have hn: ¬a=b:=fun e=>h3 (hs_i.mp e).1
  simp[hn]
 ·rw[ap hc_i,ap (by omega)] at hs_i
  simp[hs_i]
theorem Ce(a:List Event)(b:List Event)(hg:ag (dA (a,b)).2.1):WW ρ 2 o8 dA (a,b):=by
 simp only[dA,RR] at hg ⊢
 unfold o8
 simp only[ag,aV] at hg
 simp (disch:=first|omega|assumption|(constructor<;>first|assumption|omega)|simp only[LN];omega) only[↓SB,S1]
 refine ⟨fun h=>by simp[Cd h],fun h=>?_⟩
 have hl:a.length=b.length:=by omega
 refine ax.rule (α:=Nat) (fun i=>[I i]) (fun i=>i≤a.length∧((a=b)=(a.drop i=b.drop i))) (fun i=>a.length-i) 0 rfl ⟨by omega,by simp⟩ (fun _=>rfl) ?_
 rintro i ⟨hl_i,hs_i⟩
 simp only[app]
 simp (disch:=first|omega|assumption|(constructor<;>first|assumption|omega)|simp only[LN];omega) only[↓SB,S1]
 refine ⟨fun hc_i=>?_,fun hc_i=>?_⟩
 ·obtain ⟨x,hx⟩:=ak hc_i
  obtain ⟨y,hy⟩:=ak (xs:=b) (i:=i) (by omega)
  rw[ay hx,ay hy,List.cons.injEq] at hs_i
  simp (disch:=first|omega|assumption|(constructor<;>first|assumption|omega)|simp only[LN];omega) only[↓SB,S1,af hx,af hy,Event.deq]
  refine ⟨fun h3=>?_,fun h3=>⟨i+1,rfl,⟨by omega,by simpa[h3] using hs_i⟩,by omega⟩⟩
  have hn: ¬a=b:=fun e=>h3 (hs_i.mp e).1
  simp[hn]
 ·rw[ap hc_i,ap (by omega)] at hs_i
  simp[hs_i]
theorem Cf(a:Stream)(b:Stream)(hg:ag (dB (a,b)).2.1):WW ρ 10 o9 dB (a,b):=by
 simp only[dB,RR] at hg ⊢
 unfold o9
 simp (disch:=first|omega|assumption|(constructor<;>first|assumption|omega)|simp only[LN];omega) only[↓S0,S3,S2,S1,↓Eo]
 simp[Stream.eq_iff,Bool.decide_and]
def EU:=And.intro @xk (And.intro @Im (And.intro @tF (@BT)))
theorem EV(a:Topic)(b:Topic)(hg:ag (eM (a,b)).2.1):WW ρ 32 pK eM (a,b):=by
 simp only[eM,RR] at hg ⊢
 unfold pK
 generalize hE:decide (a=b)=q
 repeat' (first | apply And.intro | intro _ | simp (disch:=first|omega|assumption|(constructor<;>first|assumption|omega)|simp only[LN];omega) only[↓SB,S1,↓EU])
 all_goals (rw[←hE];clear hE;simp_all[Topic.eq_iff])
theorem EW{α:Type}{p:α→Bool}{l:List α}(h:l.any p=false){x:α}(hx:x∈l):p x=false:=by
 rw[List.any_eq_false] at h;simpa using h x hx
def cO:=And.intro @En (@Ep)
theorem J8(a:Node)(b:Node)(hg:ag (gk (a,b)).2.1):WW ρ 18 rS gk (a,b):=by
 simp only[gk,RR] at hg ⊢
 unfold rS
 simp only[ag,aV] at hg
 generalize hE:decide (a=b)=q
 refine SUB.v1 (bb (!((a.up == b.up)&&decide (a.inc=b.inc)&&decide (a.peers=b.peers)&&decide (a.topics.length=b.topics.length)&&decide (a.calls.length=b.calls.length)&&decide (a.pubs=b.pubs)&&decide (a.asks=b.asks)&&decide (a.marks.length=b.marks.length)&&decide (a.taken.length=b.taken.length)))) ?_ ?_
 ·repeat' (first | apply And.intro | intro _ | simp (disch:=first|omega|assumption|(constructor<;>first|assumption|omega)|simp only[LN];omega) only[↓SB,S1,↓cO])
  all_goals (simp_all;try omega)
  all_goals (rw[Bool.eq_iff_iff];simp;omega)
 cases hA:((a.up == b.up)&&decide (a.inc=b.inc)&&decide (a.peers=b.peers)&&decide (a.topics.length=b.topics.length)&&decide (a.calls.length=b.calls.length)&&decide (a.pubs=b.pubs)&&decide (a.asks=b.asks)&&decide (a.marks.length=b.marks.length)&&decide (a.taken.length=b.taken.length))
 ·simp (disch:=first|omega|assumption|(constructor<;>first|assumption|omega)|simp only[LN];omega) only[↓SB,S1,↓cO]
  have: ¬a=b:=by rintro rfl;simp at hA
  rw[←hE];simp[this]
 simp only[Bool.and_eq_true,decide_eq_true_eq,beq_iff_eq] at hA
 obtain ⟨⟨⟨⟨⟨⟨⟨⟨A1,A2⟩,A3⟩,A4⟩,A5⟩,A6⟩,A7⟩,A8⟩,A9⟩:=hA
 have hN:(a=b)=(a.topics=b.topics∧a.calls=b.calls∧a.marks=b.marks∧a.taken=b.taken):=by
  rw[Node.eq_iff];simp[A1,A2,A3,A6,A7]
 rw[Bool.not_true,bh]
 refine ax.rule (α:=Nat) (fun i=>[I i]) (fun i=>i≤a.topics.length∧((a.topics=b.topics)=(a.topics.drop i=b.topics.drop i))) (fun i=>a.topics.length-i) 0 rfl ⟨by omega,by simp⟩ (fun _=>rfl) ?_
 rintro i ⟨hl_i,hs_i⟩
 simp only[app]
 simp (disch:=first|omega|assumption|(constructor<;>first|assumption|omega)|simp only[LN];omega) only[↓SB,S1,↓cO]
 refine ⟨fun hc_i=>?_,fun hc_i=>?_⟩
 ·obtain ⟨x,hx⟩:=ak hc_i
  obtain ⟨y,hy⟩:=ak (xs:=b.topics) (i:=i) (by omega)
  rw[ay hx,ay hy,List.cons.injEq] at hs_i
  simp (disch:=first|omega|assumption|(constructor<;>first|assumption|omega)|simp only[LN];omega) only[↓SB,S1,↓cO,af hx,af hy]
  refine ⟨fun h3=>?_,fun h3=>⟨i+1,rfl,⟨by omega,by simpa[h3] using hs_i⟩,by omega⟩⟩
  have hn: ¬a.topics=b.topics:=fun e=>h3 (hs_i.mp e).1
  have: ¬a=b:=by rw[hN];exact fun h=>hn h.1
  rw[←hE];simp[this]
 rw[ap hc_i,ap (by omega)] at hs_i
 have E1:a.topics=b.topics:=by rw[hs_i]
 clear hs_i hl_i hc_i i
 refine ax.rule (α:=Nat) (fun i=>[I i]) (fun i=>i≤a.calls.length∧((a.calls=b.calls)=(a.calls.drop i=b.calls.drop i))) (fun i=>a.calls.length-i) 0 rfl ⟨by omega,by simp⟩ (fun _=>rfl) ?_
 rintro i ⟨hl_i,hs_i⟩
 simp only[app]
 simp (disch:=first|omega|assumption|(constructor<;>first|assumption|omega)|simp only[LN];omega) only[↓SB,S1,↓cO]
 refine ⟨fun hc_i=>?_,fun hc_i=>?_⟩
 ·obtain ⟨x,hx⟩:=ak hc_i
  obtain ⟨y,hy⟩:=ak (xs:=b.calls) (i:=i) (by omega)
  rw[ay hx,ay hy,List.cons.injEq] at hs_i
  simp (disch:=first|omega|assumption|(constructor<;>first|assumption|omega)|simp only[LN];omega) only[↓SB,S1,↓cO,af hx,af hy,Call.deq]
  refine ⟨fun h3=>?_,fun h3=>⟨i+1,rfl,⟨by omega,by simpa[h3] using hs_i⟩,by omega⟩⟩
  have hn: ¬a.calls=b.calls:=fun e=>h3 (hs_i.mp e).1
  have: ¬a=b:=by rw[hN];exact fun h=>hn h.2.1
  rw[←hE];simp[this]
 rw[ap hc_i,ap (by omega)] at hs_i
 have E2:a.calls=b.calls:=by rw[hs_i]
 clear hs_i hl_i hc_i i
 refine ax.rule (α:=Nat) (fun i=>[I i]) (fun i=>i≤a.marks.length∧((a.marks=b.marks)=(a.marks.drop i=b.marks.drop i))) (fun i=>a.marks.length-i) 0 rfl ⟨by omega,by simp⟩ (fun _=>rfl) ?_
 rintro i ⟨hl_i,hs_i⟩
 simp only[app]
 simp (disch:=first|omega|assumption|(constructor<;>first|assumption|omega)|simp only[LN];omega) only[↓SB,S1,↓cO]
 refine ⟨fun hc_i=>?_,fun hc_i=>?_⟩
 ·obtain ⟨x,hx⟩:=ak hc_i
  obtain ⟨y,hy⟩:=ak (xs:=b.marks) (i:=i) (by omega)
  rw[ay hx,ay hy,List.cons.injEq] at hs_i
  simp (disch:=first|omega|assumption|(constructor<;>first|assumption|omega)|simp only[LN];omega) only[↓SB,S1,↓cO,af hx,af hy,Mark.deq]
  refine ⟨fun h3=>?_,fun h3=>⟨i+1,rfl,⟨by omega,by simpa[h3] using hs_i⟩,by omega⟩⟩
  have hn: ¬a.marks=b.marks:=fun e=>h3 (hs_i.mp e).1
  have: ¬a=b:=by rw[hN];exact fun h=>hn h.2.2.1
  rw[←hE];simp[this]
 rw[ap hc_i,ap (by omega)] at hs_i
 have E3:a.marks=b.marks:=by rw[hs_i]
 clear hs_i hl_i hc_i i
 refine ax.rule (α:=Nat) (fun i=>[I i]) (fun i=>i≤a.taken.length∧((a.taken=b.taken)=(a.taken.drop i=b.taken.drop i))) (fun i=>a.taken.length-i) 0 rfl ⟨by omega,by simp⟩ (fun _=>rfl) ?_
 rintro i ⟨hl_i,hs_i⟩
 simp only[app]
 simp (disch:=first|omega|assumption|(constructor<;>first|assumption|omega)|simp only[LN];omega) only[↓SB,S1,↓cO]
 refine ⟨fun hc_i=>?_,fun hc_i=>?_⟩
 ·obtain ⟨x,hx⟩:=ak hc_i
  obtain ⟨y,hy⟩:=ak (xs:=b.taken) (i:=i) (by omega)
  rw[ay hx,ay hy,List.cons.injEq] at hs_i
  simp (disch:=first|omega|assumption|(constructor<;>first|assumption|omega)|simp only[LN];omega) only[↓SB,S1,↓cO,af hx,af hy,Mark2.deq]
  refine ⟨fun h3=>?_,fun h3=>⟨i+1,rfl,⟨by omega,by simpa[h3] using hs_i⟩,by omega⟩⟩
  have hn: ¬a.taken=b.taken:=fun e=>h3 (hs_i.mp e).1
  have: ¬a=b:=by rw[hN];exact fun h=>hn h.2.2.2
  rw[←hE];simp[this]
 ·rw[ap hc_i,ap (by omega)] at hs_i
  have E4:a.taken=b.taken:=by rw[hs_i]
  have:a=b:=by rw[hN];exact ⟨E1,E2,E3,E4⟩
  rw[←hE];simp[this]
end Go.Xt
end
section
set_option linter.unusedSimpArgs false
set_option linter.unusedVariables false
set_option maxRecDepth 100000
namespace Go.Xt
set_option linter.defProp false
instance:FlatRow Kid:=⟨fun a q hq=>by simp[Row.row] at hq;rcases hq with rfl | rfl | rfl<;>rfl⟩
instance:FlatRow Item:=⟨fun a q hq=>by simp[Row.row] at hq;rcases hq with rfl | rfl<;>rfl⟩
instance:FlatRow Event:=⟨fun a q hq=>by simp[Row.row] at hq;rcases hq with rfl | rfl | rfl | rfl | rfl | rfl<;>rfl⟩
instance:FlatRow Peer:=⟨fun a q hq=>by simp[Row.row] at hq;rcases hq with rfl | rfl<;>rfl⟩
instance:FlatRow By:=⟨fun a q hq=>by simp[Row.row] at hq;subst hq;rfl⟩
theorem xA{α:Type}{xs:List α}{i:Nat}{x:α}(h:xs[i]? =some x):xs.take (i+1)=xs.take i++[x]:=by rw[List.take_add_one,h];rfl
theorem EX(s:Stream)(q:List Event)(hg:ag (eN (s,q)).2.1):WW ρ 6 pL eN (s,q):=by
 simp only[eN,RR] at hg ⊢
 unfold pL xj
 simp (disch:=first|omega|assumption|(constructor<;>first|assumption|omega)|simp only[LN];omega) only[↓S0,S3,S2,S1]
 simp only[List.cons.injEq,PV.bool.injEq,and_true]
 rw[Bool.eq_iff_iff];simp;omega
theorem EY(x:Topic)(hg:ag (eO x).2.1):WW ρ 16 pM eO x:=by
 simp only[eO,RR] at hg ⊢
 unfold pM ck
 repeat' (first | apply And.intro | intro _ | simp (disch:=first|omega|assumption|(constructor<;>first|assumption|omega)|simp only[LN];omega) only[↓SB,S1,↓Es])
 all_goals (simp_all;try omega)
theorem EZ(n:Node)(hg:ag (eP n).2.1):WW ρ 9 pN eP n:=by
 simp only[eP,RR] at hg ⊢
 unfold pN
 simp only[ag,aV] at hg
 generalize hE:aI n=q
 unfold aI at hE
 refine SUB.v1 (bb (decide (n.peers.length>12)||decide (n.topics.length>8)||decide (n.calls.length>60)||decide (n.marks.length>12)||decide (n.taken.length>80))) ?_ ?_
 ·repeat' (first | apply And.intro | intro _ | simp (disch:=first|omega|assumption|(constructor<;>first|assumption|omega)|simp only[LN];omega) only[↓SB,S1,↓jy])
  all_goals (simp_all;try omega)
  all_goals (rw[Bool.eq_iff_iff];simp;omega)
 cases hA:(decide (n.peers.length>12)||decide (n.topics.length>8)||decide (n.calls.length>60)||decide (n.marks.length>12)||decide (n.taken.length>80))
 ·rw[hA] at hE
  simp only[Bool.false_or] at hE
  simp (disch:=first|omega|assumption|(constructor<;>first|assumption|omega)|simp only[LN];omega) only[↓SB,S1,↓jy]
  refine ax.rule (α:=Nat) (fun i=>[I i]) (fun i=>i≤n.topics.length∧(n.topics.drop i).any (ck)=n.topics.any (ck)) (fun i=>n.topics.length-i) 0 rfl ⟨by omega,by simp⟩ (fun _=>rfl) ?_
  rintro i ⟨hl_i,hs_i⟩
  simp only[app]
  simp (disch:=first|omega|assumption|(constructor<;>first|assumption|omega)|simp only[LN];omega) only[↓SB,S1,↓jy]
  refine ⟨fun hc_i=>?_,fun hc_i=>?_⟩
  ·obtain ⟨x,hx⟩:=ak hc_i
   rw[ay hx,List.any_cons] at hs_i
   simp (disch:=first|omega|assumption|(constructor<;>first|assumption|omega)|simp only[LN];omega) only[↓SB,S1,↓jy,af hx]
   refine ⟨fun h3=>?_,fun h3=>⟨i+1,rfl,⟨by omega,by simpa[h3] using hs_i⟩,by omega⟩⟩
   rw[←hE,←hs_i,h3];simp
  ·rw[ap hc_i] at hs_i
   rw[←hE,←hs_i];simp
 ·rw[hA] at hE
  simp (disch:=first|omega|assumption|(constructor<;>first|assumption|omega)|simp only[LN];omega) only[↓SB,S1,↓jy]
  rw[←hE];simp
theorem yF(l:List Kid)(hp:l.length≤1000000):WW ρ 1 lE cG l:=by
 simp only[cG,RR]
 unfold lE
 simp (disch:=first|omega|assumption|(constructor<;>first|assumption|omega)|simp only[LN];omega) only[↓SB,S1]
theorem xB(l:List Item)(hp:l.length≤1000000):WW ρ 1 kP cn l:=by
 simp only[cn,RR]
 unfold kP
 simp (disch:=first|omega|assumption|(constructor<;>first|assumption|omega)|simp only[LN];omega) only[↓SB,S1]
theorem wh(l:List Event)(hp:l.length≤1000000):WW ρ 1 jS bW l:=by
 simp only[bW,RR]
 unfold jS
 simp (disch:=first|omega|assumption|(constructor<;>first|assumption|omega)|simp only[LN];omega) only[↓SB,S1]
theorem xC(l:List Peer)(hp:l.length≤1000000):WW ρ 1 kQ co l:=by
 simp only[co,RR]
 unfold kQ
 simp (disch:=first|omega|assumption|(constructor<;>first|assumption|omega)|simp only[LN];omega) only[↓SB,S1]
theorem wi(s:Stream)(hp:s.kept.length≤1000000∧s.ahead.length≤1000000):WW ρ 5 jT cH s:=by
 simp only[cH,RR]
 unfold jT
 simp (disch:=first|omega|assumption|(constructor<;>first|assumption|omega)|simp only[LN];omega) only[↓SB,S1,↓xo]
theorem Cg{x:Topic}(h:ck x=false):x.path.length≤20∧x.kids.length≤20∧x.stream.kept.length≤30∧x.stream.ahead.length≤30∧x.queue.length≤50:=by
 simp[ck,xj] at h;omega
theorem og{n:Node}(h:aI n=false):n.peers.length≤12∧n.topics.length≤8∧n.calls.length≤60∧n.marks.length≤12∧n.taken.length≤80∧n.topics.any ck=false:=by
 simp only[aI,Bool.or_eq_false_iff,decide_eq_false_iff_not] at h
 obtain ⟨⟨⟨⟨⟨a,b⟩,d⟩,e⟩,f⟩,g⟩:=h
 exact ⟨by omega,by omega,by omega,by omega,by omega,g⟩
def xD:=And.intro @iY (And.intro @yx (And.intro @nU (@aY)))
theorem xE(x:Topic)(hp:ck x=false):WW ρ 16 kR cY x:=by
 simp only[cY,RR]
 unfold kR
 have hb:=Cg hp
 simp (disch:=first|omega|assumption|(constructor<;>first|assumption|omega)|simp only[LN];omega) only[↓SB,S1,↓xD]
def lH:=And.intro @oJ (@ic)
theorem yG(n:Node)(hp:aI n=false)(hg:ag (cI n).2.1):WW ρ 9 lF cI n:=by
 simp only[cI,RR] at hg ⊢
 unfold lF
 simp only[ag,aV] at hg
 have hb:=og hp
 simp (disch:=first|omega|assumption|(constructor<;>first|assumption|omega)|simp only[LN];omega) only[↓SB,S1,↓lH]
 refine ax.rule (α:=Nat) (fun i=>[I i,L (n.topics.take i)]) (fun i=>i≤n.topics.length) (fun i=>n.topics.length-i) 0 rfl (by omega) (fun _=>rfl) ?_
 intro i hl
 simp only[app]
 simp (disch:=first|omega|assumption|(constructor<;>first|assumption|omega)|simp only[LN];omega) only[↓SB,S1,↓lH]
 refine ⟨fun hc=>?_,fun hc=>?_⟩
 ·obtain ⟨x,hx⟩:=ak hc
  have hx9:=EW hb.2.2.2.2.2 (List.mem_of_getElem? hx)
  have hlt:(n.topics.take i).length=i:=by simp;omega
  simp (disch:=first|omega|assumption|(constructor<;>first|assumption|omega)|simp only[LN];omega) only[↓SB,S1,↓lH,af hx]
  exact ⟨i+1,by simp[xA hx],by omega,by omega⟩
 ·rw[List.take_of_length_le (by omega)]
end Go.Xt
end
section
set_option linter.unusedSimpArgs false
set_option linter.unusedVariables false
set_option maxRecDepth 100000
namespace Go.Xt
theorem Ch{α:Type}{xs:List α}{i:Nat}{x:α}(h:xs[i]? =some x):xs.take (i+1)=xs.take i++[x]:=by rw[List.take_add_one,h];rfl
end Go.Xt
end
section
set_option linter.unusedSimpArgs false
set_option linter.unusedVariables false
set_option maxRecDepth 100000
namespace Go.Xt
theorem ox(l:List Int)(n:Int)(hg:ag (bg (l,n)).2.1):WW ρ 2 dR bg (l,n):=by
 simp only[bg,RR] at hg ⊢
 unfold dR
 simp only[ag,aV,cj] at hg
 simp (disch:=first|omega|assumption|(constructor<;>first|assumption|omega)|simp only[LN];omega) only[↓SB,S1]
 refine ax.rule (α:=Nat) (fun i=>[I i]) (fun i=>i≤l.length∧(l.drop i).contains n=l.contains n) (fun i=>l.length-i) 0 rfl ⟨by omega,by simp⟩ (fun _=>rfl) ?_
 rintro i ⟨hl,hs⟩
 simp only[app]
 simp (disch:=first|omega|assumption|(constructor<;>first|assumption|omega)|simp only[LN];omega) only[↓SB,S1]
 refine ⟨fun hc=>?_,fun hc=>?_⟩
 ·obtain ⟨x,hx⟩:=ak hc
  rw[ay hx,List.contains_cons] at hs
  simp (disch:=first|omega|assumption|(constructor<;>first|assumption|omega)|simp only[LN];omega) only[↓SB,S1,af hx]
  refine ⟨fun h3=>?_,fun h3=>⟨i+1,rfl,⟨by omega,?_⟩,by omega⟩⟩
  ·rw[←hs];simp[h3]
  ·rw[←hs];simp[h3]
 ·rw[ap hc] at hs
  rw[←hs];simp
theorem J9{m:Int}: ∀(l:List Item) (p:Int),hZ m p l=true→(l.length:Int)≤max 0 (m-1-p)
 | [],p,_=>by simp;omega
 | x::r,p,h=>by
  simp only[hZ,Bool.and_eq_true,decide_eq_true_eq] at h
  have:=J9 r x.seq h.2
  simp only[List.length_cons]
  omega
theorem NO{c:Config}{t self:Int}{x:Topic}(hc:bC c=true)(h:aS c t self x=true):QG c x=false:=by
 have hb:=fa hc
 simp only[aS,Bool.and_eq_true,dv,jM,bd,jn,Bool.or_eq_true,n7,fJ,lV,decide_eq_true_eq] at h
 obtain ⟨⟨_,hk⟩,hs,hq⟩:=h
 have h1: ¬(x.kids.length:Int)>c.kids:=by have:=hk.1.2;omega
 have h2: ¬(x.queue.length:Int)>c.queue:=by have:=hq.1.1.2;omega
 have h3: ¬(x.stream.kept.length:Int)>c.keep:=by
  rcases hs with hs | hs
  ·rw[hs.1.2];simp;omega
  ·have:=hs.1.2.1.1.2;omega
 have h4: ¬(x.stream.ahead.length:Int)>c.window:=by
  rcases hs with hs | hs
  ·rw[hs.2];simp;omega
  ·have:=J9 _ _ hs.2.2;omega
 simp[QG,h1,h2,h3,h4]
end Go.Xt
end
section
set_option linter.unusedSimpArgs false
set_option linter.unusedVariables false
set_option maxRecDepth 100000
namespace Go.Xt
theorem Ja  :WW ρ 0 rT kM ():=by
 simp only[kM,RR]
 unfold rT
 rfl
end Go.Xt
end
section
set_option linter.unusedSimpArgs false
set_option linter.unusedVariables false
set_option maxRecDepth 100000
namespace Go.Xt
set_option linter.defProp false
theorem OS{t a b:Int}(h:fm t a b=true):a≠b:=by
 rintro rfl;have:=(iI h).2.2.2;omega
theorem PN{α:Type}{l:List α}{i:Nat}{x:α}(h:l[i]? =some x):l.take i++[x]=l.take (i+1):=by
 rw[List.take_add_one,h];rfl
theorem OT{v:Int}:isK v=true↔0≤v∧v<4611686018427387904:=by simp[isK]
theorem TL(n:Int):isK (nn n)=true:=OT.2 (qA n)
theorem TM{k n:Int}(h1:0≤k)(h2:k<4611686018427387904)(h3:0≤n)(h4:n<4611686018427387904):0≤far k n∧far k n<4611686018427387904:=by
 unfold far;split<;>omega
theorem R8(k:Int):WW ρ 1 C1 qv k:=by
 simp only[qv,RR]
 unfold C1
 simp (disch:=first|omega|assumption|(constructor<;>first|assumption|omega)|simp only[LN];omega) only[↓SB,S1]
 refine ⟨fun h=>?_,fun h=>?_⟩ <;>simp[isK,h]
theorem Jb: ∀n:Fin 62,(1:Int)≤2 ^ n.val∧(2:Int) ^ n.val<4611686018427387904:=by decide +kernel
theorem yH{b:Int}{k:PV→Prop}(h0:0≤b)(h1:b≤61):OP (.bin .shl) [I 1,I b] k=k (I (2 ^ b.toNat)):=aH (by
 have h:(1:Int)≤2 ^ b.toNat∧(2:Int) ^ b.toNat<4611686018427387904:=Jb ⟨b.toNat,by omega⟩
 have h2:min b.toNat IntKind.i64.bits=b.toNat:=Nat.min_eq_left (by simp only[IntKind.bits];omega)
 have h3: ¬b<0:=by omega
 simp only[ev,lc,h2,h3,if_false,Int.one_mul,Option.some.injEq,PV.int.injEq,true_and]
 exact wr (by omega) (by omega))
def Ci:=And.intro @uJ (@QK)
theorem NP(k:Int)(bits:Int):WW ρ 2 vZ lu (k,bits):=by
 simp only[lu,RR]
 unfold vZ
 simp (disch:=first|omega|assumption|(constructor<;>first|assumption|omega)|simp only[LN];omega) only[↓SB,S1,↓Ci]
 refine ⟨fun h=>by simp[h],fun h=>⟨fun h2=>?_,fun h2=>⟨fun h3=>?_,fun h3=>?_⟩⟩⟩
 ·have: ¬0≤bits:=by omega
  simp[h,this]
 ·have: ¬bits≤61:=by omega
  simp[h,this]
 ·have a:=OT.1 h
  have b:(1:Int)≤2 ^ bits.toNat∧(2:Int) ^ bits.toNat<4611686018427387904:=Jb ⟨bits.toNat,by omega⟩
  rw[yH (by omega) (by omega)]
  simp (disch:=first|omega|assumption|(constructor<;>first|assumption|omega)|simp only[LN];omega) only[↓SB,S1,↓Ci]
  have c:bits≤61:=by omega
  have d:0≤bits:=by omega
  simp[h,c,d]
def ni:=And.intro @dl (And.intro @ra (@vV))
theorem Jc(t:Int)(l:List Int)(hg:ag (fP (t,l)).2.1):WW ρ 2 rq fP (t,l):=by
 simp only[fP,RR] at hg ⊢
 unfold rq zm
 simp only[ag,aV] at hg
 simp (disch:=first|omega|assumption|(constructor<;>first|assumption|omega)|simp only[LN];omega) only[↓SB,S1,↓ni]
 rcases Bool.eq_false_or_eq_true (isT t) with h | h
 case inr=>simp[h]
 simp only[h,if_true,Bool.true_eq_false,forall_const,if_false,Int.reduceEq,not_true_eq_false,false_implies,not_false_eq_true,true_and]
 refine ⟨fun h2=>by simp[h2],fun h2=>⟨fun h3=>?_,fun h3=>?_⟩⟩
 ·have:l=[]:=List.eq_nil_of_length_eq_zero (by omega)
  subst this;simp
 ·cases l with
  | nil=>simp at h3
  | cons y l0 =>
   simp only[h2,if_true]
   rw[Qn (by omega) (by simp)]
   simp (disch:=first|omega|assumption|(constructor<;>first|assumption|omega)|simp only[LN];omega) only[↓SB,S1,↓ni]
   generalize hl:y::l0=l at *
   refine ax.rule (α:=Nat×Int) (fun a=>[I a.2,I a.1]) (fun a=>a.1≤l.length∧fc t a.2 (l.drop a.1)=fc t y l) (fun a=>l.length-a.1) (0,y) rfl ⟨by simp,by simp⟩ (fun _=>rfl) ?_
   rintro ⟨i,b⟩ ⟨h4,h5⟩
   simp only[app] at *
   simp (disch:=first|omega|assumption|(constructor<;>first|assumption|omega)|simp only[LN];omega) only[↓SB,S1,↓ni]
   refine ⟨fun h6=>?_,fun h6=>?_⟩
   ·obtain ⟨x,hx⟩:=ak h6
    rw[ay hx,fc] at h5
    simp (disch:=first|omega|assumption|(constructor<;>first|assumption|omega)|simp only[LN];omega) only[↓SB,S1,↓ni,af hx]
    refine ⟨fun h7=>⟨(i+1,x),by simp,⟨by simp;omega,by simpa[h7] using h5⟩,by simp;omega⟩,fun h7=>⟨(i+1,b),by simp,⟨by simp;omega,by simpa[h7] using h5⟩,by simp;omega⟩⟩
   ·rw[ap h6] at h5
    simp[←h5,fc]
theorem wj{xs:List Int}{i:Nat}{x d:Int}(h:xs[i]? =some x):(xs.take (i+1)).getLastD d=x:=by
 rw[←PN h,List.getLastD_concat]
def lY:=And.intro @dW (@bK)
theorem F0(live:List Int)(self:Int)(hg:ag (eu (live,self)).2.1):WW ρ 2 pj eu (live,self):=by
 simp only[eu,RR] at hg ⊢
 unfold pj zT
 simp only[ag,aV] at hg
 simp (disch:=first|omega|assumption|(constructor<;>first|assumption|omega)|simp only[LN];omega) only[↓SB,S1,↓lY]
 refine ax.rule (α:=Nat) (fun i=>[I i]) (fun i=>i≤live.length∧nI (((live.take i).getLastD (-1))) (live.drop i)=nI (-1) live) (fun i=>live.length-i) 0 rfl ⟨by simp,by simp⟩ (fun _=>rfl) ?_
 rintro i ⟨h4,h5⟩
 simp only[app] at *
 simp (disch:=first|omega|assumption|(constructor<;>first|assumption|omega)|simp only[LN];omega) only[↓SB,S1,↓lY]
 refine ⟨fun h6=>?_,fun h6=>?_⟩
 ·obtain ⟨x,hx⟩:=ak h6
  rw[ay hx,nI] at h5
  simp (disch:=first|omega|assumption|(constructor<;>first|assumption|omega)|simp only[LN];omega) only[↓SB,S1,↓lY,af hx]
  refine ⟨fun h7=>?_,fun h7=>⟨fun h8=>?_,fun h8=>?_⟩⟩
  ·rw[←h5];simp[h7]
  ·obtain ⟨j,rfl⟩: ∃j,i=j+1:=⟨i-1,by omega⟩
   have hj:(((j+1:Nat):Int)-1)=(j:Nat):=by omega
   obtain ⟨y,hy⟩:=ak (xs:=live) (i:=j) (by omega)
   rw[wj hy] at h5
   rw[hj]
   simp (disch:=first|omega|assumption|(constructor<;>first|assumption|omega)|simp only[LN];omega) only[↓SB,S1,↓lY,af hx,af hy]
   refine ⟨fun h9=>?_,fun h9=>⟨j+2,by simp;omega,⟨by omega,?_⟩,by omega⟩⟩
   ·have: ¬y<x:=by omega
    rw[←h5];simp[this]
   ·rw[wj hx,←h5]
    have:y<x:=by omega
    simp[h7,this]
  ·have:i=0:=by omega
   subst this
   refine ⟨1,by simp,⟨by omega,?_⟩,by omega⟩
   rw[wj hx,←h5]
   have:=dk.1 h7
   have:(-1:Int)<x:=by omega
   simp[h7,this]
 ·rw[ap h6] at h5
  simp only[nI] at h5
  rw[←h5]
  refine ⟨fun h=>by rw[h];simp,fun h=>by rw[h];simp⟩
def qb:=And.intro @oI (@uJ)
theorem F1(live:List Int)(k:Int)(hp:live.all isN=true∧0≤k∧k<4611686018427387904)(hg:ag (ew (live,k)).2.1):WW ρ 2 pk ew (live,k):=by
 simp only[ew,RR] at hg ⊢
 unfold pk oW
 simp only[ag,aV] at hg
 obtain ⟨p1,p2,p3⟩:=hp
 rw[List.all_eq_true] at p1
 simp (disch:=first|omega|assumption|(constructor<;>first|assumption|omega)|simp only[LN];omega) only[↓SB,S1,↓qb]
 refine ax.rule (α:=Nat×Int×Int) (fun a=>[I a.2.1,I a.2.2,I a.1]) (fun a=>a.1≤live.length∧dZ k a.2.1 a.2.2 (live.drop a.1)=dZ k (-1) 0 live) (fun a=>live.length-a.1) (0,-1,0) rfl ⟨by simp,by simp⟩ (fun _=>rfl) ?_
 rintro ⟨i,b,d⟩ ⟨h4,h5⟩
 simp only[app] at *
 simp (disch:=first|omega|assumption|(constructor<;>first|assumption|omega)|simp only[LN];omega) only[↓SB,S1,↓qb]
 refine ⟨fun h6=>?_,fun h6=>?_⟩
 ·obtain ⟨x,hx⟩:=ak h6
  rw[ay hx,dZ] at h5
  have hN:=p1 x (List.mem_of_getElem? hx)
  have hb:=qA x
  simp (disch:=first|omega|assumption|(constructor<;>first|assumption|omega)|simp only[LN];omega) only[↓SB,S1,↓qb,af hx,hN,if_true]
  refine ⟨fun h7=>⟨(i+1,x,far k (nn x)),by simp,⟨by simp;omega,by simpa[h7] using h5⟩,by simp;omega⟩,fun h7=>⟨fun h8=>⟨(i+1,x,far k (nn x)),by simp,⟨by simp;omega,by simpa[h8] using h5⟩,by simp;omega⟩,fun h8=>⟨(i+1,b,d),by simp,⟨by simp;omega,by simpa[h7,h8] using h5⟩,by simp;omega⟩⟩⟩
 ·rw[ap h6,dZ] at h5
  simp[←h5]
def qc:=And.intro @oI (@uJ)
theorem F2(live:List Int)(self:Int)(hp:live.all isN=true∧isN self=true)(hg:ag (ey (live,self)).2.1):WW ρ 2 pm ey (live,self):=by
 simp only[ey,RR] at hg ⊢
 unfold pm jL
 simp only[ag,aV] at hg
 obtain ⟨p1,p2⟩:=hp
 rw[List.all_eq_true] at p1
 simp (disch:=first|omega|assumption|(constructor<;>first|assumption|omega)|simp only[LN];omega) only[↓SB,S1,↓qc]
 refine ax.rule (α:=Nat×Int×Int) (fun a=>[I a.2.1,I a.2.2,I a.1]) (fun a=>a.1≤live.length∧dK self a.2.1 a.2.2 (live.drop a.1)=dK self (-1) 0 live) (fun a=>live.length-a.1) (0,-1,0) rfl ⟨by simp,by simp⟩ (fun _=>rfl) ?_
 rintro ⟨i,b,d⟩ ⟨h4,h5⟩
 simp only[app] at *
 simp (disch:=first|omega|assumption|(constructor<;>first|assumption|omega)|simp only[LN];omega) only[↓SB,S1,↓qc]
 refine ⟨fun h6=>?_,fun h6=>?_⟩
 ·obtain ⟨x,hx⟩:=ak h6
  rw[ay hx,dK] at h5
  have hN:=p1 x (List.mem_of_getElem? hx)
  have hb:=qA x
  have hb2:=qA self
  simp (disch:=first|omega|assumption|(constructor<;>first|assumption|omega)|simp only[LN];omega) only[↓SB,S1,↓qc,af hx,hN,p2,if_true]
  refine ⟨fun h7=>⟨fun h8=>⟨(i+1,x,far (nn x) (nn self)),by simp,⟨by simp;omega,by simpa[h7,h8] using h5⟩,by simp;omega⟩,fun h8=>⟨fun h9=>⟨(i+1,x,far (nn x) (nn self)),by simp,⟨by simp;omega,by simpa[h7,h8,h9] using h5⟩,by simp;omega⟩,fun h9=>⟨(i+1,b,d),by simp,⟨by simp;omega,by simpa[h7,h8,h9] using h5⟩,by simp;omega⟩⟩⟩,fun h7=>⟨(i+1,b,d),by simp,⟨by simp;omega,by simpa[h7] using h5⟩,by simp;omega⟩⟩
 ·rw[ap h6,dK] at h5
  simp[←h5]
theorem Cj: ∀ {l:List Int} {p:Int},nI p l=true→l.all isN=true
 | [],_,_=>rfl
 | x::r,p,h=>by
  simp only[nI,Bool.and_eq_true] at h
  rw[List.all_cons,h.1.1,Cj h.2];rfl
theorem uK{live:List Int}{self:Int}(h:zT live self=0):(live.all isN=true∧isN self=true)∧(live.all isN=true∧isN self=true∧live≠[])∧nI (-1) live=true∧live.contains self=true:=by
 unfold zT at h
 split at h
 ·rename_i h1
  rw[Bool.and_eq_true] at h1
  have a:=Cj h1.1
  have b:isN self=true:=by
   rw[List.all_eq_true] at a;exact a self (by simpa using h1.2)
  exact ⟨⟨a,b⟩,⟨a,b,by rintro rfl;simp at h1⟩,h1.1,h1.2⟩
 ·omega
def F3:=And.intro @ra (@Eb)
theorem F4(t:Int)(live:List Int)(self:Int)(hg:ag (ez (t,live,self)).2.1):WW ρ 3 pn ez (t,live,self):=by
 simp only[ez,RR] at hg ⊢
 unfold pn tv
 simp (disch:=first|omega|assumption|(constructor<;>first|assumption|omega)|simp only[LN];omega) only[↓SB,S1,↓F3]
 refine ⟨fun h=>by simp[h],fun h=>by simp[h]⟩
end Go.Xt
end
section
set_option linter.unusedSimpArgs false
set_option linter.unusedVariables false
set_option maxRecDepth 100000
namespace Go.Xt
set_option linter.defProp false
theorem R9: ∀ {xs ys:List Int},xs.Pairwise (· < ·)→ys.Pairwise (· < ·)→(∀a,a∈xs↔a∈ys)→xs=ys
 | [],[],_,_,_=>rfl
 | [],y::ys,_,_,h=>by have:=(h y).2 (by simp);simp at this
 | x::xs,[],_,_,h=>by have:=(h x).1 (by simp);simp at this
 | x::xs,y::ys,h1,h2,h=>by
  rw[List.pairwise_cons] at h1 h2
  have e:x=y:=by
   have a:=(h x).1 (by simp)
   have b:=(h y).2 (by simp)
   rw[List.mem_cons] at a b
   rcases a with a | a
   ·exact a
   ·rcases b with b | b
    ·exact b.symm
    ·have:=h2.1 x a;have:=h1.1 y b;omega
  subst e
  rw[R9 h1.2 h2.2 fun a=>⟨fun ha=>?_,fun ha=>?_⟩]
  ·have:=(h a).1 (by simp[ha])
   rw[List.mem_cons] at this
   rcases this with e | e
   ·have:=h1.1 a ha;omega
   ·exact e
  ·have:=(h a).2 (by simp[ha])
   rw[List.mem_cons] at this
   rcases this with e | e
   ·have:=h2.1 a ha;omega
   ·exact e
theorem yI: ∀ {r:List Int} {p:Int},r.Pairwise (· ≤ ·)→(∀a∈r,p≤a)→(mv p r).Pairwise (· < ·)∧(∀a,a∈mv p r↔a∈r∧a≠p)
 | [],p,_,_=>by simp[mv]
 | y::r,p,h1,h2=>by
  rw[List.pairwise_cons] at h1
  unfold mv
  by_cases e:y=p
  ·subst e
   obtain ⟨a,b⟩:=yI h1.2 h1.1
   rw[if_pos rfl]
   refine ⟨a,fun z=>?_⟩
   rw[b,List.mem_cons]
   exact ⟨fun h=>⟨.inr h.1,h.2⟩,fun h=>⟨h.1.resolve_left h.2,h.2⟩⟩
  ·obtain ⟨a,b⟩:=yI h1.2 h1.1
   rw[if_neg e]
   refine ⟨List.pairwise_cons.2 ⟨fun z hz=>?_,a⟩,fun z=>?_⟩
   ·have:=(b z).1 hz
    have:=h1.1 z this.1
    omega
   ·have hy:=h2 y (by simp)
    rw[List.mem_cons,b,List.mem_cons]
    constructor
    ·rintro (rfl | ⟨h,h'⟩)
     ·exact ⟨.inl rfl,e⟩
     ·exact ⟨.inr h,by have:=h1.1 z h;omega⟩
    ·rintro ⟨rfl | h,h'⟩
     ·exact .inl rfl
     ·by_cases z=y
      ·left;assumption
      ·right;exact ⟨h,by assumption⟩
theorem So{l:List Int}(h:l.Pairwise (· ≤ ·)):(bB l).Pairwise (· < ·)∧ ∀a,a∈bB l↔a∈l:=by
 cases l with
 | nil=>simp[bB]
 | cons x r =>
  rw[List.pairwise_cons] at h
  obtain ⟨a,b⟩:=yI h.2 h.1
  unfold bB
  refine ⟨List.pairwise_cons.2 ⟨fun z hz=>?_,a⟩,fun z=>?_⟩
  ·have:=(b z).1 hz
   have:=h.1 z this.1
   omega
  ·rw[List.mem_cons,b,List.mem_cons]
   by_cases e:z=x<;>simp[e]
theorem NQ{l:List Int}{a:Int}:a∈mw l↔a∈l:=List.mem_mergeSort
theorem PO(l:List Int):(mw l).Pairwise (· ≤ ·):=by
 have:=List.pairwise_mergeSort (le:=fun x y:Int=>decide (x≤y)) (by intro a b c;simp;omega) (by intro a b;simp;omega) l
 simpa[mw] using this
theorem NR{a:Int}:a∈tu↔isN a=true:=by
 rw[dk];simp[tu];omega
theorem Ra:tu.Pairwise (· < ·):=by decide
theorem LO{l:List Int}(h: ∀a∈l,isN a=true):bB (mw l)=tu.filter fun n=>l.contains n:=by
 obtain ⟨a,b⟩:=So (PO l)
 refine R9 a (Ra.filter _) fun z=>?_
 rw[b,NQ,List.mem_filter,NR]
 simp only[List.contains_eq_mem,decide_eq_true_eq]
 exact ⟨fun hz=>⟨h z hz,hz⟩,fun hz=>hz.2⟩
theorem uc{k:Int}: ∀(l:List Int) (b d:Int),(dZ k b d l=b∧(0≤b∨l=[]))∨dZ k b d l∈l
 | [],b,d=>.inl ⟨rfl,.inr rfl⟩
 | x::r,b,d=>by
  unfold dZ
  split
  ·rcases uc r x (far k (nn x)) with ⟨h,_⟩ | h
   ·right;rw[h];simp
   ·right;simp[h]
  ·rename_i hb
   rcases uc r b d with ⟨h,_⟩ | h
   ·left;exact ⟨h,.inl (by omega)⟩
   ·right;simp[h]
theorem Ck{live:List Int}{k:Int}(h:live≠[]):oW live k∈live:=by
 rcases uc (k:=k) live (-1) 0 with ⟨_,h1 | h1⟩ | h1
 ·omega
 ·exact absurd h1 h
 ·exact h1
theorem wk(live:List Int)(self:Int)(k:Nat):mf live self (k+1)=mf live self k++if oW live (mT self k)≠self then [oW live (mT self k)] else []:=by
 unfold mf
 rw[List.range_succ,List.map_append,List.filter_append]
 congr 1
 by_cases h:oW live (mT self k)=self<;>simp[h]
theorem Ge(live:List Int)(self:Int): ∀k:Nat,(mf live self k).length≤k
 | 0=>by simp[mf]
 | k+1=>by
  have:=Ge live self k
  rw[wk,List.length_append]
  split<;>simp<;>omega
theorem Gf{live:List Int}{self n:Int}{k:Nat}(h0:live≠[])(h:n∈mf live self k):n∈live∧n≠self:=by
 unfold mf at h
 simp only[List.mem_filter,List.mem_map,decide_eq_true_eq] at h
 obtain ⟨⟨i,_,rfl⟩,h2⟩:=h
 exact ⟨Ck h0,h2⟩
theorem LP(self:Int){i:Nat}(h:i<62):0≤mT self i∧mT self i<4611686018427387904:=by
 have b:(1:Int)≤2 ^ i∧(2:Int) ^ i<4611686018427387904:=Jb ⟨i,h⟩
 exact TM (by omega) b.2 (qA self).1 (qA self).2
theorem NS{live:List Int}{self:Int}(h1:live.all isN=true)(h3:live≠[]):bB (mw (mf live self 62))=hU live self:=by
 rw[List.all_eq_true] at h1
 rw[LO fun a ha=>h1 a (Gf h3 ha).1];rfl
theorem NT(l:List Int):(mw l).length=l.length:=List.length_mergeSort ..
def jF:=And.intro @oI (And.intro @Nu (And.intro @Ec (And.intro @sG (@pc))))
theorem Ah(live:List Int)(self:Int)(hp:live.all isN=true∧isN self=true∧live≠[])(hg:ag (db (live,self)).2.1):WW ρ 2 mH db (live,self):=by
 simp only[db,RR] at hg ⊢
 unfold mH
 obtain ⟨p1,p2,p3⟩:=hp
 simp (disch:=first|omega|assumption|(constructor<;>first|assumption|omega)|simp only[LN];omega) only[↓SB,S1,↓jF,p2,if_true]
 refine ax.rule (α:=Nat) (fun i=>[I i,L (mf live self i)]) (fun i=>i≤62) (fun i=>62-i) 0 rfl (by simp) (fun _=>rfl) ?_
 intro i h4
 simp only[app] at *
 have hl:=Ge live self i
 simp (disch:=first|omega|assumption|(constructor<;>first|assumption|omega)|simp only[LN];omega) only[↓SB,S1,↓jF]
 refine ⟨fun h6=>?_,fun h6=>?_⟩
 ·have e:(isK (nn self)&&decide (0≤(i:Int))&&decide ((i:Int)≤61))=true:=by simp[TL];omega
  have hb:=LP self (i:=i) (by omega)
  have hk:live.all isN=true∧0≤mT self i∧mT self i<4611686018427387904:=⟨p1,hb⟩
  have e2:far (2 ^ i) (nn self)=mT self i:=rfl
  simp (disch:=first|omega|assumption|(constructor<;>first|assumption|omega)|simp only[LN];omega) only[↓SB,S1,↓jF,e,if_true,Int.toNat_natCast,e2]
  refine ⟨fun h7=>⟨i+1,?_,by omega,by omega⟩,fun h7=>⟨i+1,?_,by omega,by omega⟩⟩
  ·rw[wk];simp[h7]
  ·rw[wk];simp[h7]
 ·have e:i=62:=by omega
  subst e
  have hs:=NT (mf live self 62)
  simp (disch:=first|omega|assumption|(constructor<;>first|assumption|omega)|simp only[LN];omega) only[↓SB,S1,↓jF,NS p1 p3]
theorem ud{self:Int}: ∀(l:List Int) (b d:Int),dK self b d l=b∨(dK self b d l∈l∧dK self b d l≠self)
 | [],b,d=>.inl rfl
 | x::r,b,d=>by
  unfold dK
  split
  ·rename_i h1
   rcases ud r x (far (nn x) (nn self)) with h | h
   ·right;rw[h];exact ⟨by simp,h1.1⟩
   ·right;exact ⟨by simp[h],h.2⟩
  ·rcases ud r b d with h | h
   ·left;exact h
   ·right;exact ⟨by simp[h],h.2⟩
theorem NU(live:List Int)(self:Int):jL live self= -1∨(jL live self∈live∧jL live self≠self):=ud live (-1) 0
theorem zC(live:List Int)(self:Int):(hU live self).length≤8:=by
 have:=List.length_filter_le (fun n=>(mf live self 62).contains n) tu
 exact this
def sg:=And.intro @dl (And.intro @zU (@Ed))
theorem Jd(t:Int)(live:List Int)(self:Int)(hp:live.all isN=true∧isN self=true∧live≠[])(hg:ag (fQ (t,live,self)).2.1):WW ρ 3 rr fQ (t,live,self):=by
 simp only[fQ,RR] at hg ⊢
 unfold rr ij
 have hA:live.all isN=true∧isN self=true:=⟨hp.1,hp.2.1⟩
 have hl:=zC live self
 simp (disch:=first|omega|assumption|(constructor<;>first|assumption|omega)|simp only[LN];omega) only[↓SB,S1,↓sg]
 have hl2:(hU live self++[jL live self]).length≤9:=by simp;omega
 generalize hU live self++[jL live self]=l at hl2 ⊢
 refine ax.rule (α:=Nat×Int) (fun a=>[I a.2,I a.1]) (fun a=>a.1≤l.length∧fc t a.2 (l.drop a.1)=fc t self l) (fun a=>l.length-a.1) (0,self) rfl ⟨by simp,by simp⟩ (fun _=>rfl) ?_
 rintro ⟨i,b⟩ ⟨h4,h5⟩
 simp only[app] at *
 simp (disch:=first|omega|assumption|(constructor<;>first|assumption|omega)|simp only[LN];omega) only[↓SB,S1,↓sg]
 refine ⟨fun h6=>?_,fun h6=>?_⟩
 ·obtain ⟨x,hx⟩:=ak h6
  rw[ay hx,fc] at h5
  simp (disch:=first|omega|assumption|(constructor<;>first|assumption|omega)|simp only[LN];omega) only[↓SB,S1,↓sg,af hx]
  refine ⟨fun h7=>⟨(i+1,x),by simp,⟨by simp;omega,by simpa[h7] using h5⟩,by simp;omega⟩,fun h7=>⟨(i+1,b),by simp,⟨by simp;omega,by simpa[h7] using h5⟩,by simp;omega⟩⟩
 ·rw[ap h6,fc] at h5
  rw[←h5]
  refine ⟨fun h=>by simp[h],fun h=>by simp[h]⟩
theorem si{t:Int}: ∀(l:List Int) (b:Int),fc t b l=b∨(fm t (fc t b l) b=true∧fc t b l∈l)
 | [],b=>.inl rfl
 | x::r,b=>by
  unfold fc
  by_cases h:fm t x b=true
  ·rw[if_pos h]
   rcases si r x (t:=t) with e | e
   ·right;rw[e];exact ⟨h,by simp⟩
   ·right;exact ⟨sd e.1 h,by simp[e.2]⟩
  ·rw[if_neg h]
   rcases si r b (t:=t) with e | e
   ·left;exact e
   ·right;exact ⟨e.1,by simp[e.2]⟩
theorem NV(t:Int)(live:List Int)(self:Int):ij t live self= -1∨(fm t (ij t live self) self=true∧ij t live self∈hU live self++[jL live self]):=by
 unfold ij
 split
 ·left;rfl
 ·rename_i h
  exact .inr ((si _ _).resolve_left h)
def xF:=And.intro @Ee (@I5)
theorem Je(t:Int)(live:List Int)(self:Int)(hg:ag (fR (t,live,self)).2.1):WW ρ 3 rt fR (t,live,self):=by
 simp only[fR,RR] at hg ⊢
 unfold rt
 simp (disch:=first|omega|assumption|(constructor<;>first|assumption|omega)|simp only[LN];omega) only[↓SB,S1,↓xF]
 refine ⟨fun h=>by simp[h],fun h=>?_⟩
 have hB:live.all isN=true∧isN self=true∧live≠[]:=by
  unfold tv at h
  by_cases h2:zT live self=0
  ·exact (uK h2).2.1
  ·rw[if_neg h2] at h;exact absurd h h2
 simp (disch:=first|omega|assumption|(constructor<;>first|assumption|omega)|simp only[LN];omega) only[↓SB,S1,↓xF]
 refine ⟨fun h2=>?_,fun h2=>?_⟩
 ·have:max (ij t live self) 0=0:=by omega
  simp[h,this];omega
 ·have:max (ij t live self) 0=ij t live self:=by omega
  simp[h,this];omega
end Go.Xt
end
section
set_option linter.unusedSimpArgs false
set_option linter.unusedVariables false
set_option maxRecDepth 100000
namespace Go.Xt
set_option linter.defProp false
def Cl:=And.intro @nR (@rb)
theorem Cm(n:Int)(self:Int)(hp:isN n=true∧isN self=true):WW ρ 2 nZ fu (n,self):=by
 simp only[fu,RR]
 unfold nZ
 have h1:=qA n
 have h2:=qA self
 obtain ⟨h3,h4⟩:=hp
 simp (disch:=first|omega|assumption|(constructor<;>first|assumption|omega)|simp only[LN];omega) only[↓SB,S1,↓Cl]
theorem zD{self b d d':Int}(h:b<0): ∀l:List Int,dK self b d l=dK self b d' l
 | []=>rfl
 | x::r=>by
  unfold dK
  simp only[h,true_or,and_true]
  rw[zD h r]
theorem F5(live:List Int)(self:Int)(hp:live.all isN=true∧isN self=true)(hg:ag (eA (live,self)).2.1):WW ρ 2 po eA (live,self):=by
 simp only[eA,RR] at hg ⊢
 unfold po jL
 simp only[ag,aV] at hg
 obtain ⟨p1,p2⟩:=hp
 rw[List.all_eq_true] at p1
 refine ax.rule (α:=Nat×Int) (fun a=>[I a.2,I a.1]) (fun a=>a.1≤live.length∧(a.2<0∨isN a.2=true)∧dK self a.2 (far (nn a.2) (nn self)) (live.drop a.1)=dK self (-1) 0 live) (fun a=>live.length-a.1) (0,-1) rfl ⟨by simp,by simp,zD (by omega) live⟩ (fun _=>rfl) ?_
 rintro ⟨i,b⟩ ⟨h4,hb,h5⟩
 simp only[app] at *
 simp (disch:=first|omega|assumption|(constructor<;>first|assumption|omega)|simp only[LN];omega) only[↓SB,S1,↓nT]
 refine ⟨fun h6=>?_,fun h6=>?_⟩
 ·obtain ⟨x,hx⟩:=ak h6
  rw[ay hx,dK] at h5
  have hN:=p1 x (List.mem_of_getElem? hx)
  have hp1:isN x=true∧isN self=true:=⟨hN,p2⟩
  simp (disch:=first|omega|assumption|(constructor<;>first|assumption|omega)|simp only[LN];omega) only[↓SB,S1,↓nT,af hx]
  refine ⟨fun h7=>⟨fun h8=>⟨(i+1,x),by simp,⟨by simp;omega,.inr hN,by simpa[h7,h8] using h5⟩,by simp;omega⟩,fun h8=>?_⟩,fun h7=>⟨(i+1,b),by simp,⟨by simp;omega,hb,by simpa[h7] using h5⟩,by simp;omega⟩⟩
  have hp2:isN b=true∧isN self=true:=⟨hb.resolve_left h8,p2⟩
  simp (disch:=first|omega|assumption|(constructor<;>first|assumption|omega)|simp only[LN];omega) only[↓SB,S1,↓nT]
  refine ⟨fun h9=>⟨(i+1,x),by simp,⟨by simp;omega,.inr hN,by simpa[h7,h8,h9] using h5⟩,by simp;omega⟩,fun h9=>⟨(i+1,b),by simp,⟨by simp;omega,hb,by simpa[h7,h8,h9] using h5⟩,by simp;omega⟩⟩
 ·rw[ap h6,dK] at h5
  simp[←h5]
theorem LQ{k b d d':Int}(h:b<0): ∀l:List Int,dZ k b d l=dZ k b d' l
 | []=>rfl
 | x::r=>by
  unfold dZ
  simp only[h,true_or,if_true]
def mk(live:List Int)(self:Int)(i:Nat):List Bool:=(List.range 8).map fun (n:Nat)=>((List.range i).map fun j=>oW live (mT self j)).contains (n:Int)
theorem map_set{k m:Nat}{f g:Nat→Bool}(h: ∀n,g n=(f n||decide (m=n))):(List.range k).map g=((List.range k).map f).set m true:=by
 refine List.ext_getElem (by simp) fun n h1 h2=>?_
 rw[List.getElem_set]
 simp only[List.getElem_map,List.getElem_range,h]
 by_cases e:m=n<;>simp[e]
theorem Sp{live:List Int}{self:Int}{i m:Nat}(h:oW live (mT self i)=m):mk live self (i+1)=(mk live self i).set m true:=by
 refine map_set fun n=>?_
 rw[Bool.eq_iff_iff]
 simp only[List.contains_eq_mem,decide_eq_true_eq,Bool.or_eq_true,List.range_succ,List.map_append,List.map_cons,List.map_nil,h,List.mem_append,List.mem_singleton]
 exact or_congr Iff.rfl (by omega)
theorem Rb(live:List Int)(self:Int)(i:Nat):(mk live self i).length=8:=by simp[mk]
theorem Rc{k:PV→Prop}:OP (.repl 1 [(.bool false)]) [I 8] k=k (L (List.replicate 8 false)):=aH (by simp[ev,sK,L,Row.row,Lit.pv])
theorem Jf:tu=(List.range 8).map fun (n:Nat)=>(n:Int):=by decide
def fgo(live:List Int)(self:Int)(n:Nat):List Int:=((List.range n).map fun (k:Nat)=>(k:Int)).filter fun n=>(mf live self 62).contains n
theorem NW(p:Int→Bool)(n:Nat):(List.map (fun (k:Nat)=>(k:Int)) [n]).filter p=if p (n:Int) then [(n:Int)] else []:=by
 cases h:p (n:Int)<;>simp[h]
theorem Rd(live:List Int)(self:Int)(n:Nat):fgo live self (n+1)=fgo live self n++if (mf live self 62).contains (n:Int) then [(n:Int)] else []:=by
 unfold fgo
 rw[List.range_succ,List.map_append,List.filter_append]
 congr 1
 exact NW _ n
theorem Sq{live:List Int}{self:Int}{n:Nat}{x:Bool}(h:(mk live self 62)[n]? =some x):(mf live self 62).contains (n:Int)=(x&& !decide ((n:Int)=self)):=by
 obtain ⟨h1,h2⟩:=List.getElem?_eq_some_iff.1 h
 rw[←h2,Bool.eq_iff_iff]
 simp only[mk,mf,List.getElem_map,List.getElem_range,List.contains_eq_mem,List.mem_filter,decide_eq_true_eq,Bool.and_eq_true,Bool.not_eq_true',decide_eq_false_iff_not]
theorem Sr(live:List Int)(self:Int)(n:Nat):(fgo live self n).length≤n:=by
 have:=List.length_filter_le (fun n=>(mf live self 62).contains n) ((List.range n).map fun (k:Nat)=>(k:Int))
 simpa[fgo] using this
def bJ:=And.intro @nR (@rb)
theorem Ai(live:List Int)(self:Int)(hp:live.all isN=true∧isN self=true∧live≠[])(hg:ag (dc (live,self)).2.1):WW ρ 2 mJ dc (live,self):=by
 simp only[dc,RR] at hg ⊢
 unfold mJ
 simp only[ag,aV] at hg
 obtain ⟨p1,p2,p3⟩:=hp
 have q1:=p1
 rw[List.all_eq_true] at q1
 rw[Rc]
 simp (disch:=first|omega|assumption|(constructor<;>first|assumption|omega)|simp only[LN];omega) only[↓SB,S1,↓bJ]
 have hS:=qA self
 refine ax.rule (α:=Nat) (fun i=>[I i,L (mk live self i)]) (fun i=>i≤62) (fun i=>62-i) 0 rfl (by simp) (fun _=>rfl) ?_
 intro i h4
 simp only[app] at *
 simp (disch:=first|omega|assumption|(constructor<;>first|assumption|omega)|simp only[LN];omega) only[↓SB,S1,↓bJ]
 refine ⟨fun h6=>?_,fun h6=>?_⟩
 ·have hpw:(1:Int)≤2 ^ i∧(2:Int) ^ i<4611686018427387904:=Jb ⟨i,by omega⟩
  rw[yH (by omega) (by omega)]
  simp (disch:=first|omega|assumption|(constructor<;>first|assumption|omega)|simp only[LN];omega) only[↓SB,S1,↓bJ,Int.toNat_natCast]
  refine SUB.v1 (I (mT self i)) ?_ ?_
  ·simp (disch:=first|omega|assumption|(constructor<;>first|assumption|omega)|simp only[LN];omega) only[↓SB,S1,↓bJ]
   unfold mT far
   refine ⟨fun h=>?_,fun h=>?_⟩
   ·rw[if_pos h];simp;omega
   ·rw[if_neg h]
  have hb:=LP self (i:=i) (by omega)
  generalize hk:mT self i=k at hb ⊢
  refine ax.rule (α:=Nat×Int) (fun a=>[I a.2,I a.1]) (fun a=>a.1≤live.length∧(a.2<0∨isN a.2=true)∧dZ k a.2 (far k (nn a.2)) (live.drop a.1)=dZ k (-1) 0 live) (fun a=>live.length-a.1) (0,-1) rfl ⟨by simp,by simp,LQ (by omega) live⟩ (fun _=>rfl) ?_
  rintro ⟨j,b⟩ ⟨g4,gb,g5⟩
  simp only[app] at *
  simp (disch:=first|omega|assumption|(constructor<;>first|assumption|omega)|simp only[LN];omega) only[↓SB,S1,↓bJ]
  refine ⟨fun g6=>?_,fun g6=>?_⟩
  ·obtain ⟨x,hx⟩:=ak g6
   rw[ay hx,dZ] at g5
   have hN:=q1 x (List.mem_of_getElem? hx)
   have hB:=qA x
   simp (disch:=first|omega|assumption|(constructor<;>first|assumption|omega)|simp only[LN];omega) only[↓SB,S1,↓bJ,af hx]
   refine ⟨fun g8=>⟨(j+1,x),by simp,⟨by simp;omega,.inr hN,by simpa[g8] using g5⟩,by simp;omega⟩,fun g8=>?_⟩
   have hN2:=gb.resolve_left g8
   have hB2:=qA b
   simp (disch:=first|omega|assumption|(constructor<;>first|assumption|omega)|simp only[LN];omega) only[↓SB,S1,↓bJ]
   refine ⟨fun g9=>⟨(j+1,x),by simp,⟨by simp;omega,.inr hN,by simpa[g8,g9] using g5⟩,by simp;omega⟩,fun g9=>⟨(j+1,b),by simp,⟨by simp;omega,gb,by simpa[g8,g9] using g5⟩,by simp;omega⟩⟩
  ·rw[ap g6,dZ] at g5
   have g7:b=oW live (mT self i):=by rw[hk];exact g5
   have g8:=dk.1 (q1 _ (Ck (k:=mT self i) p3))
   rw[←g7] at g8
   obtain ⟨m,rfl⟩:=Int.eq_ofNat_of_zero_le g8.1
   have hl:=Rb live self i
   simp (disch:=first|omega|assumption|(constructor<;>first|assumption|omega)|simp only[LN];omega) only[↓SB,S1,↓bJ]
   obtain ⟨y,hy⟩:=ak (xs:=mk live self i) (i:=m) (by omega)
   rw[bk (y:=true) hy rfl]
   exact ⟨i+1,by rw[Sp g7.symm];simp,by omega,by omega⟩
 ·have e:i=62:=by omega
  subst e
  have hl:=Rb live self 62
  refine ax.rule (α:=Nat) (fun n=>[I n,L (fgo live self n)]) (fun n=>n≤8) (fun n=>8-n) 0 rfl (by simp) (fun _=>rfl) ?_
  intro n h7
  simp only[app]
  have hl2:=Sr live self n
  simp (disch:=first|omega|assumption|(constructor<;>first|assumption|omega)|simp only[LN];omega) only[↓SB,S1,↓bJ]
  refine ⟨fun h8=>?_,fun h8=>?_⟩
  ·obtain ⟨y,hy⟩:=ak (xs:=mk live self 62) (i:=n) (by omega)
   have hf:=Sq hy
   have hs:=Rd live self n
   rw[hf] at hs
   simp (disch:=first|omega|assumption|(constructor<;>first|assumption|omega)|simp only[LN];omega) only[↓SB,S1,↓bJ,af hy]
   refine ⟨fun h9=>⟨fun h10=>⟨n+1,by rw[hs];simp[h9,h10],by omega,by omega⟩,fun h10=>⟨n+1,by rw[hs];simp[h9,h10],by omega,by omega⟩⟩,fun h9=>⟨n+1,by rw[hs];simp[h9],by omega,by omega⟩⟩
  ·have:n=8:=by omega
   subst this
   unfold hU
   rw[Jf];rfl
theorem F6(t:Int)(l:List Int)(hp:isT t=true∧l.all isN=true)(hg:ag (eB (t,l)).2.1):WW ρ 2 pp eB (t,l):=by
 simp only[eB,RR] at hg ⊢
 unfold pp vR
 simp only[ag,aV] at hg
 obtain ⟨p1,p2⟩:=hp
 rw[List.all_eq_true] at p2
 refine ax.rule (α:=Nat×Int) (fun a=>[I a.2,I a.1]) (fun a=>a.1≤l.length∧(a.2<0∨isN a.2=true)∧xh t a.2 (l.drop a.1)=xh t (-1) l) (fun a=>l.length-a.1) (0,-1) rfl ⟨by simp,by simp,rfl⟩ (fun _=>rfl) ?_
 rintro ⟨i,b⟩ ⟨h4,hb,h5⟩
 simp only[app] at *
 simp (disch:=first|omega|assumption|(constructor<;>first|assumption|omega)|simp only[LN];omega) only[↓SB,S1,↓kq]
 refine ⟨fun h6=>?_,fun h6=>?_⟩
 ·obtain ⟨x,hx⟩:=ak h6
  rw[ay hx,xh] at h5
  have hN:=p2 x (List.mem_of_getElem? hx)
  have hp1:isT t=true∧isN x=true:=⟨p1,hN⟩
  simp (disch:=first|omega|assumption|(constructor<;>first|assumption|omega)|simp only[LN];omega) only[↓SB,S1,↓kq,af hx]
  refine ⟨fun h8=>⟨(i+1,x),by simp,⟨by simp;omega,.inr hN,by simpa[h8] using h5⟩,by simp;omega⟩,fun h8=>?_⟩
  have hp2:isT t=true∧isN b=true:=⟨p1,hb.resolve_left h8⟩
  simp (disch:=first|omega|assumption|(constructor<;>first|assumption|omega)|simp only[LN];omega) only[↓SB,S1,↓kq]
  refine ⟨fun h9=>⟨(i+1,x),by simp,⟨by simp;omega,.inr hN,by simpa[h8,h9] using h5⟩,by simp;omega⟩,fun h9=>⟨(i+1,b),by simp,⟨by simp;omega,hb,by simpa[h8,h9] using h5⟩,by simp;omega⟩⟩
 ·rw[ap h6,xh] at h5
  simp[←h5]
theorem Jg{t:Int}: ∀(l:List Int) (b:Int),(∀x∈l,0≤x)→(xh t b l=b∧(0≤b∨l=[])∨xh t b l∈l)∧(∀x∈l,gap t (xh t b l)≤gap t x)∧(0≤b→gap t (xh t b l)≤gap t b)
 | [],b,_=>⟨.inl ⟨rfl,.inr rfl⟩,by simp,fun _=>Int.le_refl _⟩
 | x::r,b,hl=>by
  have hl2: ∀x∈r,0≤x:=fun y hy=>hl y (by simp[hy])
  have hx:=hl x (by simp)
  unfold xh
  split
  ·rename_i hc
   obtain ⟨h1,h2,h3⟩:=Jg r x hl2 (t:=t)
   refine ⟨?_,?_,fun hb=>?_⟩
   ·rcases h1 with h | h
    ·right;rw[h.1];simp
    ·right;simp[h]
   ·intro y hy
    rcases List.mem_cons.1 hy with rfl | hy
    ·exact h3 hx
    ·exact h2 y hy
   ·have:=h3 hx;omega
  ·rename_i hc
   obtain ⟨h1,h2,h3⟩:=Jg r b hl2 (t:=t)
   have hb:0≤b:=by omega
   refine ⟨?_,?_,h3⟩
   ·rcases h1 with h | h
    ·exact .inl ⟨h.1,.inl hb⟩
    ·right;simp[h]
   ·intro y hy
    rcases List.mem_cons.1 hy with rfl | hy
    ·have:=h3 hb;omega
    ·exact h2 y hy
theorem PP{t:Int}{l:List Int}(hl:l.all isN=true)(h:l≠[]):vR t l∈l∧ ∀x∈l,gap t (vR t l)≤gap t x:=by
 rw[List.all_eq_true] at hl
 obtain ⟨h1,h2,_⟩:=Jg l (-1) (fun x hx=>(dk.1 (hl x hx)).1) (t:=t)
 refine ⟨?_,h2⟩
 rcases h1 with ⟨_,h3 | h3⟩ | h3
 ·omega
 ·exact absurd h3 h
 ·exact h3
def vq(t self:Int):Int→List Int→Int
 | b,[]=>b
 | b,x::r=>vq t self (if 0≤x∧fm t x self=true∧(b<0∨fm t x b=true) then x else b) r
theorem yJ{t self:Int}: ∀(l:List Int) (b:Int),fm t b self=true→vq t self b l=fc t b l
 | [],_,_=>rfl
 | x::r,b,h=>by
  have hb:=(iI h).2.1.1
  unfold vq fc
  by_cases e:fm t x b=true
  ·have e2:=sd e h
   have hx:=(iI e).2.1.1
   rw[if_pos ⟨hx,e2,.inr e⟩,if_pos e,yJ r x e2]
  ·rw[if_neg,if_neg e,yJ r b h]
   rintro ⟨_,_,h3 | h3⟩
   ·omega
   ·exact e h3
theorem Gg{t self:Int}: ∀(l:List Int),vq t self (-1) l=if fc t self l=self then -1 else fc t self l
 | []=>by simp[vq,fc]
 | x::r=>by
  unfold vq fc
  by_cases e:fm t x self=true
  ·have hx:=(iI e).2.1.1
   rw[if_pos ⟨hx,e,.inl (by omega)⟩,if_pos e,yJ r x e,if_neg]
   rcases si r x (t:=t) with h | h
   ·rw[h];exact OS e
   ·exact OS (sd h.1 e)
  ·rw[if_neg (fun h=>e h.2.1),if_neg e,Gg r]
theorem NX{live:List Int}{self x:Int}(h3:live≠[])(h:x∈hU live self++[jL live self]):x= -1∨(x∈live∧x≠self):=by
 rw[List.mem_append,List.mem_singleton] at h
 rcases h with h | h
 ·right
  unfold hU at h
  rw[List.mem_filter] at h
  exact Gf h3 (by simpa using h.2)
 ·rcases NU live self with e | e
  ·left;rw[h,e]
  ·right;rw[h];exact e
theorem Cn{t b:Int}: ∀ {l:List Int},(∀x∈l,fm t x b=false)→fc t b l=b
 | [],_=>rfl
 | x::r,h=>by
  unfold fc
  rw[h x (by simp)]
  exact Cn fun y hy=>h y (by simp[hy])
theorem NY{t:Int}{live:List Int}{self:Int}(h1:live.all isN=true)(h3:live≠[])(h:vR t live=self):ij t live self= -1:=by
 unfold ij
 rw[Cn,if_pos rfl]
 intro x hx
 rcases NX h3 hx with rfl | hx
 ·simp[fm,isN]
 ·have:=(PP (t:=t) h1 h3).2 x hx.1
  rw[h] at this
  simp only[fm,Bool.and_eq_false_iff,decide_eq_false_iff_not]
  right;omega
def sj:=And.intro @vf (And.intro @zV (And.intro @Ef (@kN)))
theorem Jh(t:Int)(live:List Int)(self:Int)(hp:isT t=true∧zT live self=0)(hg:ag (fS (t,live,self)).2.1):WW ρ 3 ru fS (t,live,self):=by
 simp only[fS,RR] at hg ⊢
 unfold ru
 obtain ⟨p1,p2⟩:=hp
 have hA:=(uK p2).1
 have hB:=(uK p2).2.1
 have hC:isT t=true∧live.all isN=true:=⟨p1,hA.1⟩
 have hB2:live.all isN=true∧isN self=true∧live≠[]:=hB
 have hl:=zC live self
 simp (disch:=first|omega|assumption|(constructor<;>first|assumption|omega)|simp only[LN];omega) only[↓SB,S1,↓sj]
 refine ⟨fun h=>?_,fun h=>?_⟩
 ·rw[NY hA.1 hB.2.2 h]
 have hl2:(hU live self++[jL live self]).length≤9:=by simp;omega
 unfold ij
 rw[←Gg]
 generalize hU live self++[jL live self]=l at hl2 ⊢
 refine ax.rule (α:=Nat×Int) (fun a=>[I a.2,I a.1]) (fun a=>a.1≤l.length∧vq t self a.2 (l.drop a.1)=vq t self (-1) l) (fun a=>l.length-a.1) (0,-1) rfl ⟨by simp,by simp⟩ (fun _=>rfl) ?_
 rintro ⟨i,b⟩ ⟨h4,h5⟩
 simp only[app] at *
 simp (disch:=first|omega|assumption|(constructor<;>first|assumption|omega)|simp only[LN];omega) only[↓SB,S1,↓sj]
 refine ⟨fun h6=>?_,fun h6=>?_⟩
 ·obtain ⟨x,hx⟩:=ak h6
  rw[ay hx,vq] at h5
  simp (disch:=first|omega|assumption|(constructor<;>first|assumption|omega)|simp only[LN];omega) only[↓SB,S1,↓sj,af hx]
  refine ⟨fun h7=>⟨fun h8=>⟨fun h9=>⟨(i+1,x),by simp,⟨by simp;omega,by simpa[h7,h8,h9] using h5⟩,by simp;omega⟩,fun h9=>⟨fun h10=>⟨(i+1,x),by simp,⟨by simp;omega,by simpa[h7,h8,h9,h10] using h5⟩,by simp;omega⟩,fun h10=>⟨(i+1,b),by simp,⟨by simp;omega,by simpa[h7,h8,h9,h10] using h5⟩,by simp;omega⟩⟩⟩,fun h8=>⟨(i+1,b),by simp,⟨by simp;omega,by simpa[h7,h8] using h5⟩,by simp;omega⟩⟩,fun h7=>⟨(i+1,b),by simp,⟨by simp;omega,by simpa[h7] using h5⟩,by simp;omega⟩⟩
 ·rw[ap h6,vq] at h5
  simp[←h5]
end Go.Xt
end
section
set_option linter.unusedSimpArgs false
set_option linter.unusedVariables false
set_option maxRecDepth 100000
namespace Go.Xt
set_option linter.defProp false
instance:FlatRow Call:=⟨fun a q hq=>by simp[Row.row] at hq;rcases hq with rfl | rfl | rfl<;>rfl⟩
instance:FlatRow Mark:=⟨fun a q hq=>by simp[Row.row] at hq;rcases hq with rfl | rfl | rfl<;>rfl⟩
instance:FlatRow Mark2:=⟨fun a q hq=>by simp[Row.row] at hq;rcases hq with rfl | rfl | rfl | rfl | rfl<;>rfl⟩
theorem mm{w:Nat}{k:PV→Prop}(h:0<w):OP (.rows w) [] k=k (.list []):=aH (by simp[ev,cz];omega)
theorem kU(l:List Peer)(hp:l.length≤1000000):WW ρ 1 cr aL l:=by
 simp only[aL,RR]
 unfold cr
 rw[tr]
 refine ⟨fun h=>?_,?_⟩
 ·subst h;simp (disch:=first|omega|assumption|(constructor<;>first|assumption|omega)|simp only[LN];omega) only[↓SB,S1]
  rfl
 ·simp (disch:=first|omega|assumption|(constructor<;>first|assumption|omega)|simp only[LN];omega) only[↓SB,S1,↓mm]
theorem kV(l:List Call)(hp:l.length≤1000000):WW ρ 1 ct aM l:=by
 simp only[aM,RR]
 unfold ct
 rw[tr]
 refine ⟨fun h=>?_,?_⟩
 ·subst h;simp (disch:=first|omega|assumption|(constructor<;>first|assumption|omega)|simp only[LN];omega) only[↓SB,S1]
  rfl
 ·simp (disch:=first|omega|assumption|(constructor<;>first|assumption|omega)|simp only[LN];omega) only[↓SB,S1,↓mm]
theorem kW(l:List Mark)(hp:l.length≤1000000):WW ρ 1 cu aN l:=by
 simp only[aN,RR]
 unfold cu
 rw[tr]
 refine ⟨fun h=>?_,?_⟩
 ·subst h;simp (disch:=first|omega|assumption|(constructor<;>first|assumption|omega)|simp only[LN];omega) only[↓SB,S1]
  rfl
 ·simp (disch:=first|omega|assumption|(constructor<;>first|assumption|omega)|simp only[LN];omega) only[↓SB,S1,↓mm]
theorem jW(l:List Mark2)(hp:l.length≤1000000):WW ρ 1 bX aE l:=by
 simp only[aE,RR]
 unfold bX
 rw[tr]
 refine ⟨fun h=>?_,?_⟩
 ·subst h;simp (disch:=first|omega|assumption|(constructor<;>first|assumption|omega)|simp only[LN];omega) only[↓SB,S1]
  rfl
 ·simp (disch:=first|omega|assumption|(constructor<;>first|assumption|omega)|simp only[LN];omega) only[↓SB,S1,↓mm]
theorem lI(l:List Kid)(hp:l.length≤1000000):WW ρ 1 cK aW l:=by
 simp only[aW,RR]
 unfold cK
 rw[tr]
 refine ⟨fun h=>?_,?_⟩
 ·subst h;simp (disch:=first|omega|assumption|(constructor<;>first|assumption|omega)|simp only[LN];omega) only[↓SB,S1]
  rfl
 ·simp (disch:=first|omega|assumption|(constructor<;>first|assumption|omega)|simp only[LN];omega) only[↓SB,S1,↓mm]
theorem jX(l:List Event)(hp:l.length≤1000000):WW ρ 1 bY aF l:=by
 simp only[aF,RR]
 unfold bY
 rw[tr]
 refine ⟨fun h=>?_,?_⟩
 ·subst h;simp (disch:=first|omega|assumption|(constructor<;>first|assumption|omega)|simp only[LN];omega) only[↓SB,S1]
  rfl
 ·simp (disch:=first|omega|assumption|(constructor<;>first|assumption|omega)|simp only[LN];omega) only[↓SB,S1,↓mm]
theorem kX(l:List Item)(hp:l.length≤1000000):WW ρ 1 cv aO l:=by
 simp only[aO,RR]
 unfold cv
 rw[tr]
 refine ⟨fun h=>?_,?_⟩
 ·subst h;simp (disch:=first|omega|assumption|(constructor<;>first|assumption|omega)|simp only[LN];omega) only[↓SB,S1]
  rfl
 ·simp (disch:=first|omega|assumption|(constructor<;>first|assumption|omega)|simp only[LN];omega) only[↓SB,S1,↓mm]
theorem sk(l:List Int)(hp:l.length≤1000000):WW ρ 1 gx bp l:=by
 simp only[bp,RR]
 unfold gx
 rw[tr]
 refine ⟨fun h=>?_,?_⟩
 ·subst h;simp (disch:=first|omega|assumption|(constructor<;>first|assumption|omega)|simp only[LN];omega) only[↓SB,S1]
  rfl
 ·simp (disch:=first|omega|assumption|(constructor<;>first|assumption|omega)|simp only[LN];omega) only[↓SB,S1,↓mm]
theorem LR(x:Topic):WW ρ 16 tM km x:=by
 simp only[km,RR]
 unfold tM nK
 simp (disch:=first|omega|assumption|(constructor<;>first|assumption|omega)|simp only[LN];omega) only[↓SB,S1]
 refine ⟨fun h=>?_,fun h=>?_⟩ <;>simp[h]
def Ji:=And.intro @aG (And.intro @gw (And.intro @lC (@aA)))
theorem Jj(x:Topic)(hp:ck x=false):WW ρ 16 rU iT x:=by
 simp only[iT,RR]
 unfold rU
 have hb:=Cg hp
 simp (disch:=first|omega|assumption|(constructor<;>first|assumption|omega)|simp only[LN];omega) only[↓SB,S1,↓Ji]
theorem LS(x:Event):WW ρ 6 tN kn x:=by
 simp only[kn,RR]
 unfold tN n9 cT
 simp (disch:=first|omega|assumption|(constructor<;>first|assumption|omega)|simp only[LN];omega) only[↓SB,S1]
 refine ⟨fun h=>?_,fun h=>⟨fun h2=>?_,fun h2=>?_⟩⟩ <;>simp[*]
def LT:=And.intro @aG (@Ld)
theorem LU(l:List Event)(limit:Int)(x:Event)(hp:l.length≤1000000)(hg:ag (iq (l,limit,x)).2.1):WW ρ 8 tP iq (l,limit,x):=by
 simp only[iq,RR] at hg ⊢
 unfold tP sE
 simp (disch:=first|omega|assumption|(constructor<;>first|assumption|omega)|simp only[LN];omega) only[↓SB,S1,↓LT]
 refine ⟨fun h=>?_,fun h=>?_⟩ <;>simp[h]
theorem lJ{l:List Event}{limit:Int}(h:bd l limit=true):2≤limit∧limit≤32∧(l.length:Int)≤limit∧l.all dL=true:=by
 simp only[bd,Bool.and_eq_true,decide_eq_true_eq] at h
 obtain ⟨⟨⟨h1,h2⟩,h3⟩,_⟩:=h
 have:=aZ h1
 exact ⟨this.1,this.2,h2,h3⟩
def kr:=And.intro @aG (And.intro @vj (And.intro @cM (@Lc)))
theorem LV(l:List Event)(limit:Int)(x:Event)(hg:ag (io (l,limit,x)).2.1):WW ρ 8 tO io (l,limit,x):=by
 simp only[io,RR] at hg ⊢
 unfold tO
 generalize hE:vS l limit x=q
 refine SUB.v1 (bb (!(bd l limit&&dL x))) ?_ ?_
 ·repeat' (first | apply And.intro | intro _ | simp (disch:=first|omega|assumption|(constructor<;>first|assumption|omega)|simp only[LN];omega) only[↓SB,S1,↓kr])
  all_goals simp_all
 unfold vS at hE
 cases h0:(bd l limit&&dL x)
 ·simp (disch:=first|omega|assumption|(constructor<;>first|assumption|omega)|simp only[LN];omega) only[↓SB,S1,↓kr]
  simp[h0] at hE;rw[←hE];rfl
 ·rw[if_pos h0] at hE
  simp only[Bool.and_eq_true] at h0
  have hb:=lJ h0.1
  simp (disch:=first|omega|assumption|(constructor<;>first|assumption|omega)|simp only[LN];omega) only[↓SB,S1,↓kr]
  refine ⟨fun h1=>?_,fun h1=>?_⟩
  ·rw[if_pos h1] at hE;rw[←hE]
  ·rw[if_neg h1] at hE
   cases h2:cT x
   ·simp (disch:=first|omega|assumption|(constructor<;>first|assumption|omega)|simp only[LN];omega) only[↓SB,S1,↓kr,h2]
    simp[h2] at hE;rw[←hE];rfl
   ·simp (disch:=first|omega|assumption|(constructor<;>first|assumption|omega)|simp only[LN];omega) only[↓SB,S1,↓kr,h2]
    rw[if_pos h2] at hE
    refine ⟨fun h3=>?_,fun h3=>?_⟩
    ·rw[if_pos h3] at hE;rw[←hE]
    ·rw[if_neg h3] at hE
     obtain ⟨k,hk⟩:=Int.eq_ofNat_of_zero_le (show 0≤limit-1 by omega)
     obtain ⟨y,hy⟩:=ak (xs:=l) (i:=k) (by omega)
     rw[hk] at hE ⊢
     have hgd:l.getD k dw=y:=by simp[List.getD_eq_getElem?_getD,hy]
     simp only[Int.toNat_natCast,hgd] at hE
     simp (disch:=first|omega|assumption|(constructor<;>first|assumption|omega)|simp only[LN];omega) only[↓SB,S1,↓kr,af hy,↓OL,↓bk hy (j:=3) (v:=I (n9 x).last) (y:={ y with last:=(n9 x).last }) (by simp[Event.row_eq,List.set])]
     refine ⟨fun h4=>?_,fun h4=>⟨fun h5=>?_,fun h5=>?_⟩⟩
     ·rw[if_neg (fun h=>h4 h.1)] at hE;rw[←hE];rfl
     ·rw[if_neg (fun h=>h5 h.2)] at hE;rw[←hE];rfl
     ·rw[if_pos ⟨h4,h5⟩] at hE;rw[←hE]
theorem LW(n:Node)(o:Int)(hg:ag (ir (n,o)).2.1):WW ρ 10 tQ ir (n,o):=by
 simp only[ir,RR] at hg ⊢
 unfold tQ ov
 simp only[ag,aV] at hg
 simp (disch:=first|omega|assumption|(constructor<;>first|assumption|omega)|simp only[LN];omega) only[↓SB,S1,↓fy]
 cases h:rng o 0 (n.peers.length-1)
 ·simp (disch:=first|omega|assumption|(constructor<;>first|assumption|omega)|simp only[LN];omega) only[↓SB,S1,↓fy,h]
  simp
 ·have hb:=aZ h
  obtain ⟨k,rfl⟩:=Int.eq_ofNat_of_zero_le hb.1
  obtain ⟨y,hy⟩:=ak (xs:=n.peers) (i:=k) (by omega)
  simp (disch:=first|omega|assumption|(constructor<;>first|assumption|omega)|simp only[LN];omega) only[↓SB,S1,↓fy,h,af hy]
  simp[List.getD_eq_getElem?_getD,hy]
theorem Jk(l:List Peer)(n:Int)(hg:ag (gl (l,n)).2.1):WW ρ 2 rV gl (l,n):=by
 simp only[gl,RR] at hg ⊢
 unfold rV oX
 cases h:bu l
 ·simp (disch:=first|omega|assumption|(constructor<;>first|assumption|omega)|simp only[LN];omega) only[↓SB,S1,↓rd,h]
  simp
 ·simp (disch:=first|omega|assumption|(constructor<;>first|assumption|omega)|simp only[LN];omega) only[↓SB,S1,↓rd,h]
  refine ⟨fun h1=>?_,fun h1=>⟨fun h2=>?_,fun h2=>?_⟩⟩
  ·rw[if_neg (by omega)]
  ·rw[if_neg (by omega)]
  ·rw[if_pos (by omega)]
theorem Ss{l:List Peer}{n:Int}(h:oX l n=0):bu l=true∧0≤n∧n<l.length:=by
 unfold oX at h
 split at h
 ·split at h
  ·rename_i h1 h2;exact ⟨h1,h2.1,h2.2⟩
  ·omega
 ·omega
theorem qB{l:List Peer}(h:bu l=true):1≤l.length∧l.length≤8:=by
 simp only[bu,Bool.and_eq_true,decide_eq_true_eq] at h;exact h.1
theorem LX(l:List Peer)(self:Int)(hg:ag (fH (l,self)).2.1):WW ρ 2 tR fH (l,self):=by
 simp only[fH,RR] at hg ⊢
 unfold tR
 generalize hE:ib l self=q
 simp (disch:=first|omega|assumption|(constructor<;>first|assumption|omega)|simp only[LN];omega) only[↓SB,S1,↓rg]
 refine ⟨fun h=>?_,fun h=>?_⟩
 ·rw[if_neg h];rfl
 obtain ⟨h1,h2,h3⟩:=Ss h
 have hb:=qB h1
 refine ax.rule (α:=Nat×List Int) (fun p=>[I p.1,L p.2]) (fun p=>p.1≤l.length∧p.2.length≤p.1∧p.2++jN self p.1 (l.drop p.1)=q) (fun p=>l.length-p.1) (0,[]) rfl ⟨by simp,by simp,by simpa[ib] using hE⟩ (fun _=>rfl) ?_
 rintro ⟨i,a⟩ ⟨hi,ha,hs⟩
 simp only at hi ha hs
 simp only[app]
 simp (disch:=first|omega|assumption|(constructor<;>first|assumption|omega)|simp only[LN];omega) only[↓SB,S1,↓rg]
 refine ⟨fun h4=>?_,fun h4=>?_⟩
 ·obtain ⟨x,hx⟩:=ak h4
  rw[ay hx,jN] at hs
  simp (disch:=first|omega|assumption|(constructor<;>first|assumption|omega)|simp only[LN];omega) only[↓SB,S1,↓rg,af hx]
  refine ⟨fun h5=>⟨(i+1,a++[(i:Int)]),rfl,⟨by simp;omega,by simp;omega,?_⟩,by simp;omega⟩,fun h5=>⟨fun h6=>⟨fun h7=>⟨(i+1,a++[(i:Int)]),rfl,⟨by simp;omega,by simp;omega,?_⟩,by simp;omega⟩,fun h7=>⟨(i+1,a),rfl,⟨by simp;omega,by simp;omega,?_⟩,by simp;omega⟩⟩,fun h6=>⟨(i+1,a),rfl,⟨by simp;omega,by simp;omega,?_⟩,by simp;omega⟩⟩⟩
  ·rw[if_pos (.inl h5)] at hs;simpa using hs
  ·rw[if_pos (.inr ⟨h6,h7⟩)] at hs;simpa using hs
  ·rw[if_neg (show ¬((i:Int)=self∨(0<x.inc∧x.age<4)) by omega)] at hs;simpa using hs
  ·rw[if_neg (show ¬((i:Int)=self∨(0<x.inc∧x.age<4)) by omega)] at hs;simpa using hs
 ·rw[ap h4] at hs
  simp[jN] at hs;simp[h,hs]
theorem Gh{self:Int}: ∀(l:List Peer) (i:Int),i≤self→self<i+l.length→self∈jN self i l
 | [],i,h0,h1=>by simp at h1;omega
 | p::r,i,h0,h1=>by
  rw[jN,List.mem_append]
  by_cases e:i=self
  ·left;rw[if_pos (.inl e),e];simp
  ·right;exact Gh r (i+1) (by omega) (by simp at h1;omega)
theorem Jl{self:Int}: ∀(l:List Peer) (i p:Int),0≤i→p<i→i+l.length≤8→nI p (jN self i l)=true
 | [],_,_,_,_,_=>rfl
 | q::r,i,p,h0,h1,h2=>by
  simp only[List.length_cons] at h2
  rw[jN]
  split
  ·simp only[List.singleton_append,nI,Bool.and_eq_true,decide_eq_true_eq]
   exact ⟨⟨dk.2 (by omega),h1⟩,Jl r (i+1) i (by omega) (by omega) (by omega)⟩
  ·exact Jl r (i+1) p (by omega) (by omega) (by omega)
theorem Co{l:List Peer}{self:Int}(h:bu l=true)(h0:0≤self)(h1:self<l.length):zT (ib l self) self=0:=by
 have hb:=qB h
 unfold zT
 rw[if_pos]
 simp only[Bool.and_eq_true]
 exact ⟨Jl l 0 (-1) (by omega) (by omega) (by omega),List.contains_iff_mem.2 (Gh l 0 h0 (by omega))⟩
theorem Re(t:Int)(live:List Int)(self:Int): -1≤ij t live self:=by
 rcases NV t live self with h | h
 ·omega
 ·have:=(iI h.1).2.1;omega
def gU:=And.intro @vW (And.intro @BO (@Il))
theorem F7(c:Config)(self:Int)(n:Node)(hg:ag (eQ (c,self,n)).2.1):WW ρ 17 pO eQ (c,self,n):=by
 simp only[eQ,RR] at hg ⊢
 unfold pO aU
 cases hc:bC c
 ·simp (disch:=first|omega|assumption|(constructor<;>first|assumption|omega)|simp only[LN];omega) only[↓SB,S1,↓gU,hc]
 have hb:=fa hc
 simp (disch:=first|omega|assumption|(constructor<;>first|assumption|omega)|simp only[LN];omega) only[↓SB,S1,↓gU,hc]
 cases hs:rng self 0 (c.nodes-1)
 ·simp (disch:=first|omega|assumption|(constructor<;>first|assumption|omega)|simp only[LN];omega) only[↓SB,S1,↓gU,hs]
  simp
 ·simp (disch:=first|omega|assumption|(constructor<;>first|assumption|omega)|simp only[LN];omega) only[↓SB,S1,↓gU,hs]
  cases hu:n.up
  ·simp (disch:=first|omega|assumption|(constructor<;>first|assumption|omega)|simp only[LN];omega) only[↓SB,S1,↓gU]
   simp
  ·simp (disch:=first|omega|assumption|(constructor<;>first|assumption|omega)|simp only[LN];omega) only[↓SB,S1,↓gU]
   cases mz c self n<;>simp
def LY:=And.intro @zt (@I6)
theorem LZ(self:Int)(n:Node)(t:Int)(hp:bu n.peers=true∧rng self 0 (n.peers.length-1)=true∧isT t=true)(hg:ag (iu (self,n,t)).2.1):WW ρ 11 tS iu (self,n,t):=by
 simp only[iu,RR] at hg ⊢
 unfold tS
 obtain ⟨h1,h2,h3⟩:=hp
 have hb:=qB h1
 have hr:=aZ h2
 have hpl:oX n.peers self=0:=by unfold oX;rw[if_pos h1,if_pos (by omega)]
 have hc:=Co h1 hr.1 (by omega)
 have ha:tv t (ib n.peers self) self=0:=by unfold tv;rw[if_pos hc,if_pos h3]
 simp (disch:=first|omega|assumption|(constructor<;>first|assumption|omega)|simp only[LN];omega) only[↓SB,S1,↓LY,hpl,ha]
 simp
 refine ⟨fun h=>?_,fun h=>?_⟩
 ·have:=Re t (ib n.peers self) self;omega
 ·omega
def oN:=And.intro @zu (@Lb)
theorem M0(self:Int)(n:Node)(t:Int)(hp:bu n.peers=true∧rng self 0 (n.peers.length-1)=true∧isT t=true∧t<n.topics.length∧(be n t).kids.length≤8∧(be n t).parent≤8∧0≤(be n t).parent)(hg:ag (iv (self,n,t)).2.1):WW ρ 11 tT iv (self,n,t):=by
 simp only[iv,RR] at hg ⊢
 unfold tT
 obtain ⟨h1,h2,h3,h4,h5,h6,h7⟩:=hp
 have ht:=iZ.1 h3
 obtain ⟨k,rfl⟩:=Int.eq_ofNat_of_zero_le ht.1
 obtain ⟨y,hy⟩:=ak (xs:=n.topics) (i:=k) (by omega)
 have hgd:be n k=y:=by simp[be,List.getD_eq_getElem?_getD,hy]
 simp only[qt,hgd] at h5 h6 h7 ⊢
 generalize hE:(y.kids.map Kid.node++[y.parent-1]++(if y.kids=[]∧nK y=false then [ij k (ib n.peers self) self] else []))=q
 simp (disch:=first|omega|assumption|(constructor<;>first|assumption|omega)|simp only[LN];omega) only[↓SB,S1,↓oN,af hy]
 refine ax.rule (α:=Nat) (fun i=>[I i,L ((y.kids.take i).map Kid.node)]) (fun i=>i≤y.kids.length) (fun i=>y.kids.length-i) 0 rfl (by omega) (fun _=>rfl) ?_
 intro i hl
 simp only[app]
 have hlt:((y.kids.take i).map Kid.node).length≤8:=by simp;omega
 simp (disch:=first|omega|assumption|(constructor<;>first|assumption|omega)|simp only[LN];omega) only[↓SB,S1,↓oN]
 refine ⟨fun h=>?_,fun h=>?_⟩
 ·obtain ⟨x,hx⟩:=ak h
  simp (disch:=first|omega|assumption|(constructor<;>first|assumption|omega)|simp only[LN];omega) only[↓SB,S1,↓oN,af hx]
  refine ⟨i+1,?_,by omega,by omega⟩
  show [PV.int .i64 _,_]=_
  rw[List.take_add_one,hx];simp
 ·have hi:i=y.kids.length:=by omega
  subst hi
  rw[List.take_length] at hlt ⊢
  have hl2:(y.kids.map Kid.node++[y.parent-1]).length≤9:=by simp;omega
  have hcn:=And.intro h1 (And.intro h2 h3)
  refine ⟨fun h8=>?_,fun h8=>?_⟩
  ·have h9:y.kids=[]:=List.eq_nil_of_length_eq_zero (by omega)
   refine ⟨fun h10=>?_,fun h10=>?_⟩
   ·rw[if_pos ⟨h9,h10⟩] at hE;rw[←hE]
    simp (disch:=first|omega|assumption|(constructor<;>first|assumption|omega)|simp only[LN];omega) only[↓SB,S1,↓oN]
   ·rw[if_neg (by rw[h10];simp)] at hE;rw[←hE];simp
  ·rw[if_neg (by rintro ⟨h,_⟩;apply h8;rw[h];rfl)] at hE;rw[←hE];simp
end Go.Xt
end
section
set_option linter.unusedSimpArgs false
set_option linter.unusedVariables false
set_option maxRecDepth 100000
namespace Go.Xt
theorem nj{c:Config}{n:Node}{t count who:Int}(h:n.calls.any (bR t count)=false):jE c n t count who=n:=by
 unfold jE;rw[if_neg (by simp[h])]
theorem qC{α:Type}{p:α→Bool}: ∀ {l:List α} {i:Nat} {x:α},(l.take i).any p=false→l[i]? =some x→p x=true→l.eraseP p=sD l i (i+1)∧l.any p=true
 | [],_,_,_,h,_=>by simp at h
 | a::r,0,x,_,h,hp=>by
  simp at h;subst h
  simp[List.eraseP_cons,hp,sD]
 | a::r,i+1,x,h1,h,hp=>by
  simp only[List.take_succ_cons,List.any_cons,Bool.or_eq_false_iff] at h1
  simp only[List.getElem?_cons_succ] at h
  obtain ⟨h2,h3⟩:=qC h1.2 h hp
  refine ⟨?_,by simp[h3]⟩
  rw[List.eraseP_cons,h1.1,h2];simp[sD]
theorem sl{k:PV→Prop}{a b d e f g h i j l m o p q:Int}:OP (.rows 16) [I a,I b,I d,I e,I f,I g,I h,I i,I j,I l,I m,I o,I p,I q,.list [],.list []] k=k (L [(⟨a,b,d,e,f,g,h,i,j,l,m,o,p,q,[],[]⟩:Msg)]):=uI (a_path:=[]) (a_todo:=[])
theorem xG{α:Type}{p:α→Bool}{l:List α}{i:Nat}{x:α}(h:(l.take i).any p=false)(hx:l[i]? =some x)(hp:p x=false):(l.take (i+1)).any p=false:=by
 rw[List.take_add_one,hx];simp[List.any_append,h,hp]
theorem uL{α:Type}{p:α→Bool}{l:List α}(h:l.any p=false):l.eraseP p=l :=
 List.eraseP_of_forall_not fun a ha hp=>by
  have:l.any p=true:=List.any_eq_true.2 ⟨a,ha,hp⟩
  rw[h] at this;cases this
theorem nk{c:Config}{n:Node}{t count who:Int}{k:Nat}{y:Topic}(h:n.calls.any (bR t count)=true)(ht:t=k)(hy:n.topics[k]? =some y) :
  jE c n t count who={ n with calls:=n.calls.eraseP (bR t count),topics:=n.topics.set k { y with queue:=sE y.queue c.queue (vU count who) } }:=by
 subst ht
 unfold jE
 rw[if_pos h]
 simp[QH,List.getD_eq_getElem?_getD,hy]
structure DoesOk (self:Int) (n:Node) (t:Int):Prop where
 ht:isT t=true
 hl:t<n.topics.length
 hp:bu n.peers=true
 hs:rng self 0 (n.peers.length-1)=true
 hk:(be n t).kids.length≤8
 h8:(be n t).parent≤8
 h0:0≤(be n t).parent
 hc:n.calls.length≤100
 hm:n.taken.length≤100
 hq:(be n t).queue.length≤1000
end Go.Xt
end
section
set_option linter.unusedSimpArgs false
set_option linter.unusedVariables false
set_option maxRecDepth 100000
namespace Go.Xt
structure NOk (c:Config) (me:Int) (n:Node):Prop where
 inc:cnt n.inc=true
 pubs:rng n.pubs 0 1073741824=true
 asks:rng n.asks 0 40=true
 calls:bD c n.asks 0 n.calls=true
 cl:n.calls.length≤40
 pl:(n.peers.length:Int)=c.nodes
 tl:(n.topics.length:Int)=c.topics
 ml:(n.marks.length:Int)=c.nodes
 kl:n.taken.length≤64
 tops:bx c me 0 n.topics=true
 peers:bu n.peers=true
 marks:n.marks.all fo=true
 taken:n.taken.all (lW c)=true
theorem Cp{c:Config}{self:Int}{n:Node}:mz c self n=true↔NOk c self n:=by
 constructor
 ·intro h
  simp only[mz,Bool.and_eq_true,decide_eq_true_eq] at h
  obtain ⟨⟨⟨⟨⟨⟨⟨⟨⟨⟨⟨⟨a,b⟩,d⟩,e⟩,f⟩,g⟩,i⟩,j⟩,k⟩,l⟩,m⟩,o⟩,p⟩:=h
  exact ⟨a,b,d,e,f,g,i,j,k,l,m,o,p⟩
 ·rintro ⟨a,b,d,e,f,g,i,j,k,l,m,o,p⟩
  simp only[mz,Bool.and_eq_true,decide_eq_true_eq]
  exact ⟨⟨⟨⟨⟨⟨⟨⟨⟨⟨⟨⟨a,b⟩,d⟩,e⟩,f⟩,g⟩,i⟩,j⟩,k⟩,l⟩,m⟩,o⟩,p⟩
theorem dI{c:Config}{self:Int}{n:Node}(h:aU c self n=0):bC c=true∧rng self 0 (c.nodes-1)=true∧n.up=true∧NOk c self n:=by
 unfold aU at h
 split at h
 ·split at h
  ·split at h
   ·rename_i h1 h2 h3
    rw[Bool.and_eq_true] at h2
    exact ⟨h1,h2.1,h2.2,Cp.1 h3⟩
   ·omega
  ·omega
 ·omega
theorem NZ{c:Config}{self:Int}{n:Node}(h1:bC c=true)(h2:rng self 0 (c.nodes-1)=true)(h3:n.up=true)(h4:NOk c self n):aU c self n=0:=by
 unfold aU;rw[if_pos h1,if_pos (by simp[h2,h3]),if_pos (Cp.2 h4)]
theorem qD{c:Config}{self:Int}: ∀ {l:List Topic} {t:Int} {k:Nat} {x:Topic},bx c self t l=true→l[k]? =some x→aS c (t+k) self x=true
 | [],_,_,_,_,h=>by simp at h
 | y::r,t,0,x,h,hx=>by
  rw[bx,Bool.and_eq_true] at h
  simp at hx;subst hx;simpa using h.1
 | y::r,t,k+1,x,h,hx=>by
  rw[bx,Bool.and_eq_true] at h
  have:=qD (k:=k) (x:=x) h.2 (by simpa using hx)
  rw[show t+1+(k:Int)=t+((k+1:Nat):Int) by omega] at this;exact this
theorem Cq{c:Config}{self:Int}: ∀ {l:List Topic} {t:Int} {k:Nat} {x:Topic},bx c self t l=true→aS c (t+k) self x=true→bx c self t (l.set k x)=true
 | [],_,_,_,_,h=>rfl
 | y::r,t,0,x,h,hx=>by
  rw[bx,Bool.and_eq_true] at h
  rw[List.set_cons_zero,bx,Bool.and_eq_true]
  exact ⟨by simpa using hx,h.2⟩
 | y::r,t,k+1,x,h,hx=>by
  rw[bx,Bool.and_eq_true] at h
  rw[List.set_cons_succ,bx,Bool.and_eq_true]
  exact ⟨h.1,Cq h.2 (by rw[show t+1+(k:Int)=t+((k+1:Nat):Int) by omega];exact hx)⟩
theorem St{t n c:Int}{xs:List Int}(h:chk t n xs c=0):(xs.length:Int)≤c:=by
 unfold chk at h
 split at h
 ·split at h
  ·omega
  ·omega
 ·omega
structure TBd (c:Config) (x:Topic):Prop where
 path:x.path.length≤8
 kids:x.kids.length≤4
 kept:x.stream.kept.length≤16
 ahead:x.stream.ahead.length≤16
 queue:x.queue.length≤32
theorem M1{c:Config}{t self:Int}{x:Topic}(hc:bC c=true)(h:aS c t self x=true):TBd c x∧0≤x.parent∧x.parent≤8:=by
 have hb:=fa hc
 have hf:=NO hc h
 simp only[QG,Bool.or_eq_false_iff,decide_eq_false_iff_not] at hf
 obtain ⟨⟨⟨f1,f2⟩,f3⟩,f4⟩:=hf
 simp only[aS,Bool.and_eq_true,decide_eq_true_eq] at h
 have hp:=St h.1.1.2
 have hl:=J0 h.1.1.1.1.1.1.1.2
 exact ⟨⟨by omega,by omega,by omega,by omega,by omega⟩,hl⟩
theorem oO{c:Config}{t self:Int}{x:Topic}(hc:bC c=true)(h:aS c t self x=true):ck x=false:=by
 obtain ⟨⟨a,b,d,e,f⟩,_⟩:=M1 hc h
 simp[ck,xj];omega
theorem Cr{c:Config}{self:Int}{n:Node}(hc:bC c=true)(h:NOk c self n){k:Nat}{x:Topic}(hx:n.topics[k]? =some x):ck x=false :=
 oO hc (qD h.tops hx)
theorem OU{c:Config}{self:Int}{n m:Node}{t:Int}(hc:bC c=true)(hs:rng self 0 (c.nodes-1)=true)(h:NOk c self n)(ht:rng t 0 (c.topics-1)=true)(e1:m.topics=n.topics)(e2:m.peers=n.peers)(e3:m.calls.length≤100)(e4:m.taken.length≤100):DoesOk self m t:=by
 have hb:=fa hc
 have h1:=aZ ht;have h2:=aZ hs
 obtain ⟨k,rfl⟩:=Int.eq_ofNat_of_zero_le h1.1
 have htl:=h.tl
 obtain ⟨x,hx⟩:=ak (xs:=n.topics) (i:=k) (by omega)
 have hgd:be m k=x:=by simp[be,e1,List.getD_eq_getElem?_getD,hx]
 obtain ⟨⟨a,b,d,e,f⟩,g,g2⟩:=M1 hc (qD h.tops hx)
 refine ⟨iZ.2 (by omega),by rw[e1];omega,by rw[e2];exact h.peers,by rw[e2,h.pl];exact hs,by rw[hgd];omega,by rw[hgd];omega,by rw[hgd];omega,e3,e4,by rw[hgd];omega⟩
theorem Jm{a b:Int}{k:PV→Prop}(h0:0≤b)(h1:b≤62):OP (.bin .shr) [I a,I b] k=k (I (a / 2 ^ b.toNat)):=aH (by
 have h2: ¬b<0:=by omega
 have h3:min b.toNat 64=b.toNat:=by omega
 simp[ev,lc,h2,IntKind.bits,h3]
 rw[Int.fdiv_eq_ediv_of_nonneg]
 exact Int.le_of_lt (Int.pow_pos (by decide)))
theorem yK(m:Nat):BitVec.ofInt 64 (m:Int)=BitVec.ofNat 64 m:=by simp
theorem OV{a:Int}{k:PV→Prop}(h0:0≤a):OP (.bin .and) [I a,I 1] k=k (I (a % 2)):=aH (by
 obtain ⟨m,rfl⟩:=Int.eq_ofNat_of_zero_le h0
 have e:(BitVec.ofInt 64 (m:Int) &&& BitVec.ofInt 64 (1:Int)).toNat=m % 2:=by
  rw[BitVec.toNat_and,yK,show BitVec.ofInt 64 (1:Int)=BitVec.ofNat 64 1 from rfl,BitVec.toNat_ofNat,BitVec.toNat_ofNat,show 1 % 2 ^ 64=1 from rfl,Nat.and_one_is_mod]
  omega
 show some (PV.int .i64 (IntKind.i64.wrap ((BitVec.ofInt 64 (m:Int) &&& BitVec.ofInt 64 (1:Int)).toNat:Int)))=_
 rw[e,wr (by omega) (by omega)];simp)
theorem Rf{m b:Nat}(h:m / 2 ^ b % 2=0):m ||| 2 ^ b=m+2 ^ b:=by
 have e1:m=2 ^ (b+1)*(m / 2 ^ (b+1))+m % 2 ^ b:=by
  have h1:=Nat.div_add_mod m (2 ^ (b+1))
  have h2:m % 2 ^ (b+1)=m % 2 ^ b:=by
   rw[Nat.mod_pow_succ,h];omega
  rw[h2] at h1;exact h1.symm
 have h3:m % 2 ^ b<2 ^ b:=Nat.mod_lt _ (Nat.two_pow_pos b)
 have h4:2 ^ b+m % 2 ^ b<2 ^ (b+1):=by rw[Nat.pow_succ];omega
 have e2:2 ^ b+m % 2 ^ b=2 ^ b ||| m % 2 ^ b:=by
  have:=Nat.two_pow_add_eq_or_of_lt h3 1
  rwa [Nat.mul_one] at this
 have e3:=Nat.two_pow_add_eq_or_of_lt h4 (m / 2 ^ (b+1))
 have e4:=Nat.two_pow_add_eq_or_of_lt (show m % 2 ^ b<2 ^ (b+1) by omega) (m / 2 ^ (b+1))
 rw[←e1] at e4
 have e5:m ||| 2 ^ b=2 ^ (b+1)*(m / 2 ^ (b+1)) ||| (2 ^ b+m % 2 ^ b):=by
  rw[e2]
  conv=>lhs;rw[e4]
  rw[Nat.or_assoc,Nat.or_comm (m % 2 ^ b)]
 rw[e5,←e3];omega
theorem Gi{a b:Int}{k:PV→Prop}(h0:0≤a)(h1:a<4611686018427387904)(h2:0≤b)(h3:b≤61)(h:a / 2 ^ b.toNat % 2=0):OP (.bin .or) [I a,I (2 ^ b.toNat)] k=k (I (a+2 ^ b.toNat)):=aH (by
 obtain ⟨m,rfl⟩:=Int.eq_ofNat_of_zero_le h0
 obtain ⟨d,rfl⟩:=Int.eq_ofNat_of_zero_le h2
 simp only[Int.toNat_natCast] at h ⊢
 have e0:((2:Int) ^ d)=((2 ^ d:Nat):Int):=(Int.natCast_pow 2 d).symm
 have h4:m / 2 ^ d % 2=0:=by
  rw[e0] at h
  have:((m / 2 ^ d % 2:Nat):Int)=0:=by rw[Int.natCast_emod,Int.natCast_ediv];exact h
  omega
 have h5:2 ^ d≤2305843009213693952:=Nat.pow_le_pow_right (n:=2) (show 0<2 by decide) (show d≤61 by omega)
 have e:(BitVec.ofInt 64 (m:Int) ||| BitVec.ofInt 64 ((2 ^ d:Nat):Int)).toNat=m+2 ^ d:=by
  rw[BitVec.toNat_or,yK,yK,BitVec.toNat_ofNat,BitVec.toNat_ofNat,Nat.mod_eq_of_lt (by omega),Nat.mod_eq_of_lt (by omega),Rf h4]
 rw[e0]
 show some (PV.int .i64 (IntKind.i64.wrap ((BitVec.ofInt 64 (m:Int) ||| BitVec.ofInt 64 ((2 ^ d:Nat):Int)).toNat:Int)))=_
 rw[e,wr (by omega) (by omega)];simp)
end Go.Xt
end
section
set_option linter.unusedSimpArgs false
set_option linter.unusedVariables false
set_option maxRecDepth 100000
namespace Go.Xt
set_option linter.defProp false
theorem M2{α:Type}{l:List α}{k:Nat}{x:α}(h:l[k]? =some x):l.set k x=l:=by
 obtain ⟨h1,h2⟩:=List.getElem?_eq_some_iff.1 h
 rw[←h2];exact List.set_getElem_self h1
theorem OW{n:Node}{k:Nat}{y:Mark}(h:n.marks.all fo=true)(hy:n.marks[k]? =some y):0≤y.met∧y.met≤2199023255551:=by
 rw[List.all_eq_true] at h
 have:=h y (List.mem_of_getElem? hy)
 simp only[fo,Bool.and_eq_true] at this
 exact aZ this.2
def al:=And.intro @na (And.intro @cb (And.intro @fy (And.intro @rf (And.intro @ed (And.intro @ee (And.intro @ef (And.intro @dH (And.intro @zr (And.intro @gw (And.intro @zq (And.intro @bK (And.intro @zw (@kw)))))))))))))
theorem Jn(c:Config)(self:Int)(n:Node)(t:Int)(value:Int)(hg:ag (iU (c,self,n,t,value)).2.1):WW ρ 19 rW iU (c,self,n,t,value):=by
 simp only[iU,RR] at hg ⊢
 unfold rW
 simp only[ag,aV] at hg
 generalize hE:aT c self n t value=q
 unfold aT at hE
 simp (disch:=first|omega|assumption|(constructor<;>first|assumption|omega)|simp only[LN];omega) only[↓SB,S1,↓al]
 refine ⟨fun hw=>?_,fun hw=>?_⟩
 ·rw[if_neg hw] at hE;rw[←hE];rfl
 rw[if_pos hw] at hE
 obtain ⟨hc,hsr,hu,H⟩:=dI hw
 have hb:=fa hc
 have hsb:=aZ hsr
 refine SUB.v1 (bb (!(rng t 0 (c.topics-1)&&val value))) ?_ ?_
 ·repeat' (first | apply And.intro | intro _ | simp (disch:=first|omega|assumption|(constructor<;>first|assumption|omega)|simp only[LN];omega) only[↓SB,S1,↓al])
  all_goals simp[*]
 cases htv:(rng t 0 (c.topics-1)&&val value)
 ·simp (disch:=first|omega|assumption|(constructor<;>first|assumption|omega)|simp only[LN];omega) only[↓SB,S1,↓al]
  rw[htv,if_neg (by simp)] at hE;rw[←hE];rfl
 rw[if_pos htv] at hE
 rw[Bool.and_eq_true] at htv
 simp (disch:=first|omega|assumption|(constructor<;>first|assumption|omega)|simp only[LN];omega) only[↓SB,S1,↓al]
 refine ⟨fun ha=>?_,fun ha=>?_⟩
 ·rw[if_neg (by omega)] at hE;rw[←hE];rfl
 rw[if_pos (by omega)] at hE
 have hab:=aZ H.asks
 have hpl:=H.pl;have hml:=H.ml;have hkl:=H.kl;have hcl:=H.cl
 have htl:=H.tl
 refine SUB.val [L n.taken,L n.marks,L n.calls,L n.peers,L n.topics] rfl ?_ ?_
 ·refine ax.rule (α:=Nat) (fun i=>[I i,L (n.topics.take i)]) (fun i=>i≤n.topics.length) (fun i=>n.topics.length-i) 0 rfl (by omega) (fun _=>rfl) ?_
  intro i hl
  simp only[app]
  simp (disch:=first|omega|assumption|(constructor<;>first|assumption|omega)|simp only[LN];omega) only[↓SB,S1,↓al]
  refine ⟨fun hcc=>?_,fun hcc=>?_⟩
  ·obtain ⟨x,hx⟩:=ak hcc
   have hx9:=Cr hc H hx
   have hlt:(n.topics.take i).length=i:=by simp;omega
   simp (disch:=first|omega|assumption|(constructor<;>first|assumption|omega)|simp only[LN];omega) only[↓SB,S1,↓al,af hx]
   exact ⟨i+1,by simp[xA hx],by omega,by omega⟩
  rw[List.take_of_length_le (by omega)]
 simp only[app]
 simp (disch:=first|omega|assumption|(constructor<;>first|assumption|omega)|simp only[LN];omega) only[↓SB,S1,↓al]
 rw[show L [(⟨n.asks+1,t,0⟩:Kid)]=L [(⟨n.asks+1,t,0⟩:Call)] from rfl]
 simp (disch:=first|omega|assumption|(constructor<;>first|assumption|omega)|simp only[LN];omega) only[↓SB,S1,↓al]
 obtain ⟨s,hk⟩:=Int.eq_ofNat_of_zero_le hsb.1
 subst hk
 obtain ⟨mk,hmk⟩:=ak (xs:=n.marks) (i:=s) (by omega)
 have hmd:n.marks.getD s zp=mk:=by simp[List.getD_eq_getElem?_getD,hmk]
 have hmb:=OW H.marks hmk
 have hml2:jq n.marks s n.inc (n.asks+1)=if meets n.marks s n.inc (n.asks+1)=true then n.marks.set s { kc mk n.inc with met:=(kc mk n.inc).met+2 ^ (n.asks+1).toNat } else n.marks:=by
  unfold jq;rw[Int.toNat_natCast,hmd]
 have hme:meets n.marks s n.inc (n.asks+1)=(decide (mk.inc≤n.inc)&& !oY (kc mk n.inc) (n.asks+1)):=by unfold meets;rw[Int.toNat_natCast,hmd]
 refine SUB.v2 (bb (meets n.marks s n.inc (n.asks+1))) (L (jq n.marks s n.inc (n.asks+1))) ?_ ?_
 ·rw[hml2,hme]
  simp (disch:=first|omega|assumption|(constructor<;>first|assumption|omega)|simp only[LN];omega) only[↓SB,S1,↓al,af hmk]
  refine ⟨fun hgt=>?_,fun hle=>⟨fun hlt=>?_,fun hge=>?_⟩⟩
  ·have e:decide (mk.inc≤n.inc)=false:=by simp;omega
   simp[e]
  ·have e:kc mk n.inc=⟨n.inc,0,0⟩:=by unfold kc;rw[if_pos hlt]
   have hsz:=(List.getElem?_eq_some_iff.1 hmk).1
   have h1:(n.marks.set s ⟨n.inc,mk.pubs,mk.met⟩)[s]? =some ⟨n.inc,mk.pubs,mk.met⟩:=by simp[hsz]
   have h2:((n.marks.set s ⟨n.inc,mk.pubs,mk.met⟩).set s ⟨n.inc,0,mk.met⟩)[s]? =some ⟨n.inc,0,mk.met⟩:=by simp[hsz]
   have h3:(n.marks.set s ⟨n.inc,0,0⟩)[s]? =some ⟨n.inc,0,0⟩:=by simp[hsz]
   rw[bk hmk (y:=⟨n.inc,mk.pubs,mk.met⟩) rfl,bk h1 (y:=⟨n.inc,0,mk.met⟩) rfl,bk h2 (y:=⟨n.inc,0,0⟩) rfl,List.set_set,List.set_set,e]
   simp (disch:=first|omega|assumption|(constructor<;>first|assumption|omega)|simp only[LN];omega) only[↓SB,S1,↓al,af h3]
   rw[Jm (by omega) (by omega),OV (Int.ediv_nonneg (by decide) (Int.le_of_lt (Int.pow_pos (by decide))))]
   simp (disch:=first|omega|assumption|(constructor<;>first|assumption|omega)|simp only[LN];omega) only[↓SB,S1,↓al]
   have hz:(0:Int) / 2 ^ (n.asks+1).toNat % 2=0:=by simp
   refine ⟨fun hm=>by rw[hz] at hm;omega,fun hm=>?_⟩
   rw[yH (by omega) (by omega),Gi (by omega) (by omega) (by omega) (by omega) hz,bk h3 (y:=⟨n.inc,0,0+2 ^ (n.asks+1).toNat⟩) rfl,List.set_set]
   have e5:decide (mk.inc≤n.inc)=true:=by simp;omega
   simp[e5,oY]
  ·have e:kc mk n.inc=mk:=by unfold kc;rw[if_neg hge]
   rw[Jm (by omega) (by omega),OV (Int.ediv_nonneg hmb.1 (Int.le_of_lt (Int.pow_pos (by decide)))),e]
   simp (disch:=first|omega|assumption|(constructor<;>first|assumption|omega)|simp only[LN];omega) only[↓SB,S1,↓al]
   have e5:decide (mk.inc≤n.inc)=true:=by simp;omega
   refine ⟨fun hm=>by simp[e5,oY,hm],fun hm=>?_⟩
   have h0:mk.met / 2 ^ (n.asks+1).toNat % 2=0:=by omega
   rw[yH (by omega) (by omega),Gi hmb.1 (by omega) (by omega) (by omega) h0,bk hmk (y:={ mk with met:=mk.met+2 ^ (n.asks+1).toNat }) rfl]
   simp[e5,oY,hm]
 have hcl2:(n.calls++[(⟨n.asks+1,t,0⟩:Call)]).length≤100:=by simp;omega
 have HD:DoesOk (s:Int) (⟨n.up,n.inc,n.peers,n.topics,n.calls++[⟨n.asks+1,t,0⟩],n.pubs,n.asks+1,jq n.marks s n.inc (n.asks+1),n.taken⟩:Node) t:=OU hc hsr H htv.1 rfl rfl hcl2 (by show n.taken.length≤100;omega)
 dsimp only at hE
 generalize n.calls++[(⟨n.asks+1,t,0⟩:Call)]=calls at hE HD ⊢
 generalize hcnt:n.asks+1=cnt at hE HD ⊢
 generalize jq n.marks s n.inc cnt=marks at hE HD ⊢
 obtain ⟨h1,h2,h3,h4,h5,h6,h7,h8,h9,h10⟩:=HD
 have hbt:=iZ.1 h1
 have hs:=aZ h4
 obtain ⟨k,rfl⟩:=Int.eq_ofNat_of_zero_le hbt.1
 obtain ⟨y,hy⟩:=ak (xs:=n.topics) (i:=k) (by omega)
 have hgd: ∀(a:Bool) (b:Int) (d:List Peer) (e:List Call) (f g:Int) (i:List Mark) (j:List Mark2),be (⟨a,b,d,n.topics,e,f,g,i,j⟩:Node) k=y:=by intros;simp[be,List.getD_eq_getElem?_getD,hy]
 have hbc:(calls.length:Int)≤100:=by have:=h8;dsimp only at this;omega
 rw[hgd] at h5 h6 h7 h10
 dsimp only at h2 h3 h4 h9
 generalize hr:jO c s (⟨n.up,n.inc,n.peers,n.topics,calls,n.pubs,cnt,marks,n.taken⟩:Node) { lp with topic:=(k:Int),node:=(s:Int),inc:=n.inc,count:=cnt,value:=value }=r at hE
 have hQ:[bb r.1.up,I r.1.inc,L r.1.peers,L r.1.topics,L r.1.calls,I r.1.pubs,I r.1.asks,L r.1.marks,L r.1.taken,L r.2,I cnt,I 0]=[bb q.fst.up,I q.fst.inc,L q.fst.peers,L q.fst.topics,L q.fst.calls,I q.fst.pubs,I q.fst.asks,L q.fst.marks,L q.fst.taken,L q.snd.fst,I q.snd.snd.fst,I q.snd.snd.snd]:=by rw[←hE]
 clear hE
 generalize [bb q.fst.up,I q.fst.inc,L q.fst.peers,L q.fst.topics,L q.fst.calls,I q.fst.pubs,I q.fst.asks,L q.fst.marks,L q.fst.taken,L q.snd.fst,I q.snd.snd.fst,I q.snd.snd.snd]=z at hQ ⊢
 simp only[jO,lp,hgd,List.nil_append] at hr
 cases hsub:y.sub
 ·simp (disch:=first|omega|assumption|(constructor<;>first|assumption|omega)|simp only[LN];omega) only[↓SB,S1,↓al,af hy,hsub]
  simp only[hsub,Bool.false_eq_true,if_false] at hr
  refine SUB.v3 (L ([]:List Int)) (L [(s:Int)]) (L [(s:Int)]) ?_ ?_
  ·simp (disch:=first|omega|assumption|(constructor<;>first|assumption|omega)|simp only[LN];omega) only[↓SB,S1,↓al,List.nil_append]
  have hcn:bu (⟨n.up,n.inc,n.peers,n.topics,calls,n.pubs,cnt,marks,n.taken⟩:Node).peers=true∧rng (s:Int) 0 (n.peers.length-1)=true∧isT (k:Int)=true∧(k:Int)<n.topics.length∧(be (⟨n.up,n.inc,n.peers,n.topics,calls,n.pubs,cnt,marks,n.taken⟩:Node) k).kids.length≤8∧(be (⟨n.up,n.inc,n.peers,n.topics,calls,n.pubs,cnt,marks,n.taken⟩:Node) k).parent≤8∧0≤(be (⟨n.up,n.inc,n.peers,n.topics,calls,n.pubs,cnt,marks,n.taken⟩:Node) k).parent :=
   ⟨h3,h4,h1,h2,by rw[hgd];exact h5,by rw[hgd];exact h6,by rw[hgd];exact h7⟩
  have hnl:(qt s (⟨n.up,n.inc,n.peers,n.topics,calls,n.pubs,cnt,marks,n.taken⟩:Node) k).length≤10:=by
   simp only[qt,hgd,List.length_append,List.length_map,List.length_singleton]
   split<;>simp<;>omega
  rw[zw hcn];dsimp only
  generalize hNL:qt s (⟨n.up,n.inc,n.peers,n.topics,calls,n.pubs,cnt,marks,n.taken⟩:Node) k=nl at hnl hr ⊢
  simp (disch:=first|omega|assumption|(constructor<;>first|assumption|omega)|simp only[LN];omega) only[↓SB,S1,↓al]
  generalize hT:cF (⟨n.up,n.inc,n.peers,n.topics,calls,n.pubs,cnt,marks,n.taken⟩:Node) [(s:Int)] [] nl=todo at hr
  refine ax.rule (α:=Nat×List Int) (fun p=>[I p.1,L p.2]) (fun p=>p.1≤nl.length∧p.2.length≤p.1∧cF (⟨n.up,n.inc,n.peers,n.topics,calls,n.pubs,cnt,marks,n.taken⟩:Node) [(s:Int)] p.2 (nl.drop p.1)=todo) (fun p=>nl.length-p.1) (0,[]) rfl ⟨by simp,by simp,by simpa using hT⟩ (fun _=>rfl) ?_
  rintro ⟨i,a⟩ ⟨hi,ha,hs2⟩
  simp only at hi ha hs2
  simp only[app]
  simp (disch:=first|omega|assumption|(constructor<;>first|assumption|omega)|simp only[LN];omega) only[↓SB,S1,↓al]
  refine ⟨fun h=>?_,fun h=>?_⟩
  ·obtain ⟨x,hx⟩:=ak h
   rw[ay hx,cF] at hs2
   simp (disch:=first|omega|assumption|(constructor<;>first|assumption|omega)|simp only[LN];omega) only[↓SB,S1,↓al,af hx]
   refine ⟨fun e1=>⟨fun e2=>⟨fun e3=>⟨(i+1,a++[x]),rfl,⟨by simp;omega,by simp;omega,?_⟩,by simp;omega⟩,fun e3=>⟨(i+1,a),rfl,⟨by simp;omega,by simp;omega,?_⟩,by simp;omega⟩⟩,fun e2=>⟨(i+1,a),rfl,⟨by simp;omega,by simp;omega,?_⟩,by simp;omega⟩⟩,fun e1=>⟨(i+1,a),rfl,⟨by simp;omega,by simp;omega,?_⟩,by simp;omega⟩⟩
   ·simp only[e1,e2,e3,Bool.not_false,Bool.and_self,if_true] at hs2;exact hs2
   ·simp only[e1,e2,e3,Bool.not_false,Bool.not_true,Bool.and_false,Bool.false_eq_true,if_false] at hs2;exact hs2
   ·simp only[e1,e2,Bool.not_false,Bool.not_true,Bool.and_false,Bool.false_and,Bool.false_eq_true,if_false] at hs2;exact hs2
   ·simp only[e1,Bool.false_and,Bool.false_eq_true,if_false] at hs2;exact hs2
  rw[ap h,cF] at hs2
  subst hs2
  unfold goN at hr
  refine SUB.v1 (bb (decide (a=[]))) ?_ ?_
  ·simp (disch:=first|omega|assumption|(constructor<;>first|assumption|omega)|simp only[LN];omega) only[↓SB,S1,↓al]
   refine ⟨fun h=>?_,fun h=>?_⟩
   ·have:a=[]:=List.eq_nil_of_length_eq_zero (by omega)
    simp[this]
   ·have:a≠[]:=by intro h';subst h';simp at h
    simp[this]
  by_cases ha0:a=[]
  ·rw[if_pos (.inl ha0)] at hr
   unfold mU at hr
   rw[if_pos rfl] at hr
   dsimp only at hr
   subst ha0
   simp (disch:=first|omega|assumption|(constructor<;>first|assumption|omega)|simp only[LN];omega) only[↓SB,S1,↓al]
   refine SUB.v3 (bb (calls.any (bR k cnt))) (bb (!calls.any (bR k cnt))) (L (calls.eraseP (bR k cnt))) ?_ ?_
   ·simp (disch:=first|omega|assumption|(constructor<;>first|assumption|omega)|simp only[LN];omega) only[↓SB,S1,↓al]
    refine ax.rule (α:=Nat) (fun i=>[I i]) (fun i=>i≤calls.length∧(calls.take i).any (bR k cnt)=false) (fun i=>calls.length-i) 0 rfl ⟨by omega,by simp⟩ (fun _=>rfl) ?_
    rintro i ⟨hi3,hs3⟩
    simp only[app]
    simp (disch:=first|omega|assumption|(constructor<;>first|assumption|omega)|simp only[LN];omega) only[↓SB,S1,↓al]
    refine ⟨fun h=>?_,fun h=>⟨fun _=>?_,fun h9=>absurd (show (-1:Int)<0 by omega) h9⟩⟩
    ·obtain ⟨x,hx⟩:=ak h
     simp (disch:=first|omega|assumption|(constructor<;>first|assumption|omega)|simp only[LN];omega) only[↓SB,S1,↓al,af hx]
     refine SUB.v1 (bb (bR k cnt x)) ?_ ?_
     ·unfold bR;repeat' (first | apply And.intro | intro _ | simp (disch:=first|omega|assumption|(constructor<;>first|assumption|omega)|simp only[LN];omega) only[↓SB,S1,↓al])
      all_goals simp[*]
     cases hcx:bR k cnt x
     ·simp (disch:=first|omega|assumption|(constructor<;>first|assumption|omega)|simp only[LN];omega) only[↓SB,S1,↓al]
      exact ⟨i+1,rfl,⟨by omega,xG hs3 hx hcx⟩,by omega⟩
     ·have hpre:(0:Int)≤(i:Int)∧(i:Int)≤(i:Int)+1∧(i:Int)+1≤calls.length∧calls.length<4611686018427387904:=⟨by omega,by omega,by omega,by omega⟩
      obtain ⟨e5,e6⟩:=qC hs3 hx hcx
      simp (disch:=first|omega|assumption|(constructor<;>first|assumption|omega)|simp only[LN];omega) only[↓SB,S1,↓al]
      refine ⟨fun h=>by omega,fun _=>?_⟩
      rw[e5,e6];rfl
    ·have hi4:i=calls.length:=by omega
     subst hi4
     rw[List.take_length] at hs3
     rw[hs3,uL hs3];rfl
   simp (disch:=first|omega|assumption|(constructor<;>first|assumption|omega)|simp only[LN];omega) only[↓SB,S1,↓al]
   cases hany:calls.any (bR k cnt)
   ·rw[nj (n:=⟨n.up,n.inc,n.peers,n.topics,calls,n.pubs,cnt,marks,n.taken⟩) hany] at hr
    rw[uL hany]
    simp (disch:=first|omega|assumption|(constructor<;>first|assumption|omega)|simp only[LN];omega) only[↓SB,S1,↓al]
    subst hr
    exact hQ
   ·rw[nk (n:=⟨n.up,n.inc,n.peers,n.topics,calls,n.pubs,cnt,marks,n.taken⟩) hany rfl hy] at hr
    simp (disch:=first|omega|assumption|(constructor<;>first|assumption|omega)|simp only[LN];omega) only[↓SB,S1,↓al,af hy,↓bk hy (j:=15) (v:=L (sE y.queue c.queue ⟨4,0,0,0,0,cnt⟩)) (y:={ y with queue:=sE y.queue c.queue ⟨4,0,0,0,0,cnt⟩ }) rfl]
    rw[show vU cnt (-1)=⟨4,0,0,0,0,cnt⟩ from rfl] at hr
    subst hr
    refine ⟨fun h=>by omega,fun _=>?_⟩
    exact hQ
  ·rw[if_neg (by rintro (h | h);exact ha0 h;simp at h)] at hr
   have hpos:0<a.length:=List.length_pos_iff.2 ha0
   obtain ⟨j,hj⟩: ∃j,a.length=j+1:=⟨a.length-1,by omega⟩
   have e1:((a.length:Int)-1)=(j:Nat):=by omega
   obtain ⟨w,hw2⟩:=ak (xs:=a) (i:=j) (by omega)
   have e2:a.take j=a.dropLast:=by rw[List.dropLast_eq_take];congr 1;omega
   have e3:a.getLastD 0=w:=by
    rw[List.getLastD_eq_getLast?,List.getLast?_eq_getElem?,hj,Nat.add_sub_cancel,hw2];rfl
   have e4:(a.take j).length≤1000000:=by simp;omega
   simp (disch:=first|omega|assumption|(constructor<;>first|assumption|omega)|simp only[LN];omega) only[↓SB,S1,↓al,ha0,e1,af hw2,Int.toNat_natCast,↓uI]
   rw[e3] at hr
   rw[e2]
   subst hr
   exact hQ
 ·simp only[hsub,if_true] at hr
  unfold mU at hr
  rw[if_pos rfl] at hr
  dsimp only at hr
  have e1:((n.taken++[(⟨s,n.inc,cnt,k,value⟩:Mark2)]).length:Int)≤101:=by simp;omega
  have e2:(max (((n.taken++[(⟨s,n.inc,cnt,k,value⟩:Mark2)]).length:Int)-64) 0).toNat=(n.taken++[(⟨s,n.inc,cnt,k,value⟩:Mark2)]).length-64:=by omega
  have e3:(nL (n.taken++[(⟨s,n.inc,cnt,k,value⟩:Mark2)]) 64).length≤1000000:=by unfold nL;simp;omega
  simp (disch:=first|omega|assumption|(constructor<;>first|assumption|omega)|simp only[LN];omega) only[↓SB,S1,↓al,af hy,hsub]
  rw[e2]
  show CALL _ _ [L (nL _ 64)] _ _
  simp (disch:=first|omega|assumption|(constructor<;>first|assumption|omega)|simp only[LN];omega) only[↓SB,S1,↓al]
  refine SUB.v3 (bb (calls.any (bR k cnt))) (bb (!calls.any (bR k cnt))) (L (calls.eraseP (bR k cnt))) ?_ ?_
  ·simp (disch:=first|omega|assumption|(constructor<;>first|assumption|omega)|simp only[LN];omega) only[↓SB,S1,↓al]
   refine ax.rule (α:=Nat) (fun i=>[I i]) (fun i=>i≤calls.length∧(calls.take i).any (bR k cnt)=false) (fun i=>calls.length-i) 0 rfl ⟨by omega,by simp⟩ (fun _=>rfl) ?_
   rintro i ⟨hi3,hs3⟩
   simp only[app]
   simp (disch:=first|omega|assumption|(constructor<;>first|assumption|omega)|simp only[LN];omega) only[↓SB,S1,↓al]
   refine ⟨fun h=>?_,fun h=>⟨fun _=>?_,fun h9=>absurd (show (-1:Int)<0 by omega) h9⟩⟩
   ·obtain ⟨x,hx⟩:=ak h
    simp (disch:=first|omega|assumption|(constructor<;>first|assumption|omega)|simp only[LN];omega) only[↓SB,S1,↓al,af hx]
    refine SUB.v1 (bb (bR k cnt x)) ?_ ?_
    ·unfold bR;repeat' (first | apply And.intro | intro _ | simp (disch:=first|omega|assumption|(constructor<;>first|assumption|omega)|simp only[LN];omega) only[↓SB,S1,↓al])
     all_goals simp[*]
    cases hcx:bR k cnt x
    ·simp (disch:=first|omega|assumption|(constructor<;>first|assumption|omega)|simp only[LN];omega) only[↓SB,S1,↓al]
     exact ⟨i+1,rfl,⟨by omega,xG hs3 hx hcx⟩,by omega⟩
    ·have hpre:(0:Int)≤(i:Int)∧(i:Int)≤(i:Int)+1∧(i:Int)+1≤calls.length∧calls.length<4611686018427387904:=⟨by omega,by omega,by omega,by omega⟩
     obtain ⟨e5,e6⟩:=qC hs3 hx hcx
     simp (disch:=first|omega|assumption|(constructor<;>first|assumption|omega)|simp only[LN];omega) only[↓SB,S1,↓al]
     refine ⟨fun h=>by omega,fun _=>?_⟩
     rw[e5,e6];rfl
   ·have hi4:i=calls.length:=by omega
    subst hi4
    rw[List.take_length] at hs3
    rw[hs3,uL hs3];rfl
  simp (disch:=first|omega|assumption|(constructor<;>first|assumption|omega)|simp only[LN];omega) only[↓SB,S1,↓al]
  cases hany:calls.any (bR k cnt)
  ·rw[nj (n:=⟨n.up,n.inc,n.peers,n.topics,calls,n.pubs,cnt,marks,nL (n.taken++[(⟨s,n.inc,cnt,k,value⟩:Mark2)]) 64⟩) hany] at hr
   rw[uL hany]
   simp (disch:=first|omega|assumption|(constructor<;>first|assumption|omega)|simp only[LN];omega) only[↓SB,S1,↓al]
   subst hr
   exact hQ
  ·rw[nk (n:=⟨n.up,n.inc,n.peers,n.topics,calls,n.pubs,cnt,marks,nL (n.taken++[(⟨s,n.inc,cnt,k,value⟩:Mark2)]) 64⟩) hany rfl hy] at hr
   simp (disch:=first|omega|assumption|(constructor<;>first|assumption|omega)|simp only[LN];omega) only[↓SB,S1,↓al,af hy,↓bk hy (j:=15) (v:=L (sE y.queue c.queue ⟨3,0,0,0,s,cnt⟩)) (y:={ y with queue:=sE y.queue c.queue ⟨3,0,0,0,s,cnt⟩ }) rfl]
   rw[show vU cnt s=⟨3,0,0,0,s,cnt⟩ from if_pos hs.1] at hr
   subst hr
   refine ⟨fun _=>?_,fun h=>by omega⟩
   exact hQ
end Go.Xt
end
section
set_option linter.unusedSimpArgs false
set_option linter.unusedVariables false
set_option maxRecDepth 100000
namespace Go.Xt
theorem mq{l:List Event}{limit:Int}:bd l limit=true↔rng limit 2 32=true∧(l.length:Int)≤limit∧l.all dL=true∧((l.length:Int)<limit∨n6 l=true):=by
 simp only[bd,Bool.and_eq_true,Bool.or_eq_true,decide_eq_true_eq,and_assoc]
theorem TN{x:Event}(h:dL x=true)(hs:cT x=true):dL (n9 x)=true∧(n9 x).kind=2∧(n9 x).seq≤(n9 x).last∧(n9 x).last≤1073741824∧1≤(n9 x).seq:=by
 simp only[cT,Bool.or_eq_true,decide_eq_true_eq] at hs
 unfold dL at h
 unfold n9
 by_cases h1:x.kind=1
 ·rw[if_pos h1] at h ⊢
  simp only[Bool.and_eq_true,decide_eq_true_eq,cnt,rng] at h
  obtain ⟨⟨⟨⟨h2,h3⟩,_⟩,_⟩,_⟩:=h
  simp[dL,h2,cnt,rng,h3]
 ·have h2:x.kind=2:=by omega
  rw[if_neg h1,if_pos h2] at h
  rw[if_neg h1,if_pos h2]
  refine ⟨by unfold dL;rw[if_neg h1,if_pos h2];exact h,h2,?_⟩
  simp only[Bool.and_eq_true,decide_eq_true_eq,cnt,rng] at h
  omega
theorem M3{l:List Event}{x:Event}(h:x.kind=2):n6 (l++[x])=true:=by simp[n6,h]
theorem TO{l:List Event}{limit:Int}{x:Event}(h:(vS l limit x).2=0):bd (vS l limit x).1 limit=true:=by
 unfold vS at h ⊢
 split at h
 ·rename_i h0
  rw[if_pos h0]
  rw[Bool.and_eq_true] at h0
  obtain ⟨hr,hl,ha,hg⟩:=mq.1 h0.1
  have hrb:=aZ hr
  split at h
  ·rename_i h1
   rw[if_pos h1]
   refine mq.2 ⟨hr,by simp;omega,by simp only[List.all_append,ha,List.all_cons,List.all_nil,h0.2,Bool.and_self],.inl (by simp;omega)⟩
  ·rename_i h1
   rw[if_neg h1]
   split at h
   ·rename_i h2
    rw[if_pos h2]
    obtain ⟨g1,g2,g3,g4,g5⟩:=TN h0.2 h2
    split at h
    ·rename_i h3
     rw[if_pos h3]
     refine mq.2 ⟨hr,by simp;omega,by simp only[List.all_append,ha,List.all_cons,List.all_nil,g1,Bool.and_self],.inr (M3 g2)⟩
    ·rename_i h3
     rw[if_neg h3]
     split at h
     ·rename_i h4
      rw[if_pos h4]
      have hlen:(l.length:Int)=limit:=by omega
      obtain ⟨j,hj⟩: ∃j,l.length=j+1:=⟨l.length-1,by omega⟩
      have e1:(limit-1).toNat=j:=by omega
      rw[e1] at h4 ⊢
      have hjl:j<l.length:=by omega
      have hy:l.getD j dw=l[j]:=by simp[List.getD_eq_getElem?_getD,hjl]
      rw[hy] at h4 ⊢
      have hlg:n6 l=true:=by rcases hg with hg | hg;omega;exact hg
      have hk:l[j].kind=2:=by
       have:l.getLast? =some l[j]:=by rw[List.getLast?_eq_getElem?,hj,Nat.add_sub_cancel];simp[hjl]
       simp only[n6,this,decide_eq_true_eq] at hlg;exact hlg
      rw[List.all_eq_true] at ha
      have hev:=ha l[j] (List.getElem_mem hjl)
      unfold dL at hev
      rw[if_neg (by omega),if_pos hk] at hev
      simp only[Bool.and_eq_true,decide_eq_true_eq,cnt,rng] at hev
      have hw:IntKind.i64.wrap (l[j].last+1)=l[j].last+1:=wr (by omega) (by omega)
      rw[hw] at h4
      have hnew:dL { l[j] with last:=(n9 x).last }=true:=by
       unfold dL
       rw[if_neg (by show ¬l[j].kind=1;omega),if_pos hk]
       simp only[Bool.and_eq_true,decide_eq_true_eq,cnt,rng]
       obtain ⟨⟨⟨⟨d1,d2⟩,d3⟩,d4⟩,d5⟩:=hev
       exact ⟨⟨⟨⟨d1,d2⟩,by omega,by omega⟩,d4⟩,d5⟩
      refine mq.2 ⟨hr,by simpa using hl,?_,.inr ?_⟩
      ·rw[List.all_eq_true]
       intro y hy
       rcases List.mem_or_eq_of_mem_set hy with hy | hy
       ·exact ha y hy
       ·rw[hy];exact hnew
      ·have:(l.set j { l[j] with last:=(n9 x).last }).getLast? =some { l[j] with last:=(n9 x).last }:=by
        rw[List.getLast?_eq_getElem?,List.length_set,hj,Nat.add_sub_cancel];simp[hjl]
       unfold n6;rw[this];exact decide_eq_true hk
     ·omega
   ·omega
 ·omega
theorem Rg{l:List Event}{limit:Int}{x:Event}(h:bd l limit=true):bd (sE l limit x) limit=true:=by
 unfold sE
 split
 ·rename_i h0;exact TO h0
 ·exact h
theorem zE{c:Config}{t self:Int}{x:Topic}{q:List Event}(h:aS c t self x=true)(hq:bd q c.queue=true):aS c t self { x with queue:=q }=true:=by
 simp only[aS,dv,Bool.and_eq_true] at h ⊢
 exact ⟨h.1,h.2.1,hq⟩
theorem xH{c:Config}{t self:Int}{x:Topic}(h:aS c t self x=true):bd x.queue c.queue=true:=by
 simp only[aS,dv,Bool.and_eq_true] at h;exact h.2.2
theorem Su{c:Config}{self:Int}{l:List Topic}{t:Int}{x:Event}(h:bx c self 0 l=true)(h0:0≤t)(h1:t<l.length):bx c self 0 (QH c l t x)=true∧(QH c l t x).length=l.length:=by
 obtain ⟨k,rfl⟩:=Int.eq_ofNat_of_zero_le h0
 obtain ⟨y,hy⟩:=ak h1
 have hgd:l.getD k fp=y:=by simp[List.getD_eq_getElem?_getD,hy]
 unfold QH
 rw[Int.toNat_natCast,hgd]
 refine ⟨Cq h ?_,by simp⟩
 have:=qD h hy
 exact zE this (Rg (xH this))
theorem Cs{c:Config}{a b:Int}: ∀ {l:List Call} {p q:Int},bD c a p l=true→a≤b→q≤p→bD c b q l=true
 | [],_,_,_,_,_=>rfl
 | x::r,p,q,h,hab,hqp=>by
  simp only[bD,Bool.and_eq_true,decide_eq_true_eq] at h ⊢
  obtain ⟨⟨⟨⟨h1,h2⟩,h3⟩,h4⟩,h5⟩:=h
  exact ⟨⟨⟨⟨by omega,by omega⟩,h3⟩,h4⟩,Cs h5 hab (Int.le_refl _)⟩
theorem Gj{c:Config}{a:Int}: ∀ {l:List Call} {p:Int},p≤a→bD c a p l=true→(l.length:Int)≤a-p
 | [],p,h0,_=>by simp;omega
 | x::r,p,h0,h=>by
  simp only[bD,Bool.and_eq_true,decide_eq_true_eq] at h
  have:=Gj (by omega) h.2
  simp only[List.length_cons];omega
theorem zF{c:Config}{a:Int}{f:Call→Bool}: ∀ {l:List Call} {p:Int},bD c a p l=true→bD c a p (l.eraseP f)=true
 | [],_,_=>rfl
 | x::r,p,h=>by
  have h':=h
  simp only[bD,Bool.and_eq_true,decide_eq_true_eq] at h
  rw[List.eraseP_cons]
  cases f x
  ·simp only[cond_false]
   simp only[bD,Bool.and_eq_true,decide_eq_true_eq]
   exact ⟨h.1,zF h.2⟩
  ·exact Cs h.2 (Int.le_refl _) (by omega)
theorem Gk{c:Config}{a b t:Int}: ∀ {l:List Call} {p:Int},p≤a→bD c a p l=true→a<b→rng t 0 (c.topics-1)=true→bD c b p (l++[⟨b,t,0⟩])=true
 | [],p,h0,_,hab,ht=>by
  simp only[List.nil_append,bD,Bool.and_eq_true,decide_eq_true_eq]
  exact ⟨⟨⟨⟨by omega,by omega⟩,ht⟩,by unfold rng;simp⟩,trivial⟩
 | x::r,p,h0,h,hab,ht=>by
  simp only[bD,Bool.and_eq_true,decide_eq_true_eq] at h
  simp only[List.cons_append,bD,Bool.and_eq_true,decide_eq_true_eq]
  obtain ⟨⟨⟨⟨h1,h2⟩,h3⟩,h4⟩,h5⟩:=h
  exact ⟨⟨⟨⟨by omega,by omega⟩,h3⟩,h4⟩,Gk (by omega) h5 hab ht⟩
theorem O0{c:Config}{self:Int}{n:Node}{t count who:Int}(H:NOk c self n)(ht:rng t 0 (c.topics-1)=true) :
  NOk c self (jE c n t count who)∧(jE c n t count who).asks=n.asks∧(jE c n t count who).inc=n.inc∧(jE c n t count who).up=n.up:=by
 unfold jE
 split
 ·have hb:=aZ ht
  have htl:=H.tl
  obtain ⟨h1,h2⟩:=Su (x:=vU count who) (t:=t) H.tops hb.1 (by omega)
  refine ⟨⟨H.inc,H.pubs,H.asks,zF H.calls,?_,H.pl,by rw[←H.tl];exact congrArg _ h2,H.ml,H.kl,h1,H.peers,H.marks,H.taken⟩,rfl,rfl,rfl⟩
  have:=List.length_eraseP_le (p:=bR t count) (l:=n.calls)
  have:=H.cl
  show (n.calls.eraseP _).length≤40
  omega
 ·exact ⟨H,rfl,rfl,rfl⟩
theorem TP{m b:Int}(h0:0≤m)(h1:m≤2199023255551)(h2:0≤b)(h3:b≤40)(h:m / 2 ^ b.toNat % 2=0):0≤m+2 ^ b.toNat∧m+2 ^ b.toNat≤2199023255551:=by
 obtain ⟨m,rfl⟩:=Int.eq_ofNat_of_zero_le h0
 obtain ⟨d,rfl⟩:=Int.eq_ofNat_of_zero_le h2
 simp only[Int.toNat_natCast] at h ⊢
 have e0:((2:Int) ^ d)=((2 ^ d:Nat):Int):=(Int.natCast_pow 2 d).symm
 rw[e0] at h ⊢
 have h4:m / 2 ^ d % 2=0:=by
  have:((m / 2 ^ d % 2:Nat):Int)=0:=by rw[Int.natCast_emod,Int.natCast_ediv];exact h
  omega
 have h5:2 ^ d<2199023255552:=Nat.pow_lt_pow_right (a:=2) (n:=41) (by decide) (by omega)
 have h6:m ||| 2 ^ d<2 ^ 41:=Nat.or_lt_two_pow (by omega) (by omega)
 rw[Rf h4] at h6
 generalize 2 ^ d=P at h6 ⊢
 omega
theorem Sv{l:List Mark}{o inc count:Int}(h:l.all fo=true)(hi:cnt inc=true)(h0:0≤count)(h1:count≤40):(jq l o inc count).all fo=true∧(jq l o inc count).length=l.length:=by
 unfold jq
 split
 ·rename_i hm
  refine ⟨?_,by simp⟩
  simp only[meets,Bool.and_eq_true,Bool.not_eq_true'] at hm
  have hmk:fo (l.getD o.toNat zp)=true:=by
   rw[List.getD_eq_getElem?_getD]
   cases hx:l[o.toNat]? with
   | none=>rfl
   | some x=>exact (List.all_eq_true.1 h) x (List.mem_of_getElem? hx)
  generalize l.getD o.toNat zp=y at hm hmk ⊢
  have hnw:fo (kc y inc)=true:=by
   unfold kc;split
   ·simp only[cnt] at hi
    have:=aZ hi
    simp[fo,rng];omega
   ·exact hmk
  generalize kc y inc=z at hm hnw ⊢
  simp only[fo,Bool.and_eq_true] at hnw
  have hb:=aZ hnw.2
  have hz:z.met / 2 ^ count.toNat % 2=0:=by
   have:=hm.2
   simp only[oY,decide_eq_false_iff_not] at this
   omega
  have:=TP hb.1 hb.2 h0 h1 hz
  rw[List.all_eq_true]
  intro x hx
  rcases List.mem_or_eq_of_mem_set hx with hx | hx
  ·exact (List.all_eq_true.1 h) x hx
  ·rw[hx]
   simp only[fo,Bool.and_eq_true]
   exact ⟨hnw.1,by unfold rng;simp;omega⟩
 ·exact ⟨h,rfl⟩
end Go.Xt
end
section
set_option linter.unusedSimpArgs false
set_option linter.unusedVariables false
set_option maxRecDepth 100000
namespace Go.Xt
structure VOk (c:Config) (x:Msg):Prop where
 t:rng x.topic 0 (c.topics-1)=true
 o:rng x.node 0 (c.nodes-1)=true
 i:cnt x.inc=true
 k:rng x.count 1 40=true
 v:val x.value=true
theorem OY{c:Config}{self:Int}{n:Node}{x:Msg}{who:Int}(H:NOk c self n)(ht:rng x.topic 0 (c.topics-1)=true) :
  NOk c self (mU c self n x who).1∧(mU c self n x who).1.asks=n.asks∧(mU c self n x who).1.inc=n.inc∧(mU c self n x who).1.up=n.up:=by
 unfold mU
 split
 ·exact O0 H ht
 ·exact ⟨H,rfl,rfl,rfl⟩
theorem PQ{α:Type}{l:List α}{k:Nat}:(nL l k).length≤k:=by unfold nL;simp;omega
theorem PR{α:Type}{l:List α}{k:Nat}{x:α}(h:x∈nL l k):x∈l:=List.mem_of_mem_drop h
theorem Rh{c:Config}{self:Int}{n:Node}{x:Msg}(H:NOk c self n)(V:VOk c x) :
  NOk c self (jO c self n x).1∧(jO c self n x).1.asks=n.asks∧(jO c self n x).1.inc=n.inc∧(jO c self n x).1.up=n.up:=by
 unfold jO
 split
 ·refine OY (n:={ n with taken:=_ }) ⟨H.inc,H.pubs,H.asks,H.calls,H.cl,H.pl,H.tl,H.ml,PQ,H.tops,H.peers,H.marks,?_⟩ V.t
  rw[List.all_eq_true]
  intro y hy
  have:=PR hy
  rw[List.mem_append,List.mem_singleton] at this
  rcases this with h | h
  ·exact (List.all_eq_true.1 H.taken) y h
  ·subst h
   have hk:=aZ V.k
   simp only[lW,Bool.and_eq_true]
   exact ⟨⟨⟨⟨V.o,V.t⟩,V.i⟩,by unfold cnt rng;simp;omega⟩,V.v⟩
 ·unfold goN
  split
  ·exact OY H V.t
  ·exact ⟨H,rfl,rfl,rfl⟩
theorem PS{c:Config}{self:Int}{n:Node}{t value:Int}(hw:aU c self n=0)(ht:rng t 0 (c.topics-1)=true)(hv:val value=true)(ha:n.asks<40){q:Node×List Msg×Int×Int}(hE:aT c self n t value=q) :
  q.2.2.2=0∧q.2.2.1=n.asks+1∧q.1.asks=n.asks+1∧aU c self q.1=0∧q.1.inc=n.inc ∧
  ((q.2.1=[]∧q.1.calls.length=n.calls.length)∨ ∃m,q.2.1=[m]∧m.kind=11∧m.node=self∧m.inc=n.inc∧m.count=n.asks+1∧m.hops=1∧q.1.calls.length=n.calls.length+1):=by
 obtain ⟨hc,hs,hu,H⟩:=dI hw
 have hab:=aZ H.asks
 unfold aT at hE
 rw[if_pos hw,if_pos (by rw[ht,hv];rfl),if_pos ha] at hE
 dsimp only at hE
 have hlen:=Gj hab.1 H.calls
 have hcalls:=Gk (t:=t) (b:=n.asks+1) hab.1 H.calls (by omega) ht
 have hmk:=Sv (o:=self) (count:=n.asks+1) H.marks H.inc (by omega) (by omega)
 have H1:NOk c self { n with asks:=n.asks+1,calls:=n.calls++[⟨n.asks+1,t,0⟩],marks:=jq n.marks self n.inc (n.asks+1) } :=
  ⟨H.inc,H.pubs,by unfold rng;simp;omega,hcalls,by simp;omega,H.pl,H.tl,by rw[←H.ml];exact congrArg _ hmk.2,H.kl,H.tops,H.peers,hmk.1,H.taken⟩
 have V:VOk c { lp with topic:=t,node:=self,inc:=n.inc,count:=n.asks+1,value:=value } :=
  ⟨ht,hs,H.inc,by unfold rng;simp;omega,hv⟩
 obtain ⟨v1,v2,v3,v4⟩:=Rh H1 V
 subst hE
 refine ⟨rfl,rfl,v2,NZ hc hs (by rw[v4];exact hu) v1,v3,?_⟩
 have hany:(n.calls++[(⟨n.asks+1,t,0⟩:Call)]).any (bR t (n.asks+1))=true:=by simp[bR]
 have hend: ∀(m:Node) (who:Int),m.calls=n.calls++[(⟨n.asks+1,t,0⟩:Call)]→(jE c m t (n.asks+1) who).calls.length=n.calls.length:=by
  intro m who hm
  unfold jE
  rw[if_pos (by rw[hm];exact hany)]
  show (m.calls.eraseP _).length=_
  rw[hm]
  obtain ⟨a,h1,h2⟩:=List.any_eq_true.1 hany
  rw[List.length_eraseP_of_mem h1 h2];simp
 have htell: ∀(m:Node) (who:Int),m.calls=n.calls++[(⟨n.asks+1,t,0⟩:Call)]→(mU c self m { lp with topic:=t,node:=self,inc:=n.inc,count:=n.asks+1,value:=value } who).2=[]∧(mU c self m { lp with topic:=t,node:=self,inc:=n.inc,count:=n.asks+1,value:=value } who).1.calls.length=n.calls.length:=by
  intro m who hm
  unfold mU
  rw[if_pos rfl]
  exact ⟨rfl,hend m who hm⟩
 unfold jO
 split
 ·exact .inl (htell _ _ rfl)
 ·unfold goN
  split
  ·exact .inl (htell _ _ rfl)
  ·exact .inr ⟨_,rfl,rfl,rfl,rfl,rfl,rfl,by simp⟩
def wN0:Node:=⟨true,1,List.replicate 8 ⟨0,0⟩,List.replicate 4 fp,[],0,0,List.replicate 8 ⟨0,0,0⟩,[]⟩
end Go.Xt
end
section
set_option linter.unusedSimpArgs false
set_option linter.unusedVariables false
set_option maxRecDepth 100000
namespace Go.Xt
set_option linter.defProp false
theorem oh: ∀(ls:List (List Int)) (i:Nat),((ls.take i).flatten).length≤ls.flatten.length
 | [],i=>by simp
 | l::r,0=>by simp
 | l::r,i+1=>by
  have:=oh r i
  simp only[List.take_succ_cons,List.flatten_cons,List.length_append];omega
theorem Gl{ls:List (List Int)}{i:Nat}{x:List Int}(hx:ls[i]? =some x):(ls.take (i+1)).flatten=(ls.take i).flatten++x:=by
 rw[List.take_add_one,hx];simp
theorem qE(ls:List (List Int))(hp:ls.flatten.length≤1000000)(hg:ag (bf ls).2.1):WW ρ 1 fA bf ls:=by
 simp only[bf,RR] at hg ⊢
 unfold fA
 simp only[ag,aV] at hg
 simp (disch:=first|omega|assumption|(constructor<;>first|assumption|omega)|simp only[LN];omega) only[↓SB,S1,↓bP]
 refine ax.rule (α:=Nat) (fun i=>[I (((ls.take i).flatten).length:Nat),I i]) (fun i=>i≤ls.length) (fun i=>ls.length-i) 0 rfl (by omega) (fun _=>rfl) ?_
 intro i hl
 have hi1:=oh ls i
 simp only[app]
 simp (disch:=first|omega|assumption|(constructor<;>first|assumption|omega)|simp only[LN];omega) only[↓SB,S1,↓bP]
 refine ⟨fun h=>?_,fun h=>?_⟩
 ·obtain ⟨x,hx⟩:=ak h
  have hft:=Gl hx
  have hi2:=oh ls (i+1)
  rw[hft,List.length_append] at hi2
  simp (disch:=first|omega|assumption|(constructor<;>first|assumption|omega)|simp only[LN];omega) only[↓SB,S1,↓bP,af hx]
  refine ⟨fun h=>by omega,fun _=>⟨i+1,?_,by omega,by omega⟩⟩
  rw[hft];simp
 ·rw[List.take_of_length_le (by omega)]
  have hpre:([]:List Int)=[]∧(0:Int)≤(ls.flatten.length:Int)∧(ls.flatten.length:Int)≤1000000:=⟨rfl,by omega,by omega⟩
  simp (disch:=first|omega|assumption|(constructor<;>first|assumption|omega)|simp only[LN];omega) only[↓SB,S1,↓bP]
  refine ax.rule (α:=Nat) (fun i=>[I i,L ((ls.take i).flatten)]) (fun i=>i≤ls.length) (fun i=>ls.length-i) 0 rfl (by omega) (fun _=>rfl) ?_
  intro j hj
  have hi1:=oh ls j
  simp only[app]
  simp (disch:=first|omega|assumption|(constructor<;>first|assumption|omega)|simp only[LN];omega) only[↓SB,S1,↓bP]
  refine ⟨fun h=>?_,fun h=>?_⟩
  ·obtain ⟨x,hx⟩:=ak h
   have hft:=Gl hx
   have hi2:=oh ls (j+1)
   rw[hft,List.length_append] at hi2
   simp (disch:=first|omega|assumption|(constructor<;>first|assumption|omega)|simp only[LN];omega) only[↓SB,S1,↓bP,af hx]
   refine ⟨j+1,?_,by omega,by omega⟩
   rw[hft];simp
  ·rw[List.take_of_length_le (by omega)]
def O1:=And.intro @dW (@bI)
theorem O3(m:Msg):WW ρ 16 wd ly m:=by
 simp only[ly,RR]
 unfold wd tz
 simp (disch:=first|omega|assumption|(constructor<;>first|assumption|omega)|simp only[LN];omega) only[↓S0,S3,S2,S1,↓O1]
 cases isN m.frm<;>cases isN m.to<;>simp
def M4:=And.intro @qx (@bI)
theorem M5(m:Msg):WW ρ 16 tU ko m:=by
 simp only[ko,RR]
 unfold tU tA
 simp (disch:=first|omega|assumption|(constructor<;>first|assumption|omega)|simp only[LN];omega) only[↓S0,S3,S2,S1,↓M4]
 cases rng m.epoch 1 1073741824<;>simp
def M6:=And.intro @cb (And.intro @qx (And.intro @dW (@bI)))
theorem M7(m:Msg):WW ρ 16 tV kp m:=by
 simp only[kp,RR]
 unfold tV lq
 simp (disch:=first|omega|assumption|(constructor<;>first|assumption|omega)|simp only[LN];omega) only[↓S0,S3,S2,S1,↓M6]
 cases isN m.node<;>cases cnt m.inc<;>cases val m.value<;>simp
theorem sm{α:Type}[DecidableEq α]{l:List α}{i:Nat}{x:α}(hx:l[i]? =some x):(l.take (i+1)).Nodup↔(l.take i).Nodup∧x∉l.take i:=by
 rw[List.take_add_one,hx,Option.toList_some,List.nodup_append]
 constructor
 ·rintro ⟨h1,_,h3⟩
  exact ⟨h1,fun hm=>h3 x hm x (by simp) rfl⟩
 ·rintro ⟨h1,h2⟩
  refine ⟨h1,by simp,fun a ha b hb=>?_⟩
  rw[List.mem_singleton] at hb
  subst hb
  rintro rfl;exact h2 ha
theorem Gm{α:Type}{l:List α}{i:Nat}(h:l.Nodup):(l.take i).Nodup:=List.Nodup.sublist (List.take_sublist _ _) h
theorem Jo(l:List Int)(hg:ag (gm l).2.1):WW ρ 1 rX gm l:=by
 simp only[gm,RR] at hg ⊢
 unfold rX
 simp only[ag,aV] at hg
 generalize hE:decide l.Nodup=q
 simp (disch:=first|omega|assumption|(constructor<;>first|assumption|omega)|simp only[LN];omega) only[↓SB,S1,↓bK]
 refine ax.rule (α:=Nat) (fun i=>[I i]) (fun i=>i≤l.length∧(l.take i).Nodup) (fun i=>l.length-i) 0 rfl ⟨by omega,by simp⟩ (fun _=>rfl) ?_
 rintro i ⟨hl,hs⟩
 simp only[app]
 simp (disch:=first|omega|assumption|(constructor<;>first|assumption|omega)|simp only[LN];omega) only[↓SB,S1,↓bK]
 refine ⟨fun h=>?_,fun h=>?_⟩
 ·obtain ⟨x,hx⟩:=ak h
  simp (disch:=first|omega|assumption|(constructor<;>first|assumption|omega)|simp only[LN];omega) only[↓SB,S1,↓bK,af hx,Int.toNat_natCast]
  refine ⟨fun h3=>?_,fun h3=>⟨i+1,rfl,⟨by omega,(sm hx).2 ⟨hs,fun hm=>?_⟩⟩,by omega⟩⟩
  ·rw[←hE]
   have: ¬l.Nodup:=fun hn=>((sm hx).1 (Gm hn)).2 (by simpa using h3)
   simp[this]
  ·have:(l.take i).contains x=true:=by simpa using hm
   rw[h3] at this;cases this
 ·rw[List.take_of_length_le (by omega)] at hs
  rw[←hE];simp[hs]
def PT:=And.intro @vV (@xp)
theorem PU(l:List Int)(hg:ag (lz l).2.1):WW ρ 1 yD lz l:=by
 simp only[lz,RR] at hg ⊢
 unfold yD mh
 simp (disch:=first|omega|assumption|(constructor<;>first|assumption|omega)|simp only[LN];omega) only[↓SB,S1,↓PT]
 refine ⟨fun h=>?_,fun h=>?_⟩
 ·have e:decide (l.length≤8)=true:=by simp;omega
  rw[e]
  cases l.all isN<;>simp
 ·have e:decide (l.length≤8)=false:=by simp;omega
  simp[e]
def bF:=And.intro @cb (And.intro @qx (And.intro @dW (And.intro @bI (And.intro @Px (And.intro @Le (And.intro @Lf (And.intro @xp (@qz))))))))
theorem O4(m:Msg)(hg:ag (jQ m).2.1):WW ρ 16 we jQ m:=by
  simp only[jQ,RR] at hg ⊢
  unfold we
  simp only[ag,cj,aV] at hg
  generalize hE:kd m=q
  simp (disch:=first|omega|assumption|(constructor<;>first|assumption|omega)|simp only[LN];omega) only[↓SB,S1,↓bF]
  refine SUB.v1 (bb (decide (m.kind=1)||decide (m.kind=5)||decide (m.kind=6))) ?_ ?_
  · repeat' (first | apply And.intro | intro _ | simp (disch:=first|omega|assumption|(constructor<;>first|assumption|omega)|simp only[LN];omega) only[↓SB,S1,↓bF])
    all_goals simp_all
  unfold kd at hE
  by_cases k1:m.kind=1∨m.kind=5∨m.kind=6
  · rw[if_pos k1] at hE
    have e:(decide (m.kind=1)||decide (m.kind=5)||decide (m.kind=6))=true:=by simp;omega
    simp (disch:=first|omega|assumption|(constructor<;>first|assumption|omega)|simp only[LN];omega) only[↓SB,S1,↓bF,e]
    rw[←hE]
  rw[if_neg k1] at hE
  have e:(decide (m.kind=1)||decide (m.kind=5)||decide (m.kind=6))=false:=by simp;omega
  simp (disch:=first|omega|assumption|(constructor<;>first|assumption|omega)|simp only[LN];omega) only[↓SB,S1,↓bF,e]
  refine ⟨fun k2=>?_,fun k2=>?_⟩
  · rw[if_pos k2] at hE
    rw[←hE]
    repeat' (first | apply And.intro | intro _ | simp (disch:=first|omega|assumption|(constructor<;>first|assumption|omega)|simp only[LN];omega) only[↓SB,S1,↓bF])
    all_goals simp_all
  rw[if_neg k2] at hE
  refine ⟨fun k3=>?_,fun k3=>?_⟩
  · rw[if_pos k3] at hE
    rw[←hE]
    have eL:(PV.list []:PV)=L ([]:List Int):=rfl
    cases hpa:m.path with
    | nil =>
      repeat' (first | apply And.intro | intro _ | simp (disch:=first|omega|assumption|(constructor<;>first|assumption|omega)|simp only[LN];omega) only[↓SB,S1,↓bF])
      all_goals (rw[eL];simp_all)
    | cons p r =>
      have hc0:(L (p::r)).cellAt (I 0) 0=I p:=af (i:=0) (x:=p) rfl
      repeat' (first | apply And.intro | intro _ | simp (disch:=first|omega|assumption|(constructor<;>first|assumption|omega)|simp only[LN];omega) only[↓SB,S1,↓bF,hc0,eL])
      all_goals simp_all
  rw[if_neg k3] at hE
  refine ⟨fun k4=>?_,fun k4=>?_⟩
  · rw[if_pos k4] at hE
    rw[←hE]
    repeat' (first | apply And.intro | intro _ | simp (disch:=first|omega|assumption|(constructor<;>first|assumption|omega)|simp only[LN];omega) only[↓SB,S1,↓bF])
    all_goals simp_all
  rw[if_neg k4] at hE
  refine ⟨fun k7=>?_,fun k7=>?_⟩
  · rw[if_pos k7] at hE
    rw[←hE]
    repeat' (first | apply And.intro | intro _ | simp (disch:=first|omega|assumption|(constructor<;>first|assumption|omega)|simp only[LN];omega) only[↓SB,S1,↓bF])
    all_goals simp_all
  rw[if_neg k7] at hE
  refine ⟨fun k8=>?_,fun k8=>?_⟩
  · rw[if_pos k8] at hE
    rw[←hE]
    repeat' (first | apply And.intro | intro _ | simp (disch:=first|omega|assumption|(constructor<;>first|assumption|omega)|simp only[LN];omega) only[↓SB,S1,↓bF])
    all_goals simp_all
  rw[if_neg k8] at hE
  refine ⟨fun k9=>?_,fun k9=>?_⟩
  · rw[if_pos k9] at hE
    rw[←hE]
    repeat' (first | apply And.intro | intro _ | simp (disch:=first|omega|assumption|(constructor<;>first|assumption|omega)|simp only[LN];omega) only[↓SB,S1,↓bF])
    all_goals simp_all
  rw[if_neg k9] at hE
  refine ⟨fun k10=>?_,fun k10=>?_⟩
  · rw[if_pos k10] at hE
    rw[←hE]
    repeat' (first | apply And.intro | intro _ | simp (disch:=first|omega|assumption|(constructor<;>first|assumption|omega)|simp only[LN];omega) only[↓SB,S1,↓bF])
    all_goals simp_all
  rw[if_neg k10] at hE
  refine ⟨fun k11=>?_,fun k11=>?_⟩
  · rw[if_pos k11] at hE
    rw[←hE]
    cases hpa:mh m.path with
    | false => repeat' (first | apply And.intro | intro _ | simp (disch:=first|omega|assumption|(constructor<;>first|assumption|omega)|simp only[LN];omega) only [↓SB, S1, ↓bF])
               all_goals simp_all[show (PV.list []:PV)=L ([]:List Int) from rfl]
    | true =>
    cases hto:mh m.todo with
    | false => repeat' (first | apply And.intro | intro _ | simp (disch:=first|omega|assumption|(constructor<;>first|assumption|omega)|simp only[LN];omega) only [↓SB, S1, ↓bF])
               all_goals simp_all[show (PV.list []:PV)=L ([]:List Int) from rfl]
    | true =>
      have hfl:([m.path,m.todo].flatten).length≤1000000:=by
        simp only[mh,Bool.and_eq_true,decide_eq_true_eq] at hpa hto
        simp;omega
      repeat' (first | apply And.intro | intro _ | simp (disch:=first|omega|assumption|(constructor<;>first|assumption|omega)|simp only[LN];omega) only[↓SB,S1,↓bF])
      all_goals simp_all[show (PV.list []:PV)=L ([]:List Int) from rfl]
  rw[if_neg k11] at hE
  refine ⟨fun k12=>?_,fun k12=>?_⟩
  · rw[if_pos k12] at hE
    rw[←hE]
    repeat' (first | apply And.intro | intro _ | simp (disch:=first|omega|assumption|(constructor<;>first|assumption|omega)|simp only[LN];omega) only[↓SB,S1,↓bF])
    all_goals simp_all
  rw[if_neg k12] at hE
  refine ⟨fun k13=>?_,fun k13=>?_⟩
  · rw[if_pos k13] at hE
    rw[←hE]
    repeat' (first | apply And.intro | intro _ | simp (disch:=first|omega|assumption|(constructor<;>first|assumption|omega)|simp only[LN];omega) only[↓SB,S1,↓bF])
    all_goals simp_all
  rw[if_neg k13] at hE
  rw[←hE]
def mr:=And.intro @qx (And.intro @bI (And.intro @Nw (@Nv)))
theorem M8(m:Msg)(hg:ag (iw m).2.1):WW ρ 16 tW iw m:=by
 simp only[iw,RR] at hg ⊢
 unfold tW
 simp only[ag,cj,aV] at hg
 simp (disch:=first|omega|assumption|(constructor<;>first|assumption|omega)|simp only[LN];omega) only[↓SB,S1,↓mr]
 refine SUB.v1 (bb (kJ m)) ?_ ?_
 ·unfold kJ
  refine ⟨fun k=>?_,fun k=>?_⟩
  ·rw[if_pos k]
   repeat' (first | apply And.intro | intro _ | simp (disch:=first|omega|assumption|(constructor<;>first|assumption|omega)|simp only[LN];omega) only[↓SB,S1,↓mr])
   all_goals simp_all
  ·rw[if_neg k]
   repeat' (first | apply And.intro | intro _ | simp (disch:=first|omega|assumption|(constructor<;>first|assumption|omega)|simp only[LN];omega) only[↓SB,S1,↓mr])
   all_goals simp_all
 refine SUB.v1 (bb (qY (kd m).1)) ?_ ?_
 ·unfold qY
  repeat' (first | apply And.intro | intro _ | simp (disch:=first|omega|assumption|(constructor<;>first|assumption|omega)|simp only[LN];omega) only[↓SB,S1,↓mr])
  all_goals simp_all
 unfold gD
 cases e1:(kd m).2<;>cases e2:kJ m<;>cases e3:qY (kd m).1
 all_goals simp (disch:=first|omega|assumption|(constructor<;>first|assumption|omega)|simp only[LN];omega) only[↓SB,S1,↓mr,e1,e2,e3]
 all_goals simp
 refine ⟨fun h h2=>by rw[h2] at h;simp at h,fun h=>⟨fun h2 _ h3=>by rw[h3] at h2;simp at h2,fun h2=>⟨h,h2⟩⟩⟩
end Go.Xt
end
section
set_option linter.unusedSimpArgs false
set_option linter.unusedVariables false
set_option maxRecDepth 100000
namespace Go.Xt
end Go.Xt
end
section
set_option linter.unusedSimpArgs false
set_option linter.unusedVariables false
set_option maxRecDepth 100000
namespace Go.Xt
theorem Sw{x:Msg}(h:gD x=true)(hk:x.kind=11):lq x=true∧rng x.count 1 40=true∧mh x.path=true∧mh x.todo=true∧(x.path++x.todo).Nodup∧rng x.topic 0 3=true:=by
 simp only[gD,Bool.and_eq_true] at h
 obtain ⟨⟨⟨⟨k1,k2⟩,_⟩,_⟩,_⟩:=h
 simp only[kJ,Bool.and_eq_true] at k2
 have k3:=k2.2
 rw[if_neg (by omega),Bool.and_eq_true] at k3
 unfold kd at k1
 rw[if_neg (by omega),if_neg (by omega),if_neg (by omega),if_neg (by omega),if_neg (by omega),if_neg (by omega),if_neg (by omega),if_neg (by omega),if_pos hk] at k1
 simp only[Bool.and_eq_true,decide_eq_true_eq] at k1
 obtain ⟨⟨⟨⟨a,b⟩,d⟩,e⟩,f⟩:=k1
 exact ⟨a,b,d,e,f,k3.2⟩
structure MV (c:Config) (x:Msg):Prop where
 ok:gD x=true
 k:x.kind=11
 t:rng x.topic 0 (c.topics-1)=true
 n:rng x.node 0 (c.nodes-1)=true
 p:(x.path.all fun n=>rng n 0 (c.nodes-1))=true
 d:(x.todo.all fun n=>rng n 0 (c.nodes-1))=true
theorem MV.v{c:Config}{x:Msg}(h:MV c x):VOk c x:=by
 obtain ⟨a,b,_⟩:=Sw h.ok h.k
 simp only[lq,Bool.and_eq_true] at a
 exact ⟨h.t,h.n,a.1.1.2,b,a.1.2⟩
end Go.Xt
end
section
set_option linter.unusedSimpArgs false
set_option linter.unusedVariables false
set_option maxRecDepth 100000
namespace Go.Xt
theorem M9(l:List Int)(n:Int)(hg:ag (ix (l,n)).2.1):WW ρ 2 tX ix (l,n):=by
 simp only[ix,RR] at hg ⊢
 unfold tX
 simp only[ag,aV] at hg
 refine ax.rule (α:=Nat) (fun i=>[I i]) (fun i=>i≤l.length∧(l.drop i).contains n=l.contains n) (fun i=>l.length-i) 0 rfl ⟨by omega,by simp⟩ (fun _=>rfl) ?_
 rintro i ⟨h1,h2⟩
 simp only[app]
 simp (disch:=first|omega|assumption|(constructor<;>first|assumption|omega)|simp only[LN];omega) only[↓SB,S1]
 refine ⟨fun h=>?_,fun h=>?_⟩
 ·obtain ⟨x,hx⟩:=ak h
  rw[ay hx,List.contains_cons] at h2
  simp (disch:=first|omega|assumption|(constructor<;>first|assumption|omega)|simp only[LN];omega) only[↓SB,S1,af hx]
  refine ⟨fun h3=>?_,fun h3=>⟨i+1,rfl,⟨by omega,?_⟩,by omega⟩⟩
  ·rw[←h2];simp[h3]
  ·rw[←h2];simp
   intro h4;exact absurd h4.symm h3
 ·rw[ap h] at h2
  rw[←h2];simp
theorem F8(n:Int):WW ρ 1 pQ gO n:=by
 simp only[gO,RR]
 unfold pQ
 simp (disch:=first|omega|assumption|(constructor<;>first|assumption|omega)|simp only[LN];omega) only[↓SB,S1,↓lB]
 rfl
theorem Ct(x:Topic):WW ρ 16 ob fx x:=by
 simp only[fx,RR]
 unfold ob nK
 simp (disch:=first|omega|assumption|(constructor<;>first|assumption|omega)|simp only[LN];omega) only[↓SB,S1]
 refine ⟨fun h=>?_,fun h=>?_⟩ <;>simp[h]
theorem F9(l:List Int)(hg:ag (eR l).2.1):WW ρ 1 pP eR l:=by
 simp only[eR,RR] at hg ⊢
 unfold pP
 simp only[ag,cj,aV] at hg
 refine ax.rule (α:=Nat) (fun i=>[I i]) (fun i=>i≤l.length∧(l.drop i).all (isN)=l.all (isN)) (fun i=>l.length-i) 0 rfl ⟨by omega,by simp⟩ (fun _=>rfl) ?_
 rintro i ⟨hl_i,hs_i⟩
 simp only[app]
 simp (disch:=first|omega|assumption|(constructor<;>first|assumption|omega)|simp only[LN];omega) only[↓SB,S1,↓dG]
 refine ⟨fun hc_i=>?_,fun hc_i=>?_⟩
 ·obtain ⟨x,hx⟩:=ak hc_i
  rw[ay hx,List.all_cons] at hs_i
  simp (disch:=first|omega|assumption|(constructor<;>first|assumption|omega)|simp only[LN];omega) only[↓SB,S1,↓dG,af hx]
  refine ⟨fun h3=>?_,fun h3=>⟨i+1,rfl,⟨by omega,by simpa[h3] using hs_i⟩,by omega⟩⟩
  rw[←hs_i];simp[h3]
 ·rw[ap hc_i] at hs_i
  rw[←hs_i]
  simp;omega
theorem Cu(l:List Int)(hg:ag (dC l).2.1):WW ρ 1 oa dC l:=by
 simp only[dC,RR] at hg ⊢
 unfold oa
 simp only[ag,aV] at hg
 generalize hE:decide l.Nodup=q
 refine ax.rule (α:=Nat) (fun i=>[I i]) (fun i=>i≤l.length∧(l.take i).Nodup) (fun i=>l.length-i) 0 rfl ⟨by omega,by simp⟩ (fun _=>rfl) ?_
 rintro i ⟨hl,hs⟩
 simp only[app]
 simp (disch:=first|omega|assumption|(constructor<;>first|assumption|omega)|simp only[LN];omega) only[↓SB,S1]
 refine ⟨fun h=>?_,fun h=>?_⟩
 ·obtain ⟨x,hx⟩:=ak h
  refine ax.rule (α:=Nat) (fun j=>[I j]) (fun j=>j≤i∧ ¬x∈l.take j) (fun j=>i-j) 0 rfl ⟨by omega,by simp⟩ (fun _=>rfl) ?_
  rintro j ⟨hj,hs2⟩
  simp only[app]
  simp (disch:=first|omega|assumption|(constructor<;>first|assumption|omega)|simp only[LN];omega) only[↓SB,S1]
  refine ⟨fun h4=>?_,fun h4=>?_⟩
  ·obtain ⟨y,hy⟩:=ak (xs:=l) (i:=j) (by omega)
   simp (disch:=first|omega|assumption|(constructor<;>first|assumption|omega)|simp only[LN];omega) only[↓SB,S1,af hx,af hy]
   refine ⟨fun h3=>?_,fun h3=>⟨j+1,rfl,⟨by omega,?_⟩,by omega⟩⟩
   ·rw[←hE]
    have: ¬l.Nodup:=fun hn=>by
     have h5:=((sm hx).1 (Gm hn)).2
     refine h5 (List.mem_of_getElem? (i:=j) ?_)
     rw[List.getElem?_take_of_lt (by omega),hy,h3]
    simp[this]
   ·rw[List.take_add_one,hy]
    intro hm
    rcases List.mem_append.1 hm with hm | hm
    ·exact hs2 hm
    ·simp at hm;exact h3 hm.symm
  ·have:j=i:=by omega
   subst this
   exact ⟨j+1,rfl,⟨by omega,(sm hx).2 ⟨hs,hs2⟩⟩,by omega⟩
 ·rw[List.take_of_length_le (by omega)] at hs
  rw[←hE];simp[hs]
theorem Jp(l:List Peer)(self:Int)(hp:l.length≤1000)(hg:ag (ec (l,self)).2.1):WW ρ 2 rY ec (l,self):=by
 simp only[ec,RR] at hg ⊢
 unfold rY
 generalize hE:ib l self=q
 refine ax.rule (α:=Nat×List Int) (fun p=>[I p.1,L p.2]) (fun p=>p.1≤l.length∧p.2.length≤p.1∧p.2++jN self p.1 (l.drop p.1)=q) (fun p=>l.length-p.1) (0,[]) rfl ⟨by simp,by simp,by simpa[ib] using hE⟩ (fun _=>rfl) ?_
 rintro ⟨i,a⟩ ⟨hi,ha,hs⟩
 simp only at hi ha hs
 simp only[app]
 simp (disch:=first|omega|assumption|(constructor<;>first|assumption|omega)|simp only[LN];omega) only[↓SB,S1]
 refine ⟨fun h4=>?_,fun h4=>?_⟩
 ·obtain ⟨x,hx⟩:=ak h4
  rw[ay hx,jN] at hs
  simp (disch:=first|omega|assumption|(constructor<;>first|assumption|omega)|simp only[LN];omega) only[↓SB,S1,af hx]
  refine ⟨fun h5=>⟨(i+1,a++[(i:Int)]),rfl,⟨by simp;omega,by simp;omega,?_⟩,by simp;omega⟩,fun h5=>⟨fun h6=>⟨fun h7=>⟨(i+1,a++[(i:Int)]),rfl,⟨by simp;omega,by simp;omega,?_⟩,by simp;omega⟩,fun h7=>⟨(i+1,a),rfl,⟨by simp;omega,by simp;omega,?_⟩,by simp;omega⟩⟩,fun h6=>⟨(i+1,a),rfl,⟨by simp;omega,by simp;omega,?_⟩,by simp;omega⟩⟩⟩
  ·rw[if_pos (.inl h5)] at hs;simpa using hs
  ·rw[if_pos (.inr ⟨h6,h7⟩)] at hs;simpa using hs
  ·rw[if_neg (show ¬((i:Int)=self∨(0<x.inc∧x.age<4)) by omega)] at hs;simpa using hs
  ·rw[if_neg (show ¬((i:Int)=self∨(0<x.inc∧x.age<4)) by omega)] at hs;simpa using hs
 ·rw[ap h4] at hs
  simp[jN] at hs;simp[hs]
theorem OZ{x:Event}(h:dL x=true):x.seq≤1073741824∧0≤x.seq∧x.last≤1073741824∧0≤x.last:=by
 unfold dL at h
 split at h
 ·simp only[Bool.and_eq_true,decide_eq_true_eq,cnt,rng] at h;omega
 ·split at h
  ·simp only[Bool.and_eq_true,decide_eq_true_eq,cnt,rng] at h;omega
  ·split at h
   ·simp only[Bool.and_eq_true,decide_eq_true_eq] at h;omega
   ·split at h
    ·simp only[Bool.and_eq_true,decide_eq_true_eq] at h;omega
    ·simp only[Bool.and_eq_true,decide_eq_true_eq] at h;omega
theorem TQ{l:List Event}{limit:Int}{x:Event}(h1:bd l limit=true)(h2:dL x=true):vS l limit x =
  if (l.length:Int)<limit-1 then (l++[x],0)
  else if cT x=true then
   if (l.length:Int)<limit then (l++[n9 x],0)
   else if (n9 x).epoch=(l.getD (limit-1).toNat dw).epoch∧(n9 x).seq=IntKind.i64.wrap ((l.getD (limit-1).toNat dw).last+1) then
    (l.set (limit-1).toNat { (l.getD (limit-1).toNat dw) with last:=(n9 x).last },0)
   else ([],6)
  else ([],6):=by
 unfold vS;rw[if_pos (by rw[h1,h2];rfl)]
theorem Ri{x:Event}(h:dL x=true)(hs:cT x=true):n9 x=⟨2,x.epoch,x.seq,if x.kind=2 then x.last else x.seq,0,0⟩:=by
 simp only[cT,Bool.or_eq_true,decide_eq_true_eq] at hs
 unfold dL at h
 unfold n9
 rcases hs with h1 | h1
 ·rw[if_pos h1,if_neg (by omega)]
 ·rw[if_neg (by omega),if_pos h1,if_pos h1]
  rw[if_neg (by omega),if_pos h1] at h
  simp only[Bool.and_eq_true,decide_eq_true_eq] at h
  obtain ⟨⟨_,h4⟩,h5⟩:=h
  cases x;simp_all
theorem Ma(l:List Event)(limit:Int)(x:Event)(hp:(l.length≤1000∧2≤limit∧limit≤32∧(x.kind=3∨x.kind=4))∨(bd l limit=true∧dL x=true))(hg:ag (iy (l,limit,x)).2.1):WW ρ 8 tY iy (l,limit,x):=by
 simp only[iy,RR] at hg ⊢
 unfold tY
 by_cases hk:x.kind=3∨x.kind=4
 ·have hb:l.length≤1000∧2≤limit∧limit≤32:=by
   rcases hp with h | h
   ·exact ⟨h.1,h.2.1,h.2.2.1⟩
   ·have:=lJ h.1;omega
  obtain ⟨h1,h2,h3⟩:=hb
  unfold vT
  rw[if_pos hk]
  simp (disch:=first|omega|assumption|(constructor<;>first|assumption|omega)|simp only[LN];omega) only[↓SB,S1,↓aY]
  refine ⟨fun h=>?_,fun h=>?_⟩
  ·simp[h]
  ·refine SUB.v1 (bb true) ?_ ?_
   ·repeat' (first | apply And.intro | intro _ | simp (disch:=first|omega|assumption|(constructor<;>first|assumption|omega)|simp only[LN];omega) only[↓SB,S1,↓aY])
    all_goals simp_all
    all_goals omega
   simp (disch:=first|omega|assumption|(constructor<;>first|assumption|omega)|simp only[LN];omega) only[↓SB,S1,↓aY]
   simp[h]
 have hq:bd l limit=true∧dL x=true:=by
  rcases hp with h | h
  ·exact absurd h.2.2.2 hk
  ·exact h
 obtain ⟨h1,h2⟩:=hq
 have hb:=lJ h1
 have hx:=OZ h2
 generalize hR:vT l limit x=R
 have hRe:R=(sE l limit x,decide ((vS l limit x).2=0)):=by rw[←hR];unfold vT;rw[if_neg hk]
 have hF:=TQ h1 h2
 unfold sE at hRe
 rw[hF] at hRe
 simp (disch:=first|omega|assumption|(constructor<;>first|assumption|omega)|simp only[LN];omega) only[↓SB,S1,↓aY]
 refine ⟨fun h=>?_,fun h=>?_⟩
 ·rw[if_pos h] at hRe;simp at hRe;rw[hRe]
 ·rw[if_neg h] at hRe
  refine SUB.v1 (bb (!cT x)) ?_ ?_
  ·unfold cT
   repeat' (first | apply And.intro | intro _ | simp (disch:=first|omega|assumption|(constructor<;>first|assumption|omega)|simp only[LN];omega) only[↓SB,S1,↓aY])
   all_goals simp_all
  cases hs:cT x
  ·simp (disch:=first|omega|assumption|(constructor<;>first|assumption|omega)|simp only[LN];omega) only[↓SB,S1,↓aY]
   rw[hs] at hRe;simp at hRe;rw[hRe]
  ·rw[if_pos hs,Ri h2 hs] at hRe
   simp (disch:=first|omega|assumption|(constructor<;>first|assumption|omega)|simp only[LN];omega) only[↓SB,S1,↓aY]
   refine SUB.v1 (I (if x.kind=2 then x.last else x.seq)) ?_ ?_
   ·simp (disch:=first|omega|assumption|(constructor<;>first|assumption|omega)|simp only[LN];omega) only[↓SB,S1,↓aY]
    refine ⟨fun h=>?_,fun h=>?_⟩ <;>simp[h]
   generalize (if x.kind=2 then x.last else x.seq)=z at hRe ⊢
   simp (disch:=first|omega|assumption|(constructor<;>first|assumption|omega)|simp only[LN];omega) only[↓SB,S1,↓aY]
   refine ⟨fun h5=>?_,fun h5=>?_⟩
   ·rw[if_pos (show (l.length:Int)<limit by omega)] at hRe;simp at hRe;rw[hRe]
   ·rw[if_neg (show ¬(l.length:Int)<limit by omega)] at hRe
    obtain ⟨k,hk⟩:=Int.eq_ofNat_of_zero_le (show 0≤limit-1 by omega)
    have hlk:(l.length:Int)-1=k:=by omega
    obtain ⟨y,hy⟩:=ak (xs:=l) (i:=k) (by omega)
    have hyo:=OZ (List.all_eq_true.1 hb.2.2.2 y (List.mem_of_getElem? hy))
    have hgd:l.getD k dw=y:=by simp[List.getD_eq_getElem?_getD,hy]
    have hw:IntKind.i64.wrap (y.last+1)=y.last+1:=wr (by omega) (by omega)
    rw[hk,Int.toNat_natCast,hgd,hw] at hRe
    rw[hlk]
    simp (disch:=first|omega|assumption|(constructor<;>first|assumption|omega)|simp only[LN];omega) only[↓SB,S1,↓aY,af hy,↓bk hy (j:=3) (v:=I z) (y:={ y with last:=z }) (by simp[Event.row_eq,List.set])]
    refine ⟨fun h6=>⟨fun h7=>?_,fun h7=>?_⟩,fun h6=>?_⟩
    ·rw[if_pos (show x.epoch=y.epoch∧x.seq=y.last+1 from ⟨h6.symm,by omega⟩)] at hRe;simp at hRe;rw[hRe]
    ·rw[if_neg (show ¬(x.epoch=y.epoch∧x.seq=y.last+1) from fun h8=>h7 (by omega))] at hRe;simp at hRe;rw[hRe]
    ·rw[if_neg (show ¬(x.epoch=y.epoch∧x.seq=y.last+1) from fun h8=>h6 h8.1.symm)] at hRe;simp at hRe;rw[hRe]
theorem Mb(a:Msg)(b:Msg)(hg:ag (iz (a,b)).2.1):WW ρ 32 tZ iz (a,b):=by
 simp only[iz,RR] at hg ⊢
 unfold tZ
 repeat' (first | apply And.intro | intro _ | simp (disch:=first|omega|assumption|(constructor<;>first|assumption|omega)|simp only[LN];omega) only[↓SB,S1,↓xk])
 all_goals simp_all[Msg.eq_iff]
end Go.Xt
end
section
set_option linter.unusedSimpArgs false
set_option linter.unusedVariables false
set_option maxRecDepth 100000
namespace Go.Xt
set_option linter.defProp false
theorem Jq(a:List Msg)(b:List Msg)(hg:ag (gn (a,b)).2.1):WW ρ 2 rZ gn (a,b):=by
 simp only[gn,RR] at hg ⊢
 unfold rZ
 simp only[ag,aV] at hg
 simp (disch:=first|omega|assumption|(constructor<;>first|assumption|omega)|simp only[LN];omega) only[↓SB,S1,↓oK]
 refine ⟨fun h=>by simp[Cd h],fun h=>?_⟩
 have hl:a.length=b.length:=by omega
 refine ax.rule (α:=Nat) (fun i=>[I i]) (fun i=>i≤a.length∧((a=b)=(a.drop i=b.drop i))) (fun i=>a.length-i) 0 rfl ⟨by omega,by simp⟩ (fun _=>rfl) ?_
 rintro i ⟨hl_i,hs_i⟩
 simp only[app]
 simp (disch:=first|omega|assumption|(constructor<;>first|assumption|omega)|simp only[LN];omega) only[↓SB,S1,↓oK]
 refine ⟨fun hc_i=>?_,fun hc_i=>?_⟩
 ·obtain ⟨x,hx⟩:=ak hc_i
  obtain ⟨y,hy⟩:=ak (xs:=b) (i:=i) (by omega)
  rw[ay hx,ay hy,List.cons.injEq] at hs_i
  simp (disch:=first|omega|assumption|(constructor<;>first|assumption|omega)|simp only[LN];omega) only[↓SB,S1,↓oK,af hx,af hy,Msg.eta]
  refine ⟨fun h3=>?_,fun h3=>⟨i+1,rfl,⟨by omega,by simpa[h3] using hs_i⟩,by omega⟩⟩
  have hn: ¬a=b:=fun e=>h3 (hs_i.mp e).1
  simp[hn]
 ·rw[ap hc_i,ap (by omega)] at hs_i
  simp[hs_i]
theorem Sx(m:Msg):(isN m.frm&&isN m.to&& !decide (m.frm=m.to)&&cnt m.fromInc)=tz m:=by
 unfold tz;simp
theorem Rj(l:List Int):mh l=((l.all isN&&decide (l.length≤8))&&decide l.Nodup):=by
 unfold mh;rw[Bool.and_comm (decide _) (l.all isN)]
theorem PW(a b:List Int):(decide a.Nodup&&decide b.Nodup&&decide (a++b).Nodup)=decide (a++b).Nodup:=by
 rw[Bool.eq_iff_iff]
 simp only[Bool.and_eq_true,decide_eq_true_eq,List.nodup_append]
 constructor
 ·rintro ⟨_,h⟩;exact h
 ·intro h;exact ⟨⟨h.1,h.2.1⟩,h⟩
theorem TR{m:Msg}(k:m.kind=11)(he:tz m=true)(h1:cnt m.toInc=true)(h2:0≤m.topic∧m.topic≤3) :
  gD m=(lq m&&rng m.count 1 40&&(m.path.all isN&&decide (m.path.length≤8))&&(m.todo.all isN&&decide (m.todo.length≤8))&&decide (m.path++m.todo).Nodup&&decide (m.epoch=0)&&decide (m.seq=0)&&decide (m.last=0)):=by
 have h3:rng m.topic 0 3=true:=by unfold rng;simp;omega
 have hb:kd m=({ m with node:=0,inc:=0,count:=0,value:=0,hops:=0,path:=[],todo:=[] },lq m&&rng m.count 1 40&&mh m.path&&mh m.todo&&decide (m.path++m.todo).Nodup):=by
  unfold kd
  rw[if_neg (by omega),if_neg (by omega),if_neg (by omega),if_neg (by omega),if_neg (by omega),if_neg (by omega),if_neg (by omega),if_neg (by omega),if_pos k]
 simp only[gD,hb,kJ,he,h1,h3,k,qY,Rj]
 rw[←PW m.path m.todo]
 generalize (m.path.all isN&&decide (m.path.length≤8))=A
 generalize (m.todo.all isN&&decide (m.todo.length≤8))=B
 generalize (lq m&&rng m.count 1 40)=C
 generalize decide (m.path++m.todo).Nodup=D
 generalize decide m.path.Nodup=E
 generalize decide m.todo.Nodup=F
 cases A<;>cases B<;>cases C<;>cases D<;>cases E<;>cases F<;>simp
theorem Rl(n:Int):decide (0=n)=decide (n=0):=decide_eq_decide.2 eq_comm
theorem Jr(n:Int):rng n 0 3=isT n:=by unfold rng isT;congr 1;exact decide_eq_decide.2 (by omega)
def bn:=And.intro @gQ (And.intro @lB (And.intro @oK (And.intro @iY (And.intro @dG (And.intro @Eu (And.intro @mB (And.intro @Et (@BU))))))))
theorem Mc(m:Msg)(hp:m.path.length≤30∧m.todo.length≤30)(hg:ag (iA m).2.1):WW ρ 16 u0 iA m:=by
 simp only[iA,RR] at hg ⊢
 unfold u0
 simp only[ag,cj,aV] at hg
 generalize hE:gD m=q
 refine SUB.v1 (bb (!(rng m.kind 1 13&&tz m))) ?_ ?_
 ·rw[←Sx]
  repeat' (first | apply And.intro | intro _ | simp (disch:=first|omega|assumption|(constructor<;>first|assumption|omega)|simp only[LN];omega) only[↓SB,S1,↓bn])
  all_goals simp_all[rng]
  all_goals first | omega | skip
 cases hr:rng m.kind 1 13&&tz m
 ·simp (disch:=first|omega|assumption|(constructor<;>first|assumption|omega)|simp only[LN];omega) only[↓SB,S1,↓bn]
  rw[←hE]
  have:gD m=false:=by
   rw[Bool.and_eq_false_iff] at hr
   rcases hr with hr | hr
   ·have h0: ¬(1≤m.kind∧m.kind≤13):=by simpa[rng] using hr
    have hb:kd m=(m,false):=by
     unfold kd
     rw[if_neg (by omega),if_neg (by omega),if_neg (by omega),if_neg (by omega),if_neg (by omega),if_neg (by omega),if_neg (by omega),if_neg (by omega),if_neg (by omega),if_neg (by omega),if_neg (by omega)]
    simp[gD,hb]
   ·simp[gD,kJ,hr]
  rw[this]
 rw[Bool.and_eq_true] at hr
 obtain ⟨hk,he⟩:=hr
 have hkb:=aZ hk
 obtain ⟨hp1,hp2⟩:=hp
 have kk:m.kind=1∨m.kind=3∨m.kind=11∨m.kind=2∨m.kind=4∨m.kind=5∨m.kind=6∨m.kind=7∨m.kind=8∨m.kind=9∨m.kind=10∨m.kind=12∨m.kind=13:=by omega
 rcases kk with k | k | k | k | k | k | k | k | k | k | k | k | k
 ·simp (disch:=first|omega|assumption|(constructor<;>first|assumption|omega)|simp only[LN];omega) only[↓SB,S1,↓bn,k,Int.reduceEq]
  repeat' (first | apply And.intro | intro _ | simp (disch:=first|omega|assumption|(constructor<;>first|assumption|omega)|simp only[LN];omega) only[↓SB,S1,↓bn])
  all_goals (rw[←hE];clear hE)
  all_goals simp_all[gD,kd,kJ,qY,lq,tA,mh,Msg.eq_iff,Bool.and_assoc,Rl,rng]
  all_goals first | (intros;omega) | skip
 ·simp (disch:=first|omega|assumption|(constructor<;>first|assumption|omega)|simp only[LN];omega) only[↓SB,S1,↓bn,k,Int.reduceEq]
  refine SUB.v1 (bb (!(cnt m.toInc&&isT m.topic))) ?_ ?_
  ·cases cnt m.toInc<;>simp
  cases hct:(cnt m.toInc&&isT m.topic)
  ·simp (disch:=first|omega|assumption|(constructor<;>first|assumption|omega)|simp only[LN];omega) only[↓SB,S1,↓bn]
   rw[←hE]
   simp only[Bool.and_eq_false_iff] at hct
   rcases hct with h | h<;>simp[gD,kJ,k,h,Jr]
  ·rw[Bool.and_eq_true] at hct
   have ht3:0≤m.topic∧m.topic≤3:=by have:=iZ.1 hct.2;omega
   simp (disch:=first|omega|assumption|(constructor<;>first|assumption|omega)|simp only[LN];omega) only[↓SB,S1,↓bn]
   cases hpa:m.path with
   | nil =>
    repeat' (first | apply And.intro | intro _ | simp (disch:=first|omega|assumption|(constructor<;>first|assumption|omega)|simp only[LN];omega) only[↓SB,S1,↓bn])
    all_goals (rw[←hE];clear hE)
    all_goals simp_all[gD,kd,kJ,qY,lq,tA,mh,Msg.eq_iff,Bool.and_assoc,Rl,rng]
    all_goals first | (intros;omega) | skip
   | cons p r =>
    have hc0:(L (p::r)).cellAt (I 0) 0=I p:=af (i:=0) (x:=p) rfl
    rw[hpa] at hp1
    have hw3:=Rj (p::r)
    generalize hA:((p::r).all isN&&decide ((p::r).length≤8))=A at hw3
    generalize hB:decide (p::r).Nodup=D at hw3
    have hm3:gD m=(rng m.epoch 0 1073741824&&cnt m.seq&&rng m.last 0 1073741824&&(A&&D)&&decide (p=m.frm)&&decide (m.value=0)&&decide (m.node=0)&&decide (m.inc=0)&&decide (m.count=0)&&decide (m.hops=0)&&decide (m.todo=[])):=by
     rw[←hw3]
     simp[gD,kd,kJ,qY,k,he,hct.1,show rng m.topic 0 3=true by unfold rng;simp;omega,hpa,Bool.and_assoc]
    rw[hm3] at hE
    repeat' (first | apply And.intro | intro _ | simp (disch:=first|omega|assumption|(constructor<;>first|assumption|omega)|simp only[LN];omega) only[↓SB,S1,↓bn,hc0,hA,hB])
    all_goals (rw[←hE];clear hE)
    all_goals simp_all[Msg.eq_iff,Bool.and_assoc,Rl,rng]
    all_goals first | (intros;omega) | skip
 ·simp (disch:=first|omega|assumption|(constructor<;>first|assumption|omega)|simp only[LN];omega) only[↓SB,S1,↓bn,k,Int.reduceEq]
  refine SUB.v1 (bb (!(cnt m.toInc&&isT m.topic))) ?_ ?_
  ·cases cnt m.toInc<;>simp
  cases hct:(cnt m.toInc&&isT m.topic)
  ·simp (disch:=first|omega|assumption|(constructor<;>first|assumption|omega)|simp only[LN];omega) only[↓SB,S1,↓bn]
   rw[←hE]
   simp only[Bool.and_eq_false_iff] at hct
   rcases hct with h | h<;>simp[gD,kJ,k,h,Jr]
  ·rw[Bool.and_eq_true] at hct
   have ht3:0≤m.topic∧m.topic≤3:=by have:=iZ.1 hct.2;omega
   simp (disch:=first|omega|assumption|(constructor<;>first|assumption|omega)|simp only[LN];omega) only[↓SB,S1,↓bn]
   rw[TR k he hct.1 ht3] at hE
   have hpq:(m.path++m.todo).length≤60:=by simp;omega
   have hpz:m.path.length≤1000000:=by omega
   generalize hA:(m.path.all isN&&decide (m.path.length≤8))=A at hE
   generalize hB:(m.todo.all isN&&decide (m.todo.length≤8))=B at hE
   generalize hD:decide (m.path++m.todo).Nodup=D at hE
   repeat' (first | apply And.intro | intro _ | simp (disch:=first|omega|assumption|(constructor<;>first|assumption|omega)|simp only[LN];omega) only[↓SB,S1,↓bn,hA,hB,hD])
   all_goals (rw[←hE];clear hE)
   all_goals simp_all[lq,Msg.eq_iff,Bool.and_assoc,Rl,rng]
   all_goals first | (intros;omega) | skip
 all_goals
  simp (disch:=first|omega|assumption|(constructor<;>first|assumption|omega)|simp only[LN];omega) only[↓SB,S1,↓bn,k,Int.reduceEq]
  refine SUB.v1 (bb (!(cnt m.toInc&&isT m.topic))) ?_ ?_
  ·cases cnt m.toInc<;>simp
  cases hct:(cnt m.toInc&&isT m.topic)
  ·simp (disch:=first|omega|assumption|(constructor<;>first|assumption|omega)|simp only[LN];omega) only[↓SB,S1,↓bn]
   rw[←hE]
   simp only[Bool.and_eq_false_iff] at hct
   rcases hct with h | h<;>simp[gD,kJ,k,h,Jr]
  ·rw[Bool.and_eq_true] at hct
   have ht3:0≤m.topic∧m.topic≤3:=by have:=iZ.1 hct.2;omega
   simp (disch:=first|omega|assumption|(constructor<;>first|assumption|omega)|simp only[LN];omega) only[↓SB,S1,↓bn]
   repeat' (first | apply And.intro | intro _ | simp (disch:=first|omega|assumption|(constructor<;>first|assumption|omega)|simp only[LN];omega) only[↓SB,S1,↓bn])
   all_goals (rw[←hE];clear hE)
   all_goals simp_all[gD,kd,kJ,qY,lq,tA,mh,Msg.eq_iff,Bool.and_assoc,Rl,rng]
   all_goals first | (intros;omega) | skip
end Go.Xt
end
section
set_option linter.unusedSimpArgs false
set_option linter.unusedVariables false
set_option maxRecDepth 100000
namespace Go.Xt
theorem Cv{l:List Event}{limit:Int}{x:Event}(h:bd l limit=true)(hx:dL x=true)(hs:cT x=false):sE l limit x=if (l.length:Int)<limit-1 then l++[x] else l:=by
 have hp:vS l limit x=if (l.length:Int)<limit-1 then (l++[x],0) else ([],6):=by
  unfold vS
  rw[if_pos (by rw[h,hx];rfl),hs]
  rfl
 unfold sE
 rw[hp]
 by_cases h3:(l.length:Int)<limit-1
 ·simp[h3]
 ·simp[h3]
end Go.Xt
end
