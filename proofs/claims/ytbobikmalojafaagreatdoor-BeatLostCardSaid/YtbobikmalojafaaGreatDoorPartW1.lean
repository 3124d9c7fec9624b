/- Steps towards the statements of this seat; the conditions stand in each theorem. -/
import Derived.Test.YtbobikmalojafaaGreatDoorT
import Derived.Test.YtbobikmalojafaaGreatDoorRho
section
set_option linter.unusedSimpArgs false
set_option linter.unusedVariables false
set_option maxRecDepth 100000
namespace Go.Xt
set_option linter.defProp false
theorem nk(v:Int):0≤nn v∧nn v<4611686018427387904:=by
 unfold nn NN
 match v.toNat with
 | 0=>simp | 1=>simp | 2=>simp | 3=>simp | 4=>simp | 5=>simp | 6=>simp | 7=>simp
 | n+8=>simp
theorem Hj(v:Int):0≤tt v∧tt v<4611686018427387904:=by
 unfold tt TT
 match v.toNat with
 | 0=>simp | 1=>simp | 2=>simp | 3=>simp
 | n+4=>simp
theorem bx{v:Int}:isN v=true↔0≤v∧v<8:=by simp[isN]
theorem qN{v:Int}:isT v=true↔0≤v∧v<4:=by simp[isT]
theorem LX{v:Int}{k:PV→Prop}(h0:0≤v)(h1:v<8):OP .pickA [I v,I 2342812313538366385,I 1863050908023769503,I 81111313352671826,I 2434324899588211290,I 2454816673080883147,I 1342378062264523301,I 820659310660760249,I 2006264061484817761] k=k (I (nn v)):=by
 obtain ⟨n,rfl⟩:=Int.eq_ofNat_of_zero_le h0
 have:n<8:=by omega
 match n with
 | 0=>exact az rfl | 1=>exact az rfl | 2=>exact az rfl | 3=>exact az rfl | 4=>exact az rfl | 5=>exact az rfl | 6=>exact az rfl | 7=>exact az rfl
 | n+8=>omega
theorem LY{v:Int}{k:PV→Prop}(h0:0≤v)(h1:v<4):OP .pickA [I v,I 1462484242049070477,I 1775212608919665246,I 3535639072113518480,I 3725500155902745375] k=k (I (tt v)):=by
 obtain ⟨n,rfl⟩:=Int.eq_ofNat_of_zero_le h0
 have:n<4:=by omega
 match n with
 | 0=>exact az rfl | 1=>exact az rfl | 2=>exact az rfl | 3=>exact az rfl
 | n+4=>omega
theorem I3(n:Int):WW ρ 1 tN kw n:=by
 simp only[kw,RR]
 unfold tN
 simp (disch:=first|omega|assumption|(constructor<;>first|assumption|omega)|simp only[LN];omega) only[↓SB,S1]
 refine ⟨fun h=>?_,fun h=>?_⟩ <;>simp[isN,h]
 try omega
theorem EF(n:Int):WW ρ 1 pT gv n:=by
 simp only[gv,RR]
 unfold pT
 simp (disch:=first|omega|assumption|(constructor<;>first|assumption|omega)|simp only[LN];omega) only[↓SB,S1,↓cO]
 refine ⟨fun h=>?_,fun h=>?_⟩
 ·simp[h]
 ·rw[bx] at h
  rw[LX h.1 h.2];simp[bx,h]
theorem Cb(t:Int):WW ρ 1 nQ fx t:=by
 simp only[fx,RR]
 unfold nQ
 simp (disch:=first|omega|assumption|(constructor<;>first|assumption|omega)|simp only[LN];omega) only[↓SB,S1]
 refine ⟨fun h=>⟨fun h2=>?_,fun h2=>?_⟩,fun h=>?_⟩
 ·simp[isT,h];try omega
 ·rw[LY h (by omega)];simp[qN,h];try omega
 ·simp[isT,h];try omega
theorem I4(k:Int)(n:Int)(hp:0≤k∧k<4611686018427387904∧0≤n∧n<4611686018427387904):WW ρ 2 tO kx (k,n):=by
 simp only[kx,RR]
 unfold tO far
 obtain ⟨h1,h2,h3,h4⟩:=hp
 simp (disch:=first|omega|assumption|(constructor<;>first|assumption|omega)|simp only[LN];omega) only[↓SB,S1]
 refine ⟨fun h=>?_,fun h=>?_⟩
 ·simp[h]
 ·simp[h];try omega
theorem Cc(n:Int)(hp:isN n=true):WW ρ 1 nR il n:=by
 simp only[il,RR]
 unfold nR
 rw[bx] at hp
 simp (disch:=first|omega|assumption|(constructor<;>first|assumption|omega)|simp only[LN];omega) only[↓SB,S1]
 rw[II hp.1 (by simp only[List.length_cons,List.length_nil];omega)];rfl
theorem yB(t:Int)(hp:isT t=true):WW ρ 1 lY fS t:=by
 simp only[fS,RR]
 unfold lY
 rw[qN] at hp
 simp (disch:=first|omega|assumption|(constructor<;>first|assumption|omega)|simp only[LN];omega) only[↓SB,S1]
 rw[II hp.1 (by simp only[List.length_cons,List.length_nil];omega)];rfl
theorem wI(k:Int)(n:Int)(hp:0≤k∧k<4611686018427387904∧0≤n∧n<4611686018427387904):WW ρ 2 kM fc (k,n):=by
 simp only[fc,RR]
 unfold kM far
 obtain ⟨h1,h2,h3,h4⟩:=hp
 simp (disch:=first|omega|assumption|(constructor<;>first|assumption|omega)|simp only[LN];omega) only[↓SB,S1]
 refine ⟨fun h=>?_,fun h=>?_⟩
 ·simp;omega
 ·simp;omega
theorem uO(t:Int):WW ρ 1 jJ cJ t:=by
 simp only[cJ,RR]
 unfold jJ
 simp (disch:=first|omega|assumption|(constructor<;>first|assumption|omega)|simp only[LN];omega) only[↓SB,S1,↓oJ]
 first
 | (refine ⟨fun h=>?_,fun h=>?_⟩ <;>simp[isT,h]<;>omega)
 | (simp only[isT,List.cons.injEq,PV.bool.injEq,and_true];rw[Bool.eq_iff_iff];simp;omega)
theorem wJ(n:Int):WW ρ 1 kN dE n:=by
 simp only[dE,RR]
 unfold kN
 simp (disch:=first|omega|assumption|(constructor<;>first|assumption|omega)|simp only[LN];omega) only[↓SB,S1,↓oJ]
 first
 | (refine ⟨fun h=>?_,fun h=>?_⟩ <;>simp[isN,h]<;>omega)
 | (simp only[isN,List.cons.injEq,PV.bool.injEq,and_true];rw[Bool.eq_iff_iff];simp;omega)
def Gd:=And.intro @oH (And.intro @lF (@qM))
theorem Ge(t:Int)(n:Int):WW ρ 2 rK iQ (t,n):=by
 simp only[iQ,RR]
 unfold rK gap
 have:=Hj t;have:=nk n
 simp (disch:=first|omega|assumption|(constructor<;>first|assumption|omega)|simp only[LN];omega) only[↓SB,S1,↓Gd]
 cases h1:isT t<;>cases h2:isN n<;>simp
theorem yC(t:Int)(a:Int)(b:Int):WW ρ 3 lZ eD (t,a,b):=by
 simp only[eD,RR]
 unfold lZ cq
 simp (disch:=first|omega|assumption|(constructor<;>first|assumption|omega)|simp only[LN];omega) only[↓SB,S1,↓kX]
 cases h1:isT t<;>cases h2:isN a<;>cases h3:isN b<;>simp
theorem EG(t:Int)(n:Int)(hp:isT t=true∧isN n=true):WW ρ 2 pU jw (t,n):=by
 simp only[jw,RR]
 unfold pU gap
 have:=Hj t;have:=nk n
 obtain ⟨h1,h2⟩:=hp
 rw[yl h1,BI h2,wv (by omega)]
def qq:=And.intro @ir (And.intro @oZ (@qn))
theorem wK(t:Int)(a:Int)(b:Int):WW ρ 3 kO dF (t,a,b):=by
 simp only[dF,RR]
 unfold kO cq
 simp (disch:=first|omega|assumption|(constructor<;>first|assumption|omega)|simp only[LN];omega) only[↓SB,S1,↓qq]
 cases h1:isT t<;>cases h2:isN a<;>cases h3:isN b<;>simp
 rw[qn ⟨h1,h2⟩,qn ⟨h1,h3⟩]
 simp (disch:=first|omega|assumption|(constructor<;>first|assumption|omega)|simp only[LN];omega) only[↓SB,S1,↓qq]
theorem eA{t a b:Int}(h:cq t a b=true):(0≤t∧t<4)∧(0≤a∧a<8)∧(0≤b∧b<8)∧gap t a<gap t b:=by
 simp only[cq,Bool.and_eq_true,decide_eq_true_eq,qN,bx] at h
 exact ⟨h.1.1.1,h.1.1.2,h.1.2,h.2⟩
end Go.Xt
end
section
set_option linter.unusedSimpArgs false
set_option linter.unusedVariables false
set_option maxRecDepth 100000
namespace Go.Xt
set_option linter.defProp false
theorem Gf(l:List Int)(hg:am (gl l).2.1):WW ρ 1 rL gl l:=by
 simp only[gl,RR] at hg ⊢
 unfold rL
 simp only[am,bc] at hg
 simp (disch:=first|omega|assumption|(constructor<;>first|assumption|omega)|simp only[LN];omega) only[↓SB,S1,↓cO]
 refine aK.rule (α:=Nat) (fun i=>[I i]) (fun i=>i≤l.length∧(l.drop i).all isN=l.all isN) (fun i=>l.length-i) 0 rfl ⟨by omega,rfl⟩ (fun _=>rfl) ?_
 rintro i ⟨h1,h2⟩
 simp only[app]
 simp (disch:=first|omega|assumption|(constructor<;>first|assumption|omega)|simp only[LN];omega) only[↓SB,S1,↓cO]
 refine ⟨fun h=>?_,fun h=>?_⟩
 ·obtain ⟨x,hx⟩:=aE h
  rw[aM hx,List.all_cons] at h2
  simp (disch:=first|omega|assumption|(constructor<;>first|assumption|omega)|simp only[LN];omega) only[↓SB,S1,↓cO,ar hx]
  refine ⟨fun h3=>?_,fun h3=>⟨i+1,rfl,⟨by omega,by simpa[h3] using h2⟩,by omega⟩⟩
  rw[h3] at h2;simp[←h2]
 ·rw[aH h] at h2
  simp[←h2]
theorem Cd(t:Int)(self:Int)(l:List Int)(hg:am (dQ (t,self,l)).2.1):WW ρ 3 nS dQ (t,self,l):=by
 simp only[dQ,RR] at hg ⊢
 unfold nS
 simp only[am,bc] at hg
 simp (disch:=first|omega|assumption|(constructor<;>first|assumption|omega)|simp only[LN];omega) only[↓SB,S1,↓cd]
 refine aK.rule (α:=Nat×Int) (fun a=>[I a.2,I a.1]) (fun a=>a.1≤l.length∧lx t a.2 (l.drop a.1)=lx t self l) (fun a=>l.length-a.1) (0,self) rfl ⟨by simp,rfl⟩ (fun _=>rfl) ?_
 rintro ⟨i,s⟩ ⟨h1,h2⟩
 simp only[app] at *
 simp (disch:=first|omega|assumption|(constructor<;>first|assumption|omega)|simp only[LN];omega) only[↓SB,S1,↓cd]
 refine ⟨fun h=>?_,fun h=>?_⟩
 ·obtain ⟨x,hx⟩:=aE h
  rw[aM hx,lx] at h2
  simp (disch:=first|omega|assumption|(constructor<;>first|assumption|omega)|simp only[LN];omega) only[↓SB,S1,↓cd,ar hx]
  refine ⟨fun h3=>?_,fun h3=>⟨(i+1,x),rfl,⟨by simp;omega,by simpa[h3] using h2⟩,by simp;omega⟩⟩
  rw[h3] at h2;simp[←h2]
 ·rw[aH h] at h2
  simp[←h2,lx]
def sV:=And.intro @rT (And.intro @kX (@BJ))
theorem Ce(t:Int)(self:Int)(l:List Int)(depth:Int)(hg:am (dR (t,self,l,depth)).2.1):WW ρ 4 nT dR (t,self,l,depth):=by
 simp only[dR,RR] at hg ⊢
 unfold nT chk
 rw[kX]
 refine SUB.v1 (bb (!(isT t&&isN self&&decide (1≤depth)&&decide (depth≤8)&&l.all isN))) ?_ ?_
 ·simp (disch:=first|omega|assumption|(constructor<;>first|assumption|omega)|simp only[LN];omega) only[↓SB,S1,↓sV]
  by_cases h3:1≤depth<;>by_cases h4:depth≤8<;>cases h1:isT t<;>cases h2:isN self<;>simp[h3,h4]<;>omega
 simp (disch:=first|omega|assumption|(constructor<;>first|assumption|omega)|simp only[LN];omega) only[↓SB,S1,↓sV]
 by_cases h:(isT t&&isN self&&decide (1≤depth)&&decide (depth≤8)&&l.all isN)=true
 ·rw[if_pos h];simp only[h]
  cases h5:lx t self l<;>simp<;>omega
 ·rw[if_neg h];simp[h]
def kj:=And.intro @ir (@kY)
theorem Cf(t:Int)(self:Int)(l:List Int)(depth:Int)(hp:isT t=true∧isN self=true)(hg:am (dS (t,self,l,depth)).2.1):WW ρ 4 nU dS (t,self,l,depth):=by
 simp only[dS,RR] at hg ⊢
 unfold nU HI
 simp only[am,bc] at hg
 refine aK.rule (α:=Nat) (fun i=>[I i]) (fun i=>i≤l.length∧(l.drop i).all isN=l.all isN) (fun i=>l.length-i) 0 rfl ⟨by omega,by simp⟩ (fun _=>rfl) ?_
 rintro i ⟨h1,h2⟩
 simp only[app]
 simp (disch:=first|omega|assumption|(constructor<;>first|assumption|omega)|simp only[LN];omega) only[↓SB,S1,↓kj]
 refine ⟨fun h=>?_,fun h=>?_⟩
 ·obtain ⟨x,hx⟩:=aE h
  rw[aM hx,List.all_cons] at h2
  simp (disch:=first|omega|assumption|(constructor<;>first|assumption|omega)|simp only[LN];omega) only[↓SB,S1,↓kj,ar hx]
  refine ⟨fun h3=>?_,fun h3=>⟨i+1,rfl,⟨by omega,by simpa[h3] using h2⟩,by omega⟩⟩
  rw[h3] at h2;simp[←h2]
 ·rw[aH h] at h2
  simp only[←h2,List.all_nil,if_true]
  refine ⟨fun h3=>by simp[h3],fun h3=>?_⟩
  rw[if_neg (by omega)]
  refine aK.rule (α:=Nat×Int) (fun a=>[I a.2,I a.1]) (fun a=>a.1≤l.length∧lx t a.2 (l.drop a.1)=lx t self l) (fun a=>l.length-a.1) (0,self) rfl ⟨by simp,rfl⟩ (fun _=>rfl) ?_
  rintro ⟨i,s⟩ ⟨h1,h2⟩
  simp only[app] at *
  simp (disch:=first|omega|assumption|(constructor<;>first|assumption|omega)|simp only[LN];omega) only[↓SB,S1,↓kj]
  refine ⟨fun h=>?_,fun h=>?_⟩
  ·obtain ⟨x,hx⟩:=aE h
   rw[aM hx,lx] at h2
   simp (disch:=first|omega|assumption|(constructor<;>first|assumption|omega)|simp only[LN];omega) only[↓SB,S1,↓kj,ar hx]
   refine ⟨fun h3=>?_,fun h3=>⟨(i+1,x),rfl,⟨by simp;omega,by simpa[h3] using h2⟩,by simp;omega⟩⟩
   rw[h3] at h2;simp[←h2]
  ·rw[aH h] at h2
   simp[←h2,lx]
end Go.Xt
end
section
set_option linter.unusedSimpArgs false
set_option linter.unusedVariables false
set_option maxRecDepth 100000
namespace Go.Xt
set_option linter.defProp false
theorem Gg(n:Int)(lo:Int)(hi:Int):WW ρ 3 rN iS (n,lo,hi):=by
 simp only[iS,RR]
 unfold rN
 simp (disch:=first|omega|assumption|(constructor<;>first|assumption|omega)|simp only[LN];omega) only[↓S0,S3,S2,S1]
 simp
theorem wM(c:Config):WW ρ 7 kP dG c:=by
 simp only[dG,RR]
 unfold kP
 simp (disch:=first|omega|assumption|(constructor<;>first|assumption|omega)|simp only[LN];omega) only[↓S0,S3,S2,S1,↓oJ]
 simp[bt,rng,Bool.and_assoc]
def uP:=And.intro @rl (@wx)
theorem uQ(c:Config):WW ρ 7 jL cK c:=by
 simp only[cK,RR]
 unfold jL
 simp (disch:=first|omega|assumption|(constructor<;>first|assumption|omega)|simp only[LN];omega) only[↓SB,S1,↓uP]
 rw[rl]
 ·simp[lA,lz]
 ·simp
theorem Ke: ∀ {l:List Int},(∀e∈l,e=13)→fv l=if l=[] then 0 else 13
 | [],_=>by simp[fv]
 | e::r,h=>by
  have h9: ¬9∈e::r:=fun h'=>absurd (h 9 h') (by decide)
  simp only[fv,if_neg h9]
  simp[h e (by simp)]
theorem I5{n lo hi why:Int}:(lz n lo hi why=[])=(rng n lo hi=true):=by
 unfold lz rng
 by_cases h:n<lo∨hi<n
 ·rw[if_pos h];simp;omega
 ·rw[if_neg h];simp;omega
theorem I6{n lo hi why e:Int}(h:e∈lz n lo hi why):e=why:=by
 unfold lz at h;split at h<;>simp at h;exact h
theorem jb{n lo hi why:Int}:(lz n lo hi why).length≤1:=by unfold lz;split<;>simp
theorem I7(c:Config):fv (lA c)=if bt c=true then 0 else 13:=by
 rw[Ke]
 ·have:(lA c=[])=(bt c=true):=by
   simp only[lA,List.append_eq_nil_iff,I5,bt,Bool.and_eq_true]
  simp only[this]
 ·intro e h
  simp only[lA,List.mem_append] at h
  rcases h with (((((h | h) | h) | h) | h) | h) | h<;>exact I6 h
def uR:=And.intro @wz (@uJ)
theorem uS(c:Config):WW ρ 7 jM cL c:=by
 simp only[cL,RR]
 unfold jM
 have h:(lA c).length≤1000:=by
  have h1:=@jb c.nodes 1 8 13;have h2:=@jb c.topics 1 4 13;have h3:=@jb c.kids 1 4 13;have h4:=@jb c.depth 1 8 13
  have h5:=@jb c.keep 1 16 13;have h6:=@jb c.window 1 16 13;have h7:=@jb c.queue 2 32 13
  simp only[lA,List.length_append];omega
 simp (disch:=first|omega|assumption|(constructor<;>first|assumption|omega)|simp only[LN];omega) only[↓SB,S1,↓uR]
 exact congrArg (fun x=>[I x]) (I7 c)
end Go.Xt
end
section
set_option linter.unusedSimpArgs false
set_option linter.unusedVariables false
set_option maxRecDepth 100000
namespace Go.Xt
set_option linter.defProp false
theorem Jd(n:Int)(lo:Int)(hi:Int):WW ρ 3 wt nh (n,lo,hi):=by
 simp only[nh,RR]
 unfold wt rng
 simp (disch:=first|omega|assumption|(constructor<;>first|assumption|omega)|simp only[LN];omega) only[↓S0,S3,S2,S1]
 simp
theorem I8(n:Int)(lo:Int)(hi:Int):WW ρ 3 tP ky (n,lo,hi):=by
 simp only[ky,RR]
 unfold tP rng
 simp (disch:=first|omega|assumption|(constructor<;>first|assumption|omega)|simp only[LN];omega) only[↓S0,S3,S2,S1]
 simp
theorem Gh(n:Int)(lo:Int)(hi:Int):WW ρ 3 rO iT (n,lo,hi):=by
 simp only[iT,RR]
 unfold rO rng
 simp (disch:=first|omega|assumption|(constructor<;>first|assumption|omega)|simp only[LN];omega) only[↓S0,S3,S2,S1]
 simp
theorem Gi(n:Int)(lo:Int)(hi:Int):WW ρ 3 rP iU (n,lo,hi):=by
 simp only[iU,RR]
 unfold rP rng
 simp (disch:=first|omega|assumption|(constructor<;>first|assumption|omega)|simp only[LN];omega) only[↓S0,S3,S2,S1]
 simp
theorem yD(n:Int):WW ρ 1 mf eF n:=by
 simp only[eF,RR]
 unfold mf cnt
 simp (disch:=first|omega|assumption|(constructor<;>first|assumption|omega)|simp only[LN];omega) only[↓S0,S3,S2,S1,↓ni]
theorem EH(n:Int):WW ρ 1 pW gx n:=by
 simp only[gx,RR]
 unfold pW val
 simp (disch:=first|omega|assumption|(constructor<;>first|assumption|omega)|simp only[LN];omega) only[↓S0,S3,S2,S1,↓ni]
theorem yE(n:Int):WW ρ 1 mg eG n:=by
 simp only[eG,RR]
 unfold mg val
 simp (disch:=first|omega|assumption|(constructor<;>first|assumption|omega)|simp only[LN];omega) only[↓S0,S3,S2,S1,↓oJ]
 try simp[rng]
theorem yF(n:Int):WW ρ 1 mh eH n:=by
 simp only[eH,RR]
 unfold mh cnt
 simp (disch:=first|omega|assumption|(constructor<;>first|assumption|omega)|simp only[LN];omega) only[↓S0,S3,S2,S1,↓bP]
theorem yG(e:Int):WW ρ 1 md eE e:=by
 simp only[eE,RR]
 unfold md
 repeat' (first | apply And.intro | intro _ | simp (disch:=first|omega|assumption|(constructor<;>first|assumption|omega)|simp only[LN];omega) only[↓SB,S1,↓cO])
 all_goals (simp_all[ep,rng];try omega)
theorem EI(e:Int):WW ρ 1 pV gw e:=by
 simp only[gw,RR]
 unfold pV
 cases he:ep e
 ·simp (disch:=first|omega|assumption|(constructor<;>first|assumption|omega)|simp only[LN];omega) only[↓SB,S1,↓ji]
  simp[he]
 ·have h0:0≤e:=by simp only[ep,rng,Bool.and_eq_true,decide_eq_true_eq] at he;omega
  simp (disch:=first|omega|assumption|(constructor<;>first|assumption|omega)|simp only[LN];omega) only[↓SB,S1,↓ji]
  simp[he]
theorem yH(e:Int):WW ρ 1 mi eI e:=by
 simp only[eI,RR]
 unfold mi
 cases he:rng e 1 1073741824
 ·simp (disch:=first|omega|assumption|(constructor<;>first|assumption|omega)|simp only[LN];omega) only[↓SB,S1,↓bP]
  simp[he,ep]
 ·have h0:0≤e:=by simp only[rng,Bool.and_eq_true,decide_eq_true_eq] at he;omega
  simp (disch:=first|omega|assumption|(constructor<;>first|assumption|omega)|simp only[LN];omega) only[↓SB,S1,↓bP]
  simp[he,ep,isN];omega
theorem Cg(p:Peer):WW ρ 2 nY fy p:=by
 simp only[fy,RR]
 unfold nY
 simp (disch:=first|omega|assumption|(constructor<;>first|assumption|omega)|simp only[LN];omega) only[↓S0,S3,S2,S1]
 simp[jE,rng,Bool.and_assoc]
def Ch:=And.intro @cd (@aZ)
theorem Ci(t:Int)(self:Int)(k:Kid):WW ρ 5 o0 fA (t,self,k):=by
 simp only[fA,RR]
 unfold o0
 simp (disch:=first|omega|assumption|(constructor<;>first|assumption|omega)|simp only[LN];omega) only[↓S0,S3,S2,S1,↓Ch]
 simp[rng,Bool.and_assoc]
theorem Cj(seq:Int)(want:Int)(window:Int)(hp:cnt want=true∧rng window 1 16=true):WW ρ 3 od fB (seq,want,window):=by
 simp only[fB,RR]
 unfold od
 obtain ⟨h1,h2⟩:=hp
 simp only[cnt,rng,Bool.and_eq_true,decide_eq_true_eq] at h1 h2
 simp (disch:=first|omega|assumption|(constructor<;>first|assumption|omega)|simp only[LN];omega) only[↓S0,S3,S2,S1]
 simp[Bool.and_assoc]
theorem Ck(t:Int)(self:Int)(n:Int)(hg:am (eh (t,self,n)).2.1):WW ρ 3 ol eh (t,self,n):=by
 simp only[eh,RR] at hg ⊢
 unfold ol
 simp only[am,cr] at hg
 repeat' (first | apply And.intro | intro _ | simp (disch:=first|omega|assumption|(constructor<;>first|assumption|omega)|simp only[LN];omega) only[↓SB,S1,↓cd])
 all_goals (simp_all[dw];try omega)
def sW:=And.intro @kY (@bP)
theorem Cl(t:Int)(self:Int)(n:Int)(hg:am (ei (t,self,n)).2.1):WW ρ 3 om ei (t,self,n):=by
 simp only[ei,RR] at hg ⊢
 unfold om
 simp only[am,cr] at hg
 cases h2:rng n 1 8
 ·simp (disch:=first|omega|assumption|(constructor<;>first|assumption|omega)|simp only[LN];omega) only[↓SB,S1,↓sW,h2]
  refine ⟨fun h1=>by simp[dw,h1],fun h1=>?_⟩
  have h9: ¬(0<n∧cq t (n-1) self=true):=by
   rintro ⟨h3,h4⟩
   have:=(eA h4).2.1
   simp[rng] at h2;omega
  simp only[dw,h1]
  cases h3:decide (0<n)<;>cases h4:cq t (n-1) self<;>simp_all<;>omega
 ·have h3:1≤n∧n≤8:=by simpa[rng] using h2
  simp (disch:=first|omega|assumption|(constructor<;>first|assumption|omega)|simp only[LN];omega) only[↓SB,S1,↓sW,h2]
  refine ⟨fun h1=>by omega,fun h1=>?_⟩
  simp[dw,h1];omega
theorem wN(self:Int)(x:Topic):WW ρ 17 kS dH (self,x):=by
 simp only[dH,RR]
 unfold kS
 simp (disch:=first|omega|assumption|(constructor<;>first|assumption|omega)|simp only[LN];omega) only[↓S0,S3,S2,S1,↓Ec]
 cases h0:decide (x.root=0)<;>cases h1:ep x.root<;>simp_all[jG,Bool.and_assoc]
theorem wO(x:Topic)(hp:0≤x.parent∧x.parent≤8)(hg:am (cC x).2.1):WW ρ 16 kT cC x:=by
 simp only[cC,RR] at hg ⊢
 unfold kT hZ
 simp only[am,cr,bc] at hg
 cases hx:x.path with
 | nil=>simp (disch:=first|omega|assumption|(constructor<;>first|assumption|omega)|simp only[LN];omega) only[↓SB,S1];simp
 | cons p r =>
  have h1: ¬((r.length:Int)+1=0):=by omega
  simp (disch:=first|omega|assumption|(constructor<;>first|assumption|omega)|simp only[LN];omega) only[↓SB,S1,He,List.length_cons,Int.natCast_add,Int.cast_ofNat_Int,h1]
theorem EJ(s:Stream):WW ρ 5 pX gy s:=by
 simp only[gy,RR]
 unfold pX kc
 simp (disch:=first|omega|assumption|(constructor<;>first|assumption|omega)|simp only[LN];omega) only[↓S0,S3,S2,S1]
 simp[Bool.and_assoc]
end Go.Xt
end
section
set_option linter.unusedSimpArgs false
set_option linter.unusedVariables false
set_option maxRecDepth 100000
namespace Go.Xt
set_option linter.defProp false
theorem Cm(l:List Peer)(hg:am (dW l).2.1):WW ρ 1 nZ dW l:=by
 simp only[dW,RR] at hg ⊢
 unfold nZ aT
 simp only[am,bc] at hg
 simp (disch:=first|omega|assumption|(constructor<;>first|assumption|omega)|simp only[LN];omega) only[↓SB,S1,↓oK]
 refine ⟨fun h=>?_,fun h=>⟨fun h2=>?_,fun h2=>?_⟩⟩
 ·simp[show ¬1≤l.length by omega]
 ·simp[show ¬l.length≤8 by omega]
 have e1:decide (1≤l.length)=true:=by simp;omega
 have e2:decide (l.length≤8)=true:=by simp;omega
 have e3:decide ((8:Int)<l.length)=false:=by simp;omega
 simp only[e1,e2,e3,Bool.true_and]
 refine aK.rule (α:=Nat) (fun i=>[I i]) (fun i=>i≤l.length∧(l.drop i).all (jE)=l.all (jE)) (fun i=>l.length-i) 0 rfl ⟨by omega,by simp⟩ (fun _=>rfl) ?_
 rintro i ⟨hl_i,hs_i⟩
 simp only[app]
 simp (disch:=first|omega|assumption|(constructor<;>first|assumption|omega)|simp only[LN];omega) only[↓SB,S1,↓oK]
 refine ⟨fun hc_i=>?_,fun hc_i=>?_⟩
 ·obtain ⟨x,hx⟩:=aE hc_i
  rw[aM hx,List.all_cons] at hs_i
  simp (disch:=first|omega|assumption|(constructor<;>first|assumption|omega)|simp only[LN];omega) only[↓SB,S1,↓oK,ar hx]
  refine ⟨fun h3=>?_,fun h3=>⟨i+1,rfl,⟨by omega,by simpa[h3] using hs_i⟩,by omega⟩⟩
  rw[h3,Bool.false_and] at hs_i;simp[←hs_i,gV]
 ·rw[aH hc_i] at hs_i
  simp only[←hs_i];simp[h2,aV]
theorem yI(l:List Peer)(hg:am (de l).2.1):WW ρ 1 mj de l:=by
 simp only[de,RR] at hg ⊢
 unfold mj aT
 simp only[am,bc] at hg
 simp (disch:=first|omega|assumption|(constructor<;>first|assumption|omega)|simp only[LN];omega) only[↓SB,S1,↓bP]
 refine ⟨fun h=>?_,fun h=>?_⟩
 ·simp only[rng,Bool.and_eq_false_iff,decide_eq_false_iff_not] at h
  by_cases h1:1≤l.length<;>by_cases h2:l.length≤8<;>simp[h1,h2]<;>omega
 simp only[rng,Bool.and_eq_true,decide_eq_true_eq] at h
 have e1:decide (1≤l.length)=true:=by simp;omega
 have e2:decide (l.length≤8)=true:=by simp;omega
 simp only[e1,e2,Bool.true_and]
 refine aK.rule (α:=Nat) (fun i=>[I i]) (fun i=>i≤l.length∧(l.drop i).all (jE)=l.all (jE)) (fun i=>l.length-i) 0 rfl ⟨by omega,by simp⟩ (fun _=>rfl) ?_
 rintro i ⟨hl_i,hs_i⟩
 simp only[app]
 simp (disch:=first|omega|assumption|(constructor<;>first|assumption|omega)|simp only[LN];omega) only[↓SB,S1,↓bP]
 refine ⟨fun hc_i=>?_,fun hc_i=>?_⟩
 ·obtain ⟨x,hx⟩:=aE hc_i
  rw[aM hx,List.all_cons] at hs_i
  simp (disch:=first|omega|assumption|(constructor<;>first|assumption|omega)|simp only[LN];omega) only[↓SB,S1,↓bP,ar hx]
  refine ⟨fun h3=>?_,fun h3=>⟨fun h4=>?_,fun h4=>⟨i+1,rfl,⟨by omega,by simpa[jE,h3,h4] using hs_i⟩,by omega⟩⟩⟩
  ·rw[←hs_i];simp[jE,h3]
  ·rw[←hs_i];simp[jE,h4]
 ·rw[aH hc_i] at hs_i
  simp only[←hs_i];simp
theorem dlt(a b:Int):decide (a<b)= !decide (b≤a):=by rw[Bool.eq_iff_iff];simp
theorem kZ{t a b c:Int}(h1:cq t a b=true)(h2:cq t b c=true):cq t a c=true:=by
 obtain ⟨a1,a2,a3,a4⟩:=eA h1
 obtain ⟨b1,b2,b3,b4⟩:=eA h2
 simp only[cq,Bool.and_eq_true,decide_eq_true_eq,qN,bx]
 exact ⟨⟨⟨a1,a2⟩,b3⟩,by omega⟩
theorem ut{t a:Int}{k:Kid}{r:List Kid}:cX t a (k::r)=(cq t a k.node&&cnt k.inc&&rng k.age 0 6&&cX t k.node r):=rfl
def fI:=And.intro @cd (And.intro @kX (@BN))
theorem Cn(t:Int)(self:Int)(limit:Int)(l:List Kid)(hg:am (dX (t,self,limit,l)).2.1):WW ρ 4 o8 dX (t,self,limit,l):=by
 simp only[dX,RR] at hg ⊢
 unfold o8 eW
 simp only[am,cr,bc] at hg
 rw[kX]
 refine SUB.v1 (bb (!(isT t&&isN self&&rng limit 1 4&&decide ((l.length:Int)≤limit)))) ?_ ?_
 ·cases h1:(isT t&&isN self)
  ·simp (disch:=first|omega|assumption|(constructor<;>first|assumption|omega)|simp only[LN];omega) only[↓SB,S1,↓fI,h1]
   simp
  ·repeat' (first | apply And.intro | intro _ | simp (disch:=first|omega|assumption|(constructor<;>first|assumption|omega)|simp only[LN];omega) only[↓SB,S1,↓fI])
   all_goals (simp_all[rng];try (first | omega | exact dlt _ _))
 simp (disch:=first|omega|assumption|(constructor<;>first|assumption|omega)|simp only[LN];omega) only[↓SB,S1,↓fI]
 refine ⟨fun h=>by simp[h],fun h=>?_⟩
 simp only[h,Bool.true_and]
 refine aK.rule (α:=Nat) (fun i=>[I i]) (fun i=>i≤l.length∧ ∃p,(i=0→p=self)∧(0<i→ ∃k,l[i-1]? =some k∧p=k.node∧cq t self p=true)∧cX t p (l.drop i)=cX t self l) (fun i=>l.length-i) 0 rfl ⟨by omega,self,by simp⟩ (fun _=>rfl) ?_
 rintro i ⟨hl,p,hp0,hp1,hs⟩
 simp only[app]
 simp (disch:=first|omega|assumption|(constructor<;>first|assumption|omega)|simp only[LN];omega) only[↓SB,S1,↓fI]
 refine ⟨fun hc=>?_,fun hc=>?_⟩
 ·obtain ⟨x,hx⟩:=aE hc
  rw[aM hx,ut] at hs
  simp (disch:=first|omega|assumption|(constructor<;>first|assumption|omega)|simp only[LN];omega) only[↓SB,S1,↓fI,ar hx]
  refine ⟨fun h3=>?_,fun h3=>⟨fun h4=>?_,fun h4=>?_⟩⟩
  ·have hf:cX t self l=false:=by
    rw[←hs]
    cases hn:cq t p x.node with
    | false=>simp
    | true =>
     have hns:cq t self x.node=true:=by
      rcases Nat.eq_zero_or_pos i with h0 | h0
      ·rw[←hp0 h0];exact hn
      ·obtain ⟨k,_,_,hk⟩:=hp1 h0;exact kZ hk hn
     rw[hns] at h3
     cases h5:cnt x.inc<;>cases h6:rng x.age 0 6<;>simp_all
   rw[hf];simp
  ·simp only[Bool.and_eq_true] at h3
   obtain ⟨⟨h5,h6⟩,h7⟩:=h3
   obtain ⟨k,hk,rfl,hnk⟩:=hp1 (by omega)
   have e1:((i:Int)-1)=((i-1:Nat):Int):=by omega
   simp (disch:=first|omega|assumption|(constructor<;>first|assumption|omega)|simp only[LN];omega) only[↓SB,S1,↓fI,e1,ar hk]
   refine ⟨fun h8=>?_,fun h8=>⟨i+1,by simp,⟨by omega,x.node,by simp,fun _=>⟨x,by simpa using hx,rfl,h5⟩,?_⟩,by omega⟩⟩
   ·rw[←hs,h8];simp
   ·rw[←hs,h8,h6,h7];simp
  ·simp only[Bool.and_eq_true] at h3
   obtain ⟨⟨h5,h6⟩,h7⟩:=h3
   have h0:i=0:=by omega
   rw[hp0 h0] at hs
   refine ⟨i+1,by simp,⟨by omega,x.node,by simp,fun _=>⟨x,by simpa using hx,rfl,h5⟩,?_⟩,by omega⟩
   rw[←hs,h5,h6,h7];simp
 ·rw[aH hc] at hs
  simp[←hs,cX]
def km:=And.intro @ir (And.intro @oZ (And.intro @kY (@bP)))
theorem Co(t:Int)(self:Int)(limit:Int)(l:List Kid)(hg:am (dY (t,self,limit,l)).2.1):WW ρ 4 o9 dY (t,self,limit,l):=by
 simp only[dY,RR] at hg ⊢
 unfold o9 eW
 simp only[am,cr,bc] at hg
 refine SUB.v1 (bb (!(isT t&&isN self&&rng limit 1 4&&decide ((l.length:Int)≤limit)))) ?_ ?_
 ·repeat' (first | apply And.intro | intro _ | simp (disch:=first|omega|assumption|(constructor<;>first|assumption|omega)|simp only[LN];omega) only[↓SB,S1,↓km])
  all_goals (simp_all;try (first | omega | exact dlt _ _))
 simp (disch:=first|omega|assumption|(constructor<;>first|assumption|omega)|simp only[LN];omega) only[↓SB,S1,↓km]
 refine ⟨fun h=>by simp[h],fun h=>?_⟩
 simp only[h,Bool.true_and]
 refine aK.rule (α:=Nat×Int) (fun a=>[I a.2,I a.1]) (fun a=>a.1≤l.length∧cX t a.2 (l.drop a.1)=cX t self l) (fun a=>l.length-a.1) (0,self) rfl ⟨by simp,by simp⟩ (fun _=>rfl) ?_
 rintro ⟨i,p⟩ ⟨hl,hs⟩
 simp only[app] at *
 simp (disch:=first|omega|assumption|(constructor<;>first|assumption|omega)|simp only[LN];omega) only[↓SB,S1,↓km]
 refine ⟨fun hc=>?_,fun hc=>?_⟩
 ·obtain ⟨x,hx⟩:=aE hc
  rw[aM hx,ut] at hs
  simp (disch:=first|omega|assumption|(constructor<;>first|assumption|omega)|simp only[LN];omega) only[↓SB,S1,↓km,ar hx]
  refine ⟨fun h3=>?_,fun h3=>⟨fun h4=>?_,fun h4=>⟨fun h5=>?_,fun h5=>⟨fun h6=>?_,fun h6=>⟨(i+1,x.node),by simp,⟨by omega,?_⟩,by simp;omega⟩⟩⟩⟩⟩
  ·have:cq t p x.node=false:=by
    cases hn:cq t p x.node with
    | false=>rfl
    | true=>have:=(eA hn).2.2.1;rw[bx.2 this] at h3;cases h3
   rw[←hs,this];simp
  ·rw[←hs,h4];simp
  ·rw[←hs];simp[cnt,h5]
  ·rw[←hs,h6];simp
  ·rw[←hs,h4,h6];simp[cnt,h5]
 ·rw[aH hc] at hs
  simp[←hs,cX]
end Go.Xt
end
section
set_option linter.unusedSimpArgs false
set_option linter.unusedVariables false
set_option maxRecDepth 100000
namespace Go.Xt
set_option linter.defProp false
theorem uu{n:Int}{x:Item}{r:List Item}:jF n (x::r)=(decide (x.seq=n)&&val x.value&&jF (n+1) r):=rfl
theorem wP{m p:Int}{x:Item}{r:List Item}:oX m p (x::r)=(decide (p<x.seq)&&decide (x.seq<m)&&decide (x.seq<1073741824)&&val x.value&&oX m x.seq r):=rfl
theorem Cp{n:Int}(h:cnt n=true):1≤n∧n≤1073741824:=by simpa[cnt,rng] using h
theorem bg{n a b:Int}(h:rng n a b=true):a≤n∧n≤b:=by simpa[rng] using h
theorem Cq(l:List Item)(want:Int)(hp:cnt want=true∧l.length≤16)(hg:am (dZ (l,want)).2.1):WW ρ 2 oa dZ (l,want):=by
 simp only[dZ,RR] at hg ⊢
 unfold oa
 obtain ⟨hw,hl16⟩:=hp
 have hw:=Cp hw
 simp (disch:=first|omega|assumption|(constructor<;>first|assumption|omega)|simp only[LN];omega) only[↓SB,S1,↓dM]
 refine aK.rule (α:=Nat) (fun i=>[I i]) (fun i=>i≤l.length∧(0<i→(l.length:Int)<want)∧jF (want-l.length+i) (l.drop i)=jF (want-l.length) l) (fun i=>l.length-i) 0 rfl ⟨by omega,by omega,by simp⟩ (fun _=>rfl) ?_
 rintro i ⟨hl,hpos,hs⟩
 simp only[app]
 simp (disch:=first|omega|assumption|(constructor<;>first|assumption|omega)|simp only[LN];omega) only[↓SB,S1,↓dM]
 refine ⟨fun hc=>?_,fun hc=>?_⟩
 ·obtain ⟨x,hx⟩:=aE hc
  rw[aM hx,uu] at hs
  simp (disch:=first|omega|assumption|(constructor<;>first|assumption|omega)|simp only[LN];omega) only[↓SB,S1,↓dM,ar hx]
  refine ⟨fun h1=>?_,fun h1=>⟨fun h2=>?_,fun h2=>⟨fun h3=>?_,fun h3=>⟨i+1,by simp,⟨by omega,fun _=>?_,?_⟩,by omega⟩⟩⟩⟩
  ·rw[←hs]
   by_cases h2:x.seq=want-l.length+i
   ·have: ¬(l.length:Int)<want:=fun h=>by omega
    simp[this]
   ·simp[h2]
  ·rw[←hs];simp[h2]
  ·rw[←hs];simp[h3]
  ·rcases Nat.eq_zero_or_pos i with h0 | h0
   ·subst h0;omega
   ·exact hpos h0
  ·rw[←hs,h3];simp[h2,Int.add_assoc]
 ·rw[aH hc] at hs
  rw[←hs]
  have:(l.length:Int)<want:=by
   rcases Nat.eq_zero_or_pos i with h0 | h0
   ·omega
   ·exact hpos h0
  simp[this,jF]
def oO:=And.intro @aZ (@BP)
theorem Cr(l:List Item)(want:Int)(limit:Int)(hg:am (ec (l,want,limit)).2.1):WW ρ 3 ob ec (l,want,limit):=by
 simp only[ec,RR] at hg ⊢
 unfold ob pP
 simp only[am,cr,bc] at hg
 cases h1:cnt want
 ·simp (disch:=first|omega|assumption|(constructor<;>first|assumption|omega)|simp only[LN];omega) only[↓SB,S1,↓oO,h1]
  simp
 cases h2:(rng limit 1 16&&decide ((l.length:Int)≤limit))
 ·repeat' (first | apply And.intro | intro _ | simp (disch:=first|omega|assumption|(constructor<;>first|assumption|omega)|simp only[LN];omega) only[↓SB,S1,↓oO])
  all_goals (simp_all[rng];try omega)
 ·simp only[Bool.and_eq_true,decide_eq_true_eq] at h2
  have h3:=bg h2.1
  rw[h2.1]
  simp (disch:=first|omega|assumption|(constructor<;>first|assumption|omega)|simp only[LN];omega) only[↓SB,S1,↓oO,h1]
  have e1: ¬limit<1:=by omega
  have e2: ¬16<limit:=by omega
  have e3: ¬limit<(l.length:Int):=by omega
  have e4:decide ((l.length:Int)≤limit)=true:=by simp;omega
  refine ⟨fun h=>absurd h e1,fun _=>⟨fun h=>absurd h e2,fun _=>⟨fun h=>absurd h e3,fun _=>?_⟩⟩⟩
  cases h5:(decide ((l.length:Int)<want)&&jF (want-l.length) l)<;>simp_all
def kn:=And.intro @jj (@bP)
theorem Cs(l:List Item)(want:Int)(limit:Int)(hg:am (ed (l,want,limit)).2.1):WW ρ 3 oc ed (l,want,limit):=by
 simp only[ed,RR] at hg ⊢
 unfold oc pP
 simp only[am,cr,bc] at hg
 refine SUB.v1 (bb (!(cnt want&&rng limit 1 16&&decide ((l.length:Int)≤limit)&&decide ((l.length:Int)<want)))) ?_ ?_
 ·repeat' (first | apply And.intro | intro _ | simp (disch:=first|omega|assumption|(constructor<;>first|assumption|omega)|simp only[LN];omega) only[↓SB,S1,↓kn])
  all_goals (simp_all[cnt];try (first | omega | exact dlt _ _))
  all_goals (rw[Bool.eq_iff_iff];simp)
 simp (disch:=first|omega|assumption|(constructor<;>first|assumption|omega)|simp only[LN];omega) only[↓SB,S1,↓kn]
 refine ⟨fun h=>by simp[h],fun h=>?_⟩
 simp only[h,Bool.true_and]
 simp only[Bool.and_eq_true,decide_eq_true_eq] at h
 obtain ⟨⟨⟨h1,h2⟩,h3⟩,h4⟩:=h
 have h1:=Cp h1
 have h2:=bg h2
 refine aK.rule (α:=Nat) (fun i=>[I i]) (fun i=>i≤l.length∧jF (want-l.length+i) (l.drop i)=jF (want-l.length) l) (fun i=>l.length-i) 0 rfl ⟨by omega,by simp⟩ (fun _=>rfl) ?_
 rintro i ⟨hl,hs⟩
 simp only[app]
 simp (disch:=first|omega|assumption|(constructor<;>first|assumption|omega)|simp only[LN];omega) only[↓SB,S1,↓kn]
 refine ⟨fun hc=>?_,fun hc=>?_⟩
 ·obtain ⟨x,hx⟩:=aE hc
  rw[aM hx,uu] at hs
  simp (disch:=first|omega|assumption|(constructor<;>first|assumption|omega)|simp only[LN];omega) only[↓SB,S1,↓kn,ar hx]
  refine ⟨fun h2=>?_,fun h2=>⟨fun h3=>?_,fun h3=>⟨i+1,by simp,⟨by omega,?_⟩,by omega⟩⟩⟩
  ·rw[←hs];simp[h2]
  ·rw[←hs];simp[h3]
  ·rw[←hs,h3];simp[h2,Int.add_assoc]
 ·rw[aH hc] at hs
  rw[←hs];simp[jF]
def fV:=And.intro @dM (And.intro @aZ (@BS))
theorem yJ(l:List Item)(want:Int)(window:Int)(hg:am (df (l,want,window)).2.1):WW ρ 3 mm df (l,want,window):=by
 simp only[df,RR] at hg ⊢
 unfold mm lB
 simp only[am,cr,bc] at hg
 refine SUB.v1 (bb (!(cnt want&&rng window 1 16))) ?_ ?_
 ·repeat' (first | apply And.intro | intro _ | simp (disch:=first|omega|assumption|(constructor<;>first|assumption|omega)|simp only[LN];omega) only[↓SB,S1,↓fV])
  all_goals (simp_all[rng];try (first | omega | exact dlt _ _))
 simp (disch:=first|omega|assumption|(constructor<;>first|assumption|omega)|simp only[LN];omega) only[↓SB,S1,↓fV]
 refine ⟨fun h=>by simp[h],fun h=>?_⟩
 simp only[h,Bool.true_and]
 simp only[Bool.and_eq_true,decide_eq_true_eq] at h
 obtain ⟨h1',h2'⟩:=h
 have h1:=Cp h1'
 have h2:=bg h2'
 refine aK.rule (α:=Nat) (fun i=>[I i]) (fun i=>i≤l.length∧ ∃p,(i=0→p=want)∧(0<i→ ∃k,l[i-1]? =some k∧p=k.seq)∧want≤p∧oX (want+window) p (l.drop i)=oX (want+window) want l) (fun i=>l.length-i) 0 rfl ⟨by omega,want,by simp⟩ (fun _=>rfl) ?_
 rintro i ⟨hl,p,hp0,hp1,hwp,hs⟩
 simp only[app]
 simp (disch:=first|omega|assumption|(constructor<;>first|assumption|omega)|simp only[LN];omega) only[↓SB,S1,↓fV]
 refine ⟨fun hc=>?_,fun hc=>?_⟩
 ·obtain ⟨x,hx⟩:=aE hc
  rw[aM hx,wP] at hs
  simp (disch:=first|omega|assumption|(constructor<;>first|assumption|omega)|simp only[LN];omega) only[↓SB,S1,↓fV,ar hx]
  refine ⟨fun h3=>?_,fun h3=>⟨fun h4=>?_,fun h4=>⟨fun h5=>?_,fun h5=>?_⟩⟩⟩
  ·have:(decide (p<x.seq)&&decide (x.seq<want+window)&&decide (x.seq<1073741824))=false:=by
    rw[Bool.eq_false_iff] at h3 ⊢
    intro h6;apply h3
    simp only[Bool.and_eq_true,decide_eq_true_eq] at h6 ⊢
    omega
   rw[←hs,this];simp
  ·rw[←hs,h4];simp
  ·obtain ⟨k,hk,rfl⟩:=hp1 (by omega)
   have e1:((i:Int)-1)=((i-1:Nat):Int):=by omega
   simp (disch:=first|omega|assumption|(constructor<;>first|assumption|omega)|simp only[LN];omega) only[↓SB,S1,↓fV,e1,ar hk]
   simp only[Bool.and_eq_true,decide_eq_true_eq] at h3
   refine ⟨fun h8=>?_,fun h8=>⟨i+1,by simp,⟨by omega,x.seq,by simp,fun _=>⟨x,by simpa using hx,rfl⟩,by omega,?_⟩,by omega⟩⟩
   ·rw[←hs];simp[show ¬k.seq<x.seq by omega]
   ·rw[←hs,h4];simp[show k.seq<x.seq by omega,h3]
  ·have h0:i=0:=by omega
   rw[hp0 h0] at hs
   simp only[Bool.and_eq_true,decide_eq_true_eq] at h3
   refine ⟨i+1,by simp,⟨by omega,x.seq,by simp,fun _=>⟨x,by simpa using hx,rfl⟩,by omega,?_⟩,by omega⟩
   rw[←hs,h4];simp[h3]
 ·rw[aH hc] at hs
  simp[←hs,oX]
def fp:=And.intro @jj (@bP)
theorem wQ(l:List Item)(want:Int)(window:Int)(hg:am (cA (l,want,window)).2.1):WW ρ 3 kQ cA (l,want,window):=by
 simp only[cA,RR] at hg ⊢
 unfold kQ lB
 simp only[am,cr,bc] at hg
 refine SUB.v1 (bb (!(cnt want&&rng window 1 16))) ?_ ?_
 ·repeat' (first | apply And.intro | intro _ | simp (disch:=first|omega|assumption|(constructor<;>first|assumption|omega)|simp only[LN];omega) only[↓SB,S1,↓fp])
  all_goals (simp_all[cnt];try (first | omega | exact dlt _ _))
 simp (disch:=first|omega|assumption|(constructor<;>first|assumption|omega)|simp only[LN];omega) only[↓SB,S1,↓fp]
 refine ⟨fun h=>by simp[h],fun h=>?_⟩
 simp only[h,Bool.true_and]
 simp only[Bool.and_eq_true,decide_eq_true_eq] at h
 obtain ⟨h1',h2'⟩:=h
 have h1:=Cp h1'
 have h2:=bg h2'
 refine aK.rule (α:=Nat) (fun i=>[I i]) (fun i=>i≤l.length∧ ∃p,(i=0→p=want)∧(0<i→ ∃k,l[i-1]? =some k∧p=k.seq)∧want≤p∧oX (want+window) p (l.drop i)=oX (want+window) want l) (fun i=>l.length-i) 0 rfl ⟨by omega,want,by simp⟩ (fun _=>rfl) ?_
 rintro i ⟨hl,p,hp0,hp1,hwp,hs⟩
 simp only[app]
 simp (disch:=first|omega|assumption|(constructor<;>first|assumption|omega)|simp only[LN];omega) only[↓SB,S1,↓fp]
 refine ⟨fun hc=>?_,fun hc=>?_⟩
 ·obtain ⟨x,hx⟩:=aE hc
  rw[aM hx,wP] at hs
  simp (disch:=first|omega|assumption|(constructor<;>first|assumption|omega)|simp only[LN];omega) only[↓SB,S1,↓fp,ar hx]
  refine ⟨fun h3=>?_,fun h3=>⟨fun h4=>?_,fun h4=>⟨fun h5=>?_,fun h5=>⟨fun h6=>?_,fun h6=>?_⟩⟩⟩⟩
  ·rw[←hs];simp[show ¬p<x.seq by omega]
  ·rw[←hs];simp[show ¬x.seq<want+window by omega]
  ·rw[←hs];simp[show ¬x.seq<1073741824 by omega]
  ·obtain ⟨k,hk,rfl⟩:=hp1 (by omega)
   have e1:((i:Int)-1)=((i-1:Nat):Int):=by omega
   simp (disch:=first|omega|assumption|(constructor<;>first|assumption|omega)|simp only[LN];omega) only[↓SB,S1,↓fp,e1,ar hk]
   refine ⟨fun h8=>?_,fun h8=>⟨fun h9=>?_,fun h9=>⟨i+1,by simp,⟨by omega,x.seq,by simp,fun _=>⟨x,by simpa using hx,rfl⟩,by omega,?_⟩,by omega⟩⟩⟩
   ·rw[←hs];simp[show ¬k.seq<x.seq by omega]
   ·rw[←hs,h9];simp
   ·rw[←hs,h9];simp[show k.seq<x.seq by omega,show x.seq<want+window by omega,show x.seq<1073741824 by omega]
  ·have h0:i=0:=by omega
   rw[hp0 h0] at hs
   refine ⟨fun h9=>?_,fun h9=>⟨i+1,by simp,⟨by omega,x.seq,by simp,fun _=>⟨x,by simpa using hx,rfl⟩,by omega,?_⟩,by omega⟩⟩
   ·rw[←hs,h9];simp
   ·rw[←hs,h9];simp[show want<x.seq by omega,show x.seq<want+window by omega,show x.seq<1073741824 by omega]
 ·rw[aH hc] at hs
  simp[←hs,oX]
end Go.Xt
end
section
set_option linter.unusedSimpArgs false
set_option linter.unusedVariables false
set_option maxRecDepth 100000
namespace Go.Xt
set_option linter.defProp false
def eN:=And.intro @dM (And.intro @aZ (And.intro @cO (@ji)))
theorem yK(x:Event):WW ρ 6 mq eJ x:=by
 simp only[eJ,RR]
 unfold mq
 generalize hE:iG x=q
 unfold iG at hE
 by_cases k1:x.kind=1
 ·rw[cW,decide_eq_true k1,gV]
  simp (disch:=first|omega|assumption|(constructor<;>first|assumption|omega)|simp only[LN];omega) only[↓S0,S3,S2,S1,↓eN,k1]
  simp only[k1,if_true] at hE
  subst hE
  cases ep x.epoch<;>cases cnt x.seq<;>cases val x.value<;>by_cases h1:x.last=0<;>by_cases h2:x.count=0<;>simp[h1,h2]
 by_cases k2:x.kind=2
 ·rw[cW,decide_eq_false k1,aV,cW,decide_eq_true k2,gV]
  simp (disch:=first|omega|assumption|(constructor<;>first|assumption|omega)|simp only[LN];omega) only[↓S0,S3,S2,S1,↓eN,k2]
  simp only[k2,if_true] at hE
  simp at hE
  subst hE
  cases ep x.epoch<;>cases cnt x.seq<;>by_cases h3:x.seq≤x.last<;>by_cases h4:x.last≤1073741824<;>by_cases h1:x.value=0<;>by_cases h2:x.count=0<;>simp[h1,h2,h3,h4,rng]
 by_cases k3:x.kind=3
 ·rw[cW,decide_eq_false k1,aV,cW,decide_eq_false k2,aV,cW,decide_eq_true k3,gV]
  simp (disch:=first|omega|assumption|(constructor<;>first|assumption|omega)|simp only[LN];omega) only[↓S0,S3,S2,S1,↓eN,k3]
  simp[k3] at hE
  subst hE
  cases isN x.value<;>by_cases h3:1≤x.count<;>by_cases h4:x.count≤40<;>by_cases h1:x.epoch=0<;>by_cases h2:x.seq=0<;>by_cases h5:x.last=0<;>simp[h1,h2,h3,h4,h5,rng]
 by_cases k4:x.kind=4
 ·rw[cW,decide_eq_false k1,aV,cW,decide_eq_false k2,aV,cW,decide_eq_false k3,aV,cW,decide_eq_true k4,gV]
  simp (disch:=first|omega|assumption|(constructor<;>first|assumption|omega)|simp only[LN];omega) only[↓S0,S3,S2,S1,↓eN,k4]
  simp[k4] at hE
  subst hE
  by_cases h3:1≤x.count<;>by_cases h4:x.count≤40<;>by_cases h1:x.epoch=0<;>by_cases h2:x.seq=0<;>by_cases h5:x.last=0<;>by_cases h6:x.value=0<;>simp[h1,h2,h3,h4,h5,h6,rng]
 by_cases k5:x.kind=5
 ·rw[cW,decide_eq_false k1,aV,cW,decide_eq_false k2,aV,cW,decide_eq_false k3,aV,cW,decide_eq_false k4,aV,cW,decide_eq_true k5,gV]
  simp (disch:=first|omega|assumption|(constructor<;>first|assumption|omega)|simp only[LN];omega) only[↓S0,S3,S2,S1,↓eN,k5]
  simp[k5] at hE
  subst hE
  by_cases h3:x.count=0<;>by_cases h1:x.epoch=0<;>by_cases h2:x.seq=0<;>by_cases h5:x.last=0<;>by_cases h6:x.value=0<;>simp[h1,h2,h3,h5,h6]
 ·rw[cW,decide_eq_false k1,aV,cW,decide_eq_false k2,aV,cW,decide_eq_false k3,aV,cW,decide_eq_false k4,aV,cW,decide_eq_false k5,aV]
  simp (disch:=first|omega|assumption|(constructor<;>first|assumption|omega)|simp only[LN];omega) only[↓S0,S3,S2,S1,↓eN]
  simp[k1,k2,k3,k4,k5] at hE
  subst hE
  simp
def eO:=And.intro @jj (And.intro @ir (And.intro @bP (And.intro @mO (@rm))))
theorem yL(x:Event):WW ρ 6 mr eK x:=by
 simp only[eK,RR]
 unfold mr
 generalize hE:iG x=q
 unfold iG at hE
 by_cases k1:x.kind=1
 ·simp (disch:=first|omega|assumption|(constructor<;>first|assumption|omega)|simp only[LN];omega) only[↓S0,S3,S2,S1,↓eO,k1]
  simp only[k1,if_true] at hE
  subst hE
  cases ep x.epoch<;>cases cnt x.seq<;>cases val x.value<;>simp
 by_cases k2:x.kind=2
 ·simp (disch:=first|omega|assumption|(constructor<;>first|assumption|omega)|simp only[LN];omega) only[↓S0,S3,S2,S1,↓eO,k2]
  simp[k2] at hE
  subst hE
  cases ep x.epoch<;>cases cnt x.seq<;>cases rng x.last x.seq 1073741824<;>simp
 by_cases k3:x.kind=3
 ·simp (disch:=first|omega|assumption|(constructor<;>first|assumption|omega)|simp only[LN];omega) only[↓S0,S3,S2,S1,↓eO,k3]
  simp[k3] at hE
  subst hE
  cases isN x.value<;>cases rng x.count 1 40<;>simp[Bool.and_assoc]
 by_cases k4:x.kind=4
 ·simp (disch:=first|omega|assumption|(constructor<;>first|assumption|omega)|simp only[LN];omega) only[↓S0,S3,S2,S1,↓eO,k4]
  simp[k4] at hE
  subst hE
  cases rng x.count 1 40<;>simp[Bool.and_assoc]
 by_cases k5:x.kind=5
 ·simp (disch:=first|omega|assumption|(constructor<;>first|assumption|omega)|simp only[LN];omega) only[↓S0,S3,S2,S1,↓eO,k5]
  simp[k5] at hE
  subst hE
  simp[Bool.and_assoc]
 ·simp (disch:=first|omega|assumption|(constructor<;>first|assumption|omega)|simp only[LN];omega) only[↓S0,S3,S2,S1,↓eO,k1,k2,k3,k4,k5]
  simp[k1,k2,k3,k4,k5] at hE
  subst hE
  simp
end Go.Xt
end
section
set_option linter.unusedSimpArgs false
set_option linter.unusedVariables false
set_option maxRecDepth 100000
namespace Go.Xt
set_option linter.defProp false
theorem uv{l:List Event}{x:Event}(h:l[l.length-1]? =some x):ka l=decide (x.kind=2):=by
 unfold ka
 rw[List.getLast?_eq_getElem?,h]
theorem EK{α:Type}{l:List α}(h:0<l.length): ∃x,l[l.length-1]? =some x:=⟨l[l.length-1]'(by omega),by simp[show l.length-1<l.length by omega]⟩
theorem yM(l:List Event)(limit:Int)(hg:am (dg (l,limit)).2.1):WW ρ 2 mu dg (l,limit):=by
 simp only[dg,RR] at hg ⊢
 unfold mu
 simp only[am,cr,bc] at hg
 refine SUB.v1 (bb (!(rng limit 2 32&&decide ((l.length:Int)≤limit)))) ?_ ?_
 ·repeat' (first | apply And.intro | intro _ | simp (disch:=first|omega|assumption|(constructor<;>first|assumption|omega)|simp only[LN];omega) only[↓SB,S1,↓ce])
  all_goals (simp_all[rng];try (first | omega | exact dlt _ _))
 cases hr:(rng limit 2 32&&decide ((l.length:Int)≤limit))
 ·refine SUB.v1 (bb true) (by simp (disch:=first|omega|assumption|(constructor<;>first|assumption|omega)|simp only[LN];omega) only[↓SB,S1,↓ce]) ?_
  simp (disch:=first|omega|assumption|(constructor<;>first|assumption|omega)|simp only[LN];omega) only[↓SB,S1,↓ce]
  simp[cb,hr]
 simp only[Bool.and_eq_true,decide_eq_true_eq] at hr
 have hb:=bg hr.1
 refine SUB.v1 (bb (!(l.all iG))) ?_ ?_
 ·simp (disch:=first|omega|assumption|(constructor<;>first|assumption|omega)|simp only[LN];omega) only[↓SB,S1,↓ce]
  refine aK.rule (α:=Nat) (fun i=>[I i]) (fun i=>i≤l.length∧(l.drop i).all (iG)=l.all (iG)) (fun i=>l.length-i) 0 rfl ⟨by omega,by simp⟩ (fun _=>rfl) ?_
  rintro i ⟨hl_i,hs_i⟩
  simp only[app]
  simp (disch:=first|omega|assumption|(constructor<;>first|assumption|omega)|simp only[LN];omega) only[↓SB,S1,↓ce]
  refine ⟨fun hc_i=>?_,fun hc_i=>?_⟩
  ·obtain ⟨x,hx⟩:=aE hc_i
   rw[aM hx,List.all_cons] at hs_i
   simp (disch:=first|omega|assumption|(constructor<;>first|assumption|omega)|simp only[LN];omega) only[↓SB,S1,↓ce,ar hx]
   refine ⟨fun h3=>?_,fun h3=>⟨i+1,rfl,⟨by omega,by rw[←hs_i];cases he:iG x<;>simp_all⟩,by omega⟩⟩
   have:iG x=false:=by cases he:iG x<;>simp_all
   rw[←hs_i,this];simp
  ·rw[aH hc_i] at hs_i
   rw[←hs_i];simp
 simp (disch:=first|omega|assumption|(constructor<;>first|assumption|omega)|simp only[LN];omega) only[↓SB,S1,↓ce]
 unfold cb
 refine ⟨fun h=>by simp[h],fun h=>⟨fun h2=>?_,fun h2=>?_⟩⟩
 ·have h0:0<l.length:=by omega
  obtain ⟨x,hx⟩:=EK h0
  have e1:limit-1=((l.length-1:Nat):Int):=by omega
  simp (disch:=first|omega|assumption|(constructor<;>first|assumption|omega)|simp only[LN];omega) only[↓SB,S1,↓ce,e1,ar hx]
  have e2:decide ((l.length:Int)<limit)=false:=by simp;omega
  rw[uv hx,hr.1,e2,h]
  by_cases hk:x.kind=2<;>simp[hk]<;>omega
 ·have e2:decide ((l.length:Int)<limit)=true:=by simp;omega
  have e3:decide ((l.length:Int)≤limit)=true:=by simp;omega
  rw[hr.1,e2,e3,h];simp
def eP:=And.intro @bP (@yu)
theorem yN(l:List Event)(limit:Int)(hg:am (dh (l,limit)).2.1):WW ρ 2 mv dh (l,limit):=by
 simp only[dh,RR] at hg ⊢
 unfold mv
 simp only[am,cr,bc] at hg
 refine SUB.v1 (bb (!(rng limit 2 32&&decide ((l.length:Int)≤limit)))) ?_ ?_
 ·repeat' (first | apply And.intro | intro _ | simp (disch:=first|omega|assumption|(constructor<;>first|assumption|omega)|simp only[LN];omega) only[↓SB,S1,↓eP])
  all_goals (simp_all;try (first | omega | exact dlt _ _))
 cases hr:(rng limit 2 32&&decide ((l.length:Int)≤limit))
 ·simp (disch:=first|omega|assumption|(constructor<;>first|assumption|omega)|simp only[LN];omega) only[↓SB,S1,↓eP]
  simp[cb,hr]
 simp only[Bool.and_eq_true,decide_eq_true_eq] at hr
 have hb:=bg hr.1
 have e3:decide ((l.length:Int)≤limit)=true:=by simp;omega
 unfold cb
 rw[hr.1,e3]
 simp (disch:=first|omega|assumption|(constructor<;>first|assumption|omega)|simp only[LN];omega) only[↓SB,S1,↓eP]
 refine aK.rule (α:=Nat) (fun i=>[I i]) (fun i=>i≤l.length∧(l.drop i).all (iG)=l.all (iG)) (fun i=>l.length-i) 0 rfl ⟨by omega,by simp⟩ (fun _=>rfl) ?_
 rintro i ⟨hl_i,hs_i⟩
 simp only[app]
 simp (disch:=first|omega|assumption|(constructor<;>first|assumption|omega)|simp only[LN];omega) only[↓SB,S1,↓eP]
 refine ⟨fun hc_i=>?_,fun hc_i=>?_⟩
 ·obtain ⟨x,hx⟩:=aE hc_i
  rw[aM hx,List.all_cons] at hs_i
  simp (disch:=first|omega|assumption|(constructor<;>first|assumption|omega)|simp only[LN];omega) only[↓SB,S1,↓eP,ar hx]
  refine ⟨fun h3=>?_,fun h3=>⟨i+1,rfl,⟨by omega,by rw[←hs_i,h3];simp⟩,by omega⟩⟩
  rw[←hs_i,h3];simp
 ·rw[aH hc_i] at hs_i
  rw[←hs_i]
  refine ⟨fun h=>by simp[h],fun h=>?_⟩
  have h0:0<l.length:=by omega
  obtain ⟨x,hx⟩:=EK h0
  have e1:(l.length:Int)-1=((l.length-1:Nat):Int):=by omega
  have e2:decide ((l.length:Int)<limit)=false:=by simp;omega
  simp (disch:=first|omega|assumption|(constructor<;>first|assumption|omega)|simp only[LN];omega) only[↓SB,S1,↓eP,e1,ar hx]
  rw[uv hx,e2];simp
def Ct:=And.intro @aZ (And.intro @ji (And.intro @Ed (And.intro @BQ (@yt))))
theorem Cu(c:Config)(s:Stream)(hg:am (ee (c,s)).2.1):WW ρ 12 oe ee (c,s):=by
 simp only[ee,RR] at hg ⊢
 unfold oe
 simp (disch:=first|omega|assumption|(constructor<;>first|assumption|omega)|simp only[LN];omega) only[↓S0,S3,S2,S1,↓Ct]
 unfold hR
 cases kc s<;>cases ep s.epoch<;>cases cnt s.want<;>cases pP s.kept s.want c.keep<;>cases lB s.ahead s.want c.window<;>simp[rng]
def Cv:=And.intro @jP (And.intro @rn (@BT))
theorem Cw(c:Config)(s:Stream)(q:List Event)(hg:am (ef (c,s,q)).2.1):WW ρ 13 og ef (c,s,q):=by
 simp only[ef,RR] at hg ⊢
 unfold og
 simp (disch:=first|omega|assumption|(constructor<;>first|assumption|omega)|simp only[LN];omega) only[↓S0,S3,S2,S1,↓Cv]
 unfold hU
 cases bt c<;>cases hR c s<;>cases cb q c.queue<;>simp
theorem Gj(s:Stream):decide (s=⟨0,0,0,[],[]⟩)=kc s:=by
 rw[Bool.eq_iff_iff];simp[kc,Stream.eq_iff,and_assoc]
def wS:=And.intro @qo (And.intro @bP (And.intro @mO (And.intro @rm (And.intro @BR (@wC)))))
theorem wU(c:Config)(s:Stream)(hg:am (cB (c,s)).2.1):WW ρ 12 kR cB (c,s):=by
 simp only[cB,RR] at hg ⊢
 unfold kR
 simp (disch:=first|omega|assumption|(constructor<;>first|assumption|omega)|simp only[LN];omega) only[↓S0,S3,S2,S1,↓wS,Gj]
 unfold hR
 cases kc s<;>simp[Bool.and_assoc]
def Cx:=And.intro @wD (@yv)
theorem Cy(c:Config)(s:Stream)(q:List Event)(hg:am (eg (c,s,q)).2.1):WW ρ 13 oh eg (c,s,q):=by
 simp only[eg,RR] at hg ⊢
 unfold oh
 simp (disch:=first|omega|assumption|(constructor<;>first|assumption|omega)|simp only[LN];omega) only[↓S0,S3,S2,S1,↓Cx]
 unfold hU
 try simp
def fW:=And.intro @kf (And.intro @BW (And.intro @wE (And.intro @wF (And.intro @BK (@BU)))))
theorem yO(c:Config)(t:Int)(self:Int)(x:Topic)(hp:bt c=true)(hg:am (dj (c,t,self,x)).2.1):WW ρ 25 mw dj (c,t,self,x):=by
 simp only[dj,RR] at hg ⊢
 unfold mw
 generalize hE:ap c t self x=q
 refine SUB.v1 (bb (!(rng x.top 0 1073741824&&rng x.age 0 1000))) ?_ ?_
 ·repeat' (first | apply And.intro | intro _ | simp (disch:=first|omega|assumption|(constructor<;>first|assumption|omega)|simp only[LN];omega) only[↓SB,S1,↓fW])
  all_goals (simp_all[rng];try (first | omega | exact dlt _ _))
 unfold ap at hE
 cases h1:(rng x.top 0 1073741824&&rng x.age 0 1000)
 ·rw[h1] at hE
  simp (disch:=first|omega|assumption|(constructor<;>first|assumption|omega)|simp only[LN];omega) only[↓SB,S1,↓fW]
  simp[←hE]
 rw[Bool.not_true,aV]
 refine SUB.v1 (bb (dw t self x.parent&&dw t self x.asked&&dw t self x.other)) ?_ ?_
 ·simp (disch:=first|omega|assumption|(constructor<;>first|assumption|omega)|simp only[LN];omega) only[↓S0,S3,S2,S1,↓fW]
  simp[Bool.and_assoc]
 cases h2:(dw t self x.parent&&dw t self x.asked&&dw t self x.other)
 ·simp (disch:=first|omega|assumption|(constructor<;>first|assumption|omega)|simp only[LN];omega) only[↓SB,S1,↓fW]
  rw[←hE]
  cases h3:dw t self x.parent<;>cases h4:dw t self x.asked<;>cases h5:dw t self x.other<;>simp_all
 simp only[Bool.and_eq_true] at h2
 have hpar:0≤x.parent∧x.parent≤8:=by
  have:=h2.1.1
  simp only[dw,Bool.or_eq_true,Bool.and_eq_true,decide_eq_true_eq] at this
  rcases this with h | ⟨h,h'⟩
  ·omega
  ·have:=(eA h').2.1;omega
 rw[h1] at hE
 rw[h2.1.1,h2.1.2,h2.2] at hE
 simp (disch:=first|omega|assumption|(constructor<;>first|assumption|omega)|simp only[LN];omega) only[↓S0,S3,S2,S1,↓fW,hp]
 rw[←hE]
 cases jG self x<;>cases hZ x<;>cases eW t self c.kids x.kids<;>cases hU c x.stream x.queue<;>by_cases h9:chk t self x.path c.depth=0<;>simp[h9]
def ro:=And.intro @jP (@yw)
theorem yP(c:Config)(t:Int)(self:Int)(x:Topic)(hg:am (dk (c,t,self,x)).2.1):WW ρ 25 my dk (c,t,self,x):=by
 simp only[dk,RR] at hg ⊢
 unfold my
 cases hc:bt c
 ·simp (disch:=first|omega|assumption|(constructor<;>first|assumption|omega)|simp only[LN];omega) only[↓SB,S1,↓ro,hc]
  simp
 ·simp (disch:=first|omega|assumption|(constructor<;>first|assumption|omega)|simp only[LN];omega) only[↓SB,S1,↓ro,hc]
  unfold eX
  refine ⟨fun h=>?_,fun h=>⟨fun h1=>?_,fun h1=>⟨fun h2=>?_,fun h2=>⟨fun h3=>?_,fun h3=>?_⟩⟩⟩⟩
  ·simp[rng,show ¬0≤t by omega]
  ·simp[rng,show ¬t≤c.topics-1 by omega]
  ·simp[rng,show ¬0≤self by omega]
  ·simp[rng,show ¬self≤c.nodes-1 by omega]
  ·have e1:rng t 0 (c.topics-1)=true:=by simp[rng];omega
   have e2:rng self 0 (c.nodes-1)=true:=by simp[rng];omega
   rw[e1,e2]
   cases ap c t self x<;>simp
end Go.Xt
end
section
set_option linter.unusedSimpArgs false
set_option linter.unusedVariables false
set_option maxRecDepth 100000
namespace Go.Xt
set_option linter.defProp false
theorem dJ{c:Config}(h:bt c=true):(1≤c.nodes∧c.nodes≤8)∧(1≤c.topics∧c.topics≤4)∧(1≤c.kids∧c.kids≤4)∧(1≤c.depth∧c.depth≤8)∧(1≤c.keep∧c.keep≤16)∧(1≤c.window∧c.window≤16)∧(2≤c.queue∧c.queue≤32):=by
 simp only[bt,rng,Bool.and_eq_true,decide_eq_true_eq] at h
 obtain ⟨⟨⟨⟨⟨⟨a,b⟩,d⟩,e⟩,f⟩,g⟩,i⟩:=h
 exact ⟨a,b,d,e,f,g,i⟩
theorem wV{c:Config}{t self:Int}(hc:bt c=true)(h:eX c t self=true):isT t=true∧isN self=true∧(0≤t∧t<c.topics)∧(0≤self∧self<c.nodes):=by
 have hb:=dJ hc
 simp only[eX,Bool.and_eq_true] at h
 have h1:=bg h.1;have h2:=bg h.2
 exact ⟨qN.2 (by omega),bx.2 (by omega),by omega,by omega⟩
theorem Je{t self c:Int}{l:List Int}(ht:isT t=true)(hs:isN self=true)(h1:1≤c)(h2:c≤8):chk t self l c=HI t self l c:=by
 simp[chk,HI,ht,hs,h1,h2]
theorem Jf{t self c:Int}{l:List Int}(h:HI t self l c=0):l.all isN=true:=by
 unfold HI at h
 by_cases e:l.all isN=true
 ·exact e
 ·rw[if_neg e] at h;omega
theorem lG{t self n:Int}(h:dw t self n=true):0≤n∧n≤8:=by
 simp only[dw,Bool.or_eq_true,Bool.and_eq_true,decide_eq_true_eq] at h
 rcases h with h | ⟨h,h'⟩
 ·omega
 ·have:=(eA h').2.1;omega
def ko(x:Topic):Bool:=(decide (0<x.path.length) == decide (0<x.parent))&&match x.path with | []=>true | p::_=>decide (p=x.parent-1)
theorem Gk{t self:Int}{x:Topic}(hl:dw t self x.parent=true)(hp:x.path.all isN=true):hZ x=ko x:=by
 have hb:=lG hl
 unfold hZ ko
 cases hx:x.path with
 | nil =>
  rw[Bool.eq_iff_iff];simp;omega
 | cons p r =>
  rw[hx,List.all_cons,Bool.and_eq_true] at hp
  have:=bx.1 hp.1
  have hw:IntKind.i64.wrap (p+1)=p+1:=wr (by omega) (by omega)
  simp only[hw]
  rw[Bool.eq_iff_iff];simp;omega
def fX:=And.intro @bP (And.intro @mO (And.intro @BX (And.intro @BL (And.intro @BO (@BV)))))
theorem yQ(c:Config)(t:Int)(self:Int)(x:Topic)(hp:bt c=true∧eX c t self=true)(hg:am (dl (c,t,self,x)).2.1):WW ρ 25 mz dl (c,t,self,x):=by
 simp only[dl,RR] at hg ⊢
 unfold mz
 generalize hE:ap c t self x=q
 obtain ⟨hc,hpl⟩:=hp
 have hb:=dJ hc
 obtain ⟨ht,hs,ht2,hs2⟩:=wV hc hpl
 simp only[am,cr,bc] at hg
 unfold ap at hE
 rw[Je ht hs hb.2.2.2.1.1 hb.2.2.2.1.2] at hE
 have hroot:jG self x=((decide (x.root=0)||(ep x.root&&decide (x.root % 16=self)&&decide (x.root≤x.top)))&&(decide (x.root=0)||(decide (x.parent=0)&&decide (x.stream.epoch=x.root)))):=by
  unfold jG
  cases h:decide (x.root=0)<;>simp[Bool.and_assoc]
 rw[hroot] at hE
 refine SUB.v1 (bb (!(rng x.top 0 1073741824&&(decide (x.root=0)||(ep x.root&&decide (x.root % 16=self)&&decide (x.root≤x.top)))&&dw t self x.parent&&dw t self x.asked&&dw t self x.other&&rng x.age 0 1000))) ?_ ?_
 ·cases he:ep x.root
  ·repeat' (first | apply And.intro | intro _ | simp (disch:=first|omega|assumption|(constructor<;>first|assumption|omega)|simp only[LN];omega) only[↓SB,S1,↓fX])
   all_goals simp_all
  ·have h0:0≤x.root:=by simp only[ep,rng,Bool.and_eq_true,decide_eq_true_eq] at he;omega
   repeat' (first | apply And.intro | intro _ | simp (disch:=first|omega|assumption|(constructor<;>first|assumption|omega)|simp only[LN];omega) only[↓SB,S1,↓fX])
   all_goals simp_all
   all_goals omega
 cases hA:(rng x.top 0 1073741824&&(decide (x.root=0)||(ep x.root&&decide (x.root % 16=self)&&decide (x.root≤x.top)))&&dw t self x.parent&&dw t self x.asked&&dw t self x.other&&rng x.age 0 1000)
 ·simp (disch:=first|omega|assumption|(constructor<;>first|assumption|omega)|simp only[LN];omega) only[↓SB,S1,↓fX]
  rw[←hE]
  clear hE hroot
  revert hA
  cases rng x.top 0 1073741824<;>cases rng x.age 0 1000<;>cases dw t self x.parent<;>cases dw t self x.asked<;>cases dw t self x.other<;>cases (decide (x.root=0)||(ep x.root&&decide (x.root % 16=self)&&decide (x.root≤x.top)))<;>simp
 simp only[Bool.and_eq_true] at hA
 obtain ⟨⟨⟨⟨⟨A1,A2⟩,A3⟩,A4⟩,A5⟩,A6⟩:=hA
 rw[A1,A2,A3,A4,A5,A6] at hE
 simp only[Bool.true_and] at hE
 have hlb:=lG A3
 simp (disch:=first|omega|assumption|(constructor<;>first|assumption|omega)|simp only[LN];omega) only[↓SB,S1,↓fX]
 refine ⟨fun h=>?_,fun h=>?_⟩
 ·rw[←hE];simp[h]
 have h0:=Jf h
 rw[Gk A3 h0] at hE
 simp only[h,eq_self,decide_true,Bool.and_true] at hE
 refine ⟨fun h1=>?_,fun h1=>?_⟩
 ·rw[←hE]
  have:ko x=false:=by
   unfold ko
   rw[Bool.and_eq_false_iff];left
   revert h1
   by_cases a:0<x.path.length<;>by_cases b:0<x.parent<;>simp[a,b]
  rw[this];simp
 have fin:ko x=true→(¬x.root=0→(¬x.parent=0→[bb false]=[bb q])∧(x.parent=0→(¬x.stream.epoch=x.root→[bb false]=[bb q])∧(x.stream.epoch=x.root →
   (eW t self c.kids x.kids=true→[bb (hU c x.stream x.queue)]=[bb q])∧(eW t self c.kids x.kids=false→[bb false]=[bb q])))) ∧
   (x.root=0→(eW t self c.kids x.kids=true→[bb (hU c x.stream x.queue)]=[bb q])∧(eW t self c.kids x.kids=false→[bb false]=[bb q])):=by
  intro hp2
  rw[←hE,hp2]
  by_cases r0:x.root=0<;>by_cases p0:x.parent=0<;>by_cases e0:x.stream.epoch=x.root<;>cases eW t self c.kids x.kids<;>simp[r0,p0,e0]
 refine ⟨fun h2=>?_,fun h2=>fin ?_⟩
 ·cases hx:x.path with
  | nil=>rw[hx] at h2;simp at h2
  | cons p r =>
   have h3:(0:Int)<((p::r).length:Nat):=by simp
   have hp3:0<x.parent:=by
    revert h1;rw[hx]
    by_cases b:0<x.parent<;>simp[b]
   simp (disch:=first|omega|assumption|(constructor<;>first|assumption|omega)|simp only[LN];omega) only[↓SB,S1,↓fX]
   refine ⟨fun h4=>?_,fun h4=>fin ?_⟩
   ·rw[←hE]
    have:ko x=false:=by unfold ko;rw[hx];simp[h4]
    rw[this];simp
   ·unfold ko;rw[hx];simp[hp3,h4]
 ·unfold ko
  cases hx:x.path with
  | nil =>
   revert h1;rw[hx]
   by_cases b:0<x.parent<;>simp[b]
  | cons p r=>rw[hx] at h2;simp at h2
theorem EL(m:Mark):WW ρ 3 pY gz m:=by
 simp only[gz,RR]
 unfold pY
 simp (disch:=first|omega|assumption|(constructor<;>first|assumption|omega)|simp only[LN];omega) only[↓S0,S3,S2,S1,↓eM]
 simp[kL,Bool.and_assoc]
def Cz:=And.intro @eM (And.intro @dM (@aZ))
theorem CA(c:Config)(x:Mark2)(hp:bt c=true):WW ρ 12 oq fC (c,x):=by
 simp only[fC,RR]
 unfold oq
 have hb:=dJ hp
 simp (disch:=first|omega|assumption|(constructor<;>first|assumption|omega)|simp only[LN];omega) only[↓S0,S3,S2,S1,↓Cz]
 simp[kd,Bool.and_assoc]
theorem sX{c:Config}{asks p:Int}{x:Call}{r:List Call}:bD c asks p (x::r)=(decide (p<x.count)&&decide (x.count≤asks)&&rng x.topic 0 (c.topics-1)&&rng x.age 0 20&&bD c asks x.count r):=rfl
theorem CB(c:Config)(n:Node)(hp:bt c=true)(hg:am (ej (c,n)).2.1):WW ρ 16 oo ej (c,n):=by
 simp only[ej,RR] at hg ⊢
 unfold oo
 have hb:=dJ hp
 simp only[am,cr,bc] at hg
 simp (disch:=first|omega|assumption|(constructor<;>first|assumption|omega)|simp only[LN];omega) only[↓SB,S1,↓eM]
 refine aK.rule (α:=Nat×Int) (fun a=>[I a.2,I a.1]) (fun a=>a.1≤n.calls.length∧bD c n.asks a.2 (n.calls.drop a.1)=bD c n.asks 0 n.calls) (fun a=>n.calls.length-a.1) (0,0) rfl ⟨by simp,by simp⟩ (fun _=>rfl) ?_
 rintro ⟨i,p⟩ ⟨hl,hs⟩
 simp only[app] at *
 simp (disch:=first|omega|assumption|(constructor<;>first|assumption|omega)|simp only[LN];omega) only[↓SB,S1,↓eM]
 refine ⟨fun h=>?_,fun h=>?_⟩
 ·obtain ⟨x,hx⟩:=aE h
  rw[aM hx,sX] at hs
  simp (disch:=first|omega|assumption|(constructor<;>first|assumption|omega)|simp only[LN];omega) only[↓SB,S1,↓eM,ar hx]
  refine ⟨fun h1=>?_,fun h1=>⟨fun h2=>?_,fun h2=>⟨fun h3=>?_,fun h3=>⟨fun h4=>?_,fun h4=>⟨(i+1,x.count),by simp,⟨by omega,?_⟩,by simp;omega⟩⟩⟩⟩⟩
  ·rw[←hs];simp[show ¬p<x.count by omega]
  ·rw[←hs];simp[show ¬x.count≤n.asks by omega]
  ·rw[←hs,h3];simp
  ·rw[←hs,h4];simp
  ·rw[←hs,h3,h4];simp[show p<x.count by omega,show x.count≤n.asks by omega]
 ·rw[aH h] at hs
  rw[←hs]
  simp[bD];omega
end Go.Xt
end
section
set_option linter.unusedSimpArgs false
set_option linter.unusedVariables false
set_option maxRecDepth 100000
namespace Go.Xt
set_option linter.defProp false
theorem rp{c:Config}{self t:Int}{x:Topic}{r:List Topic}:aN c self t (x::r)=(ap c t self x&&aN c self (t+1) r):=rfl
theorem EM{c:Config}{t self:Int}(h0:0≤t)(h1:t<c.topics)(hs:rng self 0 (c.nodes-1)=true):eX c t self=true:=by
 simp only[eX,hs,Bool.and_true];simp[rng];omega
def bn:=And.intro @eM (And.intro @aZ (And.intro @BZ (And.intro @jk (And.intro @Ee (And.intro @ke (@C0))))))
theorem CC(c:Config)(self:Int)(n:Node)(hp:bt c=true∧rng self 0 (c.nodes-1)=true)(hg:am (ek (c,self,n)).2.1):WW ρ 17 ot ek (c,self,n):=by
 simp only[ek,RR] at hg ⊢
 unfold ot
 generalize hE:jH c self n=q
 obtain ⟨hc,hself⟩:=hp
 have hb:=dJ hc
 simp only[am,cr,bc] at hg
 unfold jH at hE
 refine SUB.v1 (bb (!(cnt n.inc&&rng n.pubs 0 1073741824&&rng n.asks 0 40&&(bD c n.asks 0 n.calls&&decide (n.calls.length≤40))))) ?_ ?_
 ·simp (disch:=first|omega|assumption|(constructor<;>first|assumption|omega)|simp only[LN];omega) only[↓S0,S3,S2,S1,↓bn]
  simp[Bool.and_assoc]
 cases hA:(cnt n.inc&&rng n.pubs 0 1073741824&&rng n.asks 0 40&&(bD c n.asks 0 n.calls&&decide (n.calls.length≤40)))
 ·simp (disch:=first|omega|assumption|(constructor<;>first|assumption|omega)|simp only[LN];omega) only[↓SB,S1,↓bn]
  rw[←hE]
  simp only[←Bool.and_assoc] at hA
  rw[hA];simp
 simp only[←Bool.and_assoc] at hA
 rw[hA] at hE
 rw[Bool.not_true,aV]
 refine SUB.v1 (bb (!(decide ((n.peers.length:Int)=c.nodes)&&decide ((n.topics.length:Int)=c.topics)&&decide ((n.marks.length:Int)=c.nodes)&&decide (n.taken.length≤64)))) ?_ ?_
 ·simp (disch:=first|omega|assumption|(constructor<;>first|assumption|omega)|simp only[LN];omega) only[↓S0,S3,S2,S1,↓bn]
  by_cases h1:(n.peers.length:Int)=c.nodes<;>by_cases h2:(n.topics.length:Int)=c.topics<;>by_cases h3:(n.marks.length:Int)=c.nodes<;>by_cases h4:n.taken.length≤64<;>simp[h1,h2,h3,h4]<;>omega
 cases hB:(decide ((n.peers.length:Int)=c.nodes)&&decide ((n.topics.length:Int)=c.topics)&&decide ((n.marks.length:Int)=c.nodes)&&decide (n.taken.length≤64))
 ·simp (disch:=first|omega|assumption|(constructor<;>first|assumption|omega)|simp only[LN];omega) only[↓SB,S1,↓bn]
  rw[←hE]
  revert hB
  by_cases h1:(n.peers.length:Int)=c.nodes<;>by_cases h2:(n.topics.length:Int)=c.topics<;>by_cases h3:(n.marks.length:Int)=c.nodes<;>by_cases h4:n.taken.length≤64<;>simp[h1,h2,h3,h4]
 simp only[Bool.and_eq_true,decide_eq_true_eq] at hB
 obtain ⟨⟨⟨B1,B2⟩,B3⟩,B4⟩:=hB
 have e1:decide ((n.peers.length:Int)=c.nodes)=true:=by simp[B1]
 have e2:decide ((n.topics.length:Int)=c.topics)=true:=by simp[B2]
 have e3:decide ((n.marks.length:Int)=c.nodes)=true:=by simp[B3]
 have e4:decide (n.taken.length≤64)=true:=by simp[B4]
 rw[e1,e2,e3,e4] at hE
 simp only[Bool.true_and] at hE
 simp (disch:=first|omega|assumption|(constructor<;>first|assumption|omega)|simp only[LN];omega) only[↓SB,S1,↓bn]
 refine aK.rule (α:=Nat) (fun i=>[I i]) (fun i=>i≤n.topics.length∧aN c self i (n.topics.drop i)=aN c self 0 n.topics) (fun i=>n.topics.length-i) 0 rfl ⟨by omega,by simp⟩ (fun _=>rfl) ?_
 rintro i ⟨hl,hs⟩
 simp only[app]
 simp (disch:=first|omega|assumption|(constructor<;>first|assumption|omega)|simp only[LN];omega) only[↓SB,S1,↓bn]
 refine ⟨fun h=>?_,fun h=>?_⟩
 ·obtain ⟨x,hx⟩:=aE h
  rw[aM hx,rp] at hs
  have hpl:=EM (c:=c) (t:=i) (by omega) (by omega) hself
  simp (disch:=first|omega|assumption|(constructor<;>first|assumption|omega)|simp only[LN];omega) only[↓SB,S1,↓bn,ar hx,hc,hpl]
  cases ht:ap c i self x
  ·simp
   rw[←hE,←hs,ht];simp
  ·simp
   exact ⟨i+1,by simp,⟨by omega,by rw[←hs,ht];simp⟩,by omega⟩
 rw[aH h] at hs
 have hT:aN c self 0 n.topics=true:=by rw[←hs];rfl
 rw[hT] at hE
 simp only[Bool.true_and] at hE
 refine aK.rule (α:=Nat) (fun i=>[I i]) (fun i=>i≤n.marks.length∧(n.marks.drop i).all (kL)=n.marks.all (kL)) (fun i=>n.marks.length-i) 0 rfl ⟨by omega,by simp⟩ (fun _=>rfl) ?_
 rintro i ⟨hl_i,hs_i⟩
 simp only[app]
 simp (disch:=first|omega|assumption|(constructor<;>first|assumption|omega)|simp only[LN];omega) only[↓SB,S1,↓bn]
 refine ⟨fun hc_i=>?_,fun hc_i=>?_⟩
 ·obtain ⟨m,hm⟩:=aE hc_i
  rw[aM hm,List.all_cons] at hs_i
  simp (disch:=first|omega|assumption|(constructor<;>first|assumption|omega)|simp only[LN];omega) only[↓SB,S1,↓bn,ar hm]
  refine ⟨fun h3=>?_,fun h3=>⟨i+1,rfl,⟨by omega,by simpa[h3] using hs_i⟩,by omega⟩⟩
  rw[h3,Bool.false_and] at hs_i
  simp only[Int.natCast_nonneg,decide_true,Bool.not_true,aV]
  simp (disch:=first|omega|assumption|(constructor<;>first|assumption|omega)|simp only[LN];omega) only[↓SB,S1,↓bn]
  rw[←hE,←hs_i]
  simp
 rw[aH hc_i] at hs_i
 have hM:n.marks.all kL=true:=by rw[←hs_i];rfl
 rw[hM] at hE
 refine ⟨fun h5=>?_,fun h5=>?_⟩
 ·cases hp5:aT n.peers
  ·rw[hp5] at h5;simp at h5
  rw[hp5] at hE
  simp only[Bool.true_and] at hE
  clear hs_i
  simp only[show ¬(0:Int)≤ -1 by decide,not_false_eq_true,true_implies,false_implies,and_true]
  refine aK.rule (α:=Nat) (fun i=>[I i]) (fun i=>i≤n.taken.length∧(n.taken.drop i).all (kd c)=n.taken.all (kd c)) (fun i=>n.taken.length-i) 0 rfl ⟨by omega,by simp⟩ (fun _=>rfl) ?_
  rintro i ⟨hl_i,hs_i⟩
  simp only[app]
  simp (disch:=first|omega|assumption|(constructor<;>first|assumption|omega)|simp only[LN];omega) only[↓SB,S1,↓bn]
  refine ⟨fun hc_i=>?_,fun hc_i=>?_⟩
  ·obtain ⟨m,hm⟩:=aE hc_i
   rw[aM hm,List.all_cons] at hs_i
   simp (disch:=first|omega|assumption|(constructor<;>first|assumption|omega)|simp only[LN];omega) only[↓SB,S1,↓bn,ar hm]
   refine ⟨fun h3=>?_,fun h3=>⟨i+1,rfl,⟨by omega,by simpa[h3] using hs_i⟩,by omega⟩⟩
   rw[h3,Bool.false_and] at hs_i
   rw[←hE,←hs_i]
   simp
  ·rw[aH hc_i] at hs_i
   rw[←hE,←hs_i];simp
 ·cases hp5:aT n.peers
  ·rw[←hE,hp5];simp
  ·rw[hp5] at h5;simp at h5
def fJ:=And.intro @eM (And.intro @jP (@C1))
theorem CD(c:Config)(self:Int)(n:Node)(hg:am (eo (c,self,n)).2.1):WW ρ 17 ou eo (c,self,n):=by
 simp only[eo,RR] at hg ⊢
 unfold ou ba
 cases hc:bt c
 ·simp (disch:=first|omega|assumption|(constructor<;>first|assumption|omega)|simp only[LN];omega) only[↓SB,S1,↓fJ,hc]
  simp
 have hb:=dJ hc
 simp (disch:=first|omega|assumption|(constructor<;>first|assumption|omega)|simp only[LN];omega) only[↓SB,S1,↓fJ,hc]
 cases hs:rng self 0 (c.nodes-1)
 ·simp (disch:=first|omega|assumption|(constructor<;>first|assumption|omega)|simp only[LN];omega) only[↓SB,S1,↓fJ,hs]
  simp
 ·simp (disch:=first|omega|assumption|(constructor<;>first|assumption|omega)|simp only[LN];omega) only[↓SB,S1,↓fJ,hs]
  cases hu:n.up
  ·simp (disch:=first|omega|assumption|(constructor<;>first|assumption|omega)|simp only[LN];omega) only[↓SB,S1,↓fJ]
   simp
  ·simp (disch:=first|omega|assumption|(constructor<;>first|assumption|omega)|simp only[LN];omega) only[↓SB,S1,↓fJ]
   cases jH c self n<;>simp
end Go.Xt
end
section
set_option linter.unusedSimpArgs false
set_option linter.unusedVariables false
set_option maxRecDepth 100000
namespace Go.Xt
set_option linter.defProp false
def bT:=And.intro @jj (And.intro @wB (And.intro @yr (@yx)))
theorem CF(c:Config)(self:Int)(n:Node)(hp:bt c=true∧rng self 0 (c.nodes-1)=true)(hg:am (eq (c,self,n)).2.1):WW ρ 17 ov eq (c,self,n):=by
 simp only[eq,RR] at hg ⊢
 unfold ov
 generalize hE:jH c self n=q
 obtain ⟨hc,hself⟩:=hp
 have hb:=dJ hc
 simp only[am,cr,bc] at hg
 unfold jH at hE
 refine SUB.v1 (bb (!(cnt n.inc&&decide ((n.peers.length:Int)=c.nodes)&&aT n.peers&&decide ((n.topics.length:Int)=c.topics)&&decide (n.calls.length≤40)&&rng n.pubs 0 1073741824&&rng n.asks 0 40&&decide ((n.marks.length:Int)=c.nodes)&&decide (n.taken.length≤64)))) ?_ ?_
 ·simp (disch:=first|omega|assumption|(constructor<;>first|assumption|omega)|simp only[LN];omega) only[↓S0,S3,S2,S1,↓bT]
  by_cases h1:(n.peers.length:Int)=c.nodes<;>by_cases h2:(n.topics.length:Int)=c.topics<;>by_cases h3:(n.marks.length:Int)=c.nodes<;>by_cases h4:n.taken.length≤64<;>by_cases h5:n.calls.length≤40<;>cases aT n.peers<;>cases rng n.asks 0 40<;>cases rng n.pubs 0 1073741824<;>simp[h1,h2,h3,h4,h5,cnt]<;>omega
 cases hA:(cnt n.inc&&decide ((n.peers.length:Int)=c.nodes)&&aT n.peers&&decide ((n.topics.length:Int)=c.topics)&&decide (n.calls.length≤40)&&rng n.pubs 0 1073741824&&rng n.asks 0 40&&decide ((n.marks.length:Int)=c.nodes)&&decide (n.taken.length≤64))
 ·simp (disch:=first|omega|assumption|(constructor<;>first|assumption|omega)|simp only[LN];omega) only[↓SB,S1,↓bT]
  rw[←hE]
  revert hA
  by_cases h1:(n.peers.length:Int)=c.nodes<;>by_cases h2:(n.topics.length:Int)=c.topics<;>by_cases h3:(n.marks.length:Int)=c.nodes<;>by_cases h4:n.taken.length≤64<;>by_cases h5:n.calls.length≤40<;>cases aT n.peers<;>cases rng n.asks 0 40<;>cases rng n.pubs 0 1073741824<;>cases cnt n.inc<;>simp[h1,h2,h3,h4,h5]
 simp only[Bool.and_eq_true,decide_eq_true_eq] at hA
 obtain ⟨⟨⟨⟨⟨⟨⟨⟨A1,A2⟩,A3⟩,A4⟩,A5⟩,A6⟩,A7⟩,A8⟩,A9⟩:=hA
 have e1:decide ((n.peers.length:Int)=c.nodes)=true:=by simp[A2]
 have e2:decide ((n.topics.length:Int)=c.topics)=true:=by simp[A4]
 have e3:decide ((n.marks.length:Int)=c.nodes)=true:=by simp[A8]
 have e4:decide (n.taken.length≤64)=true:=by simp[A9]
 have e5:decide (n.calls.length≤40)=true:=by simp[A5]
 rw[A1,A3,A6,A7,e1,e2,e3,e4,e5] at hE
 simp only[Bool.true_and,Bool.and_true] at hE
 rw[Bool.not_true,aV]
 refine aK.rule (α:=Nat) (fun i=>[I i]) (fun i=>i≤n.topics.length∧aN c self i (n.topics.drop i)=aN c self 0 n.topics) (fun i=>n.topics.length-i) 0 rfl ⟨by omega,by simp⟩ (fun _=>rfl) ?_
 rintro i ⟨hl,hs⟩
 simp only[app]
 simp (disch:=first|omega|assumption|(constructor<;>first|assumption|omega)|simp only[LN];omega) only[↓SB,S1,↓bT]
 refine ⟨fun h=>?_,fun h=>?_⟩
 ·have h':(i:Int)<n.topics.length:=by omega
  obtain ⟨x,hx⟩:=aE h'
  rw[aM hx,rp] at hs
  have hpl:=EM (c:=c) (t:=i) (by omega) (by omega) hself
  simp (disch:=first|omega|assumption|(constructor<;>first|assumption|omega)|simp only[LN];omega) only[↓SB,S1,↓bT,ar hx]
  refine ⟨fun ht=>?_,fun ht=>⟨i+1,by simp,⟨by omega,by rw[←hs,ht];simp⟩,by omega⟩⟩
  rw[←hE,←hs,ht];simp
 rw[aH (by omega)] at hs
 have hT:aN c self 0 n.topics=true:=by rw[←hs];rfl
 rw[hT] at hE
 simp only[Bool.true_and,Bool.and_true] at hE
 refine aK.rule (α:=Nat) (fun i=>[I i]) (fun i=>i≤n.calls.length∧ ∃p,(i=0→p=0)∧(0<i→ ∃k,n.calls[i-1]? =some k∧p=k.count)∧0≤p∧bD c n.asks p (n.calls.drop i)=bD c n.asks 0 n.calls) (fun i=>n.calls.length-i) 0 rfl ⟨by omega,0,by simp⟩ (fun _=>rfl) ?_
 rintro i ⟨hl,p,hp0,hp1,hp2,hs⟩
 simp only[app]
 simp (disch:=first|omega|assumption|(constructor<;>first|assumption|omega)|simp only[LN];omega) only[↓SB,S1,↓bT]
 refine ⟨fun h=>?_,fun h=>?_⟩
 ·obtain ⟨x,hx⟩:=aE h
  rw[aM hx,sX] at hs
  simp (disch:=first|omega|assumption|(constructor<;>first|assumption|omega)|simp only[LN];omega) only[↓SB,S1,↓bT,ar hx]
  refine ⟨fun h1=>?_,fun h1=>⟨fun h2=>?_,fun h2=>?_⟩⟩
  ·rw[←hE,←hs]
   have:(decide (p<x.count)&&decide (x.count≤n.asks))=false:=by
    rw[Bool.eq_false_iff] at h1 ⊢
    simp only[rng,Bool.and_eq_true,decide_eq_true_eq,ne_eq] at h1 ⊢
    omega
   rw[this];simp
  ·have h1:=bg h1
   obtain ⟨k,hk,rfl⟩:=hp1 (by omega)
   have e1:((i:Int)-1)=((i-1:Nat):Int):=by omega
   simp (disch:=first|omega|assumption|(constructor<;>first|assumption|omega)|simp only[LN];omega) only[↓SB,S1,↓bT,e1,ar hk]
   refine ⟨fun h8=>?_,fun h8=>⟨fun h9=>?_,fun h9=>⟨fun h10=>?_,fun h10=>⟨i+1,by simp,⟨by omega,x.count,by simp,fun _=>⟨x,by simpa using hx,rfl⟩,by omega,?_⟩,by omega⟩⟩⟩⟩
   ·rw[←hE,←hs];simp[show ¬k.count<x.count by omega]
   ·rw[←hE,←hs,h9];simp
   ·rw[←hE,←hs,h10];simp
   ·rw[←hs,h9,h10];simp[show k.count<x.count by omega,h1]
  ·have h1:=bg h1
   have h0:i=0:=by omega
   rw[hp0 h0] at hs
   refine ⟨fun h9=>?_,fun h9=>⟨fun h10=>?_,fun h10=>⟨i+1,by simp,⟨by omega,x.count,by simp,fun _=>⟨x,by simpa using hx,rfl⟩,by omega,?_⟩,by omega⟩⟩⟩
   ·rw[←hE,←hs,h9];simp
   ·rw[←hE,←hs,h10];simp
   ·rw[←hs,h9,h10];simp[show 0<x.count by omega,h1]
 rw[aH h] at hs
 have hC:bD c n.asks 0 n.calls=true:=by rw[←hs];rfl
 rw[hC] at hE
 simp only[Bool.true_and,Bool.and_true] at hE
 refine aK.rule (α:=Nat) (fun i=>[I i]) (fun i=>i≤n.marks.length∧(n.marks.drop i).all (kL)=n.marks.all (kL)) (fun i=>n.marks.length-i) 0 rfl ⟨by omega,by simp⟩ (fun _=>rfl) ?_
 rintro i ⟨hl_i,hs_i⟩
 simp only[app]
 simp (disch:=first|omega|assumption|(constructor<;>first|assumption|omega)|simp only[LN];omega) only[↓SB,S1,↓bT]
 refine ⟨fun hc_i=>?_,fun hc_i=>?_⟩
 ·obtain ⟨m,hm⟩:=aE hc_i
  rw[aM hm,List.all_cons] at hs_i
  simp (disch:=first|omega|assumption|(constructor<;>first|assumption|omega)|simp only[LN];omega) only[↓SB,S1,↓bT,ar hm]
  have hm:kL m=(rng m.inc 0 1073741824&&rng m.pubs 0 1073741824&&rng m.met 0 2199023255551):=rfl
  refine ⟨fun h1=>?_,fun h1=>⟨fun h2=>?_,fun h2=>⟨fun h3=>?_,fun h3=>⟨i+1,rfl,⟨by omega,by rw[←hs_i,hm,h1,h2,h3];simp⟩,by omega⟩⟩⟩⟩
  ·rw[←hE,←hs_i,hm,h1];simp
  ·rw[←hE,←hs_i,hm,h2];simp
  ·rw[←hE,←hs_i,hm,h3];simp
 rw[aH hc_i] at hs_i
 have hM:n.marks.all kL=true:=by rw[←hs_i];rfl
 rw[hM] at hE
 simp only[Bool.true_and,Bool.and_true] at hE
 clear hs_i
 refine aK.rule (α:=Nat) (fun i=>[I i]) (fun i=>i≤n.taken.length∧(n.taken.drop i).all (kd c)=n.taken.all (kd c)) (fun i=>n.taken.length-i) 0 rfl ⟨by omega,by simp⟩ (fun _=>rfl) ?_
 rintro i ⟨hl_i,hs_i⟩
 simp only[app]
 simp (disch:=first|omega|assumption|(constructor<;>first|assumption|omega)|simp only[LN];omega) only[↓SB,S1,↓bT]
 refine ⟨fun hc_i=>?_,fun hc_i=>?_⟩
 ·obtain ⟨m,hm⟩:=aE hc_i
  rw[aM hm,List.all_cons] at hs_i
  simp (disch:=first|omega|assumption|(constructor<;>first|assumption|omega)|simp only[LN];omega) only[↓SB,S1,↓bT,ar hm]
  have hm:kd c m=(rng m.node 0 (c.nodes-1)&&rng m.topic 0 (c.topics-1)&&cnt m.inc&&cnt m.count&&val m.value):=rfl
  refine ⟨fun h1=>?_,fun h1=>⟨fun h2=>?_,fun h2=>⟨fun h3=>?_,fun h3=>⟨fun h4=>?_,fun h4=>⟨fun h5=>?_,fun h5=>⟨i+1,rfl,⟨by omega,by rw[←hs_i,hm,h1,h4,h5];simp[cnt,h2,h3]⟩,by omega⟩⟩⟩⟩⟩⟩
  ·rw[←hE,←hs_i,hm,h1];simp
  ·rw[←hE,←hs_i,hm];simp[cnt,h2]
  ·rw[←hE,←hs_i,hm];simp[cnt,h3]
  ·rw[←hE,←hs_i,hm,h4];simp
  ·rw[←hE,←hs_i,hm,h5];simp
 ·rw[aH hc_i] at hs_i
  rw[←hE,←hs_i];simp
end Go.Xt
end
section
set_option linter.unusedSimpArgs false
set_option linter.unusedVariables false
set_option maxRecDepth 100000
namespace Go.Xt
theorem Lm{α:Type}{a b:List α}(h: ¬(a.length:Int)=b.length): ¬a=b:=by rintro rfl;exact h rfl
theorem yR(a:List Item)(b:List Item)(hg:am (dm (a,b)).2.1):WW ρ 2 mB dm (a,b):=by
 simp only[dm,RR] at hg ⊢
 unfold mB
 simp only[am,bc] at hg
 simp (disch:=first|omega|assumption|(constructor<;>first|assumption|omega)|simp only[LN];omega) only[↓SB,S1]
 refine ⟨fun h=>by simp[Lm h],fun h=>?_⟩
 have hl:a.length=b.length:=by omega
 refine aK.rule (α:=Nat) (fun i=>[I i]) (fun i=>i≤a.length∧((a=b)=(a.drop i=b.drop i))) (fun i=>a.length-i) 0 rfl ⟨by omega,by simp⟩ (fun _=>rfl) ?_
 rintro i ⟨hl_i,hs_i⟩
 simp only[app]
 simp (disch:=first|omega|assumption|(constructor<;>first|assumption|omega)|simp only[LN];omega) only[↓SB,S1]
 refine ⟨fun hc_i=>?_,fun hc_i=>?_⟩
 ·obtain ⟨x,hx⟩:=aE hc_i
  obtain ⟨y,hy⟩:=aE (xs:=b) (i:=i) (by omega)
  rw[aM hx,aM hy,List.cons.injEq] at hs_i
  simp (disch:=first|omega|assumption|(constructor<;>first|assumption|omega)|simp only[LN];omega) only[↓SB,S1,ar hx,ar hy,Item.deq]
  refine ⟨fun h3=>?_,fun h3=>⟨i+1,rfl,⟨by omega,by simpa[h3] using hs_i⟩,by omega⟩⟩
  have hn: ¬a=b:=fun e=>h3 (hs_i.mp e).1
  simp[hn]
 ·rw[aH hc_i,aH (by omega)] at hs_i
  simp[hs_i]
theorem wW(a:Stream)(b:Stream)(hg:am (cD (a,b)).2.1):WW ρ 10 kU cD (a,b):=by
 simp only[cD,RR] at hg ⊢
 unfold kU
 simp (disch:=first|omega|assumption|(constructor<;>first|assumption|omega)|simp only[LN];omega) only[↓S0,S3,S2,S1,↓yy]
 simp[Stream.eq_iff,Bool.decide_and]
end Go.Xt
end
section
set_option linter.unusedSimpArgs false
set_option linter.unusedVariables false
set_option maxRecDepth 100000
namespace Go.Xt
instance:FlatRow Kid:=⟨fun a q hq=>by simp[Row.row] at hq;rcases hq with rfl | rfl | rfl<;>rfl⟩
instance:FlatRow Item:=⟨fun a q hq=>by simp[Row.row] at hq;rcases hq with rfl | rfl<;>rfl⟩
instance:FlatRow Event:=⟨fun a q hq=>by simp[Row.row] at hq;rcases hq with rfl | rfl | rfl | rfl | rfl | rfl<;>rfl⟩
instance:FlatRow Peer:=⟨fun a q hq=>by simp[Row.row] at hq;rcases hq with rfl | rfl<;>rfl⟩
instance:FlatRow By:=⟨fun a q hq=>by simp[Row.row] at hq;subst hq;rfl⟩
theorem l7{α:Type}{xs:List α}{i:Nat}{x:α}(h:xs[i]? =some x):xs.take (i+1)=xs.take i++[x]:=by rw[List.take_add_one,h];rfl
theorem yS(s:Stream)(q:List Event)(hg:am (dp (s,q)).2.1):WW ρ 6 mC dp (s,q):=by
 simp only[dp,RR] at hg ⊢
 unfold mC sN
 simp (disch:=first|omega|assumption|(constructor<;>first|assumption|omega)|simp only[LN];omega) only[↓S0,S3,S2,S1]
 simp only[List.cons.injEq,PV.bool.injEq,and_true]
 rw[Bool.eq_iff_iff];simp;omega
theorem yT(x:Topic)(hg:am (dq x).2.1):WW ρ 16 mD dq x:=by
 simp only[dq,RR] at hg ⊢
 unfold mD dO
 repeat' (first | apply And.intro | intro _ | simp (disch:=first|omega|assumption|(constructor<;>first|assumption|omega)|simp only[LN];omega) only[↓SB,S1,↓yz])
 all_goals (simp_all;try omega)
theorem yU(n:Node)(hg:am (dr n).2.1):WW ρ 9 mF dr n:=by
 simp only[dr,RR] at hg ⊢
 unfold mF
 simp only[am,bc] at hg
 generalize hE:bj n=q
 unfold bj at hE
 refine SUB.v1 (bb (decide (n.peers.length>12)||decide (n.topics.length>8)||decide (n.calls.length>60)||decide (n.marks.length>12)||decide (n.taken.length>80))) ?_ ?_
 ·repeat' (first | apply And.intro | intro _ | simp (disch:=first|omega|assumption|(constructor<;>first|assumption|omega)|simp only[LN];omega) only[↓SB,S1,↓fU])
  all_goals (simp_all;try omega)
  all_goals (rw[Bool.eq_iff_iff];simp;omega)
 cases hA:(decide (n.peers.length>12)||decide (n.topics.length>8)||decide (n.calls.length>60)||decide (n.marks.length>12)||decide (n.taken.length>80))
 ·rw[hA] at hE
  simp only[Bool.false_or] at hE
  simp (disch:=first|omega|assumption|(constructor<;>first|assumption|omega)|simp only[LN];omega) only[↓SB,S1,↓fU]
  refine aK.rule (α:=Nat) (fun i=>[I i]) (fun i=>i≤n.topics.length∧(n.topics.drop i).any (dO)=n.topics.any (dO)) (fun i=>n.topics.length-i) 0 rfl ⟨by omega,by simp⟩ (fun _=>rfl) ?_
  rintro i ⟨hl_i,hs_i⟩
  simp only[app]
  simp (disch:=first|omega|assumption|(constructor<;>first|assumption|omega)|simp only[LN];omega) only[↓SB,S1,↓fU]
  refine ⟨fun hc_i=>?_,fun hc_i=>?_⟩
  ·obtain ⟨x,hx⟩:=aE hc_i
   rw[aM hx,List.any_cons] at hs_i
   simp (disch:=first|omega|assumption|(constructor<;>first|assumption|omega)|simp only[LN];omega) only[↓SB,S1,↓fU,ar hx]
   refine ⟨fun h3=>?_,fun h3=>⟨i+1,rfl,⟨by omega,by simpa[h3] using hs_i⟩,by omega⟩⟩
   rw[←hE,←hs_i,h3];simp
  ·rw[aH hc_i] at hs_i
   rw[←hE,←hs_i];simp
 ·rw[hA] at hE
  simp (disch:=first|omega|assumption|(constructor<;>first|assumption|omega)|simp only[LN];omega) only[↓SB,S1,↓fU]
  rw[←hE];simp
theorem rW{x:Topic}(h:dO x=false):x.path.length≤20∧x.kids.length≤20∧x.stream.kept.length≤30∧x.stream.ahead.length≤30∧x.queue.length≤50:=by
 simp[dO,sN] at h;omega
theorem rX{n:Node}(h:bj n=false):n.peers.length≤12∧n.topics.length≤8∧n.calls.length≤60∧n.marks.length≤12∧n.taken.length≤80∧n.topics.any dO=false:=by
 simp only[bj,Bool.or_eq_false_iff,decide_eq_false_iff_not] at h
 obtain ⟨⟨⟨⟨⟨a,b⟩,d⟩,e⟩,f⟩,g⟩:=h
 exact ⟨by omega,by omega,by omega,by omega,by omega,g⟩
end Go.Xt
end
section
set_option linter.unusedSimpArgs false
set_option linter.unusedVariables false
set_option maxRecDepth 100000
namespace Go.Xt
theorem ln(l:List Int)(n:Int)(hg:am (aP (l,n)).2.1):WW ρ 2 cI aP (l,n):=by
 simp only[aP,RR] at hg ⊢
 unfold cI
 simp only[am,bc,cr] at hg
 simp (disch:=first|omega|assumption|(constructor<;>first|assumption|omega)|simp only[LN];omega) only[↓SB,S1]
 refine aK.rule (α:=Nat) (fun i=>[I i]) (fun i=>i≤l.length∧(l.drop i).contains n=l.contains n) (fun i=>l.length-i) 0 rfl ⟨by omega,by simp⟩ (fun _=>rfl) ?_
 rintro i ⟨hl,hs⟩
 simp only[app]
 simp (disch:=first|omega|assumption|(constructor<;>first|assumption|omega)|simp only[LN];omega) only[↓SB,S1]
 refine ⟨fun hc=>?_,fun hc=>?_⟩
 ·obtain ⟨x,hx⟩:=aE hc
  rw[aM hx,List.contains_cons] at hs
  simp (disch:=first|omega|assumption|(constructor<;>first|assumption|omega)|simp only[LN];omega) only[↓SB,S1,ar hx]
  refine ⟨fun h3=>?_,fun h3=>⟨i+1,rfl,⟨by omega,?_⟩,by omega⟩⟩
  ·rw[←hs];simp[h3]
  ·rw[←hs];simp[h3]
 ·rw[aH hc] at hs
  rw[←hs];simp
theorem Hk{m:Int}: ∀(l:List Item) (p:Int),oX m p l=true→(l.length:Int)≤max 0 (m-1-p)
 | [],p,_=>by simp;omega
 | x::r,p,h=>by
  simp only[oX,Bool.and_eq_true,decide_eq_true_eq] at h
  have:=Hk r x.seq h.2
  simp only[List.length_cons]
  omega
theorem Gl{c:Config}{t self:Int}{x:Topic}(hc:bt c=true)(h:ap c t self x=true):IW c x=false:=by
 have hb:=dJ hc
 simp only[ap,Bool.and_eq_true,hU,eW,cb,hR,Bool.or_eq_true,kc,pP,lB,decide_eq_true_eq] at h
 obtain ⟨⟨_,hk⟩,hs,hq⟩:=h
 have h1: ¬(x.kids.length:Int)>c.kids:=by have:=hk.1.2;omega
 have h2: ¬(x.queue.length:Int)>c.queue:=by have:=hq.1.1.2;omega
 have h3: ¬(x.stream.kept.length:Int)>c.keep:=by
  rcases hs with hs | hs
  ·rw[hs.1.2];simp;omega
  ·have:=hs.1.2.1.1.2;omega
 have h4: ¬(x.stream.ahead.length:Int)>c.window:=by
  rcases hs with hs | hs
  ·rw[hs.2];simp;omega
  ·have:=Hk _ _ hs.2.2;omega
 simp[IW,h1,h2,h3,h4]
end Go.Xt
end
section
set_option linter.unusedSimpArgs false
set_option linter.unusedVariables false
set_option maxRecDepth 100000
namespace Go.Xt
theorem CG  :WW ρ 0 ow im ():=by
 simp only[im,RR]
 unfold ow
 rfl
end Go.Xt
end
section
set_option linter.unusedSimpArgs false
set_option linter.unusedVariables false
set_option maxRecDepth 100000
namespace Go.Xt
set_option linter.defProp false
theorem vg{t a b:Int}(h:cq t a b=true):a≠b:=by
 rintro rfl;have:=(eA h).2.2.2;omega
theorem I9{α:Type}{l:List α}{i:Nat}{x:α}(h:l[i]? =some x):l.take i++[x]=l.take (i+1):=by
 rw[List.take_add_one,h];rfl
theorem Hl{v:Int}:isK v=true↔0≤v∧v<4611686018427387904:=by simp[isK]
theorem Ln(n:Int):isK (nn n)=true:=Hl.2 (nk n)
theorem Lo{k n:Int}(h1:0≤k)(h2:k<4611686018427387904)(h3:0≤n)(h4:n<4611686018427387904):0≤far k n∧far k n<4611686018427387904:=by
 unfold far;split<;>omega
theorem Jg(k:Int):WW ρ 1 ws ng k:=by
 simp only[ng,RR]
 unfold ws
 simp (disch:=first|omega|assumption|(constructor<;>first|assumption|omega)|simp only[LN];omega) only[↓SB,S1]
 refine ⟨fun h=>?_,fun h=>?_⟩ <;>simp[isK,h]
theorem Gm: ∀n:Fin 62,(1:Int)≤2 ^ n.val∧(2:Int) ^ n.val<4611686018427387904:=by decide +kernel
theorem Lp{b:Int}{k:PV→Prop}(h0:0≤b)(h1:b≤61):OP (.bin .shl) [I 1,I b] k=k (I (2 ^ b.toNat)):=az (by
 have h:(1:Int)≤2 ^ b.toNat∧(2:Int) ^ b.toNat<4611686018427387904:=Gm ⟨b.toNat,by omega⟩
 have h2:min b.toNat IntKind.i64.bits=b.toNat:=Nat.min_eq_left (by simp only[IntKind.bits];omega)
 have h3: ¬b<0:=by omega
 simp only[ev,kB,h2,h3,if_false,Int.one_mul,Option.some.injEq,PV.int.injEq,true_and]
 exact wr (by omega) (by omega))
def wX:=And.intro @qM (@IY)
theorem Gn(k:Int)(bits:Int):WW ρ 2 rM iR (k,bits):=by
 simp only[iR,RR]
 unfold rM
 simp (disch:=first|omega|assumption|(constructor<;>first|assumption|omega)|simp only[LN];omega) only[↓SB,S1,↓wX]
 refine ⟨fun h=>by simp[h],fun h=>⟨fun h2=>?_,fun h2=>⟨fun h3=>?_,fun h3=>?_⟩⟩⟩
 ·have: ¬0≤bits:=by omega
  simp[h,this]
 ·have: ¬bits≤61:=by omega
  simp[h,this]
 ·have a:=Hl.1 h
  have b:(1:Int)≤2 ^ bits.toNat∧(2:Int) ^ bits.toNat<4611686018427387904:=Gm ⟨bits.toNat,by omega⟩
  rw[Lp (by omega) (by omega)]
  simp (disch:=first|omega|assumption|(constructor<;>first|assumption|omega)|simp only[LN];omega) only[↓SB,S1,↓wX]
  have c:bits≤61:=by omega
  have d:0≤bits:=by omega
  simp[h,c,d]
def kp:=And.intro @cd (And.intro @oH (@rT))
theorem CH(t:Int)(l:List Int)(hg:am (dT (t,l)).2.1):WW ρ 2 nV dT (t,l):=by
 simp only[dT,RR] at hg ⊢
 unfold nV ly
 simp only[am,bc] at hg
 simp (disch:=first|omega|assumption|(constructor<;>first|assumption|omega)|simp only[LN];omega) only[↓SB,S1,↓kp]
 rcases Bool.eq_false_or_eq_true (isT t) with h | h
 case inr=>simp[h]
 simp only[h,if_true,Bool.true_eq_false,forall_const,if_false,Int.reduceEq,not_true_eq_false,false_implies,not_false_eq_true,true_and]
 refine ⟨fun h2=>by simp[h2],fun h2=>⟨fun h3=>?_,fun h3=>?_⟩⟩
 ·have:l=[]:=List.eq_nil_of_length_eq_zero (by omega)
  subst this;simp
 ·cases l with
  | nil=>simp at h3
  | cons y l0 =>
   simp only[h2,if_true]
   rw[jB (by omega) (by simp)]
   simp (disch:=first|omega|assumption|(constructor<;>first|assumption|omega)|simp only[LN];omega) only[↓SB,S1,↓kp]
   generalize hl:y::l0=l at *
   refine aK.rule (α:=Nat×Int) (fun a=>[I a.2,I a.1]) (fun a=>a.1≤l.length∧fL t a.2 (l.drop a.1)=fL t y l) (fun a=>l.length-a.1) (0,y) rfl ⟨by simp,by simp⟩ (fun _=>rfl) ?_
   rintro ⟨i,b⟩ ⟨h4,h5⟩
   simp only[app] at *
   simp (disch:=first|omega|assumption|(constructor<;>first|assumption|omega)|simp only[LN];omega) only[↓SB,S1,↓kp]
   refine ⟨fun h6=>?_,fun h6=>?_⟩
   ·obtain ⟨x,hx⟩:=aE h6
    rw[aM hx,fL] at h5
    simp (disch:=first|omega|assumption|(constructor<;>first|assumption|omega)|simp only[LN];omega) only[↓SB,S1,↓kp,ar hx]
    refine ⟨fun h7=>⟨(i+1,x),by simp,⟨by simp;omega,by simpa[h7] using h5⟩,by simp;omega⟩,fun h7=>⟨(i+1,b),by simp,⟨by simp;omega,by simpa[h7] using h5⟩,by simp;omega⟩⟩
   ·rw[aH h6] at h5
    simp[←h5,fL]
theorem rY{xs:List Int}{i:Nat}{x d:Int}(h:xs[i]? =some x):(xs.take (i+1)).getLastD d=x:=by
 rw[←I9 h,List.getLastD_concat]
def jm:=And.intro @bi (@cO)
theorem yV(live:List Int)(self:Int)(hg:am (cZ (live,self)).2.1):WW ρ 2 m0 cZ (live,self):=by
 simp only[cZ,RR] at hg ⊢
 unfold m0 BD
 simp only[am,bc] at hg
 simp (disch:=first|omega|assumption|(constructor<;>first|assumption|omega)|simp only[LN];omega) only[↓SB,S1,↓jm]
 refine aK.rule (α:=Nat) (fun i=>[I i]) (fun i=>i≤live.length∧kK (((live.take i).getLastD (-1))) (live.drop i)=kK (-1) live) (fun i=>live.length-i) 0 rfl ⟨by simp,by simp⟩ (fun _=>rfl) ?_
 rintro i ⟨h4,h5⟩
 simp only[app] at *
 simp (disch:=first|omega|assumption|(constructor<;>first|assumption|omega)|simp only[LN];omega) only[↓SB,S1,↓jm]
 refine ⟨fun h6=>?_,fun h6=>?_⟩
 ·obtain ⟨x,hx⟩:=aE h6
  rw[aM hx,kK] at h5
  simp (disch:=first|omega|assumption|(constructor<;>first|assumption|omega)|simp only[LN];omega) only[↓SB,S1,↓jm,ar hx]
  refine ⟨fun h7=>?_,fun h7=>⟨fun h8=>?_,fun h8=>?_⟩⟩
  ·rw[←h5];simp[h7]
  ·obtain ⟨j,rfl⟩: ∃j,i=j+1:=⟨i-1,by omega⟩
   have hj:(((j+1:Nat):Int)-1)=(j:Nat):=by omega
   obtain ⟨y,hy⟩:=aE (xs:=live) (i:=j) (by omega)
   rw[rY hy] at h5
   rw[hj]
   simp (disch:=first|omega|assumption|(constructor<;>first|assumption|omega)|simp only[LN];omega) only[↓SB,S1,↓jm,ar hx,ar hy]
   refine ⟨fun h9=>?_,fun h9=>⟨j+2,by simp;omega,⟨by omega,?_⟩,by omega⟩⟩
   ·have: ¬y<x:=by omega
    rw[←h5];simp[this]
   ·rw[rY hx,←h5]
    have:y<x:=by omega
    simp[h7,this]
  ·have:i=0:=by omega
   subst this
   refine ⟨1,by simp,⟨by omega,?_⟩,by omega⟩
   rw[rY hx,←h5]
   have:=bx.1 h7
   have:(-1:Int)<x:=by omega
   simp[h7,this]
 ·rw[aH h6] at h5
  simp only[kK] at h5
  rw[←h5]
  refine ⟨fun h=>by rw[h];simp,fun h=>by rw[h];simp⟩
def mS:=And.intro @lF (@qM)
theorem yW(live:List Int)(k:Int)(hp:live.all isN=true∧0≤k∧k<4611686018427387904)(hg:am (da (live,k)).2.1):WW ρ 2 ma da (live,k):=by
 simp only[da,RR] at hg ⊢
 unfold ma pO
 simp only[am,bc] at hg
 obtain ⟨p1,p2,p3⟩:=hp
 rw[List.all_eq_true] at p1
 simp (disch:=first|omega|assumption|(constructor<;>first|assumption|omega)|simp only[LN];omega) only[↓SB,S1,↓mS]
 refine aK.rule (α:=Nat×Int×Int) (fun a=>[I a.2.1,I a.2.2,I a.1]) (fun a=>a.1≤live.length∧jh k a.2.1 a.2.2 (live.drop a.1)=jh k (-1) 0 live) (fun a=>live.length-a.1) (0,-1,0) rfl ⟨by simp,by simp⟩ (fun _=>rfl) ?_
 rintro ⟨i,b,d⟩ ⟨h4,h5⟩
 simp only[app] at *
 simp (disch:=first|omega|assumption|(constructor<;>first|assumption|omega)|simp only[LN];omega) only[↓SB,S1,↓mS]
 refine ⟨fun h6=>?_,fun h6=>?_⟩
 ·obtain ⟨x,hx⟩:=aE h6
  rw[aM hx,jh] at h5
  have hN:=p1 x (List.mem_of_getElem? hx)
  have hb:=nk x
  simp (disch:=first|omega|assumption|(constructor<;>first|assumption|omega)|simp only[LN];omega) only[↓SB,S1,↓mS,ar hx,hN,if_true]
  refine ⟨fun h7=>⟨(i+1,x,far k (nn x)),by simp,⟨by simp;omega,by simpa[h7] using h5⟩,by simp;omega⟩,fun h7=>⟨fun h8=>⟨(i+1,x,far k (nn x)),by simp,⟨by simp;omega,by simpa[h8] using h5⟩,by simp;omega⟩,fun h8=>⟨(i+1,b,d),by simp,⟨by simp;omega,by simpa[h7,h8] using h5⟩,by simp;omega⟩⟩⟩
 ·rw[aH h6,jh] at h5
  simp[←h5]
def mT:=And.intro @lF (@qM)
theorem yX(live:List Int)(self:Int)(hp:live.all isN=true∧isN self=true)(hg:am (db (live,self)).2.1):WW ρ 2 mb db (live,self):=by
 simp only[db,RR] at hg ⊢
 unfold mb dB
 simp only[am,bc] at hg
 obtain ⟨p1,p2⟩:=hp
 rw[List.all_eq_true] at p1
 simp (disch:=first|omega|assumption|(constructor<;>first|assumption|omega)|simp only[LN];omega) only[↓SB,S1,↓mT]
 refine aK.rule (α:=Nat×Int×Int) (fun a=>[I a.2.1,I a.2.2,I a.1]) (fun a=>a.1≤live.length∧bW self a.2.1 a.2.2 (live.drop a.1)=bW self (-1) 0 live) (fun a=>live.length-a.1) (0,-1,0) rfl ⟨by simp,by simp⟩ (fun _=>rfl) ?_
 rintro ⟨i,b,d⟩ ⟨h4,h5⟩
 simp only[app] at *
 simp (disch:=first|omega|assumption|(constructor<;>first|assumption|omega)|simp only[LN];omega) only[↓SB,S1,↓mT]
 refine ⟨fun h6=>?_,fun h6=>?_⟩
 ·obtain ⟨x,hx⟩:=aE h6
  rw[aM hx,bW] at h5
  have hN:=p1 x (List.mem_of_getElem? hx)
  have hb:=nk x
  have hb2:=nk self
  simp (disch:=first|omega|assumption|(constructor<;>first|assumption|omega)|simp only[LN];omega) only[↓SB,S1,↓mT,ar hx,hN,p2,if_true]
  refine ⟨fun h7=>⟨fun h8=>⟨(i+1,x,far (nn x) (nn self)),by simp,⟨by simp;omega,by simpa[h7,h8] using h5⟩,by simp;omega⟩,fun h8=>⟨fun h9=>⟨(i+1,x,far (nn x) (nn self)),by simp,⟨by simp;omega,by simpa[h7,h8,h9] using h5⟩,by simp;omega⟩,fun h9=>⟨(i+1,b,d),by simp,⟨by simp;omega,by simpa[h7,h8,h9] using h5⟩,by simp;omega⟩⟩⟩,fun h7=>⟨(i+1,b,d),by simp,⟨by simp;omega,by simpa[h7] using h5⟩,by simp;omega⟩⟩
 ·rw[aH h6,bW] at h5
  simp[←h5]
theorem wY: ∀ {l:List Int} {p:Int},kK p l=true→l.all isN=true
 | [],_,_=>rfl
 | x::r,p,h=>by
  simp only[kK,Bool.and_eq_true] at h
  rw[List.all_cons,h.1.1,wY h.2];rfl
theorem tU{live:List Int}{self:Int}(h:BD live self=0):(live.all isN=true∧isN self=true)∧(live.all isN=true∧isN self=true∧live≠[])∧kK (-1) live=true∧live.contains self=true:=by
 unfold BD at h
 split at h
 ·rename_i h1
  rw[Bool.and_eq_true] at h1
  have a:=wY h1.1
  have b:isN self=true:=by
   rw[List.all_eq_true] at a;exact a self (by simpa using h1.2)
  exact ⟨⟨a,b⟩,⟨a,b,by rintro rfl;simp at h1⟩,h1.1,h1.2⟩
 ·omega
def yY:=And.intro @oH (@ym)
theorem yZ(t:Int)(live:List Int)(self:Int)(hg:am (dc (t,live,self)).2.1):WW ρ 3 mc dc (t,live,self):=by
 simp only[dc,RR] at hg ⊢
 unfold mc lW
 simp (disch:=first|omega|assumption|(constructor<;>first|assumption|omega)|simp only[LN];omega) only[↓SB,S1,↓yY]
 refine ⟨fun h=>by simp[h],fun h=>by simp[h]⟩
end Go.Xt
end
section
set_option linter.unusedSimpArgs false
set_option linter.unusedVariables false
set_option maxRecDepth 100000
namespace Go.Xt
set_option linter.defProp false
theorem Jh: ∀ {xs ys:List Int},xs.Pairwise (· < ·)→ys.Pairwise (· < ·)→(∀a,a∈xs↔a∈ys)→xs=ys
 | [],[],_,_,_=>rfl
 | [],y::ys,_,_,h=>by have:=(h y).2 (by simp);simp at this
 | x::xs,[],_,_,h=>by have:=(h x).1 (by simp);simp at this
 | x::xs,y::ys,h1,h2,h=>by
  rw[List.pairwise_cons] at h1 h2
  have e:x=y:=by
   have a:=(h x).1 (by simp)
   have b:=(h y).2 (by simp)
   rw[List.mem_cons] at a b
   rcases a with a | a
   ·exact a
   ·rcases b with b | b
    ·exact b.symm
    ·have:=h2.1 x a;have:=h1.1 y b;omega
  subst e
  rw[Jh h1.2 h2.2 fun a=>⟨fun ha=>?_,fun ha=>?_⟩]
  ·have:=(h a).1 (by simp[ha])
   rw[List.mem_cons] at this
   rcases this with e | e
   ·have:=h1.1 a ha;omega
   ·exact e
  ·have:=(h a).2 (by simp[ha])
   rw[List.mem_cons] at this
   rcases this with e | e
   ·have:=h2.1 a ha;omega
   ·exact e
theorem tV: ∀ {r:List Int} {p:Int},r.Pairwise (· ≤ ·)→(∀a∈r,p≤a)→(jC p r).Pairwise (· < ·)∧(∀a,a∈jC p r↔a∈r∧a≠p)
 | [],p,_,_=>by simp[jC]
 | y::r,p,h1,h2=>by
  rw[List.pairwise_cons] at h1
  unfold jC
  by_cases e:y=p
  ·subst e
   obtain ⟨a,b⟩:=tV h1.2 h1.1
   rw[if_pos rfl]
   refine ⟨a,fun z=>?_⟩
   rw[b,List.mem_cons]
   exact ⟨fun h=>⟨.inr h.1,h.2⟩,fun h=>⟨h.1.resolve_left h.2,h.2⟩⟩
  ·obtain ⟨a,b⟩:=tV h1.2 h1.1
   rw[if_neg e]
   refine ⟨List.pairwise_cons.2 ⟨fun z hz=>?_,a⟩,fun z=>?_⟩
   ·have:=(b z).1 hz
    have:=h1.1 z this.1
    omega
   ·have hy:=h2 y (by simp)
    rw[List.mem_cons,b,List.mem_cons]
    constructor
    ·rintro (rfl | ⟨h,h'⟩)
     ·exact ⟨.inl rfl,e⟩
     ·exact ⟨.inr h,by have:=h1.1 z h;omega⟩
    ·rintro ⟨rfl | h,h'⟩
     ·exact .inl rfl
     ·by_cases z=y
      ·left;assumption
      ·right;exact ⟨h,by assumption⟩
theorem Kf{l:List Int}(h:l.Pairwise (· ≤ ·)):(bd l).Pairwise (· < ·)∧ ∀a,a∈bd l↔a∈l:=by
 cases l with
 | nil=>simp[bd]
 | cons x r =>
  rw[List.pairwise_cons] at h
  obtain ⟨a,b⟩:=tV h.2 h.1
  unfold bd
  refine ⟨List.pairwise_cons.2 ⟨fun z hz=>?_,a⟩,fun z=>?_⟩
  ·have:=(b z).1 hz
   have:=h.1 z this.1
   omega
  ·rw[List.mem_cons,b,List.mem_cons]
   by_cases e:z=x<;>simp[e]
theorem Gp{l:List Int}{a:Int}:a∈jD l↔a∈l:=List.mem_mergeSort
theorem Ia(l:List Int):(jD l).Pairwise (· ≤ ·):=by
 have:=List.pairwise_mergeSort (le:=fun x y:Int=>decide (x≤y)) (by intro a b c;simp;omega) (by intro a b;simp;omega) l
 simpa[jD] using this
theorem Gq{a:Int}:a∈nN↔isN a=true:=by
 rw[bx];simp[nN];omega
theorem Ji:nN.Pairwise (· < ·):=by decide
theorem EN{l:List Int}(h: ∀a∈l,isN a=true):bd (jD l)=nN.filter fun n=>l.contains n:=by
 obtain ⟨a,b⟩:=Kf (Ia l)
 refine Jh a (Ji.filter _) fun z=>?_
 rw[b,Gp,List.mem_filter,Gq]
 simp only[List.contains_eq_mem,decide_eq_true_eq]
 exact ⟨fun hz=>⟨h z hz,hz⟩,fun hz=>hz.2⟩
theorem qr{k:Int}: ∀(l:List Int) (b d:Int),(jh k b d l=b∧(0≤b∨l=[]))∨jh k b d l∈l
 | [],b,d=>.inl ⟨rfl,.inr rfl⟩
 | x::r,b,d=>by
  unfold jh
  split
  ·rcases qr r x (far k (nn x)) with ⟨h,_⟩ | h
   ·right;rw[h];simp
   ·right;simp[h]
  ·rename_i hb
   rcases qr r b d with ⟨h,_⟩ | h
   ·left;exact ⟨h,.inl (by omega)⟩
   ·right;simp[h]
theorem Gr{live:List Int}{k:Int}(h:live≠[]):pO live k∈live:=by
 rcases qr (k:=k) live (-1) 0 with ⟨_,h1 | h1⟩ | h1
 ·omega
 ·exact absurd h1 h
 ·exact h1
theorem rZ(live:List Int)(self:Int)(k:Nat):oW live self (k+1)=oW live self k++if pO live (rh self k)≠self then [pO live (rh self k)] else []:=by
 unfold oW
 rw[List.range_succ,List.map_append,List.filter_append]
 congr 1
 by_cases h:pO live (rh self k)=self<;>simp[h]
theorem Ad(live:List Int)(self:Int): ∀k:Nat,(oW live self k).length≤k
 | 0=>by simp[oW]
 | k+1=>by
  have:=Ad live self k
  rw[rZ,List.length_append]
  split<;>simp<;>omega
theorem Ae{live:List Int}{self n:Int}{k:Nat}(h0:live≠[])(h:n∈oW live self k):n∈live∧n≠self:=by
 unfold oW at h
 simp only[List.mem_filter,List.mem_map,decide_eq_true_eq] at h
 obtain ⟨⟨i,_,rfl⟩,h2⟩:=h
 exact ⟨Gr h0,h2⟩
theorem Jj(self:Int){i:Nat}(h:i<62):0≤rh self i∧rh self i<4611686018427387904:=by
 have b:(1:Int)≤2 ^ i∧(2:Int) ^ i<4611686018427387904:=Gm ⟨i,h⟩
 exact Lo (by omega) b.2 (nk self).1 (nk self).2
theorem Gs{live:List Int}{self:Int}(h1:live.all isN=true)(h3:live≠[]):bd (jD (oW live self 62))=hD live self:=by
 rw[List.all_eq_true] at h1
 rw[EN fun a ha=>h1 a (Ae h3 ha).1];rfl
theorem Gt(l:List Int):(jD l).length=l.length:=List.length_mergeSort ..
def gd:=And.intro @lF (And.intro @G5 (And.intro @yn (And.intro @pg (@mN))))
theorem uT(live:List Int)(self:Int)(hp:live.all isN=true∧isN self=true∧live≠[])(hg:am (co (live,self)).2.1):WW ρ 2 jK co (live,self):=by
 simp only[co,RR] at hg ⊢
 unfold jK
 obtain ⟨p1,p2,p3⟩:=hp
 simp (disch:=first|omega|assumption|(constructor<;>first|assumption|omega)|simp only[LN];omega) only[↓SB,S1,↓gd,p2,if_true]
 refine aK.rule (α:=Nat) (fun i=>[I i,L (oW live self i)]) (fun i=>i≤62) (fun i=>62-i) 0 rfl (by simp) (fun _=>rfl) ?_
 intro i h4
 simp only[app] at *
 have hl:=Ad live self i
 simp (disch:=first|omega|assumption|(constructor<;>first|assumption|omega)|simp only[LN];omega) only[↓SB,S1,↓gd]
 refine ⟨fun h6=>?_,fun h6=>?_⟩
 ·have e:(isK (nn self)&&decide (0≤(i:Int))&&decide ((i:Int)≤61))=true:=by simp[Ln];omega
  have hb:=Jj self (i:=i) (by omega)
  have hk:live.all isN=true∧0≤rh self i∧rh self i<4611686018427387904:=⟨p1,hb⟩
  have e2:far (2 ^ i) (nn self)=rh self i:=rfl
  simp (disch:=first|omega|assumption|(constructor<;>first|assumption|omega)|simp only[LN];omega) only[↓SB,S1,↓gd,e,if_true,Int.toNat_natCast,e2]
  refine ⟨fun h7=>⟨i+1,?_,by omega,by omega⟩,fun h7=>⟨i+1,?_,by omega,by omega⟩⟩
  ·rw[rZ];simp[h7]
  ·rw[rZ];simp[h7]
 ·have e:i=62:=by omega
  subst e
  have hs:=Gt (oW live self 62)
  simp (disch:=first|omega|assumption|(constructor<;>first|assumption|omega)|simp only[LN];omega) only[↓SB,S1,↓gd,Gs p1 p3]
theorem qt{self:Int}: ∀(l:List Int) (b d:Int),bW self b d l=b∨(bW self b d l∈l∧bW self b d l≠self)
 | [],b,d=>.inl rfl
 | x::r,b,d=>by
  unfold bW
  split
  ·rename_i h1
   rcases qt r x (far (nn x) (nn self)) with h | h
   ·right;rw[h];exact ⟨by simp,h1.1⟩
   ·right;exact ⟨by simp[h],h.2⟩
  ·rcases qt r b d with h | h
   ·left;exact h
   ·right;exact ⟨by simp[h],h.2⟩
theorem Gu(live:List Int)(self:Int):dB live self= -1∨(dB live self∈live∧dB live self≠self):=qt live (-1) 0
theorem EO(live:List Int)(self:Int):(hD live self).length≤8:=by
 have:=List.length_filter_le (fun n=>(oW live self 62).contains n) nN
 exact this
def oP:=And.intro @cd (And.intro @uI (@yo))
theorem CI(t:Int)(live:List Int)(self:Int)(hp:live.all isN=true∧isN self=true∧live≠[])(hg:am (dU (t,live,self)).2.1):WW ρ 3 nW dU (t,live,self):=by
 simp only[dU,RR] at hg ⊢
 unfold nW br
 have hA:live.all isN=true∧isN self=true:=⟨hp.1,hp.2.1⟩
 have hl:=EO live self
 simp (disch:=first|omega|assumption|(constructor<;>first|assumption|omega)|simp only[LN];omega) only[↓SB,S1,↓oP]
 have hl2:(hD live self++[dB live self]).length≤9:=by simp;omega
 generalize hD live self++[dB live self]=l at hl2 ⊢
 refine aK.rule (α:=Nat×Int) (fun a=>[I a.2,I a.1]) (fun a=>a.1≤l.length∧fL t a.2 (l.drop a.1)=fL t self l) (fun a=>l.length-a.1) (0,self) rfl ⟨by simp,by simp⟩ (fun _=>rfl) ?_
 rintro ⟨i,b⟩ ⟨h4,h5⟩
 simp only[app] at *
 simp (disch:=first|omega|assumption|(constructor<;>first|assumption|omega)|simp only[LN];omega) only[↓SB,S1,↓oP]
 refine ⟨fun h6=>?_,fun h6=>?_⟩
 ·obtain ⟨x,hx⟩:=aE h6
  rw[aM hx,fL] at h5
  simp (disch:=first|omega|assumption|(constructor<;>first|assumption|omega)|simp only[LN];omega) only[↓SB,S1,↓oP,ar hx]
  refine ⟨fun h7=>⟨(i+1,x),by simp,⟨by simp;omega,by simpa[h7] using h5⟩,by simp;omega⟩,fun h7=>⟨(i+1,b),by simp,⟨by simp;omega,by simpa[h7] using h5⟩,by simp;omega⟩⟩
 ·rw[aH h6,fL] at h5
  rw[←h5]
  refine ⟨fun h=>by simp[h],fun h=>by simp[h]⟩
theorem jc{t:Int}: ∀(l:List Int) (b:Int),fL t b l=b∨(cq t (fL t b l) b=true∧fL t b l∈l)
 | [],b=>.inl rfl
 | x::r,b=>by
  unfold fL
  by_cases h:cq t x b=true
  ·rw[if_pos h]
   rcases jc r x (t:=t) with e | e
   ·right;rw[e];exact ⟨h,by simp⟩
   ·right;exact ⟨kZ e.1 h,by simp[e.2]⟩
  ·rw[if_neg h]
   rcases jc r b (t:=t) with e | e
   ·left;exact e
   ·right;exact ⟨e.1,by simp[e.2]⟩
theorem l8(t:Int)(live:List Int)(self:Int):br t live self= -1∨(cq t (br t live self) self=true∧br t live self∈hD live self++[dB live self]):=by
 unfold br
 split
 ·left;rfl
 ·rename_i h
  exact .inr ((jc _ _).resolve_left h)
theorem Ib{t:Int}{live:List Int}{self:Int}(h:0≤br t live self):cq t (br t live self) self=true:=by
 rcases l8 t live self with e | e
 ·omega
 ·exact e.1
def sY:=And.intro @yp (@BM)
theorem CJ(t:Int)(live:List Int)(self:Int)(hg:am (dV (t,live,self)).2.1):WW ρ 3 nX dV (t,live,self):=by
 simp only[dV,RR] at hg ⊢
 unfold nX
 simp (disch:=first|omega|assumption|(constructor<;>first|assumption|omega)|simp only[LN];omega) only[↓SB,S1,↓sY]
 refine ⟨fun h=>by simp[h],fun h=>?_⟩
 have hB:live.all isN=true∧isN self=true∧live≠[]:=by
  unfold lW at h
  by_cases h2:BD live self=0
  ·exact (tU h2).2.1
  ·rw[if_neg h2] at h;exact absurd h h2
 simp (disch:=first|omega|assumption|(constructor<;>first|assumption|omega)|simp only[LN];omega) only[↓SB,S1,↓sY]
 refine ⟨fun h2=>?_,fun h2=>?_⟩
 ·have:max (br t live self) 0=0:=by omega
  simp[h,this];omega
 ·have:max (br t live self) 0=br t live self:=by omega
  simp[h,this];omega
end Go.Xt
end
section
set_option linter.unusedSimpArgs false
set_option linter.unusedVariables false
set_option maxRecDepth 100000
namespace Go.Xt
def mk(live:List Int)(self:Int)(i:Nat):List Bool:=(List.range 8).map fun (n:Nat)=>((List.range i).map fun j=>pO live (rh self j)).contains (n:Int)
theorem map_set{k m:Nat}{f g:Nat→Bool}(h: ∀n,g n=(f n||decide (m=n))):(List.range k).map g=((List.range k).map f).set m true:=by
 refine List.ext_getElem (by simp) fun n h1 h2=>?_
 rw[List.getElem_set]
 simp only[List.getElem_map,List.getElem_range,h]
 by_cases e:m=n<;>simp[e]
theorem wZ{live:List Int}{self x:Int}(h3:live≠[])(h:x∈hD live self++[dB live self]):x= -1∨(x∈live∧x≠self):=by
 rw[List.mem_append,List.mem_singleton] at h
 rcases h with h | h
 ·right
  unfold hD at h
  rw[List.mem_filter] at h
  exact Ae h3 (by simpa using h.2)
 ·rcases Gu live self with e | e
  ·left;rw[h,e]
  ·right;rw[h];exact e
theorem Jk{t:Int}{live:List Int}{self:Int}(h3:live≠[])(h:0≤br t live self):br t live self∈live:=by
 rcases l8 t live self with e | e
 ·omega
 ·rcases wZ h3 e.2 with h1 | h1
  ·omega
  ·exact h1.1
end Go.Xt
end
section
set_option linter.unusedSimpArgs false
set_option linter.unusedVariables false
set_option maxRecDepth 100000
namespace Go.Xt
set_option linter.defProp false
instance:FlatRow Call:=⟨fun a q hq=>by simp[Row.row] at hq;rcases hq with rfl | rfl | rfl<;>rfl⟩
instance:FlatRow Mark:=⟨fun a q hq=>by simp[Row.row] at hq;rcases hq with rfl | rfl | rfl<;>rfl⟩
instance:FlatRow Mark2:=⟨fun a q hq=>by simp[Row.row] at hq;rcases hq with rfl | rfl | rfl | rfl | rfl<;>rfl⟩
theorem jx{w:Nat}{k:PV→Prop}(h:0<w):OP (.rows w) [] k=k (.list []):=az (by simp[ev,bV];omega)
theorem iy(l:List Peer)(hp:l.length≤1000000):WW ρ 1 bJ aA l:=by
 simp only[aA,RR]
 unfold bJ
 rw[pN]
 refine ⟨fun h=>?_,?_⟩
 ·subst h;simp (disch:=first|omega|assumption|(constructor<;>first|assumption|omega)|simp only[LN];omega) only[↓SB,S1]
  rfl
 ·simp (disch:=first|omega|assumption|(constructor<;>first|assumption|omega)|simp only[LN];omega) only[↓SB,S1,↓jx]
theorem iz(l:List Call)(hp:l.length≤1000000):WW ρ 1 bK aB l:=by
 simp only[aB,RR]
 unfold bK
 rw[pN]
 refine ⟨fun h=>?_,?_⟩
 ·subst h;simp (disch:=first|omega|assumption|(constructor<;>first|assumption|omega)|simp only[LN];omega) only[↓SB,S1]
  rfl
 ·simp (disch:=first|omega|assumption|(constructor<;>first|assumption|omega)|simp only[LN];omega) only[↓SB,S1,↓jx]
theorem iA(l:List Mark)(hp:l.length≤1000000):WW ρ 1 bM aC l:=by
 simp only[aC,RR]
 unfold bM
 rw[pN]
 refine ⟨fun h=>?_,?_⟩
 ·subst h;simp (disch:=first|omega|assumption|(constructor<;>first|assumption|omega)|simp only[LN];omega) only[↓SB,S1]
  rfl
 ·simp (disch:=first|omega|assumption|(constructor<;>first|assumption|omega)|simp only[LN];omega) only[↓SB,S1,↓jx]
theorem gr(l:List Mark2)(hp:l.length≤1000000):WW ρ 1 bu ax l:=by
 simp only[ax,RR]
 unfold bu
 rw[pN]
 refine ⟨fun h=>?_,?_⟩
 ·subst h;simp (disch:=first|omega|assumption|(constructor<;>first|assumption|omega)|simp only[LN];omega) only[↓SB,S1]
  rfl
 ·simp (disch:=first|omega|assumption|(constructor<;>first|assumption|omega)|simp only[LN];omega) only[↓SB,S1,↓jx]
theorem jd(l:List Kid)(hp:l.length≤1000000):WW ρ 1 bY aG l:=by
 simp only[aG,RR]
 unfold bY
 rw[pN]
 refine ⟨fun h=>?_,?_⟩
 ·subst h;simp (disch:=first|omega|assumption|(constructor<;>first|assumption|omega)|simp only[LN];omega) only[↓SB,S1]
  rfl
 ·simp (disch:=first|omega|assumption|(constructor<;>first|assumption|omega)|simp only[LN];omega) only[↓SB,S1,↓jx]
theorem gt(l:List Event)(hp:l.length≤1000000):WW ρ 1 bv ay l:=by
 simp only[ay,RR]
 unfold bv
 rw[pN]
 refine ⟨fun h=>?_,?_⟩
 ·subst h;simp (disch:=first|omega|assumption|(constructor<;>first|assumption|omega)|simp only[LN];omega) only[↓SB,S1]
  rfl
 ·simp (disch:=first|omega|assumption|(constructor<;>first|assumption|omega)|simp only[LN];omega) only[↓SB,S1,↓jx]
theorem iB(l:List Item)(hp:l.length≤1000000):WW ρ 1 bO aD l:=by
 simp only[aD,RR]
 unfold bO
 rw[pN]
 refine ⟨fun h=>?_,?_⟩
 ·subst h;simp (disch:=first|omega|assumption|(constructor<;>first|assumption|omega)|simp only[LN];omega) only[↓SB,S1]
  rfl
 ·simp (disch:=first|omega|assumption|(constructor<;>first|assumption|omega)|simp only[LN];omega) only[↓SB,S1,↓jx]
theorem oQ(l:List Int)(hp:l.length≤1000000):WW ρ 1 dP aX l:=by
 simp only[aX,RR]
 unfold dP
 rw[pN]
 refine ⟨fun h=>?_,?_⟩
 ·subst h;simp (disch:=first|omega|assumption|(constructor<;>first|assumption|omega)|simp only[LN];omega) only[↓SB,S1]
  rfl
 ·simp (disch:=first|omega|assumption|(constructor<;>first|assumption|omega)|simp only[LN];omega) only[↓SB,S1,↓jx]
def CK:=And.intro @ix (And.intro @iZ (And.intro @bw (@iw)))
theorem CL(x:Topic)(hp:dO x=false):WW ρ 16 ox fD x:=by
 simp only[fD,RR]
 unfold ox
 have hb:=rW hp
 simp (disch:=first|omega|assumption|(constructor<;>first|assumption|omega)|simp only[LN];omega) only[↓SB,S1,↓CK]
theorem EP(x:Event):WW ρ 6 pZ gA x:=by
 simp only[gA,RR]
 unfold pZ pe nb
 simp (disch:=first|omega|assumption|(constructor<;>first|assumption|omega)|simp only[LN];omega) only[↓SB,S1]
 refine ⟨fun h=>?_,fun h=>⟨fun h2=>?_,fun h2=>?_⟩⟩ <;>simp[*]
def EQ:=And.intro @bw (@Eg)
theorem ER(l:List Event)(limit:Int)(x:Event)(hp:l.length≤1000000)(hg:am (fg (l,limit,x)).2.1):WW ρ 8 qb fg (l,limit,x):=by
 simp only[fg,RR] at hg ⊢
 unfold qb tJ
 simp (disch:=first|omega|assumption|(constructor<;>first|assumption|omega)|simp only[LN];omega) only[↓SB,S1,↓EQ]
 refine ⟨fun h=>?_,fun h=>?_⟩ <;>simp[h]
theorem Gv{l:List Event}{limit:Int}(h:cb l limit=true):2≤limit∧limit≤32∧(l.length:Int)≤limit∧l.all iG=true:=by
 simp only[cb,Bool.and_eq_true,decide_eq_true_eq] at h
 obtain ⟨⟨⟨h1,h2⟩,h3⟩,_⟩:=h
 have:=bg h1
 exact ⟨this.1,this.2,h2,h3⟩
def gF:=And.intro @bw (And.intro @rn (And.intro @ce (@Ef)))
theorem ES(l:List Event)(limit:Int)(x:Event)(hg:am (fe (l,limit,x)).2.1):WW ρ 8 qa fe (l,limit,x):=by
 simp only[fe,RR] at hg ⊢
 unfold qa
 generalize hE:wm l limit x=q
 refine SUB.v1 (bb (!(cb l limit&&iG x))) ?_ ?_
 ·repeat' (first | apply And.intro | intro _ | simp (disch:=first|omega|assumption|(constructor<;>first|assumption|omega)|simp only[LN];omega) only[↓SB,S1,↓gF])
  all_goals simp_all
 unfold wm at hE
 cases h0:(cb l limit&&iG x)
 ·simp (disch:=first|omega|assumption|(constructor<;>first|assumption|omega)|simp only[LN];omega) only[↓SB,S1,↓gF]
  simp[h0] at hE;rw[←hE];rfl
 ·rw[if_pos h0] at hE
  simp only[Bool.and_eq_true] at h0
  have hb:=Gv h0.1
  simp (disch:=first|omega|assumption|(constructor<;>first|assumption|omega)|simp only[LN];omega) only[↓SB,S1,↓gF]
  refine ⟨fun h1=>?_,fun h1=>?_⟩
  ·rw[if_pos h1] at hE;rw[←hE]
  ·rw[if_neg h1] at hE
   cases h2:nb x
   ·simp (disch:=first|omega|assumption|(constructor<;>first|assumption|omega)|simp only[LN];omega) only[↓SB,S1,↓gF,h2]
    simp[h2] at hE;rw[←hE];rfl
   ·simp (disch:=first|omega|assumption|(constructor<;>first|assumption|omega)|simp only[LN];omega) only[↓SB,S1,↓gF,h2]
    rw[if_pos h2] at hE
    refine ⟨fun h3=>?_,fun h3=>?_⟩
    ·rw[if_pos h3] at hE;rw[←hE]
    ·rw[if_neg h3] at hE
     obtain ⟨k,hk⟩:=Int.eq_ofNat_of_zero_le (show 0≤limit-1 by omega)
     obtain ⟨y,hy⟩:=aE (xs:=l) (i:=k) (by omega)
     rw[hk] at hE ⊢
     have hgd:l.getD k wk=y:=by simp[List.getD_eq_getElem?_getD,hy]
     simp only[Int.toNat_natCast,hgd] at hE
     simp (disch:=first|omega|assumption|(constructor<;>first|assumption|omega)|simp only[LN];omega) only[↓SB,S1,↓gF,ar hy,↓He,↓cy hy (j:=3) (v:=I (pe x).last) (y:={ y with last:=(pe x).last }) (by simp[Event.row_eq,List.set])]
     refine ⟨fun h4=>?_,fun h4=>⟨fun h5=>?_,fun h5=>?_⟩⟩
     ·rw[if_neg (fun h=>h4 h.1)] at hE;rw[←hE];rfl
     ·rw[if_neg (fun h=>h5 h.2)] at hE;rw[←hE];rfl
     ·rw[if_pos ⟨h4,h5⟩] at hE;rw[←hE]
theorem ET(n:Node)(o:Int)(hg:am (fh (n,o)).2.1):WW ρ 10 qc fh (n,o):=by
 simp only[fh,RR] at hg ⊢
 unfold qc qU
 simp only[am,bc] at hg
 simp (disch:=first|omega|assumption|(constructor<;>first|assumption|omega)|simp only[LN];omega) only[↓SB,S1,↓eM]
 cases h:rng o 0 (n.peers.length-1)
 ·simp (disch:=first|omega|assumption|(constructor<;>first|assumption|omega)|simp only[LN];omega) only[↓SB,S1,↓eM,h]
  simp
 ·have hb:=bg h
  obtain ⟨k,rfl⟩:=Int.eq_ofNat_of_zero_le hb.1
  obtain ⟨y,hy⟩:=aE (xs:=n.peers) (i:=k) (by omega)
  simp (disch:=first|omega|assumption|(constructor<;>first|assumption|omega)|simp only[LN];omega) only[↓SB,S1,↓eM,h,ar hy]
  simp[List.getD_eq_getElem?_getD,hy]
theorem CM(l:List Peer)(n:Int)(hg:am (er (l,n)).2.1):WW ρ 2 oy er (l,n):=by
 simp only[er,RR] at hg ⊢
 unfold oy ib
 cases h:aT l
 ·simp (disch:=first|omega|assumption|(constructor<;>first|assumption|omega)|simp only[LN];omega) only[↓SB,S1,↓ke,h]
  simp
 ·simp (disch:=first|omega|assumption|(constructor<;>first|assumption|omega)|simp only[LN];omega) only[↓SB,S1,↓ke,h]
  refine ⟨fun h1=>?_,fun h1=>⟨fun h2=>?_,fun h2=>?_⟩⟩
  ·rw[if_neg (by omega)]
  ·rw[if_neg (by omega)]
  ·rw[if_pos (by omega)]
theorem Kg{l:List Peer}{n:Int}(h:ib l n=0):aT l=true∧0≤n∧n<l.length:=by
 unfold ib at h
 split at h
 ·split at h
  ·rename_i h1 h2;exact ⟨h1,h2.1,h2.2⟩
  ·omega
 ·omega
theorem kz{l:List Peer}(h:aT l=true):1≤l.length∧l.length≤8:=by
 simp only[aT,Bool.and_eq_true,decide_eq_true_eq] at h;exact h.1
theorem EU(l:List Peer)(self:Int)(hg:am (dK (l,self)).2.1):WW ρ 2 qd dK (l,self):=by
 simp only[dK,RR] at hg ⊢
 unfold qd
 generalize hE:cz l self=q
 simp (disch:=first|omega|assumption|(constructor<;>first|assumption|omega)|simp only[LN];omega) only[↓SB,S1,↓ki]
 refine ⟨fun h=>?_,fun h=>?_⟩
 ·rw[if_neg h];rfl
 obtain ⟨h1,h2,h3⟩:=Kg h
 have hb:=kz h1
 refine aK.rule (α:=Nat×List Int) (fun p=>[I p.1,L p.2]) (fun p=>p.1≤l.length∧p.2.length≤p.1∧p.2++gj self p.1 (l.drop p.1)=q) (fun p=>l.length-p.1) (0,[]) rfl ⟨by simp,by simp,by simpa[cz] using hE⟩ (fun _=>rfl) ?_
 rintro ⟨i,a⟩ ⟨hi,ha,hs⟩
 simp only at hi ha hs
 simp only[app]
 simp (disch:=first|omega|assumption|(constructor<;>first|assumption|omega)|simp only[LN];omega) only[↓SB,S1,↓ki]
 refine ⟨fun h4=>?_,fun h4=>?_⟩
 ·obtain ⟨x,hx⟩:=aE h4
  rw[aM hx,gj] at hs
  simp (disch:=first|omega|assumption|(constructor<;>first|assumption|omega)|simp only[LN];omega) only[↓SB,S1,↓ki,ar hx]
  refine ⟨fun h5=>⟨(i+1,a++[(i:Int)]),rfl,⟨by simp;omega,by simp;omega,?_⟩,by simp;omega⟩,fun h5=>⟨fun h6=>⟨fun h7=>⟨(i+1,a++[(i:Int)]),rfl,⟨by simp;omega,by simp;omega,?_⟩,by simp;omega⟩,fun h7=>⟨(i+1,a),rfl,⟨by simp;omega,by simp;omega,?_⟩,by simp;omega⟩⟩,fun h6=>⟨(i+1,a),rfl,⟨by simp;omega,by simp;omega,?_⟩,by simp;omega⟩⟩⟩
  ·rw[if_pos (.inl h5)] at hs;simpa using hs
  ·rw[if_pos (.inr ⟨h6,h7⟩)] at hs;simpa using hs
  ·rw[if_neg (show ¬((i:Int)=self∨(0<x.inc∧x.age<4)) by omega)] at hs;simpa using hs
  ·rw[if_neg (show ¬((i:Int)=self∨(0<x.inc∧x.age<4)) by omega)] at hs;simpa using hs
 ·rw[aH h4] at hs
  simp[gj] at hs;simp[h,hs]
theorem EV{self:Int}: ∀(l:List Peer) (i x:Int),x∈gj self i l→i≤x∧x<i+l.length
 | [],_,_,h=>by simp[gj] at h
 | p::r,i,x,h=>by
  rw[gj,List.mem_append] at h
  rcases h with h | h
  ·split at h
   ·rw[List.mem_singleton] at h;subst h;simp;omega
   ·simp at h
  ·have:=EV r (i+1) x h;simp;omega
theorem Af{self:Int}: ∀(l:List Peer) (i:Int),i≤self→self<i+l.length→self∈gj self i l
 | [],i,h0,h1=>by simp at h1;omega
 | p::r,i,h0,h1=>by
  rw[gj,List.mem_append]
  by_cases e:i=self
  ·left;rw[if_pos (.inl e),e];simp
  ·right;exact Af r (i+1) (by omega) (by simp at h1;omega)
theorem CN{self:Int}: ∀(l:List Peer) (i p:Int),0≤i→p<i→i+l.length≤8→kK p (gj self i l)=true
 | [],_,_,_,_,_=>rfl
 | q::r,i,p,h0,h1,h2=>by
  simp only[List.length_cons] at h2
  rw[gj]
  split
  ·simp only[List.singleton_append,kK,Bool.and_eq_true,decide_eq_true_eq]
   exact ⟨⟨bx.2 (by omega),h1⟩,CN r (i+1) i (by omega) (by omega) (by omega)⟩
  ·exact CN r (i+1) p (by omega) (by omega) (by omega)
theorem sZ{l:List Peer}{self:Int}(h:aT l=true)(h0:0≤self)(h1:self<l.length):BD (cz l self) self=0:=by
 have hb:=kz h
 unfold BD
 rw[if_pos]
 simp only[Bool.and_eq_true]
 exact ⟨CN l 0 (-1) (by omega) (by omega) (by omega),List.contains_iff_mem.2 (Af l 0 h0 (by omega))⟩
theorem x3(t:Int)(live:List Int)(self:Int): -1≤br t live self:=by
 rcases l8 t live self with h | h
 ·omega
 ·have:=(eA h.1).2.1;omega
def eQ:=And.intro @wA (And.intro @wB (@C2))
theorem za(c:Config)(self:Int)(n:Node)(hg:am (dt (c,self,n)).2.1):WW ρ 17 mG dt (c,self,n):=by
 simp only[dt,RR] at hg ⊢
 unfold mG ba
 cases hc:bt c
 ·simp (disch:=first|omega|assumption|(constructor<;>first|assumption|omega)|simp only[LN];omega) only[↓SB,S1,↓eQ,hc]
 have hb:=dJ hc
 simp (disch:=first|omega|assumption|(constructor<;>first|assumption|omega)|simp only[LN];omega) only[↓SB,S1,↓eQ,hc]
 cases hs:rng self 0 (c.nodes-1)
 ·simp (disch:=first|omega|assumption|(constructor<;>first|assumption|omega)|simp only[LN];omega) only[↓SB,S1,↓eQ,hs]
  simp
 ·simp (disch:=first|omega|assumption|(constructor<;>first|assumption|omega)|simp only[LN];omega) only[↓SB,S1,↓eQ,hs]
  cases hu:n.up
  ·simp (disch:=first|omega|assumption|(constructor<;>first|assumption|omega)|simp only[LN];omega) only[↓SB,S1,↓eQ]
   simp
  ·simp (disch:=first|omega|assumption|(constructor<;>first|assumption|omega)|simp only[LN];omega) only[↓SB,S1,↓eQ]
   cases jH c self n<;>simp
def EW:=And.intro @qp (@sP)
theorem EX(self:Int)(n:Node)(t:Int)(hp:aT n.peers=true∧rng self 0 (n.peers.length-1)=true∧isT t=true)(hg:am (fi (self,n,t)).2.1):WW ρ 11 qe fi (self,n,t):=by
 simp only[fi,RR] at hg ⊢
 unfold qe
 obtain ⟨h1,h2,h3⟩:=hp
 have hb:=kz h1
 have hr:=bg h2
 have hpl:ib n.peers self=0:=by unfold ib;rw[if_pos h1,if_pos (by omega)]
 have hc:=sZ h1 hr.1 (by omega)
 have ha:lW t (cz n.peers self) self=0:=by unfold lW;rw[if_pos hc,if_pos h3]
 simp (disch:=first|omega|assumption|(constructor<;>first|assumption|omega)|simp only[LN];omega) only[↓SB,S1,↓EW,hpl,ha]
 simp
 refine ⟨fun h=>?_,fun h=>?_⟩
 ·have:=x3 t (cz n.peers self) self;omega
 ·omega
end Go.Xt
end
section
set_option linter.unusedSimpArgs false
set_option linter.unusedVariables false
set_option maxRecDepth 100000
namespace Go.Xt
theorem l9{k:PV→Prop}{a b d e f g h i j l m o p q:Int}:OP (.rows 16) [I a,I b,I d,I e,I f,I g,I h,I i,I j,I l,I m,I o,I p,I q,.list [],.list []] k=k (L [(⟨a,b,d,e,f,g,h,i,j,l,m,o,p,q,[],[]⟩:Msg)]):=zW (a_path:=[]) (a_todo:=[])
structure DoesOk (self:Int) (n:Node) (t:Int):Prop where
 ht:isT t=true
 hl:t<n.topics.length
 hp:aT n.peers=true
 hs:rng self 0 (n.peers.length-1)=true
 hk:(Hf n t).kids.length≤8
 h8:(Hf n t).parent≤8
 h0:0≤(Hf n t).parent
 hc:n.calls.length≤100
 hm:n.taken.length≤100
 hq:(Hf n t).queue.length≤1000
end Go.Xt
end
section
set_option linter.unusedSimpArgs false
set_option linter.unusedVariables false
set_option maxRecDepth 100000
namespace Go.Xt
structure NOk (c:Config) (me:Int) (n:Node):Prop where
 inc:cnt n.inc=true
 pubs:rng n.pubs 0 1073741824=true
 asks:rng n.asks 0 40=true
 calls:bD c n.asks 0 n.calls=true
 cl:n.calls.length≤40
 pl:(n.peers.length:Int)=c.nodes
 tl:(n.topics.length:Int)=c.topics
 ml:(n.marks.length:Int)=c.nodes
 kl:n.taken.length≤64
 tops:aN c me 0 n.topics=true
 peers:aT n.peers=true
 marks:n.marks.all kL=true
 taken:n.taken.all (kd c)=true
theorem x4{c:Config}{self:Int}{n:Node}:jH c self n=true↔NOk c self n:=by
 constructor
 ·intro h
  simp only[jH,Bool.and_eq_true,decide_eq_true_eq] at h
  obtain ⟨⟨⟨⟨⟨⟨⟨⟨⟨⟨⟨⟨a,b⟩,d⟩,e⟩,f⟩,g⟩,i⟩,j⟩,k⟩,l⟩,m⟩,o⟩,p⟩:=h
  exact ⟨a,b,d,e,f,g,i,j,k,l,m,o,p⟩
 ·rintro ⟨a,b,d,e,f,g,i,j,k,l,m,o,p⟩
  simp only[jH,Bool.and_eq_true,decide_eq_true_eq]
  exact ⟨⟨⟨⟨⟨⟨⟨⟨⟨⟨⟨⟨a,b⟩,d⟩,e⟩,f⟩,g⟩,i⟩,j⟩,k⟩,l⟩,m⟩,o⟩,p⟩
theorem fY{c:Config}{self:Int}{n:Node}(h:ba c self n=0):bt c=true∧rng self 0 (c.nodes-1)=true∧n.up=true∧NOk c self n:=by
 unfold ba at h
 split at h
 ·split at h
  ·split at h
   ·rename_i h1 h2 h3
    rw[Bool.and_eq_true] at h2
    exact ⟨h1,h2.1,h2.2,x4.1 h3⟩
   ·omega
  ·omega
 ·omega
theorem Lq{c:Config}{self:Int}{n:Node}(h1:bt c=true)(h2:rng self 0 (c.nodes-1)=true)(h3:n.up=true)(h4:NOk c self n):ba c self n=0:=by
 unfold ba;rw[if_pos h1,if_pos (by simp[h2,h3]),if_pos (x4.2 h4)]
theorem nm{c:Config}{self:Int}: ∀ {l:List Topic} {t:Int} {k:Nat} {x:Topic},aN c self t l=true→l[k]? =some x→ap c (t+k) self x=true
 | [],_,_,_,_,h=>by simp at h
 | y::r,t,0,x,h,hx=>by
  rw[aN,Bool.and_eq_true] at h
  simp at hx;subst hx;simpa using h.1
 | y::r,t,k+1,x,h,hx=>by
  rw[aN,Bool.and_eq_true] at h
  have:=nm (k:=k) (x:=x) h.2 (by simpa using hx)
  rw[show t+1+(k:Int)=t+((k+1:Nat):Int) by omega] at this;exact this
theorem EY{c:Config}{self:Int}: ∀ {l:List Topic} {t:Int} {k:Nat} {x:Topic},aN c self t l=true→ap c (t+k) self x=true→aN c self t (l.set k x)=true
 | [],_,_,_,_,h=>rfl
 | y::r,t,0,x,h,hx=>by
  rw[aN,Bool.and_eq_true] at h
  rw[List.set_cons_zero,aN,Bool.and_eq_true]
  exact ⟨by simpa using hx,h.2⟩
 | y::r,t,k+1,x,h,hx=>by
  rw[aN,Bool.and_eq_true] at h
  rw[List.set_cons_succ,aN,Bool.and_eq_true]
  exact ⟨h.1,EY h.2 (by rw[show t+1+(k:Int)=t+((k+1:Nat):Int) by omega];exact hx)⟩
theorem Kh{t n c:Int}{xs:List Int}(h:chk t n xs c=0):(xs.length:Int)≤c:=by
 unfold chk at h
 split at h
 ·split at h
  ·omega
  ·omega
 ·omega
structure TBd (c:Config) (x:Topic):Prop where
 path:x.path.length≤8
 kids:x.kids.length≤4
 kept:x.stream.kept.length≤16
 ahead:x.stream.ahead.length≤16
 queue:x.queue.length≤32
theorem Jl{c:Config}{t self:Int}{x:Topic}(hc:bt c=true)(h:ap c t self x=true):TBd c x∧0≤x.parent∧x.parent≤8:=by
 have hb:=dJ hc
 have hf:=Gl hc h
 simp only[IW,Bool.or_eq_false_iff,decide_eq_false_iff_not] at hf
 obtain ⟨⟨⟨f1,f2⟩,f3⟩,f4⟩:=hf
 simp only[ap,Bool.and_eq_true,decide_eq_true_eq] at h
 have hp:=Kh h.1.1.2
 have hl:=lG h.1.1.1.1.1.1.1.2
 exact ⟨⟨by omega,by omega,by omega,by omega,by omega⟩,hl⟩
theorem gG{c:Config}{t self:Int}{x:Topic}(hc:bt c=true)(h:ap c t self x=true):dO x=false:=by
 obtain ⟨⟨a,b,d,e,f⟩,_⟩:=Jl hc h
 simp[dO,sN];omega
end Go.Xt
end
section
set_option linter.unusedSimpArgs false
set_option linter.unusedVariables false
set_option maxRecDepth 100000
namespace Go.Xt
theorem lI{l:List Event}{limit:Int}:cb l limit=true↔rng limit 2 32=true∧(l.length:Int)≤limit∧l.all iG=true∧((l.length:Int)<limit∨ka l=true):=by
 simp only[cb,Bool.and_eq_true,Bool.or_eq_true,decide_eq_true_eq,and_assoc]
theorem Lr{x:Event}(h:iG x=true)(hs:nb x=true):iG (pe x)=true∧(pe x).kind=2∧(pe x).seq≤(pe x).last∧(pe x).last≤1073741824∧1≤(pe x).seq:=by
 simp only[nb,Bool.or_eq_true,decide_eq_true_eq] at hs
 unfold iG at h
 unfold pe
 by_cases h1:x.kind=1
 ·rw[if_pos h1] at h ⊢
  simp only[Bool.and_eq_true,decide_eq_true_eq,cnt,rng] at h
  obtain ⟨⟨⟨⟨h2,h3⟩,_⟩,_⟩,_⟩:=h
  simp[iG,h2,cnt,rng,h3]
 ·have h2:x.kind=2:=by omega
  rw[if_neg h1,if_pos h2] at h
  rw[if_neg h1,if_pos h2]
  refine ⟨by unfold iG;rw[if_neg h1,if_pos h2];exact h,h2,?_⟩
  simp only[Bool.and_eq_true,decide_eq_true_eq,cnt,rng] at h
  omega
theorem EZ{l:List Event}{x:Event}(h:x.kind=2):ka (l++[x])=true:=by simp[ka,h]
theorem Ls{l:List Event}{limit:Int}{x:Event}(h:(wm l limit x).2=0):cb (wm l limit x).1 limit=true:=by
 unfold wm at h ⊢
 split at h
 ·rename_i h0
  rw[if_pos h0]
  rw[Bool.and_eq_true] at h0
  obtain ⟨hr,hl,ha,hg⟩:=lI.1 h0.1
  have hrb:=bg hr
  split at h
  ·rename_i h1
   rw[if_pos h1]
   refine lI.2 ⟨hr,by simp;omega,by simp only[List.all_append,ha,List.all_cons,List.all_nil,h0.2,Bool.and_self],.inl (by simp;omega)⟩
  ·rename_i h1
   rw[if_neg h1]
   split at h
   ·rename_i h2
    rw[if_pos h2]
    obtain ⟨g1,g2,g3,g4,g5⟩:=Lr h0.2 h2
    split at h
    ·rename_i h3
     rw[if_pos h3]
     refine lI.2 ⟨hr,by simp;omega,by simp only[List.all_append,ha,List.all_cons,List.all_nil,g1,Bool.and_self],.inr (EZ g2)⟩
    ·rename_i h3
     rw[if_neg h3]
     split at h
     ·rename_i h4
      rw[if_pos h4]
      have hlen:(l.length:Int)=limit:=by omega
      obtain ⟨j,hj⟩: ∃j,l.length=j+1:=⟨l.length-1,by omega⟩
      have e1:(limit-1).toNat=j:=by omega
      rw[e1] at h4 ⊢
      have hjl:j<l.length:=by omega
      have hy:l.getD j wk=l[j]:=by simp[List.getD_eq_getElem?_getD,hjl]
      rw[hy] at h4 ⊢
      have hlg:ka l=true:=by rcases hg with hg | hg;omega;exact hg
      have hk:l[j].kind=2:=by
       have:l.getLast? =some l[j]:=by rw[List.getLast?_eq_getElem?,hj,Nat.add_sub_cancel];simp[hjl]
       simp only[ka,this,decide_eq_true_eq] at hlg;exact hlg
      rw[List.all_eq_true] at ha
      have hev:=ha l[j] (List.getElem_mem hjl)
      unfold iG at hev
      rw[if_neg (by omega),if_pos hk] at hev
      simp only[Bool.and_eq_true,decide_eq_true_eq,cnt,rng] at hev
      have hw:IntKind.i64.wrap (l[j].last+1)=l[j].last+1:=wr (by omega) (by omega)
      rw[hw] at h4
      have hnew:iG { l[j] with last:=(pe x).last }=true:=by
       unfold iG
       rw[if_neg (by show ¬l[j].kind=1;omega),if_pos hk]
       simp only[Bool.and_eq_true,decide_eq_true_eq,cnt,rng]
       obtain ⟨⟨⟨⟨d1,d2⟩,d3⟩,d4⟩,d5⟩:=hev
       exact ⟨⟨⟨⟨d1,d2⟩,by omega,by omega⟩,d4⟩,d5⟩
      refine lI.2 ⟨hr,by simpa using hl,?_,.inr ?_⟩
      ·rw[List.all_eq_true]
       intro y hy
       rcases List.mem_or_eq_of_mem_set hy with hy | hy
       ·exact ha y hy
       ·rw[hy];exact hnew
      ·have:(l.set j { l[j] with last:=(pe x).last }).getLast? =some { l[j] with last:=(pe x).last }:=by
        rw[List.getLast?_eq_getElem?,List.length_set,hj,Nat.add_sub_cancel];simp[hjl]
       unfold ka;rw[this];exact decide_eq_true hk
     ·omega
   ·omega
 ·omega
theorem Lt{l:List Event}{limit:Int}{x:Event}(h:cb l limit=true):cb (tJ l limit x) limit=true:=by
 unfold tJ
 split
 ·rename_i h0;exact Ls h0
 ·exact h
theorem F0{c:Config}{t self:Int}{x:Topic}{q:List Event}(h:ap c t self x=true)(hq:cb q c.queue=true):ap c t self { x with queue:=q }=true:=by
 simp only[ap,hU,Bool.and_eq_true] at h ⊢
 exact ⟨h.1,h.2.1,hq⟩
theorem Ki{c:Config}{t self:Int}{x:Topic}(h:ap c t self x=true):cb x.queue c.queue=true:=by
 simp only[ap,hU,Bool.and_eq_true] at h;exact h.2.2
theorem Hm{c:Config}{self:Int}{l:List Topic}{t:Int}{x:Event}(h:aN c self 0 l=true)(h0:0≤t)(h1:t<l.length):aN c self 0 (wn c l t x)=true∧(wn c l t x).length=l.length:=by
 obtain ⟨k,rfl⟩:=Int.eq_ofNat_of_zero_le h0
 obtain ⟨y,hy⟩:=aE h1
 have hgd:l.getD k eY=y:=by simp[List.getD_eq_getElem?_getD,hy]
 unfold wn
 rw[Int.toNat_natCast,hgd]
 refine ⟨EY h ?_,by simp⟩
 have:=nm h hy
 exact F0 this (Lt (Ki this))
theorem x5{c:Config}{a b:Int}: ∀ {l:List Call} {p q:Int},bD c a p l=true→a≤b→q≤p→bD c b q l=true
 | [],_,_,_,_,_=>rfl
 | x::r,p,q,h,hab,hqp=>by
  simp only[bD,Bool.and_eq_true,decide_eq_true_eq] at h ⊢
  obtain ⟨⟨⟨⟨h1,h2⟩,h3⟩,h4⟩,h5⟩:=h
  exact ⟨⟨⟨⟨by omega,by omega⟩,h3⟩,h4⟩,x5 h5 hab (Int.le_refl _)⟩
end Go.Xt
end
section
set_option linter.unusedSimpArgs false
set_option linter.unusedVariables false
set_option maxRecDepth 100000
namespace Go.Xt
structure VOk (c:Config) (x:Msg):Prop where
 t:rng x.topic 0 (c.topics-1)=true
 o:rng x.node 0 (c.nodes-1)=true
 i:cnt x.inc=true
 k:rng x.count 1 40=true
 v:val x.value=true
def wN0:Node:=⟨true,1,List.replicate 8 ⟨0,0⟩,List.replicate 4 eY,[],0,0,List.replicate 8 ⟨0,0,0⟩,[]⟩
end Go.Xt
end
section
set_option linter.unusedSimpArgs false
set_option linter.unusedVariables false
set_option maxRecDepth 100000
namespace Go.Xt
set_option linter.defProp false
theorem lb: ∀(ls:List (List Int)) (i:Nat),((ls.take i).flatten).length≤ls.flatten.length
 | [],i=>by simp
 | l::r,0=>by simp
 | l::r,i+1=>by
  have:=lb r i
  simp only[List.take_succ_cons,List.flatten_cons,List.length_append];omega
theorem Ag{ls:List (List Int)}{i:Nat}{x:List Int}(hx:ls[i]? =some x):(ls.take (i+1)).flatten=(ls.take i).flatten++x:=by
 rw[List.take_add_one,hx];simp
theorem np(ls:List (List Int))(hp:ls.flatten.length≤1000000)(hg:am (aO ls).2.1):WW ρ 1 dD aO ls:=by
 simp only[aO,RR] at hg ⊢
 unfold dD
 simp only[am,bc] at hg
 simp (disch:=first|omega|assumption|(constructor<;>first|assumption|omega)|simp only[LN];omega) only[↓SB,S1,↓bk]
 refine aK.rule (α:=Nat) (fun i=>[I (((ls.take i).flatten).length:Nat),I i]) (fun i=>i≤ls.length) (fun i=>ls.length-i) 0 rfl (by omega) (fun _=>rfl) ?_
 intro i hl
 have hi1:=lb ls i
 simp only[app]
 simp (disch:=first|omega|assumption|(constructor<;>first|assumption|omega)|simp only[LN];omega) only[↓SB,S1,↓bk]
 refine ⟨fun h=>?_,fun h=>?_⟩
 ·obtain ⟨x,hx⟩:=aE h
  have hft:=Ag hx
  have hi2:=lb ls (i+1)
  rw[hft,List.length_append] at hi2
  simp (disch:=first|omega|assumption|(constructor<;>first|assumption|omega)|simp only[LN];omega) only[↓SB,S1,↓bk,ar hx]
  refine ⟨fun h=>by omega,fun _=>⟨i+1,?_,by omega,by omega⟩⟩
  rw[hft];simp
 ·rw[List.take_of_length_le (by omega)]
  have hpre:([]:List Int)=[]∧(0:Int)≤(ls.flatten.length:Int)∧(ls.flatten.length:Int)≤1000000:=⟨rfl,by omega,by omega⟩
  simp (disch:=first|omega|assumption|(constructor<;>first|assumption|omega)|simp only[LN];omega) only[↓SB,S1,↓bk]
  refine aK.rule (α:=Nat) (fun i=>[I i,L ((ls.take i).flatten)]) (fun i=>i≤ls.length) (fun i=>ls.length-i) 0 rfl (by omega) (fun _=>rfl) ?_
  intro j hj
  have hi1:=lb ls j
  simp only[app]
  simp (disch:=first|omega|assumption|(constructor<;>first|assumption|omega)|simp only[LN];omega) only[↓SB,S1,↓bk]
  refine ⟨fun h=>?_,fun h=>?_⟩
  ·obtain ⟨x,hx⟩:=aE h
   have hft:=Ag hx
   have hi2:=lb ls (j+1)
   rw[hft,List.length_append] at hi2
   simp (disch:=first|omega|assumption|(constructor<;>first|assumption|omega)|simp only[LN];omega) only[↓SB,S1,↓bk,ar hx]
   refine ⟨j+1,?_,by omega,by omega⟩
   rw[hft];simp
  ·rw[List.take_of_length_le (by omega)]
def Gw:=And.intro @aZ (@cO)
theorem Gx(m:Msg):WW ρ 16 rQ iV m:=by
 simp only[iV,RR]
 unfold rQ rJ
 simp (disch:=first|omega|assumption|(constructor<;>first|assumption|omega)|simp only[LN];omega) only[↓S0,S3,S2,S1,↓Gw]
 cases isN m.frm<;>cases isN m.to<;>simp
def F1:=And.intro @aZ (@ni)
theorem F2(m:Msg):WW ρ 16 qf gB m:=by
 simp only[gB,RR]
 unfold qf tK
 simp (disch:=first|omega|assumption|(constructor<;>first|assumption|omega)|simp only[LN];omega) only[↓S0,S3,S2,S1,↓F1]
 cases rng m.epoch 1 1073741824<;>simp
def F3:=And.intro @dM (And.intro @aZ (And.intro @ni (@cO)))
theorem F4(m:Msg):WW ρ 16 qg gC m:=by
 simp only[gC,RR]
 unfold qg tL
 simp (disch:=first|omega|assumption|(constructor<;>first|assumption|omega)|simp only[LN];omega) only[↓S0,S3,S2,S1,↓F3]
 cases isN m.node<;>cases cnt m.inc<;>cases val m.value<;>simp
theorem x6{α:Type}[DecidableEq α]{l:List α}{i:Nat}{x:α}(hx:l[i]? =some x):(l.take (i+1)).Nodup↔(l.take i).Nodup∧x∉l.take i:=by
 rw[List.take_add_one,hx,Option.toList_some,List.nodup_append]
 constructor
 ·rintro ⟨h1,_,h3⟩
  exact ⟨h1,fun hm=>h3 x hm x (by simp) rfl⟩
 ·rintro ⟨h1,h2⟩
  refine ⟨h1,by simp,fun a ha b hb=>?_⟩
  rw[List.mem_singleton] at hb
  subst hb
  rintro rfl;exact h2 ha
theorem Ic{α:Type}{l:List α}{i:Nat}(h:l.Nodup):(l.take i).Nodup:=List.Nodup.sublist (List.take_sublist _ _) h
theorem CO(l:List Int)(hg:am (et l).2.1):WW ρ 1 oz et l:=by
 simp only[et,RR] at hg ⊢
 unfold oz
 simp only[am,bc] at hg
 generalize hE:decide l.Nodup=q
 simp (disch:=first|omega|assumption|(constructor<;>first|assumption|omega)|simp only[LN];omega) only[↓SB,S1,↓bi]
 refine aK.rule (α:=Nat) (fun i=>[I i]) (fun i=>i≤l.length∧(l.take i).Nodup) (fun i=>l.length-i) 0 rfl ⟨by omega,by simp⟩ (fun _=>rfl) ?_
 rintro i ⟨hl,hs⟩
 simp only[app]
 simp (disch:=first|omega|assumption|(constructor<;>first|assumption|omega)|simp only[LN];omega) only[↓SB,S1,↓bi]
 refine ⟨fun h=>?_,fun h=>?_⟩
 ·obtain ⟨x,hx⟩:=aE h
  simp (disch:=first|omega|assumption|(constructor<;>first|assumption|omega)|simp only[LN];omega) only[↓SB,S1,↓bi,ar hx,Int.toNat_natCast]
  refine ⟨fun h3=>?_,fun h3=>⟨i+1,rfl,⟨by omega,(x6 hx).2 ⟨hs,fun hm=>?_⟩⟩,by omega⟩⟩
  ·rw[←hE]
   have: ¬l.Nodup:=fun hn=>((x6 hx).1 (Ic hn)).2 (by simpa using h3)
   simp[this]
  ·have:(l.take i).contains x=true:=by simpa using hm
   rw[h3] at this;cases this
 ·rw[List.take_of_length_le (by omega)] at hs
  rw[←hE];simp[hs]
def Id:=And.intro @rT (@sQ)
theorem Ie(l:List Int)(hg:am (iW l).2.1):WW ρ 1 tQ iW l:=by
 simp only[iW,RR] at hg ⊢
 unfold tQ ri
 simp (disch:=first|omega|assumption|(constructor<;>first|assumption|omega)|simp only[LN];omega) only[↓SB,S1,↓Id]
 refine ⟨fun h=>?_,fun h=>?_⟩
 ·have e:decide (l.length≤8)=true:=by simp;omega
  rw[e]
  cases l.all isN<;>simp
 ·have e:decide (l.length≤8)=false:=by simp;omega
  simp[e]
def bh:=And.intro @dM (And.intro @nj (And.intro @aZ (And.intro @ni (And.intro @cO (And.intro @HS (And.intro @Ek (And.intro @El (@sQ))))))))
theorem Gy(m:Msg)(hg:am (gm m).2.1):WW ρ 16 rR gm m:=by
  simp only[gm,RR] at hg ⊢
  unfold rR
  simp only[am,cr,bc] at hg
  generalize hE:jT m=q
  simp (disch:=first|omega|assumption|(constructor<;>first|assumption|omega)|simp only[LN];omega) only[↓SB,S1,↓bh]
  refine SUB.v1 (bb (decide (m.kind=1)||decide (m.kind=5)||decide (m.kind=6))) ?_ ?_
  · repeat' (first | apply And.intro | intro _ | simp (disch:=first|omega|assumption|(constructor<;>first|assumption|omega)|simp only[LN];omega) only[↓SB,S1,↓bh])
    all_goals simp_all
  unfold jT at hE
  by_cases k1:m.kind=1∨m.kind=5∨m.kind=6
  · rw[if_pos k1] at hE
    have e:(decide (m.kind=1)||decide (m.kind=5)||decide (m.kind=6))=true:=by simp;omega
    simp (disch:=first|omega|assumption|(constructor<;>first|assumption|omega)|simp only[LN];omega) only[↓SB,S1,↓bh,e]
    rw[←hE]
  rw[if_neg k1] at hE
  have e:(decide (m.kind=1)||decide (m.kind=5)||decide (m.kind=6))=false:=by simp;omega
  simp (disch:=first|omega|assumption|(constructor<;>first|assumption|omega)|simp only[LN];omega) only[↓SB,S1,↓bh,e]
  refine ⟨fun k2=>?_,fun k2=>?_⟩
  · rw[if_pos k2] at hE
    rw[←hE]
    repeat' (first | apply And.intro | intro _ | simp (disch:=first|omega|assumption|(constructor<;>first|assumption|omega)|simp only[LN];omega) only[↓SB,S1,↓bh])
    all_goals simp_all
  rw[if_neg k2] at hE
  refine ⟨fun k3=>?_,fun k3=>?_⟩
  · rw[if_pos k3] at hE
    rw[←hE]
    have eL:(PV.list []:PV)=L ([]:List Int):=rfl
    cases hpa:m.path with
    | nil =>
      repeat' (first | apply And.intro | intro _ | simp (disch:=first|omega|assumption|(constructor<;>first|assumption|omega)|simp only[LN];omega) only[↓SB,S1,↓bh])
      all_goals (rw[eL];simp_all)
    | cons p r =>
      have hc0:(L (p::r)).cellAt (I 0) 0=I p:=ar (i:=0) (x:=p) rfl
      repeat' (first | apply And.intro | intro _ | simp (disch:=first|omega|assumption|(constructor<;>first|assumption|omega)|simp only[LN];omega) only[↓SB,S1,↓bh,hc0,eL])
      all_goals simp_all
  rw[if_neg k3] at hE
  refine ⟨fun k4=>?_,fun k4=>?_⟩
  · rw[if_pos k4] at hE
    rw[←hE]
    repeat' (first | apply And.intro | intro _ | simp (disch:=first|omega|assumption|(constructor<;>first|assumption|omega)|simp only[LN];omega) only[↓SB,S1,↓bh])
    all_goals simp_all
  rw[if_neg k4] at hE
  refine ⟨fun k7=>?_,fun k7=>?_⟩
  · rw[if_pos k7] at hE
    rw[←hE]
    repeat' (first | apply And.intro | intro _ | simp (disch:=first|omega|assumption|(constructor<;>first|assumption|omega)|simp only[LN];omega) only[↓SB,S1,↓bh])
    all_goals simp_all
  rw[if_neg k7] at hE
  refine ⟨fun k8=>?_,fun k8=>?_⟩
  · rw[if_pos k8] at hE
    rw[←hE]
    repeat' (first | apply And.intro | intro _ | simp (disch:=first|omega|assumption|(constructor<;>first|assumption|omega)|simp only[LN];omega) only[↓SB,S1,↓bh])
    all_goals simp_all
  rw[if_neg k8] at hE
  refine ⟨fun k9=>?_,fun k9=>?_⟩
  · rw[if_pos k9] at hE
    rw[←hE]
    repeat' (first | apply And.intro | intro _ | simp (disch:=first|omega|assumption|(constructor<;>first|assumption|omega)|simp only[LN];omega) only[↓SB,S1,↓bh])
    all_goals simp_all
  rw[if_neg k9] at hE
  refine ⟨fun k10=>?_,fun k10=>?_⟩
  · rw[if_pos k10] at hE
    rw[←hE]
    repeat' (first | apply And.intro | intro _ | simp (disch:=first|omega|assumption|(constructor<;>first|assumption|omega)|simp only[LN];omega) only[↓SB,S1,↓bh])
    all_goals simp_all
  rw[if_neg k10] at hE
  refine ⟨fun k11=>?_,fun k11=>?_⟩
  · rw[if_pos k11] at hE
    rw[←hE]
    cases hpa:ri m.path with
    | false => repeat' (first | apply And.intro | intro _ | simp (disch:=first|omega|assumption|(constructor<;>first|assumption|omega)|simp only[LN];omega) only [↓SB, S1, ↓bh])
               all_goals simp_all[show (PV.list []:PV)=L ([]:List Int) from rfl]
    | true =>
    cases hto:ri m.todo with
    | false => repeat' (first | apply And.intro | intro _ | simp (disch:=first|omega|assumption|(constructor<;>first|assumption|omega)|simp only[LN];omega) only [↓SB, S1, ↓bh])
               all_goals simp_all[show (PV.list []:PV)=L ([]:List Int) from rfl]
    | true =>
      have hfl:([m.path,m.todo].flatten).length≤1000000:=by
        simp only[ri,Bool.and_eq_true,decide_eq_true_eq] at hpa hto
        simp;omega
      repeat' (first | apply And.intro | intro _ | simp (disch:=first|omega|assumption|(constructor<;>first|assumption|omega)|simp only[LN];omega) only[↓SB,S1,↓bh])
      all_goals simp_all[show (PV.list []:PV)=L ([]:List Int) from rfl]
  rw[if_neg k11] at hE
  refine ⟨fun k12=>?_,fun k12=>?_⟩
  · rw[if_pos k12] at hE
    rw[←hE]
    repeat' (first | apply And.intro | intro _ | simp (disch:=first|omega|assumption|(constructor<;>first|assumption|omega)|simp only[LN];omega) only[↓SB,S1,↓bh])
    all_goals simp_all
  rw[if_neg k12] at hE
  refine ⟨fun k13=>?_,fun k13=>?_⟩
  · rw[if_pos k13] at hE
    rw[←hE]
    repeat' (first | apply And.intro | intro _ | simp (disch:=first|omega|assumption|(constructor<;>first|assumption|omega)|simp only[LN];omega) only[↓SB,S1,↓bh])
    all_goals simp_all
  rw[if_neg k13] at hE
  rw[←hE]
def jy:=And.intro @aZ (And.intro @ni (And.intro @G7 (@G6)))
theorem F5(m:Msg)(hg:am (fj m).2.1):WW ρ 16 qh fj m:=by
 simp only[fj,RR] at hg ⊢
 unfold qh
 simp only[am,cr,bc] at hg
 simp (disch:=first|omega|assumption|(constructor<;>first|assumption|omega)|simp only[LN];omega) only[↓SB,S1,↓jy]
 refine SUB.v1 (bb (nP m)) ?_ ?_
 ·unfold nP
  refine ⟨fun k=>?_,fun k=>?_⟩
  ·rw[if_pos k]
   repeat' (first | apply And.intro | intro _ | simp (disch:=first|omega|assumption|(constructor<;>first|assumption|omega)|simp only[LN];omega) only[↓SB,S1,↓jy])
   all_goals simp_all
  ·rw[if_neg k]
   repeat' (first | apply And.intro | intro _ | simp (disch:=first|omega|assumption|(constructor<;>first|assumption|omega)|simp only[LN];omega) only[↓SB,S1,↓jy])
   all_goals simp_all
 refine SUB.v1 (bb (pS (jT m).1)) ?_ ?_
 ·unfold pS
  repeat' (first | apply And.intro | intro _ | simp (disch:=first|omega|assumption|(constructor<;>first|assumption|omega)|simp only[LN];omega) only[↓SB,S1,↓jy])
  all_goals simp_all
 unfold lC
 cases e1:(jT m).2<;>cases e2:nP m<;>cases e3:pS (jT m).1
 all_goals simp (disch:=first|omega|assumption|(constructor<;>first|assumption|omega)|simp only[LN];omega) only[↓SB,S1,↓jy,e1,e2,e3]
 all_goals simp
 refine ⟨fun h h2=>by rw[h2] at h;simp at h,fun h=>⟨fun h2 _ h3=>by rw[h3] at h2;simp at h2,fun h2=>⟨h,h2⟩⟩⟩
end Go.Xt
end
section
set_option linter.unusedSimpArgs false
set_option linter.unusedVariables false
set_option maxRecDepth 100000
namespace Go.Xt
theorem Kj(l:List Event)(limit:Int)(x:Event):(tJ l limit x).length=l.length∨(tJ l limit x).length=l.length+1:=by
 unfold tJ
 split
 ·rename_i h
  unfold wm at h ⊢
  split
  ·rename_i h0
   rw[if_pos h0] at h
   split
   ·right;simp
   ·rename_i h1
    rw[if_neg h1] at h
    split
    ·rename_i h2
     rw[if_pos h2] at h
     split
     ·right;simp
     ·rename_i h3
      rw[if_neg h3] at h
      split
      ·left;simp
      ·rename_i h4
       rw[if_neg h4] at h;cases h
    ·rename_i h2
     rw[if_neg h2] at h;cases h
  ·rename_i h0
   rw[if_neg h0] at h;cases h
 ·exact .inl rfl
end Go.Xt
end
section
set_option linter.unusedSimpArgs false
set_option linter.unusedVariables false
set_option maxRecDepth 100000
namespace Go.Xt
theorem Kk{x:Msg}(h:lC x=true)(hk:x.kind=11):tL x=true∧rng x.count 1 40=true∧ri x.path=true∧ri x.todo=true∧(x.path++x.todo).Nodup∧rng x.topic 0 3=true:=by
 simp only[lC,Bool.and_eq_true] at h
 obtain ⟨⟨⟨⟨k1,k2⟩,_⟩,_⟩,_⟩:=h
 simp only[nP,Bool.and_eq_true] at k2
 have k3:=k2.2
 rw[if_neg (by omega),Bool.and_eq_true] at k3
 unfold jT at k1
 rw[if_neg (by omega),if_neg (by omega),if_neg (by omega),if_neg (by omega),if_neg (by omega),if_neg (by omega),if_neg (by omega),if_neg (by omega),if_pos hk] at k1
 simp only[Bool.and_eq_true,decide_eq_true_eq] at k1
 obtain ⟨⟨⟨⟨a,b⟩,d⟩,e⟩,f⟩:=k1
 exact ⟨a,b,d,e,f,k3.2⟩
structure MV (c:Config) (x:Msg):Prop where
 ok:lC x=true
 k:x.kind=11
 t:rng x.topic 0 (c.topics-1)=true
 n:rng x.node 0 (c.nodes-1)=true
 p:(x.path.all fun n=>rng n 0 (c.nodes-1))=true
 d:(x.todo.all fun n=>rng n 0 (c.nodes-1))=true
theorem MV.v{c:Config}{x:Msg}(h:MV c x):VOk c x:=by
 obtain ⟨a,b,_⟩:=Kk h.ok h.k
 simp only[tL,Bool.and_eq_true] at a
 exact ⟨h.t,h.n,a.1.1.2,b,a.1.2⟩
end Go.Xt
end
section
set_option linter.unusedSimpArgs false
set_option linter.unusedVariables false
set_option maxRecDepth 100000
namespace Go.Xt
set_option linter.defProp false
theorem Ah{t:Int}: ∀ {l:List Kid} {a:Int},cX t a l=true→ ∀k∈l,0≤k.age∧k.age≤6
 | [],_,_=>by simp
 | x::r,a,h=>by
  simp only[cX,Bool.and_eq_true] at h
  intro k hk
  rcases List.mem_cons.1 hk with rfl | h2
  ·exact bg h.1.2
  ·exact Ah h.2 k h2
theorem uw{x:Kid}{r:List Kid}:cm (x::r)=(if x.age+1≤6 then [{ x with age:=x.age+1 }] else [])++cm r:=by
 unfold cm;rw[List.map_cons,List.filter_cons];by_cases h:x.age+1≤6<;>simp[h]
theorem CP(t:Int)(self:Int)(limit:Int)(l:List Kid)(hp:eW t self limit l=true)(hg:am (cQ (t,self,limit,l)).2.1):WW ρ 4 oA cQ (t,self,limit,l):=by
 simp only[cQ,RR] at hg ⊢
 unfold oA
 simp only[am,cr,bc] at hg
 have hk:cX t self l=true∧l.length≤4:=by
  have:=hp
  simp only[eW,Bool.and_eq_true,decide_eq_true_eq] at this
  have h2:=bg this.1.1.2
  exact ⟨this.2,by omega⟩
 have ha:=Ah hk.1
 generalize hE:cm l=q
 simp (disch:=first|omega|assumption|(constructor<;>first|assumption|omega)|simp only[LN];omega) only[↓SB,S1,↓kf,hp]
 refine aK.rule (α:=Nat×List Kid) (fun p=>[I p.1,L p.2]) (fun p=>p.1≤l.length∧p.2.length≤p.1∧p.2++cm (l.drop p.1)=q) (fun p=>l.length-p.1) (0,[]) rfl ⟨by simp,by simp,by simpa using hE⟩ (fun _=>rfl) ?_
 rintro ⟨i,a⟩ ⟨hi,h2,hs⟩
 simp only at hi h2 hs
 simp only[app]
 simp (disch:=first|omega|assumption|(constructor<;>first|assumption|omega)|simp only[LN];omega) only[↓SB,S1,↓kf]
 refine ⟨fun h4=>?_,fun h4=>?_⟩
 ·obtain ⟨x,hx⟩:=aE h4
  rw[aM hx,uw] at hs
  have hb:=ha x (List.mem_of_getElem? hx)
  simp (disch:=first|omega|assumption|(constructor<;>first|assumption|omega)|simp only[LN];omega) only[↓SB,S1,↓kf,ar hx]
  refine ⟨fun h5=>⟨(i+1,a++[{ x with age:=x.age+1 }]),rfl,⟨by simp;omega,by simp;omega,?_⟩,by simp;omega⟩,fun h5=>⟨(i+1,a),rfl,⟨by simp;omega,by simp;omega,?_⟩,by simp;omega⟩⟩
  ·rw[if_pos h5] at hs;simpa using hs
  ·rw[if_neg h5] at hs;simpa using hs
 ·rw[aH h4] at hs
  simp[cm] at hs;simp[hs]
def Lu(p:Peer):Peer:={ p with age:=min (p.age+1) 1000 }
theorem F6{l:List Peer}{i:Nat}{x:Peer}(hx:l[i]? =some x):((aL (l.take i))++l.drop i).set i (Lu x)=aL (l.take (i+1))++l.drop (i+1):=by
 rw[aM hx,l7 hx]
 have hl:(aL (l.take i)).length=i:=by have:=(List.getElem?_eq_some_iff.1 hx).1;simp[aL];omega
 rw[List.set_append_right _ _ (by omega),hl];simp[aL,Lu]
theorem Gz{l:List Peer}{i:Nat}{x:Peer}(hx:l[i]? =some x):((aL (l.take i))++l.drop i)[i]? =some x:=by
 have hl:(aL (l.take i)).length=i:=by have:=(List.getElem?_eq_some_iff.1 hx).1;simp[aL];omega
 rw[List.getElem?_append_right (by omega),hl,aM hx];simp
theorem CQ{l:List Peer}{x:Peer}(h:aT l=true)(hx:x∈l):0≤x.inc∧x.inc≤1073741824∧0≤x.age∧x.age≤1000:=by
 simp only[aT,Bool.and_eq_true,List.all_eq_true] at h
 have:=h.2 x hx
 simp only[jE,Bool.and_eq_true] at this
 have a:=bg this.1;have b:=bg this.2;omega
def oR:=And.intro @bR (@ke)
theorem CR(l:List Peer)(hp:aT l=true)(hg:am (cS l).2.1):WW ρ 1 oB cS l:=by
 simp only[cS,RR] at hg ⊢
 unfold oB
 have hb:=kz hp
 simp (disch:=first|omega|assumption|(constructor<;>first|assumption|omega)|simp only[LN];omega) only[↓SB,S1,↓oR,hp]
 refine aK.rule (α:=Nat) (fun i=>[I i,L (aL (l.take i)++l.drop i)]) (fun i=>i≤l.length) (fun i=>l.length-i) 0 rfl (by omega) (fun _=>rfl) ?_
 intro i hl
 have hlen:(aL (l.take i)++l.drop i).length=l.length:=by simp[aL];omega
 simp only[app]
 simp (disch:=first|omega|assumption|(constructor<;>first|assumption|omega)|simp only[LN];omega) only[↓SB,S1,↓oR]
 refine ⟨fun h4=>?_,fun h4=>?_⟩
 ·obtain ⟨x,hx⟩:=aE h4
  have h5:=CQ hp (List.mem_of_getElem? hx)
  have h6:=Gz hx
  simp (disch:=first|omega|assumption|(constructor<;>first|assumption|omega)|simp only[LN];omega) only[↓SB,S1,↓oR,ar h6,↓cy h6 (j:=1) (v:=I (min (x.age+1) 1000)) (y:=Lu x) rfl]
  exact ⟨i+1,by simp[F6 hx],by omega,by omega⟩
 ·rw[List.take_of_length_le (by omega),List.drop_eq_nil_of_le (by omega)];simp
theorem CT(n:Int)(top:Int)(hp:isN n=true∧0≤top∧top≤1073741824):WW ρ 2 oC fE (n,top):=by
 simp only[fE,RR]
 unfold oC
 obtain ⟨h1,h2,h3⟩:=hp
 have hn:=bx.1 h1
 have e1: ¬top<0:=by omega
 have e2: ¬1073741824<top:=by omega
 have hm:=Int.emod_nonneg top (show (16:Int)≠0 by omega)
 have hm2:=Int.emod_lt_of_pos top (show (0:Int)<16 by omega)
 refine SUB.v1 (bb false) ?_ ?_
 ·simp (disch:=first|omega|assumption|(constructor<;>first|assumption|omega)|simp only[LN];omega) only[↓SB,S1,↓cO,h1,e1,e2]
 generalize hE:jv n top=q
 unfold jv nc at hE
 simp (disch:=first|omega|assumption|(constructor<;>first|assumption|omega)|simp only[LN];omega) only[↓SB,S1,↓cO]
 refine ⟨fun h=>⟨fun h4=>?_,fun h4=>?_⟩,fun h=>⟨fun h4=>?_,fun h4=>?_⟩⟩
 all_goals simp only[h,h4,if_true,if_false] at hE
 all_goals subst hE
 all_goals simp
 all_goals omega
theorem CU(e:Int)(n:Int):WW ρ 2 oD fF (e,n):=by
 simp only[fF,RR]
 unfold oD;rfl
theorem CV(s:Stream):WW ρ 5 oE fG s:=by
 simp only[fG,RR]
 unfold oE;simp (disch:=first|omega|assumption|(constructor<;>first|assumption|omega)|simp only[LN];omega) only[↓SB,S1]
theorem uU(x:Topic)(hp:dO x=false):WW ρ 16 jN cM x:=by
 simp only[cM,RR]
 unfold jN;simp (disch:=first|omega|assumption|(constructor<;>first|assumption|omega)|simp only[LN];omega) only[↓SB,S1,↓kh];rfl
theorem x7{c:Config}{t self:Int}{x:Topic}(h:wo c t self x=0):bt c=true∧eX c t self=true∧ap c t self x=true:=by
 unfold wo at h
 split at h
 ·split at h
  ·rename_i h1 h2;rw[Bool.and_eq_true] at h2;exact ⟨h1,h2.1,h2.2⟩
  ·omega
 ·omega
theorem CW{c:Config}{t self:Int}{x:Topic}(h1:bt c=true)(h2:eX c t self=true)(h3:ap c t self x=true):wo c t self x=0:=by
 unfold wo;rw[if_pos h1,if_pos (by simp[h2,h3])]
def CX:=And.intro @jk (@uK)
theorem CY(c:Config)(t:Int)(self:Int)(x:Topic)(hp:wo c t self x=0)(hg:am (eu (c,t,self,x)).2.1):WW ρ 25 oF eu (c,t,self,x):=by
 simp only[eu,RR] at hg ⊢
 unfold oF
 have hW:(if bt c=true then (if (eX c t self&&ap c t self x)=true then (0:Int) else 1) else 13)=0:=hp
 obtain ⟨h1,h2,h3⟩:=x7 hp
 have hl:=gG h1 h3
 simp (disch:=first|omega|assumption|(constructor<;>first|assumption|omega)|simp only[LN];omega) only[↓SB,S1,↓CX,hW]
def F7:=And.intro @kh (@jk)
theorem F8(c:Config)(t:Int)(self:Int)(x:Topic)(hp:wo c t self x=0)(hg:am (fk (c,t,self,x)).2.1):WW ρ 25 qi fk (c,t,self,x):=by
 simp only[fk,RR] at hg ⊢
 unfold qi
 have hW:(if bt c=true then (if (eX c t self&&ap c t self x)=true then (0:Int) else 1) else 13)=0:=hp
 obtain ⟨h1,h2,h3⟩:=x7 hp
 have hl:=gG h1 h3
 simp (disch:=first|omega|assumption|(constructor<;>first|assumption|omega)|simp only[LN];omega) only[↓SB,S1,↓F7,hW]
theorem qu{c:Config}{t self:Int}{x:Topic}(h:ap c t self x=true):0≤x.top∧x.top≤1073741824∧0≤x.age∧x.age≤1000:=by
 simp only[ap,Bool.and_eq_true] at h
 have a:=bg h.1.1.1.1.1.1.1.1.1;have b:=bg h.1.1.1.1.1.1.1.1.2;omega
def mU:=And.intro @kh (And.intro @jk (And.intro @C5 (@C6)))
theorem zb(c:Config)(t:Int)(self:Int)(x:Topic)(hp:wo c t self x=0)(hg:am (du (c,t,self,x)).2.1):WW ρ 25 mH du (c,t,self,x):=by
 simp only[du,RR] at hg ⊢
 unfold mH
 have hW:(if bt c=true then (if (eX c t self&&ap c t self x)=true then (0:Int) else 1) else 13)=0:=hp
 obtain ⟨h1,h2,h3⟩:=x7 hp
 have hl:=gG h1 h3
 have hb:=qu h3
 have hpl:=wV h1 h2
 have hne:isN self=true∧0≤x.top∧x.top≤1073741824:=⟨hpl.2.1,hb.1,hb.2.1⟩
 generalize hE:fw self x=q
 unfold fw at hE
 simp (disch:=first|omega|assumption|(constructor<;>first|assumption|omega)|simp only[LN];omega) only[↓SB,S1,↓mU,hW]
 refine ⟨fun a=>⟨fun b=>?_,fun b=>?_⟩,fun a=>?_⟩
 ·rw[if_pos ⟨a,b.symm⟩] at hE;subst hE;rfl
 all_goals
  rw[if_neg (by intro h;first | exact h.1 a | exact b h.2.symm)] at hE
  by_cases hz:jv self x.top=0
  ·rw[if_pos hz] at hE;subst hE;simp (disch:=first|omega|assumption|(constructor<;>first|assumption|omega)|simp only[LN];omega) only[↓SB,S1,↓mU,hz];simp[eY,L]
  ·rw[if_neg hz] at hE;subst hE;simp (disch:=first|omega|assumption|(constructor<;>first|assumption|omega)|simp only[LN];omega) only[↓SB,S1,↓mU,hz];first | done | rfl | simp[fM]
theorem uV(x:Topic):WW ρ 16 jO cN x:=by
 simp only[cN,RR]
 unfold jO aI
 simp (disch:=first|omega|assumption|(constructor<;>first|assumption|omega)|simp only[LN];omega) only[↓SB,S1]
 cases x.sub<;>simp
theorem GA(m:Msg)(hp:m.path.length≤30∧m.todo.length≤30):WW ρ 16 rS iX m:=by
 simp only[iX,RR]
 unfold rS;simp (disch:=first|omega|assumption|(constructor<;>first|assumption|omega)|simp only[LN];omega) only[↓SB,S1,↓ix]
end Go.Xt
end
section
set_option linter.unusedSimpArgs false
set_option linter.unusedVariables false
set_option maxRecDepth 100000
namespace Go.Xt
set_option linter.defProp false
theorem Jm{n:Node}{o:Int}(h:qU n o=true): ∃(k:Nat) (p:Peer),o=k∧n.peers[k]? =some p∧p.inc≠0:=by
 simp only[qU,Bool.and_eq_true,decide_eq_true_eq] at h
 have hb:=bg h.1
 obtain ⟨k,rfl⟩:=Int.eq_ofNat_of_zero_le hb.1
 obtain ⟨p,hp⟩:=aE (xs:=n.peers) (i:=k) (by omega)
 have h2:=h.2
 simp[List.getD_eq_getElem?_getD,hp] at h2
 exact ⟨k,p,rfl,hp,h2⟩
theorem Jn{self:Int}{n:Node}{x:Msg}(h:x.kind=1):ez self n x=⟨x.kind,self,n.inc,x.to,0,x.topic,x.epoch,x.seq,x.last,x.value,x.node,x.inc,x.count,x.hops,x.path,x.todo⟩:=by
 simp[ez,h]
theorem Jo{self:Int}{n:Node}{x:Msg}{k:Nat}{p:Peer}(h: ¬x.kind=1)(hk:x.to=k)(hp:n.peers[k]? =some p):ez self n x=⟨x.kind,self,n.inc,x.to,p.inc,x.topic,x.epoch,x.seq,x.last,x.value,x.node,x.inc,x.count,x.hops,x.path,x.todo⟩:=by
 simp[ez,h,hk,hp,List.getD_eq_getElem?_getD]
def cf:=And.intro @Em (And.intro @Ei (@G8))
theorem F9(self:Int)(n:Node)(l:List Msg)(hp:l.length≤1000∧n.peers.length≤12∧ ∀m∈l,m.path.length≤30∧m.todo.length≤30)(hg:am (fm (self,n,l)).2.1):WW ρ 11 qj fm (self,n,l):=by
 simp only[fm,RR] at hg ⊢
 unfold qj wq
 obtain ⟨hl,hpl,hm⟩:=hp
 generalize hE:jI self n l=q
 simp (disch:=first|omega|assumption|(constructor<;>first|assumption|omega)|simp only[LN];omega) only[↓SB,S1,↓cf]
 refine aK.rule (α:=Nat×List Msg) (fun p=>[I p.1,L p.2]) (fun p=>p.1≤l.length∧p.2.length≤p.1∧(jI self n (l.drop p.1)).map (p.2++ ·)=q) (fun p=>l.length-p.1) (0,[]) rfl ⟨by simp,by simp,by simpa using hE⟩ (fun _=>rfl) ?_
 rintro ⟨i,a⟩ ⟨hi,ha,hs⟩
 simp only at hi ha hs
 simp only[app]
 simp (disch:=first|omega|assumption|(constructor<;>first|assumption|omega)|simp only[LN];omega) only[↓SB,S1,↓cf]
 refine ⟨fun h4=>?_,fun h4=>?_⟩
 ·obtain ⟨x,hx⟩:=aE h4
  have hxm:=hm x (List.mem_of_getElem? hx)
  rw[aM hx,jI] at hs
  simp (disch:=first|omega|assumption|(constructor<;>first|assumption|omega)|simp only[LN];omega) only[↓SB,S1,↓cf,ar hx]
  refine SUB.v1 (bb (!(decide (x.kind=1)||qU n x.to))) ?_ ?_
  ·repeat' (first | apply And.intro | intro _ | simp (disch:=first|omega|assumption|(constructor<;>first|assumption|omega)|simp only[LN];omega) only[↓SB,S1,↓cf])
   all_goals simp_all
  cases hk:(decide (x.kind=1)||qU n x.to)
  ·rw[if_neg (by rw[hk];simp)] at hs
   simp (disch:=first|omega|assumption|(constructor<;>first|assumption|omega)|simp only[LN];omega) only[↓SB,S1,↓cf]
   exact ⟨(i+1,a),rfl,⟨by simp;omega,by simp;omega,hs⟩,by simp;omega⟩
  rw[if_pos hk] at hs
  simp (disch:=first|omega|assumption|(constructor<;>first|assumption|omega)|simp only[LN];omega) only[↓SB,S1,↓cf]
  refine ⟨fun h5=>?_,fun h5=>?_⟩
  ·have h6:qU n x.to=true:=by simpa[h5] using hk
   obtain ⟨k,p,e1,e2,e3⟩:=Jm h6
   have e4:=(List.getElem?_eq_some_iff.1 e2).1
   rw[Jo h5 e1 e2] at hs
   rw[e1] at hs ⊢
   simp (disch:=first|omega|assumption|(constructor<;>first|assumption|omega)|simp only[LN];omega) only[↓SB,S1,↓cf,ar e2]
   by_cases h7:lC ⟨x.kind,self,n.inc,(k:Int),p.inc,x.topic,x.epoch,x.seq,x.last,x.value,x.node,x.inc,x.count,x.hops,x.path,x.todo⟩=true
   ·rw[if_pos h7] at hs
    simp (disch:=first|omega|assumption|(constructor<;>first|assumption|omega)|simp only[LN];omega) only[↓SB,S1,↓cf,h7]
    exact ⟨(i+1,a++[⟨x.kind,self,n.inc,(k:Int),p.inc,x.topic,x.epoch,x.seq,x.last,x.value,x.node,x.inc,x.count,x.hops,x.path,x.todo⟩]),rfl,⟨by simp;omega,by simp;omega,by simpa[Function.comp_def] using hs⟩,by simp;omega⟩
   ·rw[if_neg h7] at hs
    simp (disch:=first|omega|assumption|(constructor<;>first|assumption|omega)|simp only[LN];omega) only[↓SB,S1,↓cf,h7]
    subst hs;simp[L]
  ·rw[Jn h5] at hs
   by_cases h7:lC ⟨x.kind,self,n.inc,x.to,0,x.topic,x.epoch,x.seq,x.last,x.value,x.node,x.inc,x.count,x.hops,x.path,x.todo⟩=true
   ·rw[if_pos h7] at hs
    simp (disch:=first|omega|assumption|(constructor<;>first|assumption|omega)|simp only[LN];omega) only[↓SB,S1,↓cf,h7]
    exact ⟨(i+1,a++[⟨x.kind,self,n.inc,x.to,0,x.topic,x.epoch,x.seq,x.last,x.value,x.node,x.inc,x.count,x.hops,x.path,x.todo⟩]),rfl,⟨by simp;omega,by simp;omega,by simpa[Function.comp_def] using hs⟩,by simp;omega⟩
   ·rw[if_neg h7] at hs
    simp (disch:=first|omega|assumption|(constructor<;>first|assumption|omega)|simp only[LN];omega) only[↓SB,S1,↓cf,h7]
    subst hs;simp[L]
 ·rw[aH h4] at hs
  subst hs;simp[jI]
def t6:=And.intro @kg (@ur)
theorem CZ(c:Config)(self:Int)(n:Node)(l:List Msg)(hp:bj n=false∧l.length≤1000∧ ∀m∈l,m.path.length≤30∧m.todo.length≤30)(hg:am (fH (c,self,n,l)).2.1):WW ρ 18 oG fH (c,self,n,l):=by
 simp only[fH,RR] at hg ⊢
 unfold oG
 obtain ⟨h1,h2,h3⟩:=hp
 have hb:=rX h1
 have hq:l.length≤1000∧n.peers.length≤12∧ ∀m∈l,m.path.length≤30∧m.todo.length≤30:=⟨h2,hb.1,h3⟩
 unfold tM wq
 by_cases h:ba c self n=0
 ·rw[if_pos h]
  simp (disch:=first|omega|assumption|(constructor<;>first|assumption|omega)|simp only[LN];omega) only[↓SB,S1,↓t6,h,Node.eta,wq]
  cases hm:jI self n l<;>simp[L]
 ·rw[if_neg h]
  simp (disch:=first|omega|assumption|(constructor<;>first|assumption|omega)|simp only[LN];omega) only[↓SB,S1,↓t6,h,Node.eta]
  rfl
end Go.Xt
end
section
set_option linter.unusedSimpArgs false
set_option linter.unusedVariables false
set_option maxRecDepth 100000
namespace Go.Xt
set_option linter.defProp false
theorem ct{xs:List Topic}{x y:Topic}{i:Nat}{k:PV→Prop}(h:xs[i]? =some x):(OP (.set 0) [L xs,I i,bb y.made] fun w0=>OP (.set 1) [w0,I i,bb y.sub] fun w1=>OP (.set 2) [w1,I i,I y.top] fun w2=>OP (.set 3) [w2,I i,I y.root] fun w3=>OP (.set 4) [w3,I i,I y.parent] fun w4=>OP (.set 5) [w4,I i,I y.asked] fun w5=>OP (.set 6) [w5,I i,I y.other] fun w6=>OP (.set 7) [w6,I i,I y.age] fun w7=>OP (.set 8) [w7,I i,L y.path] fun w8=>OP (.set 9) [w8,I i,L y.kids] fun w9=>OP (.set 10) [w9,I i,I y.stream.epoch] fun w10=>OP (.set 11) [w10,I i,I y.stream.want] fun w11=>OP (.set 12) [w11,I i,I y.stream.known] fun w12=>OP (.set 13) [w12,I i,L y.stream.kept] fun w13=>OP (.set 14) [w13,I i,L y.stream.ahead] fun w14=>OP (.set 15) [w14,I i,L y.queue] fun w15=>k w15)=k (L (xs.set i y)):=by
 have hl:=(List.getElem?_eq_some_iff.1 h).1
 have hg: ∀z:Topic,(xs.set i z)[i]? =some z:=fun z=>by simp[hl]
 obtain ⟨a0,a1,a2,a3,a4,a5,a6,a7,a8,a9,⟨b0,b1,b2,b3,b4⟩,a10⟩:=x
 obtain ⟨c0,c1,c2,c3,c4,c5,c6,c7,c8,c9,⟨d0,d1,d2,d3,d4⟩,c10⟩:=y
 dsimp only
 rw[cy h (j:=0) (v:=bb c0) (y:=(⟨c0,a1,a2,a3,a4,a5,a6,a7,a8,a9,⟨b0,b1,b2,b3,b4⟩,a10⟩:Topic)) rfl]
 rw[cy (hg ⟨c0,a1,a2,a3,a4,a5,a6,a7,a8,a9,⟨b0,b1,b2,b3,b4⟩,a10⟩) (j:=1) (v:=bb c1) (y:=(⟨c0,c1,a2,a3,a4,a5,a6,a7,a8,a9,⟨b0,b1,b2,b3,b4⟩,a10⟩:Topic)) rfl,List.set_set]
 rw[cy (hg ⟨c0,c1,a2,a3,a4,a5,a6,a7,a8,a9,⟨b0,b1,b2,b3,b4⟩,a10⟩) (j:=2) (v:=I c2) (y:=(⟨c0,c1,c2,a3,a4,a5,a6,a7,a8,a9,⟨b0,b1,b2,b3,b4⟩,a10⟩:Topic)) rfl,List.set_set]
 rw[cy (hg ⟨c0,c1,c2,a3,a4,a5,a6,a7,a8,a9,⟨b0,b1,b2,b3,b4⟩,a10⟩) (j:=3) (v:=I c3) (y:=(⟨c0,c1,c2,c3,a4,a5,a6,a7,a8,a9,⟨b0,b1,b2,b3,b4⟩,a10⟩:Topic)) rfl,List.set_set]
 rw[cy (hg ⟨c0,c1,c2,c3,a4,a5,a6,a7,a8,a9,⟨b0,b1,b2,b3,b4⟩,a10⟩) (j:=4) (v:=I c4) (y:=(⟨c0,c1,c2,c3,c4,a5,a6,a7,a8,a9,⟨b0,b1,b2,b3,b4⟩,a10⟩:Topic)) rfl,List.set_set]
 rw[cy (hg ⟨c0,c1,c2,c3,c4,a5,a6,a7,a8,a9,⟨b0,b1,b2,b3,b4⟩,a10⟩) (j:=5) (v:=I c5) (y:=(⟨c0,c1,c2,c3,c4,c5,a6,a7,a8,a9,⟨b0,b1,b2,b3,b4⟩,a10⟩:Topic)) rfl,List.set_set]
 rw[cy (hg ⟨c0,c1,c2,c3,c4,c5,a6,a7,a8,a9,⟨b0,b1,b2,b3,b4⟩,a10⟩) (j:=6) (v:=I c6) (y:=(⟨c0,c1,c2,c3,c4,c5,c6,a7,a8,a9,⟨b0,b1,b2,b3,b4⟩,a10⟩:Topic)) rfl,List.set_set]
 rw[cy (hg ⟨c0,c1,c2,c3,c4,c5,c6,a7,a8,a9,⟨b0,b1,b2,b3,b4⟩,a10⟩) (j:=7) (v:=I c7) (y:=(⟨c0,c1,c2,c3,c4,c5,c6,c7,a8,a9,⟨b0,b1,b2,b3,b4⟩,a10⟩:Topic)) rfl,List.set_set]
 rw[cy (hg ⟨c0,c1,c2,c3,c4,c5,c6,c7,a8,a9,⟨b0,b1,b2,b3,b4⟩,a10⟩) (j:=8) (v:=L c8) (y:=(⟨c0,c1,c2,c3,c4,c5,c6,c7,c8,a9,⟨b0,b1,b2,b3,b4⟩,a10⟩:Topic)) rfl,List.set_set]
 rw[cy (hg ⟨c0,c1,c2,c3,c4,c5,c6,c7,c8,a9,⟨b0,b1,b2,b3,b4⟩,a10⟩) (j:=9) (v:=L c9) (y:=(⟨c0,c1,c2,c3,c4,c5,c6,c7,c8,c9,⟨b0,b1,b2,b3,b4⟩,a10⟩:Topic)) rfl,List.set_set]
 rw[cy (hg ⟨c0,c1,c2,c3,c4,c5,c6,c7,c8,c9,⟨b0,b1,b2,b3,b4⟩,a10⟩) (j:=10) (v:=I d0) (y:=(⟨c0,c1,c2,c3,c4,c5,c6,c7,c8,c9,⟨d0,b1,b2,b3,b4⟩,a10⟩:Topic)) rfl,List.set_set]
 rw[cy (hg ⟨c0,c1,c2,c3,c4,c5,c6,c7,c8,c9,⟨d0,b1,b2,b3,b4⟩,a10⟩) (j:=11) (v:=I d1) (y:=(⟨c0,c1,c2,c3,c4,c5,c6,c7,c8,c9,⟨d0,d1,b2,b3,b4⟩,a10⟩:Topic)) rfl,List.set_set]
 rw[cy (hg ⟨c0,c1,c2,c3,c4,c5,c6,c7,c8,c9,⟨d0,d1,b2,b3,b4⟩,a10⟩) (j:=12) (v:=I d2) (y:=(⟨c0,c1,c2,c3,c4,c5,c6,c7,c8,c9,⟨d0,d1,d2,b3,b4⟩,a10⟩:Topic)) rfl,List.set_set]
 rw[cy (hg ⟨c0,c1,c2,c3,c4,c5,c6,c7,c8,c9,⟨d0,d1,d2,b3,b4⟩,a10⟩) (j:=13) (v:=L d3) (y:=(⟨c0,c1,c2,c3,c4,c5,c6,c7,c8,c9,⟨d0,d1,d2,d3,b4⟩,a10⟩:Topic)) rfl,List.set_set]
 rw[cy (hg ⟨c0,c1,c2,c3,c4,c5,c6,c7,c8,c9,⟨d0,d1,d2,d3,b4⟩,a10⟩) (j:=14) (v:=L d4) (y:=(⟨c0,c1,c2,c3,c4,c5,c6,c7,c8,c9,⟨d0,d1,d2,d3,d4⟩,a10⟩:Topic)) rfl,List.set_set]
 rw[cy (hg ⟨c0,c1,c2,c3,c4,c5,c6,c7,c8,c9,⟨d0,d1,d2,d3,d4⟩,a10⟩) (j:=15) (v:=L c10) (y:=(⟨c0,c1,c2,c3,c4,c5,c6,c7,c8,c9,⟨d0,d1,d2,d3,d4⟩,c10⟩:Topic)) rfl,List.set_set]
theorem Ig{t a b:Int}(h:cq t a b=true): ∀ {l:List Kid},cX t b l=true→cX t a l=true
 | [],_=>rfl
 | x::r,hk=>by
  simp only[cX,Bool.and_eq_true] at hk ⊢
  exact ⟨⟨⟨kZ h hk.1.1.1,hk.1.1.2⟩,hk.1.2⟩,hk.2⟩
theorem x8{t:Int}: ∀ {l:List Kid} {a:Int},cX t a l=true→cX t a (cm l)=true
 | [],_,_=>rfl
 | x::r,a,h=>by
  have h0:=h
  simp only[cX,Bool.and_eq_true] at h
  have ih:=x8 h.2
  have hr:=bg h.1.2
  rw[uw]
  by_cases hx:x.age+1≤6
  ·rw[if_pos hx,List.singleton_append,cX,Bool.and_eq_true,Bool.and_eq_true,Bool.and_eq_true]
   exact ⟨⟨⟨h.1.1.1,h.1.1.2⟩,by simp[rng];omega⟩,ih⟩
  ·rw[if_neg hx,List.nil_append];exact Ig h.1.1.1 ih
theorem x9(l:List Kid):(cm l).length≤l.length:=by
 unfold cm;exact Nat.le_trans (List.length_filter_le _ _) (by simp)
structure TOk (c:Config) (t me:Int) (x:Topic):Prop where
 top:rng x.top 0 1073741824=true
 age:rng x.age 0 1000=true
 par:dw t me x.parent=true
 ask:dw t me x.asked=true
 oth:dw t me x.other=true
 root:jG me x=true
 plc:hZ x=true
 path:chk t me x.path c.depth=0
 kids:eW t me c.kids x.kids=true
 flow:hU c x.stream x.queue=true
theorem be{c:Config}{t self:Int}{x:Topic}:ap c t self x=true↔TOk c t self x:=by
 simp only[ap,Bool.and_eq_true,decide_eq_true_eq]
 exact ⟨fun ⟨⟨⟨⟨⟨⟨⟨⟨⟨a,b⟩,d⟩,e⟩,f⟩,g⟩,h⟩,i⟩,j⟩,k⟩=>⟨a,b,d,e,f,g,h,i,j,k⟩,fun ⟨a,b,d,e,f,g,h,i,j,k⟩=>⟨⟨⟨⟨⟨⟨⟨⟨⟨a,b⟩,d⟩,e⟩,f⟩,g⟩,h⟩,i⟩,j⟩,k⟩⟩
theorem lc{c:Config}{t self:Int}{x:Topic}(h:ap c t self x=true):ap c t self { x with kids:=cm x.kids }=true:=by
 rw[be] at h ⊢
 obtain ⟨a,b,d,e,f,g,h,i,j,k⟩:=h
 refine ⟨a,b,d,e,f,g,h,i,?_,k⟩
 simp only[eW,Bool.and_eq_true,decide_eq_true_eq] at j ⊢
 have:=x9 x.kids
 exact ⟨⟨j.1.1,by omega⟩,x8 j.2⟩
theorem gH{c:Config}{t self:Int}{x:Topic}(h:ap c t self x=true):ap c t self { x with root:=0 }=true:=by
 rw[be] at h ⊢
 obtain ⟨a,b,d,e,f,g,h,i,j,k⟩:=h
 exact ⟨a,b,d,e,f,by simp[jG],h,i,j,k⟩
theorem xb{c:Config}{t self a:Int}{x:Topic}(h:ap c t self x=true)(h0:0≤a)(h1:a≤1000):ap c t self { x with age:=a }=true:=by
 rw[be] at h ⊢
 obtain ⟨a,b,d,e,f,g,h,i,j,k⟩:=h
 exact ⟨a,by simp[rng];omega,d,e,f,g,h,i,j,k⟩
theorem s0{c:Config}{t self:Int}{x:Topic}(h:ap c t self x=true):ap c t self (fM x)=true:=by
 rw[be] at h ⊢
 obtain ⟨a,b,d,e,f,g,h,i,j,k⟩:=h
 refine ⟨a,by simp[rng,fM],by simp[dw,fM],by simp[dw,fM],by simp[dw,fM],?_,by simp[hZ,fM],?_,j,k⟩
 ·simp only[jG,Bool.or_eq_true,Bool.and_eq_true,decide_eq_true_eq] at g ⊢
  rcases g with g | g
  ·exact .inl g
  ·exact .inr ⟨⟨g.1.1,rfl⟩,g.2⟩
 ·show chk t self [] c.depth=0
  unfold chk at i ⊢
  split at i
  ·rename_i h1
   simp only[Bool.and_eq_true] at h1
   rw[if_pos (by simp[h1.1])]
   have hd:=h1.1.1.2
   simp only[decide_eq_true_eq] at hd
   rw[if_neg (by simp;omega)];simp[lx]
  ·omega
theorem qv{l:List Peer}(h:aT l=true):aT (aL l)=true:=by
 have hb:=fun x hx=>CQ (x:=x) h hx
 simp only[aT,Bool.and_eq_true,decide_eq_true_eq,List.all_eq_true] at h ⊢
 refine ⟨⟨by simpa[aL] using h.1.1,by simpa[aL] using h.1.2⟩,?_⟩
 intro p hp
 simp only[aL,List.mem_map] at hp
 obtain ⟨q,hq,rfl⟩:=hp
 have:=hb q hq
 simp[jE,rng];omega
theorem oS(l:List Peer):(aL l).length=l.length:=by simp[aL]
theorem xc{self:Int}{live:List Int}: ∀(l r:List Topic) (t:Int),cn self live t (l++r)=cn self live t l++cn self live (t+l.length) r
 | [],r,t=>by simp[cn]
 | x::l,r,t=>by
  rw[List.cons_append,cn,cn,xc l r (t+1),List.cons_append,List.length_cons,show t+1+(l.length:Int)=t+((l.length+1:Nat):Int) by omega]
theorem xd{self:Int}{live:List Int}: ∀(l r:List Topic) (t:Int),aY self live t (l++r)=aY self live t l++aY self live (t+l.length) r
 | [],r,t=>by simp[aY]
 | x::l,r,t=>by
  rw[List.cons_append,aY,aY,xd l r (t+1),List.append_assoc,List.length_cons,show t+1+(l.length:Int)=t+((l.length+1:Nat):Int) by omega]
theorem ld{self:Int}{live:List Int}: ∀(l:List Topic) (t:Int),(cn self live t l).length=l.length
 | [],_=>rfl
 | x::l,t=>by rw[cn,List.length_cons,List.length_cons,ld l]
theorem Ih{self:Int}{live:List Int}{T:List Topic}{i:Nat}{x:Topic}(hx:T[i]? =some x) :
  (cn self live 0 (T.take i)++T.drop i).set i (dv self i live x).1=cn self live 0 (T.take (i+1))++T.drop (i+1) ∧
  aY self live 0 (T.take (i+1))=aY self live 0 (T.take i)++(dv self i live x).2 ∧
  (cn self live 0 (T.take i)++T.drop i)[i]? =some x:=by
 have hi:=(List.getElem?_eq_some_iff.1 hx).1
 have hl:(T.take i).length=i:=by simp;omega
 have hl2:(cn self live 0 (T.take i)).length=i:=by rw[ld,hl]
 refine ⟨?_,?_,?_⟩
 ·rw[l7 hx,xc,hl,List.set_append_right _ _ (by omega),hl2,aM hx];simp[cn]
 ·rw[l7 hx,xd,hl];simp[aY]
 ·rw[List.getElem?_append_right (by omega),hl2,aM hx];simp
theorem GB{l:List Call}{i:Nat}{x:Call}(hx:l[i]? =some x):iO (l.take (i+1))=iO (l.take i)++if x.age+1≤20 then [{ x with age:=x.age+1 }] else []:=by
 rw[l7 hx];unfold iO;rw[List.map_append,List.filter_append]
 by_cases h:x.age+1≤20<;>simp[h]
theorem s1(l:List Call):(iO l).length≤l.length:=by
 unfold iO;exact Nat.le_trans (List.length_filter_le _ _) (by simp)
theorem nq{c:Config}{a:Int}: ∀ {l:List Call} {p:Int},bD c a p l=true→ ∀x∈l,p<x.count∧x.count≤a∧0≤x.topic∧x.topic<c.topics∧0≤x.age∧x.age≤20
 | [],_,_,_,h=>by simp at h
 | y::r,p,h,x,hx=>by
  simp only[bD,Bool.and_eq_true,decide_eq_true_eq] at h
  have h1:=bg h.1.1.2;have h2:=bg h.1.2
  rcases List.mem_cons.1 hx with rfl | hx
  ·omega
  ·have:=nq h.2 x hx;omega
theorem xe{self:Int}{i:Nat}:fa self ((i+1:Nat):Int)=fa self i++if (i:Int)=self then [] else [{ eZ with kind:=1,to:=(i:Int) }]:=by
 unfold fa
 rw[Int.toNat_natCast,Int.toNat_natCast,List.range_succ,List.filter_append,List.map_append]
 by_cases h:(i:Int)=self<;>simp[h]
theorem Ai(self k:Int):(fa self k).length≤k.toNat:=by
 unfold fa;rw[List.length_map];exact Nat.le_trans (List.length_filter_le _ _) (by simp)
theorem GC{self k:Int}{m:Msg}(h:m∈fa self k):m.path=[]∧m.todo=[]:=by
 simp only[fa,List.mem_map] at h
 obtain ⟨i,_,rfl⟩:=h;exact ⟨rfl,rfl⟩
theorem GD{self t:Int}{live:List Int}{x:Topic}:(∀m∈(dv self t live x).2,m.path=[]∧m.todo=[])∧(dv self t live x).2.length≤2:=by
 unfold dv bf rj
 dsimp only
 repeat' split
 all_goals simp[eZ]
theorem lJ{self:Int}{live:List Int}: ∀(l:List Topic) (t:Int),(∀m∈aY self live t l,m.path=[]∧m.todo=[])∧(aY self live t l).length≤2*l.length
 | [],t=>by simp[aY]
 | x::r,t=>by
  obtain ⟨a,b⟩:=lJ (self:=self) (live:=live) r (t+1)
  obtain ⟨d,e⟩:=GD (self:=self) (t:=t) (live:=live) (x:=x)
  refine ⟨fun m hm=>?_,by simp only[aY,List.length_append,List.length_cons];omega⟩
  rw[aY,List.mem_append] at hm
  exact hm.elim (d m) (a m)
theorem lK{c:Config}{t self:Int}{x:Topic}(h:ap c t self x=true):ap c t self (dC x)=true:=by
 have hb:=qu h
 unfold dC
 split
 ·exact h
 ·split
  ·exact s0 h
  ·exact xb h (by omega) (by omega)
theorem lL{c:Config}{t self:Int}{live:List Int}{x:Topic}(h:ap c t self x=true):ap c t self (bF live x)=true:=by
 unfold bF
 split
 ·rw[be] at h ⊢
  obtain ⟨a,b,d,e,f,g,h,i,j,k⟩:=h
  exact ⟨a,b,d,e,by simp[dw],g,h,i,j,k⟩
 ·exact h
theorem Fa(x:Topic)(live:List Int):x.made=(bF live x).made∧x.sub=(bF live x).sub∧x.top=(bF live x).top∧x.root=(bF live x).root∧x.parent=(bF live x).parent∧x.asked=(bF live x).asked∧x.age=(bF live x).age∧x.path=(bF live x).path∧x.kids=(bF live x).kids∧x.stream=(bF live x).stream∧x.queue=(bF live x).queue:=by
 unfold bF;split<;>simp
theorem Jp{x:Topic}{live:List Int}(h:(decide (x.other≠0)&& !live.contains (x.other-1))=true):(bF live x).other=0:=by
 simp only[Bool.and_eq_true,decide_eq_true_eq,Bool.not_eq_true'] at h
 unfold bF;rw[if_pos h]
theorem Kl{x:Topic}{live:List Int}(h:(decide (x.other≠0)&& !live.contains (x.other-1))=false):(bF live x).other=x.other:=by
 unfold bF;rw[if_neg (by rintro ⟨h1,h2⟩;simp[h1] at h;rw[List.contains_iff_mem.2 h] at h2;cases h2)]
def qw:=And.intro @bR (And.intro @kh (And.intro @iu (And.intro @iv (@gp))))
theorem Fb(n:Node)(hp:bj n=false)(hg:am (fo n).2.1):WW ρ 9 ql fo n:=by
 simp only[fo,RR] at hg ⊢
 unfold ql
 simp only[am,cr,bc] at hg
 have hb:=rX hp
 simp (disch:=first|omega|assumption|(constructor<;>first|assumption|omega)|simp only[LN];omega) only[↓SB,S1,↓qw]
 refine aK.rule (α:=Nat) (fun i=>[I i,L (n.topics.take i)]) (fun i=>i≤n.topics.length) (fun i=>n.topics.length-i) 0 rfl (by omega) (fun _=>rfl) ?_
 intro i hl
 simp only[app]
 simp (disch:=first|omega|assumption|(constructor<;>first|assumption|omega)|simp only[LN];omega) only[↓SB,S1,↓qw]
 refine ⟨fun hcc=>?_,fun hcc=>?_⟩
 ·obtain ⟨y,hy⟩:=aE hcc
  have hx9:dO y=false:=by simpa using List.any_eq_false.1 hb.2.2.2.2.2 y (List.mem_of_getElem? hy)
  have hlt:(n.topics.take i).length=i:=by simp;omega
  simp (disch:=first|omega|assumption|(constructor<;>first|assumption|omega)|simp only[LN];omega) only[↓SB,S1,↓qw,ar hy]
  exact ⟨i+1,by simp[l7 hy],by omega,by omega⟩
 rw[List.take_of_length_le (by omega)]
end Go.Xt
end
section
set_option linter.unusedSimpArgs false
set_option linter.unusedVariables false
set_option maxRecDepth 100000
namespace Go.Xt
set_option linter.defProp false
theorem je{c:Config}{self:Int}: ∀ {l:List Call} {T:List Topic},(∀x∈l,0≤x.topic∧x.topic<T.length)→aN c self 0 T=true→aN c self 0 (cH c l T)=true∧(cH c l T).length=T.length
 | [],T,_,h=>⟨h,rfl⟩
 | x::r,T,hb,h=>by
  have h0:=hb x (by simp)
  rw[cH]
  split
  ·exact je (fun y hy=>hb y (by simp[hy])) h
  ·obtain ⟨a,b⟩:=Hm (c:=c) (self:=self) (x:=⟨4,0,0,0,0,x.count⟩) h h0.1 h0.2
   obtain ⟨d,e⟩:=je (c:=c) (self:=self) (l:=r) (fun y hy=>by rw[b];exact hb y (by simp[hy])) a
   exact ⟨d,by rw[e,b]⟩
theorem Km{t self:Int}{l:List Peer}(h:aT l=true)(h0:0≤self)(h1:self<l.length): -1≤br t (cz l self) self∧br t (cz l self) self<8:=by
 have hlo:=x3 t (cz l self) self
 refine ⟨hlo,?_⟩
 have hz:=(tU (sZ h h0 h1)).2.1.2.2
 by_cases hn:0≤br t (cz l self) self
 ·have:=EV l 0 (br t (cz l self) self) (Jk hz hn)
  have hp:=kz h;omega
 ·omega
theorem xf{self:Int}: ∀(l:List Peer) (i:Int),(gj self i l).length≤l.length
 | [],_=>by simp[gj]
 | p::r,i=>by
  have:=xf (self:=self) r (i+1)
  rw[gj,List.length_append,List.length_cons];split<;>simp<;>omega
theorem Aj{t:Int}{x:Topic}(h:x.parent=0):bf t x=(x,[]):=if_pos h
theorem xg{t:Int}{x:Topic}(h: ¬x.parent=0):bf t x=(fM x,[{ eZ with kind:=6,to:=x.parent-1,topic:=t }]):=if_neg h
def ak:=And.intro @kg (And.intro @qp (And.intro @oI (And.intro @Ep (And.intro @bi (And.intro @ur (And.intro @C4 (And.intro @Eh (And.intro @C3 (And.intro @uL (And.intro @yA (And.intro @En (And.intro @Ej (And.intro @C7 (@C8))))))))))))))
theorem Fc(c:Config)(self:Int)(n:Node)(hp:bj n=false)(hg:am (gD (c,self,n)).2.1):WW ρ 17 lE gD (c,self,n):=by
 simp only[gD,RR] at hg ⊢
 unfold lE
 simp only[am,cr,bc] at hg
 generalize hE:eV c self n=q
 unfold eV at hE
 simp (disch:=first|omega|assumption|(constructor<;>first|assumption|omega)|simp only[LN];omega) only[↓SB,S1,↓ak]
 refine ⟨fun hw=>?_,fun hw=>?_⟩
 ·rw[if_neg hw] at hE;rw[←hE];rfl
 rw[if_pos hw] at hE
 obtain ⟨hc,hsr,hu,H⟩:=fY hw
 have hb:=dJ hc
 have hsb:=bg hsr
 have hpl:=H.pl;have hml:=H.ml;have hkl:=H.kl;have hcl:=H.cl;have htl:=H.tl
 have hpo:=H.peers
 have hop:=qv hpo
 have hol:=oS n.peers
 have hpz:ib (aL n.peers) self=0:=by unfold ib;rw[if_pos hop,if_pos (by omega)]
 have hnx:=fun t=>Km (t:=t) hop hsb.1 (by omega)
 have hcz:=sZ hop hsb.1 (by omega)
 have hlen:(cz (aL n.peers) self).length≤1000:=by have:=xf (self:=self) (aL n.peers) 0;unfold cz;omega
 simp (disch:=first|omega|assumption|(constructor<;>first|assumption|omega)|simp only[LN];omega) only[↓SB,S1,↓ak,hpz]
 generalize hlv:cz (aL n.peers) self=live at hE hnx hcz hlen ⊢
 have hcb:=nq H.calls
 have hTok:=je (c:=c) (self:=self) (l:=n.calls) (T:=n.topics) (fun x hx=>by have:=hcb x hx;omega) H.tops
 refine SUB.val [L (iO n.calls),L (cH c n.calls n.topics)] rfl ?_ ?_
 ·generalize hT:cH c n.calls n.topics=T at hTok ⊢
  simp (disch:=first|omega|assumption|(constructor<;>first|assumption|omega)|simp only[LN];omega) only[↓SB,S1,↓ak]
  refine aK.rule (α:=Nat×List Topic) (fun p=>[I p.1,L p.2,L (iO (n.calls.take p.1))]) (fun p=>p.1≤n.calls.length∧cH c (n.calls.drop p.1) p.2=T∧aN c self 0 p.2=true∧p.2.length=n.topics.length) (fun p=>n.calls.length-p.1) (0,n.topics) rfl ⟨by simp,by simpa using hT,H.tops,rfl⟩ (fun _=>rfl) ?_
  rintro ⟨i,a⟩ ⟨hi,h1,h2,h3⟩
  simp only at hi h1 h2 h3
  have hcl3:=s1 (n.calls.take i)
  have hcl4:(n.calls.take i).length≤i:=by simp;omega
  simp only[app]
  simp (disch:=first|omega|assumption|(constructor<;>first|assumption|omega)|simp only[LN];omega) only[↓SB,S1,↓ak]
  refine ⟨fun h4=>?_,fun h4=>?_⟩
  ·obtain ⟨x,hx⟩:=aE h4
   have hxb:=hcb x (List.mem_of_getElem? hx)
   rw[aM hx,cH] at h1
   have hcs:=GB hx
   simp (disch:=first|omega|assumption|(constructor<;>first|assumption|omega)|simp only[LN];omega) only[↓SB,S1,↓ak,ar hx,↓rI (a_count:=x.count)]
   refine ⟨fun h5=>?_,fun h5=>?_⟩
   ·rw[if_pos h5] at h1 hcs
    exact ⟨(i+1,a),by rw[hcs];simp,⟨by simp;omega,h1,h2,h3⟩,by simp;omega⟩
   ·rw[if_neg h5] at h1 hcs
    obtain ⟨k,hk⟩:=Int.eq_ofNat_of_zero_le hxb.2.2.1
    obtain ⟨y,hy⟩:=aE (xs:=a) (i:=k) (by omega)
    have hyo:=nm h2 hy
    have hyl:=rW (gG hc hyo)
    obtain ⟨p1,p2⟩:=Hm (c:=c) (self:=self) (x:=⟨4,0,0,0,0,x.count⟩) h2 hxb.2.2.1 (by omega)
    have hpq:wn c a x.topic ⟨4,0,0,0,0,x.count⟩=a.set k { y with queue:=tJ y.queue c.queue ⟨4,0,0,0,0,x.count⟩ }:=by
     simp[wn,hk,List.getD_eq_getElem?_getD,hy]
    rw[hk]
    simp (disch:=first|omega|assumption|(constructor<;>first|assumption|omega)|simp only[LN];omega) only[↓SB,S1,↓ak,ar hy,↓cy hy (j:=15) (v:=L (tJ y.queue c.queue ⟨4,0,0,0,0,x.count⟩)) (y:={ y with queue:=tJ y.queue c.queue ⟨4,0,0,0,0,x.count⟩ }) rfl]
    exact ⟨(i+1,wn c a x.topic ⟨4,0,0,0,0,x.count⟩),by rw[hcs,hpq];simp,⟨by simp;omega,h1,p1,by rw[p2,h3]⟩,by simp;omega⟩
  ·rw[aH h4,cH] at h1
   rw[List.take_of_length_le (by omega),h1]
 simp only[app]
 generalize hT:cH c n.calls n.topics=T at hE hTok ⊢
 obtain ⟨hT1,hT2⟩:=hTok
 simp (disch:=first|omega|assumption|(constructor<;>first|assumption|omega)|simp only[LN];omega) only[↓SB,S1,↓ak]
 refine aK.rule (α:=Nat) (fun i=>[I i,L (cn self live 0 (T.take i)++T.drop i),L (aY self live 0 (T.take i))]) (fun i=>i≤T.length) (fun i=>T.length-i) 0 (by simp[cn,aY,L]) (by omega) (fun _=>rfl) ?_
 intro i hi
 have hGl:(cn self live 0 (T.take i)++T.drop i).length=T.length:=by simp[ld];omega
 have hMl:=(lJ (self:=self) (live:=live) (T.take i) 0).2
 have hTl:(T.take i).length≤i:=by simp;omega
 simp only[app]
 simp (disch:=first|omega|assumption|(constructor<;>first|assumption|omega)|simp only[LN];omega) only[↓SB,S1,↓ak]
 refine ⟨fun h4=>?_,fun h4=>?_⟩
 ·obtain ⟨x,hx⟩:=aE h4
  obtain ⟨hS,hM,hX⟩:=Ih (self:=self) (live:=live) hx
  have hxo:=nm hT1 hx
  rw[Int.zero_add] at hxo
  have hpc:eX c i self=true:=by simp only[eX,Bool.and_eq_true];exact ⟨by simp[rng];omega,hsr⟩
  have hit:=(wV hc hpc).1
  have hkk:=(be.1 hxo).kids
  have hcn:aT (aL n.peers)=true∧rng self 0 ((aL n.peers).length-1)=true∧isT (i:Int)=true:=⟨hop,by simp[rng];omega,hit⟩
  have hk1:=lc hxo
  obtain ⟨x1,hx1⟩: ∃x1:Topic,x1={ x with kids:=cm x.kids }:=⟨_,rfl⟩
  rw[←hx1] at hk1
  have hW1:=CW hc hpc hk1
  have hl1:=gG hc hk1
  have hl1b:=rW hl1
  have hP1:=lG (be.1 hk1).par
  have hB1:=qu hk1
  have hTk:dv self i live x=if oY self i live=true then if aI x1=true then (lD self x1,[]) else bf i x1 else if aI x1=true then (IX i (br i live self) (bF live (dC { x1 with root:=0 })),rj i (br i live self) (bF live (dC { x1 with root:=0 }))) else bf i { x1 with root:=0 }:=by rw[hx1];rfl
  have e1made:x.made=x1.made:=by rw[hx1]
  have e1sub:x.sub=x1.sub:=by rw[hx1]
  have e1top:x.top=x1.top:=by rw[hx1]
  have e1root:x.root=x1.root:=by rw[hx1]
  have e1parent:x.parent=x1.parent:=by rw[hx1]
  have e1asked:x.asked=x1.asked:=by rw[hx1]
  have e1other:x.other=x1.other:=by rw[hx1]
  have e1age:x.age=x1.age:=by rw[hx1]
  have e1path:x.path=x1.path:=by rw[hx1]
  have e1kids:cm x.kids=x1.kids:=by rw[hx1]
  have e1stream:x.stream=x1.stream:=by rw[hx1]
  have e1queue:x.queue=x1.queue:=by rw[hx1]
  simp (disch:=first|omega|assumption|(constructor<;>first|assumption|omega)|simp only[LN];omega) only[↓SB,S1,↓ak,ar hX,e1made,e1sub,e1top,e1root,e1parent,e1asked,e1other,e1age,e1path,e1kids,e1stream,e1queue]
  refine ⟨fun ho=>?_,fun ho=>?_⟩
  ·have hOw:oY self i live=true:=by simp[oY,ho]
   rw[if_pos hOw] at hTk
   try simp (disch:=first|omega|assumption|(constructor<;>first|assumption|omega)|simp only[LN];omega) only[↓SB,S1,↓ak]
   refine ⟨fun hI=>?_,fun hI=>?_⟩
   ·rw[if_neg (by simp[hI])] at hTk
    refine SUB.path ?_
    simp (disch:=first|omega|assumption|(constructor<;>first|assumption|omega)|simp only[LN];omega) only[↓SB,S1,↓ak]
    refine ⟨fun hz=>?_,fun hz=>?_⟩
    ·rw[Aj hz] at hTk
     rw[hTk] at hS hM
     refine ⟨rfl,?_⟩
     try simp only[app]
     first | rw[jB (by omega) (by omega),ct hX (y:=x1)] | rw[ct hX (y:=x1)]
     try simp (disch:=first|omega|assumption|(constructor<;>first|assumption|omega)|simp only[LN];omega) only[↓SB,S1,↓ak]
     exact ⟨i+1,by rw[hM,←hS];simp[eZ],by omega,by omega⟩
    ·rw[xg hz] at hTk
     rw[hTk] at hS hM
     simp (disch:=first|omega|assumption|(constructor<;>first|assumption|omega)|simp only[LN];omega) only[↓SB,S1,↓ak,↓l9]
     refine ⟨rfl,?_⟩
     try simp only[app]
     first | rw[jB (by omega) (by omega),ct hX (y:=fM x1)] | rw[ct hX (y:=fM x1)]
     try simp (disch:=first|omega|assumption|(constructor<;>first|assumption|omega)|simp only[LN];omega) only[↓SB,S1,↓ak]
     exact ⟨i+1,by rw[hM,←hS];simp[eZ],by omega,by omega⟩
   ·rw[if_pos (by simpa using hI)] at hTk
    refine SUB.path ?_
    simp (disch:=first|omega|assumption|(constructor<;>first|assumption|omega)|simp only[LN];omega) only[↓SB,S1,↓ak]
    refine ⟨rfl,?_⟩
    simp only[app]
    simp (disch:=first|omega|assumption|(constructor<;>first|assumption|omega)|simp only[LN];omega) only[↓SB,S1,↓ak]
    refine ⟨fun hz=>?_,fun hz=>?_⟩
    ·rw[show lD self x1=x1 from if_neg hz] at hTk
     rw[hTk] at hS hM
     first | rw[jB (by omega) (by omega),ct hX (y:=x1)] | rw[ct hX (y:=x1)]
     try simp (disch:=first|omega|assumption|(constructor<;>first|assumption|omega)|simp only[LN];omega) only[↓SB,S1,↓ak]
     exact ⟨i+1,by rw[hM,←hS];simp[eZ],by omega,by omega⟩
    ·rw[show lD self x1=(fw self x1).1 from if_pos hz] at hTk
     rw[hTk] at hS hM
     first | rw[jB (by omega) (by omega),ct hX (y:=(fw self x1).1)] | rw[ct hX (y:=(fw self x1).1)]
     try simp (disch:=first|omega|assumption|(constructor<;>first|assumption|omega)|simp only[LN];omega) only[↓SB,S1,↓ak]
     exact ⟨i+1,by rw[hM,←hS];simp[eZ],by omega,by omega⟩
  ·have hOw: ¬oY self i live=true:=by simp[oY,ho]
   rw[if_neg hOw] at hTk
   obtain ⟨x2,hx2⟩: ∃x2:Topic,x2={ x1 with root:=0 }:=⟨_,rfl⟩
   have hk2:=gH hk1
   rw[←hx2] at hk2 hTk
   have hW2:=CW hc hpc hk2
   have hl2:=gG hc hk2
   have hP2:=lG (be.1 hk2).par
   have hB2:=qu hk2
   have hi2:aI x1=aI x2:=by rw[hx2];rfl
   rw[hi2] at hTk
   have e2made:x1.made=x2.made:=by rw[hx2]
   have e2sub:x1.sub=x2.sub:=by rw[hx2]
   have e2top:x1.top=x2.top:=by rw[hx2]
   have e2parent:x1.parent=x2.parent:=by rw[hx2]
   have e2asked:x1.asked=x2.asked:=by rw[hx2]
   have e2other:x1.other=x2.other:=by rw[hx2]
   have e2age:x1.age=x2.age:=by rw[hx2]
   have e2path:x1.path=x2.path:=by rw[hx2]
   have e2kids:x1.kids=x2.kids:=by rw[hx2]
   have e2stream:x1.stream=x2.stream:=by rw[hx2]
   have e2queue:x1.queue=x2.queue:=by rw[hx2]
   refine SUB.val [bb x2.made,bb x2.sub,I x2.top,I x2.root,I x2.parent,I x2.asked,I x2.other,I x2.age,L x2.path,L x2.kids,I x2.stream.epoch,I x2.stream.want,I x2.stream.known,L x2.stream.kept,L x2.stream.ahead,L x2.queue] rfl ?_ ?_
   ·simp (disch:=first|omega|assumption|(constructor<;>first|assumption|omega)|simp only[LN];omega) only[↓SB,S1,↓ak]
    refine ⟨fun hz=>?_,fun hz=>?_⟩
    ·rw[hx2]
    ·rw[hx2];simp[hz]
   simp only[app]
   simp (disch:=first|omega|assumption|(constructor<;>first|assumption|omega)|simp only[LN];omega) only[↓SB,S1,↓ak]
   refine ⟨fun hI=>?_,fun hI=>?_⟩
   ·rw[if_neg (by simp[hI])] at hTk
    refine SUB.path ?_
    simp (disch:=first|omega|assumption|(constructor<;>first|assumption|omega)|simp only[LN];omega) only[↓SB,S1,↓ak]
    refine ⟨fun hz=>?_,fun hz=>?_⟩
    ·rw[Aj hz] at hTk
     rw[hTk] at hS hM
     refine ⟨rfl,?_⟩
     try simp only[app]
     first | rw[jB (by omega) (by omega),ct hX (y:=x2)] | rw[ct hX (y:=x2)]
     try simp (disch:=first|omega|assumption|(constructor<;>first|assumption|omega)|simp only[LN];omega) only[↓SB,S1,↓ak]
     exact ⟨i+1,by rw[hM,←hS];simp[eZ],by omega,by omega⟩
    ·rw[xg hz] at hTk
     rw[hTk] at hS hM
     simp (disch:=first|omega|assumption|(constructor<;>first|assumption|omega)|simp only[LN];omega) only[↓SB,S1,↓ak,↓l9]
     refine ⟨rfl,?_⟩
     try simp only[app]
     first | rw[jB (by omega) (by omega),ct hX (y:=fM x2)] | rw[ct hX (y:=fM x2)]
     try simp (disch:=first|omega|assumption|(constructor<;>first|assumption|omega)|simp only[LN];omega) only[↓SB,S1,↓ak]
     exact ⟨i+1,by rw[hM,←hS];simp[eZ],by omega,by omega⟩
   ·rw[if_pos (by simpa using hI)] at hTk
    obtain ⟨y1,hy1⟩: ∃y1:Topic,y1=dC x2:=⟨_,rfl⟩
    have hk3:=lK hk2
    rw[←hy1] at hk3 hTk
    obtain ⟨y2,hy2⟩: ∃y2:Topic,y2=bF live y1:=⟨_,rfl⟩
    have hk4:=lL (live:=live) hk3
    rw[←hy2] at hk4 hTk
    have hO3:=lG (be.1 hk3).oth
    have hO4:=lG (be.1 hk4).oth
    have hP4:=lG (be.1 hk4).par
    have hnb:=hnx i
    have hfe:=Fa y1 live
    rw[←hy2] at hfe
    obtain ⟨e3made,e3sub,e3top,e3root,e3parent,e3asked,e3age,e3path,e3kids,e3stream,e3queue⟩:=hfe
    refine SUB.path ?_
    simp (disch:=first|omega|assumption|(constructor<;>first|assumption|omega)|simp only[LN];omega) only[↓SB,S1,↓ak]
    refine SUB.val [bb y1.made,bb y1.sub,I y1.top,I y1.root,I y1.parent,I y1.asked,I y1.other,I y1.age,L y1.path,L y1.kids,I y1.stream.epoch,I y1.stream.want,I y1.stream.known,L y1.stream.kept,L y1.stream.ahead,L y1.queue] rfl ?_ ?_
    ·have hW3:wo c i self { x2 with age:=min (x2.age+1) 1000 }=0:=CW hc hpc (xb hk2 (by omega) (by omega))
     simp (disch:=first|omega|assumption|(constructor<;>first|assumption|omega)|simp only[LN];omega) only[↓SB,S1,↓ak]
     refine ⟨fun hz=>⟨fun h6=>?_,fun h6=>?_⟩,fun hz=>?_⟩
     ·rw[hy1];unfold dC;rw[if_neg hz,if_pos h6];rfl
     ·rw[hy1];unfold dC;rw[if_neg hz,if_neg h6]
     ·rw[hy1];unfold dC;rw[if_pos hz]
    simp only[app]
    refine SUB.v1 (bb (decide (y1.other≠0)&& !live.contains (y1.other-1))) ?_ ?_
    ·simp (disch:=first|omega|assumption|(constructor<;>first|assumption|omega)|simp only[LN];omega) only[↓SB,S1,↓ak]
     refine ⟨fun hz=>?_,fun hz=>?_⟩ <;>simp[hz]
    refine SUB.v1 (I y2.other) ?_ ?_
    ·simp (disch:=first|omega|assumption|(constructor<;>first|assumption|omega)|simp only[LN];omega) only[↓SB,S1,↓ak]
     refine ⟨fun hz=>?_,fun hz=>?_⟩
     ·rw[hy2,Jp hz]
     ·rw[hy2,Kl hz]
    simp (disch:=first|omega|assumption|(constructor<;>first|assumption|omega)|simp only[LN];omega) only[↓SB,S1,↓ak,e3made,e3sub,e3top,e3root,e3parent,e3asked,e3age,e3path,e3kids,e3stream,e3queue]
    refine SUB.v1 (I (if y2.other=0 then br i live self else y2.other-1)) ?_ ?_
    ·simp (disch:=first|omega|assumption|(constructor<;>first|assumption|omega)|simp only[LN];omega) only[↓SB,S1,↓ak,hlv]
     refine ⟨fun hz=>?_,fun hz=>?_⟩
     ·rw[if_pos hz]
     ·rw[if_neg hz]
    have hto: -1≤(if y2.other=0 then br i live self else y2.other-1)∧(if y2.other=0 then br i live self else y2.other-1)<8:=by split<;>omega
    unfold IX rj at hTk
    generalize (if y2.other=0 then br i live self else y2.other-1)=to at hto hTk ⊢
    simp (disch:=first|omega|assumption|(constructor<;>first|assumption|omega)|simp only[LN];omega) only[↓SB,S1,↓ak,↓l9,e3made,e3sub,e3top,e3root,e3parent,e3asked,e3age,e3path,e3kids,e3stream,e3queue]
    refine ⟨fun hz=>⟨fun h6=>?_,fun h6=>?_⟩,fun hz=>?_⟩
    ·rw[if_pos ⟨hz,h6⟩] at hTk
     rw[hTk] at hS hM
     try simp (disch:=first|omega|assumption|(constructor<;>first|assumption|omega)|simp only[LN];omega) only[↓SB,S1,↓ak,↓l9]
     refine ⟨rfl,?_⟩
     try simp only[app]
     first | rw[jB (by omega) (by omega),ct hX (y:={ y2 with asked:=to+1 })] | rw[ct hX (y:={ y2 with asked:=to+1 })]
     try simp (disch:=first|omega|assumption|(constructor<;>first|assumption|omega)|simp only[LN];omega) only[↓SB,S1,↓ak]
     exact ⟨i+1,by rw[hM,←hS];simp[eZ],by omega,by omega⟩
    ·rw[if_neg (by intro h;exact h6 h.2)] at hTk
     rw[hTk] at hS hM
     refine ⟨rfl,?_⟩
     try simp only[app]
     first | rw[jB (by omega) (by omega),ct hX (y:={ y2 with asked:=to+1 })] | rw[ct hX (y:={ y2 with asked:=to+1 })]
     try simp (disch:=first|omega|assumption|(constructor<;>first|assumption|omega)|simp only[LN];omega) only[↓SB,S1,↓ak]
     exact ⟨i+1,by rw[hM,←hS];simp[eZ],by omega,by omega⟩
    ·rw[if_neg (by intro h;exact h.1 hz)] at hTk
     rw[hTk] at hS hM
     refine ⟨rfl,?_⟩
     try simp only[app]
     first | rw[jB (by omega) (by omega),ct hX (y:={ y2 with asked:=to+1 })] | rw[ct hX (y:={ y2 with asked:=to+1 })]
     try simp (disch:=first|omega|assumption|(constructor<;>first|assumption|omega)|simp only[LN];omega) only[↓SB,S1,↓ak]
     exact ⟨i+1,by rw[hM,←hS];simp[eZ],by omega,by omega⟩
 ·rw[List.take_of_length_le (by omega),List.drop_eq_nil_of_le (by omega),List.append_nil]
  obtain ⟨hMb,hMn⟩:=lJ (self:=self) (live:=live) T 0
  refine aK.rule (α:=Nat) (fun j=>[I j,L (aY self live 0 T++fa self j)]) (fun j=>(j:Int)≤c.nodes) (fun j=>c.nodes.toNat-j) 0 (by simp[fa]) (by omega) (fun _=>rfl) ?_
  intro j hj
  have hpn:=Ai self j
  have hps:=xe (self:=self) (i:=j)
  simp only[app]
  simp (disch:=first|omega|assumption|(constructor<;>first|assumption|omega)|simp only[LN];omega) only[↓SB,S1,↓ak]
  refine ⟨fun h=>⟨fun h5=>?_,fun h5=>?_⟩,fun h=>?_⟩
  ·rw[if_neg h5] at hps
   simp (disch:=first|omega|assumption|(constructor<;>first|assumption|omega)|simp only[LN];omega) only[↓SB,S1,↓ak,↓l9]
   exact ⟨j+1,by rw[hps];simp[eZ],by omega,by omega⟩
  ·rw[if_pos h5] at hps
   exact ⟨j+1,by rw[hps];simp,by omega,by omega⟩
  ·have hj2:(j:Int)=c.nodes:=by omega
   have hpre:(aY self live 0 T++fa self j).length≤1000∧(aL n.peers).length≤12∧ ∀m∈aY self live 0 T++fa self j,m.path.length≤30∧m.todo.length≤30:=by
    refine ⟨by simp;omega,by omega,fun m hm=>?_⟩
    have:m.path=[]∧m.todo=[]:=(List.mem_append.1 hm).elim (hMb m) GC
    rw[this.1,this.2];simp
   simp (disch:=first|omega|assumption|(constructor<;>first|assumption|omega)|simp only[LN];omega) only[↓SB,S1,↓ak]
   rw[←hE,hj2]
   simp only[cG,nd,hlv,hT]
end Go.Xt
end
section
set_option linter.unusedSimpArgs false
set_option linter.unusedVariables false
set_option maxRecDepth 100000
namespace Go.Xt
set_option linter.defProp false
def wT:=eV uq 3 wN0
def wL:List Msg:=[{ eZ with kind:=6,to:=1 },{ eZ with kind:=1,to:=2 }]
def wR:=tM uq 3 wN0 wL
theorem wt0:bj wN0=false∧wT.2.2=0∧wT.2.1.length=7∧wT.1.up=true∧wR.2=0∧wR.1.length=1:=by decide +kernel
theorem wt1:wT.2.1[0]? =some { eZ with kind:=1,frm:=3,fromInc:=1,to:=0 }:=by decide +kernel
theorem wt2:wR.1[0]? =some { eZ with kind:=1,frm:=3,fromInc:=1,to:=2 }:=by decide +kernel
theorem wt3:bj wN0=false∧wL.length≤1000∧ ∀m∈wL,m.path.length≤30∧m.todo.length≤30:=by
 refine ⟨wt0.1,by decide,fun m hm=>?_⟩
 simp only[wL,List.mem_cons,List.not_mem_nil,or_false] at hm
 rcases hm with rfl | rfl<;>decide
def zc:=And.intro @sR (And.intro @gE (@oL))
theorem zd  :WW ρ 0 mJ fT ():=by
 simp only[fT,RR]
 unfold mJ
 have e8:(8:Int).toNat=8:=rfl
 have e4:(4:Int).toNat=4:=rfl
 rw[oL]
 have cT: ∀k,CALL ρ 27 [I 8,I 4,I 2,I 8,I 8,I 8,I 16,I 3,bb true,I 1,L wN0.peers,L wN0.topics,L (α:=Call) [],I 0,I 0,L wN0.marks,L (α:=Mark2) []] 11 k=k (bb wT.1.up) (I wT.1.inc) (L wT.1.peers) (L wT.1.topics) (L wT.1.calls) (I wT.1.pubs) (I wT.1.asks) (L wT.1.marks) (L wT.1.taken) (L wT.2.1) (I wT.2.2) :=
  fun k=>gE (k_:=k) wt0.1
 have cR: ∀k,CALL ρ 26 [I 8,I 4,I 2,I 8,I 8,I 8,I 16,I 3,bb true,I 1,L wN0.peers,L wN0.topics,L (α:=Call) [],I 0,I 0,L wN0.marks,L (α:=Mark2) [],L wL] 2 k=k (L wR.1) (I wR.2) :=
  fun k=>sR (k_:=k) wt3
 have f1:(List.replicate 8 (⟨0,0⟩:Peer))=wN0.peers:=rfl
 have f2:(List.replicate 4 eY)=wN0.topics:=rfl
 have f3:(List.replicate 8 (⟨0,0,0⟩:Mark))=wN0.marks:=rfl
 have f4: ∀k,OP (.rows 16) [I 6,I 0,I 0,I 1,I 0,I 0,I 0,I 0,I 0,I 0,I 0,I 0,I 0,I 0,.list [],.list [],I 1,I 0,I 0,I 2,I 0,I 0,I 0,I 0,I 0,I 0,I 0,I 0,I 0,I 0,.list [],.list []] k=k (L wL):=fun k=>az (by rfl)
 refine Or.inl ⟨[L wN0.peers,L wN0.topics,L wN0.marks,bb wT.1.up,I wT.1.inc,L wT.1.peers,L wT.1.topics,L wT.1.calls,I wT.1.pubs,I wT.1.asks,L wT.1.marks,L wT.1.taken,L wT.2.1,I wT.2.2,L wT.2.1,I wT.2.2,bb wT.1.up,I wT.1.inc,L wT.1.peers,L wT.1.topics,L wT.1.calls,I wT.1.pubs,I wT.1.asks,L wT.1.marks,L wT.1.taken,L wN0.peers,L wN0.topics,L wN0.marks],rfl,?_,?_⟩
 ·simp (disch:=omega) only[pQ,nO,pR,e8,e4,f1,f2,f3,cT,and_self]
 simp only[app]
 refine Or.inl ⟨[L wN0.peers,L wN0.topics,L wN0.marks,L wL,I wR.2,I wR.2,L wR.1,L wN0.peers,L wN0.topics,L wN0.marks],rfl,?_,?_⟩
 ·simp (disch:=omega) only[pQ,nO,pR,e8,e4,f1,f2,f3,f4,cR,and_self]
 simp only[app]
 obtain ⟨g0,g1,g2,g3,g4,g5⟩:=wt0
 have g2':(wT.2.1.length:Int)=7:=by rw[g2];rfl
 have g5':(wR.1.length:Int)=1:=by rw[g5];rfl
 have h1: ∀j,(L wT.2.1).cellAt (I 0) j=look (Row.row ({ eZ with kind:=1,frm:=3,fromInc:=1,to:=0 }:Msg)) j:=fun j=>ar (i:=0) wt1
 have h2: ∀j,(L wR.1).cellAt (I 0) j=look (Row.row ({ eZ with kind:=1,frm:=3,fromInc:=1,to:=2 }:Msg)) j:=fun j=>ar (i:=0) wt2
 rw[g1,g3,g4]
 simp (disch:=first|omega|assumption|(constructor<;>first|assumption|omega)|simp only[LN];omega) only[↓SB,S1,↓zc,h1,h2,g2',g5']
end Go.Xt
end
section
set_option linter.unusedSimpArgs false
set_option linter.unusedVariables false
set_option maxRecDepth 100000
namespace Go.Xt
set_option maxHeartbeats 4000000
theorem GE{c:Config}{self:Int}{n:Node}(h:ba c self n=0):eV c self n=(cG c self n,nd c self n,0):=if_pos h
end Go.Xt
end
section
set_option linter.unusedSimpArgs false
set_option linter.unusedVariables false
set_option maxRecDepth 100000
namespace Go.Xt
set_option linter.defProp false
set_option maxHeartbeats 4000000
theorem D0{n top:Int}(hn:isN n=true)(h0:0≤top):top<nc n top∧nc n top≤top+16∧nc n top % 16=n:=by
 have h1:=bx.1 hn
 have hm:=Int.emod_nonneg top (show (16:Int)≠0 by omega)
 have hm2:=Int.emod_lt_of_pos top (show (0:Int)<16 by omega)
 unfold nc;split<;>omega
def Me(x y:Topic):Prop:=y={ x with queue:=y.queue }∧x.queue.length≤y.queue.length
theorem ux{c:Config}: ∀ {l:List Call} {T:List Topic},(∀x∈l,0≤x.topic)→ ∀ {k:Nat} {x:Topic},T[k]? =some x→ ∃y,(cH c l T)[k]? =some y∧Me x y
 | [],T,_,k,x,hx=>⟨x,hx,rfl,by omega⟩
 | z::r,T,hb,k,x,hx=>by
  have ih:=fun (T:List Topic) (x:Topic)=>ux (c:=c) (l:=r) (T:=T) (fun y hy=>hb y (by simp[hy])) (k:=k) (x:=x)
  rw[cH]
  split
  ·exact ih T x hx
  ·obtain ⟨j,hj⟩:=Int.eq_ofNat_of_zero_le (hb z (by simp))
   by_cases hk:j=k
   ·subst hk
    have hlt:=(List.getElem?_eq_some_iff.1 hx).1
    have h1:(wn c T z.topic ⟨4,0,0,0,0,z.count⟩)[j]? =some { x with queue:=tJ x.queue c.queue ⟨4,0,0,0,0,z.count⟩ }:=by
     have hgd:T.getD j eY=x:=by simp[List.getD_eq_getElem?_getD,hx]
     simp only[wn,hj,Int.toNat_natCast,hgd,List.getElem?_set_self hlt]
    obtain ⟨y,h2,h3,h4⟩:=ih _ _ h1
    have hf:=Kj x.queue c.queue ⟨4,0,0,0,0,z.count⟩
    exact ⟨y,h2,by rw[h3],by dsimp only at h4;omega⟩
   ·have h1:(wn c T z.topic ⟨4,0,0,0,0,z.count⟩)[k]? =some x:=by
     simp[wn,hj,List.getElem?_set_ne hk,hx]
    exact ih _ _ h1
theorem s2{self:Int}{live:List Int}: ∀ {l:List Topic} {t:Int} {k:Nat} {x:Topic},l[k]? =some x→(cn self live t l)[k]? =some (dv self (t+k) live x).1
 | [],_,_,_,h=>by simp at h
 | y::r,t,0,x,h=>by simp at h;subst h;simp[cn]
 | y::r,t,k+1,x,h=>by
  have:=s2 (self:=self) (live:=live) (l:=r) (t:=t+1) (k:=k) (x:=x) (by simpa using h)
  rw[cn,List.getElem?_cons_succ,this,show t+1+(k:Int)=t+((k+1:Nat):Int) by omega]
structure Quiet (x y:Topic):Prop where
 made:y.made=x.made
 sub:y.sub=x.sub
 top:x.top≤y.top
 kids:y.kids.length≤x.kids.length
 queue:x.queue.length≤y.queue.length
 str:y.stream=x.stream∨(y.root≠0∧y.root≠x.root)
theorem GF{c:Config}{t self:Int}{live:List Int}{x:Topic}(hs:isN self=true)(h:ap c t self x=true):Quiet x (dv self t live x).1:=by
 have hk:=x9 x.kids
 have hb:=qu h
 have hr:=(be.1 h).root
 have ha: ∀z:Topic,(dC z).made=z.made∧(dC z).sub=z.sub∧(dC z).top=z.top∧(dC z).kids=z.kids∧(dC z).queue=z.queue∧(dC z).stream=z.stream:=fun z=>by
  unfold dC;split
  ·simp
  ·split<;>simp[fM]
 have hf: ∀z:Topic,(bF live z).made=z.made∧(bF live z).sub=z.sub∧(bF live z).top=z.top∧(bF live z).kids=z.kids∧(bF live z).queue=z.queue∧(bF live z).stream=z.stream:=fun z=>by
  unfold bF;split<;>simp
 have hl: ∀z:Topic,(bf t z).1.made=z.made∧(bf t z).1.sub=z.sub∧(bf t z).1.top=z.top∧(bf t z).1.kids=z.kids∧(bf t z).1.queue=z.queue∧(bf t z).1.stream=z.stream:=fun z=>by
  unfold bf;split<;>simp[fM]
 unfold dv
 dsimp only
 split
 ·split
  ·unfold lD
   split
   ·rename_i hz
    unfold fw at hz ⊢
    dsimp only at hz ⊢
    split
    ·exact ⟨rfl,rfl,by dsimp only;omega,hk,by dsimp only;omega,.inl rfl⟩
    ·rename_i hnr
     rw[if_neg hnr] at hz
     split
     ·rename_i hnz;rw[if_pos hnz] at hz;simp at hz
     ·rename_i hnz
      obtain ⟨u1,u2,u3⟩:=D0 hs hb.1
      have hw:jv self x.top=nc self x.top:=by
       unfold jv at hnz ⊢
       by_cases hq:1073741824<nc self x.top
       ·rw[if_pos hq] at hnz;exact absurd rfl hnz
       ·rw[if_neg hq]
      rw[hw]
      refine ⟨rfl,rfl,by dsimp only;omega,hk,by dsimp only[fM];omega,.inr ⟨by dsimp only;omega,?_⟩⟩
      simp only[jG,Bool.or_eq_true,Bool.and_eq_true,decide_eq_true_eq] at hr
      dsimp only
      rcases hr with hr | hr
      ·omega
      ·have:=hr.1.1.2;omega
   ·exact ⟨rfl,rfl,by dsimp only;omega,hk,by dsimp only;omega,.inl rfl⟩
  ·obtain ⟨a,b,d,e,f,g⟩:=hl { x with kids:=cm x.kids }
   exact ⟨a,b,by rw[d];dsimp only;omega,by rw[e];exact hk,by rw[f];dsimp only;omega,.inl g⟩
 ·split
  ·obtain ⟨a,b,d,e,f,g⟩:=ha { { x with kids:=cm x.kids } with root:=0 }
   obtain ⟨a',b',d',e',f',g'⟩:=hf (dC { { x with kids:=cm x.kids } with root:=0 })
   refine ⟨?_,?_,?_,?_,?_,.inl ?_⟩
   ·show (bF live _).made=_;rw[a',a]
   ·show (bF live _).sub=_;rw[b',b]
   ·show _≤(bF live _).top;rw[d',d];dsimp only;omega
   ·show (bF live _).kids.length≤_;rw[e',e];exact hk
   ·show _≤(bF live _).queue.length;rw[f',f];dsimp only;omega
   ·show (bF live _).stream=_;rw[g',g]
  ·obtain ⟨a,b,d,e,f,g⟩:=hl { { x with kids:=cm x.kids } with root:=0 }
   exact ⟨a,b,by rw[d];dsimp only;omega,by rw[e];exact hk,by rw[f];dsimp only;omega,.inl g⟩
theorem Al{c:Config}{self:Int}{n m:Node}(hw:ba c self n=0)(hm:m=cG c self n) :
  m.marks=n.marks∧m.taken=n.taken∧m.calls.length≤n.calls.length∧m.topics.length=n.topics.length∧ ∀(k:Nat) (x:Topic),n.topics[k]? =some x→ ∃y,m.topics[k]? =some y∧Quiet x y:=by
 obtain ⟨hc,hsr,hu,H⟩:=fY hw
 have hb:=dJ hc
 have hsb:=bg hsr
 have hcb:=nq H.calls
 have htl:=H.tl
 have hs:isN self=true:=bx.2 (by omega)
 obtain ⟨h1,h2⟩:=je (c:=c) (self:=self) (l:=n.calls) (T:=n.topics) (fun x hx=>by have:=hcb x hx;omega) H.tops
 subst hm
 refine ⟨rfl,rfl,s1 _,by show (cn _ _ _ _).length=_;rw[ld,h2],fun k x hx=>?_⟩
 obtain ⟨z,hz,e1,e2⟩:=ux (c:=c) (l:=n.calls) (fun x hx=>(hcb x hx).2.2.1) hx
 have hg:=s2 (self:=self) (live:=cz (aL n.peers) self) (t:=0) hz
 refine ⟨_,hg,?_⟩
 have hq:=GF (live:=cz (aL n.peers) self) hs (nm h1 hz)
 have f1:z.made=x.made:=by rw[e1]
 have f2:z.sub=x.sub:=by rw[e1]
 have f3:z.top=x.top:=by rw[e1]
 have f4:z.kids=x.kids:=by rw[e1]
 have f5:z.stream=x.stream:=by rw[e1]
 have f6:z.root=x.root:=by rw[e1]
 obtain ⟨a,b,d,e,f,g⟩:=hq
 rw[f1] at a;rw[f2] at b;rw[f3] at d;rw[f4] at e;rw[f5,f6] at g
 exact ⟨a,b,d,e,by omega,g⟩
def aJ:=And.intro @mP (And.intro @mQ (And.intro @gE (And.intro @jl (@qo))))
theorem t7(c:Config)(self:Int)(n:Node)(hg:am (ck (c,self,n)).2.1):WW ρ 17 ii ck (c,self,n):=by
 simp only[ck,RR] at hg ⊢
 unfold ii
 simp only[am,cr,bc] at hg
 refine SUB.v1 (bb (bj n||decide (¬ba c self n=0))) ?_ ?_
 ·simp (disch:=first|omega|assumption|(constructor<;>first|assumption|omega)|simp only[LN];omega) only[↓SB,S1,↓aJ,Node.eta]
  cases bj n<;>simp
 cases hh:(bj n||decide (¬ba c self n=0))
 case true=>simp (disch:=first|omega|assumption|(constructor<;>first|assumption|omega)|simp only[LN];omega) only[↓SB,S1,↓aJ]
 simp only[Bool.or_eq_false_iff,decide_eq_false_iff_not,Decidable.not_not] at hh
 obtain ⟨hh1,hw⟩:=hh
 have hhb:=rX hh1
 obtain ⟨hc,hsr,hu,H⟩:=fY hw
 have hb:=dJ hc
 have htl:=H.tl
 have hT:=GE hw
 simp (disch:=first|omega|assumption|(constructor<;>first|assumption|omega)|simp only[LN];omega) only[↓SB,S1,↓aJ,Node.eta,hT]
 obtain ⟨m,hm⟩: ∃m,m=cG c self n:=⟨_,rfl⟩
 obtain ⟨q1,q2,q3,q4,q5⟩:=Al hw hm
 rw[←hm]
 refine SUB.v1 (bb false) ?_ ?_
 ·simp (disch:=first|omega|assumption|(constructor<;>first|assumption|omega)|simp only[LN];omega) only[↓SB,S1,↓aJ,q1,q2,q4]
  have: ¬(n.calls.length:Int)<m.calls.length:=by omega
  simp[this]
 simp (disch:=first|omega|assumption|(constructor<;>first|assumption|omega)|simp only[LN];omega) only[↓SB,S1,↓aJ,q1,q2]
 refine aK.rule (α:=Nat) (fun i=>[I i]) (fun i=>i≤n.marks.length) (fun i=>n.marks.length-i) 0 rfl (by omega) (fun _=>rfl) ?_
 intro i hi
 simp only[app]
 simp (disch:=first|omega|assumption|(constructor<;>first|assumption|omega)|simp only[LN];omega) only[↓SB,S1,↓aJ]
 refine ⟨fun h4=>?_,fun h4=>?_⟩
 ·obtain ⟨x,hx⟩:=aE h4
  simp (disch:=first|omega|assumption|(constructor<;>first|assumption|omega)|simp only[LN];omega) only[↓SB,S1,↓aJ,ar hx]
  exact ⟨fun h=>by simp at h,fun _=>⟨i+1,rfl,by omega,by omega⟩⟩
 clear h4 hi i
 refine aK.rule (α:=Nat) (fun i=>[I i]) (fun i=>i≤n.taken.length) (fun i=>n.taken.length-i) 0 rfl (by omega) (fun _=>rfl) ?_
 intro i hi
 simp only[app]
 simp (disch:=first|omega|assumption|(constructor<;>first|assumption|omega)|simp only[LN];omega) only[↓SB,S1,↓aJ]
 refine ⟨fun h4=>?_,fun h4=>?_⟩
 ·obtain ⟨x,hx⟩:=aE h4
  simp (disch:=first|omega|assumption|(constructor<;>first|assumption|omega)|simp only[LN];omega) only[↓SB,S1,↓aJ,ar hx]
  exact ⟨fun h=>by simp at h,fun _=>⟨i+1,rfl,by omega,by omega⟩⟩
 clear h4 hi i
 refine aK.rule (α:=Nat) (fun i=>[I i]) (fun i=>i≤n.topics.length) (fun i=>n.topics.length-i) 0 rfl (by omega) (fun _=>rfl) ?_
 intro i hi
 simp only[app]
 simp (disch:=first|omega|assumption|(constructor<;>first|assumption|omega)|simp only[LN];omega) only[↓SB,S1,↓aJ]
 intro h4
 obtain ⟨x,hx⟩:=aE h4
 obtain ⟨y,hy,Q⟩:=q5 i x hx
 refine SUB.val [bb x.made,bb x.sub,I x.top,I x.root,I x.parent,I x.asked,I x.other,I x.age,L x.path,L x.kids,I x.stream.epoch,I x.stream.want,I x.stream.known,L x.stream.kept,L x.stream.ahead,L x.queue,bb y.made,bb y.sub,I y.top,I y.root,I y.parent,I y.asked,I y.other,I y.age,L y.path,L y.kids,I y.stream.epoch,I y.stream.want,I y.stream.known,L y.stream.kept,L y.stream.ahead,L y.queue,bb y.made,bb y.sub,I y.top,I y.root,I y.parent,I y.asked,I y.other,I y.age,L y.path,L y.kids,I y.stream.epoch,I y.stream.want,I y.stream.known,L y.stream.kept,L y.stream.ahead,L y.queue,bb x.made,bb x.sub,I x.top,I x.root,I x.parent,I x.asked,I x.other,I x.age,L x.path,L x.kids,I x.stream.epoch,I x.stream.want,I x.stream.known,L x.stream.kept,L x.stream.ahead,L x.queue] rfl ?_ ?_
 ·simp (disch:=first|omega|assumption|(constructor<;>first|assumption|omega)|simp only[LN];omega) only[↓SB,S1,↓aJ,ar hx,ar hy]
 simp only[app]
 have k1:=Q.made;have k2:=Q.sub;have k3:=Q.top;have k4:=Q.kids;have k5:=Q.queue
 have k3': ¬y.top<x.top:=by omega
 have k4': ¬(x.kids.length:Int)<y.kids.length:=by omega
 have k5': ¬(y.queue.length:Int)<x.queue.length:=by omega
 simp (disch:=first|omega|assumption|(constructor<;>first|assumption|omega)|simp only[LN];omega) only[↓SB,S1,↓aJ,k1,k2,k3',k4',k5',Stream.eta]
 rcases Q.str with h | h
 ·rw[h];simp;exact ⟨i+1,rfl,by omega,by omega⟩
 ·by_cases hst:x.stream=y.stream
  ·rw[hst];simp;exact ⟨i+1,rfl,by omega,by omega⟩
  ·simp (disch:=first|omega|assumption|(constructor<;>first|assumption|omega)|simp only[LN];omega) only[↓SB,S1,↓aJ,hst,h.1,h.2]
   exact ⟨fun e=>by simp at e,fun _=>⟨fun e=>by simp at e,fun _=>⟨i+1,rfl,by omega,by omega⟩⟩⟩
end Go.Xt
end
section
set_option linter.unusedSimpArgs false
set_option linter.unusedVariables false
set_option maxRecDepth 100000
namespace Go.Xt
theorem D1{c:Config}{t self:Int}{x:Topic}(hc:bt c=true)(hs:isN self=true)(h:ap c t self x=true):ap c t self (lD self x)=true:=by
 unfold lD
 split
 ·rename_i hz
  unfold fw at hz ⊢
  split
  ·exact h
  ·rename_i hnr
   rw[if_neg hnr] at hz
   split
   ·rename_i hnz;rw[if_pos hnz] at hz;simp at hz
   ·rename_i hnz
    have hb:=qu h
    have hcb:=dJ hc
    obtain ⟨u1,u2,u3⟩:=D0 hs hb.1
    have hw:jv self x.top=nc self x.top∧nc self x.top≤1073741824:=by
     unfold jv at hnz ⊢
     by_cases hq:1073741824<nc self x.top
     ·rw[if_pos hq] at hnz;exact absurd rfl hnz
     ·rw[if_neg hq];exact ⟨rfl,by omega⟩
    rw[hw.1]
    generalize nc self x.top=e at u1 u2 u3 hw ⊢
    have hl:=be.1 (s0 h)
    obtain ⟨a,b,d,e',f,g,i,j,k,l⟩:=hl
    have hep:ep e=true:=by simp only[ep,Bool.and_eq_true];exact ⟨by simp[rng];omega,by rw[u3];exact hs⟩
    refine be.2 ⟨by simp[rng];omega,b,d,e',f,?_,i,j,k,?_⟩
    ·simp only[jG,Bool.or_eq_true,Bool.and_eq_true,decide_eq_true_eq]
     exact .inr ⟨⟨⟨⟨hep,u3⟩,by omega⟩,rfl⟩,rfl⟩
    ·simp only[hU,Bool.and_eq_true] at l ⊢
     refine ⟨?_,l.2⟩
     simp only[hR,Hg,pP,lB,Bool.or_eq_true,Bool.and_eq_true,decide_eq_true_eq]
     exact .inr ⟨⟨⟨⟨hep,by decide⟩,by decide⟩,⟨⟨⟨⟨by decide,by simp[rng];omega⟩,decide_eq_true (by simp;omega)⟩,by simp⟩,rfl⟩⟩,⟨by decide,by simp[rng];omega⟩,rfl⟩
 ·exact h
theorem t8{c:Config}{t self:Int}{x:Topic}(h:ap c t self x=true):ap c t self (bf t x).1=true:=by
 unfold bf;split
 ·exact h
 ·exact s0 h
theorem Kn{t self a:Int}(h:a= -1∨cq t a self=true):dw t self (a+1)=true:=by
 simp only[dw,Bool.or_eq_true,Bool.and_eq_true,decide_eq_true_eq]
 rcases h with h | h
 ·left;omega
 ·have:=(eA h).2.1
  right;exact ⟨by omega,by rw[show a+1-1=a by omega];exact h⟩
theorem D2{t self a:Int}(h:dw t self a=true):a-1= -1∨cq t (a-1) self=true:=by
 simp only[dw,Bool.or_eq_true,Bool.and_eq_true,decide_eq_true_eq] at h
 rcases h with h | h
 ·left;omega
 ·exact .inr h.2
theorem D3{c:Config}{t self:Int}{live:List Int}{y:Topic}(h:ap c t self y=true):(if y.other=0 then br t live self else y.other-1)= -1∨cq t (if y.other=0 then br t live self else y.other-1) self=true:=by
 split
 ·exact (l8 t live self).imp id (·.1)
 ·exact D2 (be.1 h).oth
theorem Ii{c:Config}{t self:Int}{live:List Int}{y:Topic}(h:ap c t self y=true):ap c t self (IX t (br t live self) y)=true:=by
 have hn:=D3 (live:=live) h
 rw[be] at h ⊢
 obtain ⟨a,b,d,e,f,g,h,i,j,k⟩:=h
 exact ⟨a,b,d,Kn hn,f,g,h,i,j,k⟩
theorem xh{c:Config}{t self:Int}{live:List Int}{x:Topic}(hc:bt c=true)(hs:isN self=true)(h:ap c t self x=true):ap c t self (dv self t live x).1=true:=by
 have h1:=lc h
 unfold dv
 dsimp only
 split
 ·split
  ·exact D1 hc hs h1
  ·exact t8 h1
 ·split
  ·exact Ii (lL (lK (gH h1)))
  ·exact t8 (gH h1)
theorem Am{c:Config}{self:Int}{live:List Int}(hc:bt c=true)(hs:isN self=true): ∀ {l:List Topic} {t:Int},aN c self t l=true→aN c self t (cn self live t l)=true
 | [],_,_=>rfl
 | x::r,t,h=>by
  rw[aN,Bool.and_eq_true] at h
  rw[cn,aN,Bool.and_eq_true]
  exact ⟨xh hc hs h.1,Am hc hs h.2⟩
theorem uy{c:Config}{a:Int}: ∀ {l:List Call} {p:Int},bD c a p l=true→bD c a p (iO l)=true
 | [],_,_=>rfl
 | x::r,p,h=>by
  simp only[bD,Bool.and_eq_true,decide_eq_true_eq] at h
  have hr:=bg h.1.2
  have ih:=uy h.2
  have hcons:iO (x::r)=(if x.age+1≤20 then [{ x with age:=x.age+1 }] else [])++iO r:=by
   unfold iO;rw[List.map_cons,List.filter_cons];by_cases h:x.age+1≤20<;>simp[h]
  rw[hcons]
  by_cases hx:x.age+1≤20
  ·rw[if_pos hx,List.singleton_append]
   simp only[bD,Bool.and_eq_true,decide_eq_true_eq]
   exact ⟨⟨⟨h.1.1.1,h.1.1.2⟩,by simp[rng];omega⟩,ih⟩
  ·rw[if_neg hx,List.nil_append];exact x5 ih (by omega) (by omega)
theorem Ij{c:Config}{self:Int}{n:Node}(hw:ba c self n=0):ba c self (cG c self n)=0:=by
 obtain ⟨hc,hsr,hu,H⟩:=fY hw
 have hb:=dJ hc
 have hsb:=bg hsr
 have hcb:=nq H.calls
 have htl:=H.tl
 have hs:isN self=true:=bx.2 (by omega)
 obtain ⟨h1,h2⟩:=je (c:=c) (self:=self) (l:=n.calls) (T:=n.topics) (fun x hx=>by have:=hcb x hx;omega) H.tops
 have hcl:=s1 n.calls
 have hcl2:=H.cl
 have hpl:=H.pl
 refine Lq hc hsr hu ⟨H.inc,H.pubs,H.asks,uy H.calls,by show (iO n.calls).length≤40;omega,?_,?_,H.ml,H.kl,Am hc hs h1,qv H.peers,H.marks,H.taken⟩
 ·show ((aL n.peers).length:Int)=c.nodes;rw[oS];exact hpl
 ·show ((cn _ _ _ _).length:Int)=c.topics;rw[ld,h2];exact htl
inductive Pre (c:Config) (me:Int):Msg→Prop
 | ping (i:Int) (h0:0≤i) (h1:i<c.nodes) (h2:i≠me):Pre c me { eZ with kind:=1,to:=i }
 | join (t a e:Int) (h0:0≤t) (h1:t<c.topics) (h2:a= -1∨cq t a me=true) (h3:rng e 0 1073741824=true):Pre c me { eZ with kind:=2,to:=a,topic:=t,epoch:=e }
 | leave (t a:Int) (h0:0≤t) (h1:t<c.topics) (h2:a= -1∨cq t a me=true):Pre c me { eZ with kind:=6,to:=a,topic:=t }
 | nack (t a e s:Int) (h0:0≤t) (h1:t<c.topics) (h2:a= -1∨cq t a me=true) (h3:rng e 1 1073741824=true) (h4:cnt s=true):Pre c me { eZ with kind:=8,to:=a,topic:=t,epoch:=e,seq:=s }
theorem xi{c:Config}{t self:Int}{x:Topic}(h0:0≤t)(h1:t<c.topics)(h:ap c t self x=true): ∀m∈(bf t x).2,Pre c self m:=by
 intro m hm
 unfold bf at hm
 split at hm
 ·simp at hm
 ·simp only[List.mem_singleton] at hm
  subst hm;exact .leave t _ h0 h1 (D2 (be.1 h).par)
theorem Jq{c:Config}{t self:Int}{live:List Int}{x:Topic}(h0:0≤t)(h1:t<c.topics)(h:ap c t self x=true): ∀m∈(dv self t live x).2,Pre c self m:=by
 have hk:=lc h
 unfold dv
 dsimp only
 split
 ·split
  ·simp
  ·exact xi h0 h1 hk
 ·split
  ·have hy:=lL (live:=live) (lK (gH hk))
   generalize bF live (dC { { x with kids:=cm x.kids } with root:=0 })=y at hy ⊢
   have hyi:=be.1 hy
   intro m hm
   simp only[rj,List.mem_append,List.mem_singleton] at hm
   rcases hm with rfl | hm
   ·exact .join t _ _ h0 h1 (D3 hy) hyi.top
   ·split at hm
    ·rename_i hq
     simp only[List.mem_singleton] at hm
     subst hm
     have hf:=hyi.flow
     simp only[hU,hR,Bool.and_eq_true,Bool.or_eq_true] at hf
     rcases hf.1 with hz | hz
     ·simp only[kc,Bool.and_eq_true,decide_eq_true_eq] at hz;omega
     ·simp only[ep,Bool.and_eq_true] at hz
      exact .nack t _ _ _ h0 h1 (D2 hyi.par) hz.1.1.1.1.1 hz.1.1.1.2
    ·simp at hm
  ·exact xi h0 h1 (gH hk)
theorem An{c:Config}{self:Int}{live:List Int}: ∀ {l:List Topic} {t:Int},0≤t→t+l.length≤c.topics→aN c self t l=true→ ∀m∈aY self live t l,Pre c self m
 | [],_,_,_,_,_,hm=>by simp[aY] at hm
 | x::r,t,h0,h1,h,m,hm=>by
  rw[aN,Bool.and_eq_true] at h
  rw[List.length_cons] at h1
  rw[aY,List.mem_append] at hm
  rcases hm with hm | hm
  ·exact Jq h0 (by omega) h.1 m hm
  ·exact An (by omega) (by omega) h.2 m hm
structure Out (c:Config) (me:Int) (n:Node) (m:Msg):Prop where
 frm:m.frm=me
 finc:m.fromInc=n.inc
 ne:m.to≠me
 lo:0≤m.to
 hi:m.to<c.nodes
 top:m.topic<c.topics
 kind:m.kind=1∨((m.kind=2∨m.kind=6∨m.kind=8)∧m.toInc=(n.peers.getD m.to.toNat ⟨0,0⟩).inc)
end Go.Xt
end
section
set_option linter.unusedSimpArgs false
set_option linter.unusedVariables false
set_option maxRecDepth 100000
namespace Go.Xt
set_option linter.defProp false
set_option maxHeartbeats 4000000
theorem xj(l:List Peer)(k:Nat):((aL l).getD k ⟨0,0⟩).inc=(l.getD k ⟨0,0⟩).inc:=by
 simp only[aL,List.getD_eq_getElem?_getD,List.getElem?_map]
 cases l[k]? <;>rfl
theorem older_get?(l:List Peer)(k:Nat):((aL l)[k]?.getD ⟨0,0⟩).inc=(l[k]?.getD ⟨0,0⟩).inc:=by
 have:=xj l k
 simpa only[List.getD_eq_getElem?_getD] using this
theorem xk{c:Config}{self a:Int}{n:Node}(hw:ba c self n=0)(h:qU (cG c self n) a=true):0≤a∧a<c.nodes∧cnt (n.peers.getD a.toNat ⟨0,0⟩).inc=true:=by
 obtain ⟨hc,hsr,hu,H⟩:=fY hw
 have hpl:=H.pl
 simp only[qU,cG,Bool.and_eq_true,decide_eq_true_eq,xj,oS] at h
 have hb:=bg h.1
 have h2:=h.2
 refine ⟨by omega,by omega,?_⟩
 obtain ⟨k,rfl⟩:=Int.eq_ofNat_of_zero_le hb.1
 obtain ⟨p,hp⟩:=aE (xs:=n.peers) (i:=k) (by omega)
 have hpb:=CQ H.peers (List.mem_of_getElem? hp)
 simp only[Int.toNat_natCast,List.getD_eq_getElem?_getD,hp,Option.getD_some] at h2 ⊢
 simp[cnt,rng];omega
theorem Hn{c:Config}{self:Int}{n:Node}(hw:ba c self n=0){m:Msg}(hp:Pre c self m)(hk:(decide (m.kind=1)||qU (cG c self n) m.to)=true) :
  lC (ez self (cG c self n) m)=true∧Out c self n (ez self (cG c self n) m):=by
 obtain ⟨hc,hsr,hu,H⟩:=fY hw
 have hb:=dJ hc
 have hsb:=bg hsr
 have hs:isN self=true:=bx.2 (by omega)
 have hi:=H.inc
 have hN:(cG c self n).inc=n.inc:=rfl
 have hP:(cG c self n).peers=aL n.peers:=rfl
 cases hp with
 | ping i h0 h1 h2 =>
  have hiN:isN i=true:=bx.2 (by omega)
  refine ⟨?_,⟨rfl,rfl,h2,h0,h1,by show (0:Int)<_;omega,.inl rfl⟩⟩
  simp[lC,ez,eZ,jT,nP,rJ,pS,hs,hiN,hi,hN,Ne.symm h2]
 | join t a e h0 h1 h2 h3 =>
  have hh:qU (cG c self n) a=true:=by simpa[eZ] using hk
  obtain ⟨b0,b1,b2⟩:=xk hw hh
  rw[List.getD_eq_getElem?_getD] at b2
  have hnr:=h2.resolve_left (by omega)
  have hne:=vg hnr
  have haN:isN a=true:=bx.2 (by omega)
  have htN:rng t 0 3=true:=by simp[rng];omega
  refine ⟨?_,⟨rfl,rfl,hne,b0,b1,h1,.inr ⟨.inl rfl,?_⟩⟩⟩
  ·simp[lC,ez,eZ,jT,nP,rJ,pS,hs,haN,hi,hN,hP,Ne.symm hne,older_get?,b2,htN,h3]
  ·simp[ez,hP,older_get?]
 | leave t a h0 h1 h2 =>
  have hh:qU (cG c self n) a=true:=by simpa[eZ] using hk
  obtain ⟨b0,b1,b2⟩:=xk hw hh
  rw[List.getD_eq_getElem?_getD] at b2
  have hnr:=h2.resolve_left (by omega)
  have hne:=vg hnr
  have haN:isN a=true:=bx.2 (by omega)
  have htN:rng t 0 3=true:=by simp[rng];omega
  refine ⟨?_,⟨rfl,rfl,hne,b0,b1,h1,.inr ⟨.inr (.inl rfl),?_⟩⟩⟩
  ·simp[lC,ez,eZ,jT,nP,rJ,pS,hs,haN,hi,hN,hP,Ne.symm hne,older_get?,b2,htN]
  ·simp[ez,hP,older_get?]
 | nack t a e s h0 h1 h2 h3 h4 =>
  have hh:qU (cG c self n) a=true:=by simpa[eZ] using hk
  obtain ⟨b0,b1,b2⟩:=xk hw hh
  rw[List.getD_eq_getElem?_getD] at b2
  have hnr:=h2.resolve_left (by omega)
  have hne:=vg hnr
  have haN:isN a=true:=bx.2 (by omega)
  have htN:rng t 0 3=true:=by simp[rng];omega
  refine ⟨?_,⟨rfl,rfl,hne,b0,b1,h1,.inr ⟨.inr (.inr rfl),?_⟩⟩⟩
  ·simp[lC,ez,eZ,jT,nP,rJ,pS,tK,hs,haN,hi,hN,hP,Ne.symm hne,older_get?,b2,htN,h3,h4]
  ·simp[ez,hP,older_get?]
def tW(n:Node)(m:Msg):Bool:=decide (m.kind=1)||qU n m.to
theorem Fd{self:Int}{n:Node}: ∀ {l:List Msg},(∀m∈l,tW n m=true→lC (ez self n m)=true)→jI self n l=some ((l.filter (tW n)).map (ez self n))
 | [],_=>rfl
 | m::r,h=>by
  have ih:=Fd (self:=self) (n:=n) (l:=r) (fun m hm=>h m (by simp[hm]))
  rw[jI,List.filter_cons,show (decide (m.kind=1)||qU n m.to)=tW n m from rfl]
  by_cases hg:tW n m=true
  ·rw[if_pos hg,if_pos hg,if_pos (h m (by simp) hg),ih];rfl
  ·rw[if_neg hg,if_neg hg,ih]
def nr(l:List Msg):Nat:=(l.filter fun m=>decide (m.kind=1)).length
theorem Fe(a b:List Msg):nr (a++b)=nr a+nr b:=by simp[nr]
theorem Ko(a:List Msg):nr a≤a.length:=List.length_filter_le _ _
theorem Ao{self:Int}{n:Node}: ∀l:List Msg,nr ((l.filter (tW n)).map (ez self n))=nr l
 | []=>rfl
 | m::r=>by
  have ih:=Ao (self:=self) (n:=n) r
  have hk:(ez self n m).kind=m.kind:=rfl
  unfold nr at ih ⊢
  by_cases h1:m.kind=1
  ·have hg:tW n m=true:=by simp[tW,h1]
   simp only[List.filter_cons,hg,if_true,List.map_cons,hk,h1,decide_true,List.length_cons];omega
  ·by_cases hg:tW n m=true
   ·simp only[List.filter_cons,hg,if_true,List.map_cons,hk,h1,decide_false,Bool.false_eq_true,if_false];exact ih
   ·simp only[List.filter_cons,hg,h1,decide_false,Bool.false_eq_true,if_false];exact ih
theorem qO{self k:Int}: ∀m∈fa self k,m.kind=1∧ ∃i:Int,0≤i∧i<k∧i≠self∧m={ eZ with kind:=1,to:=i }:=by
 intro m hm
 simp only[fa,List.mem_map,List.mem_filter,List.mem_range,decide_eq_true_eq] at hm
 obtain ⟨i,⟨h1,h2⟩,rfl⟩:=hm
 exact ⟨rfl,i,by omega,by omega,h2,rfl⟩
theorem uz{self:Int}(h0:0≤self): ∀k:Nat,((fa self (k:Int)).length:Int)=k-(if self<k then 1 else 0)
 | 0=>by simp[fa];omega
 | k+1=>by
  have ih:=uz h0 k
  rw[xe,List.length_append]
  by_cases h:(k:Int)=self
  ·rw[if_pos h];rw[if_neg (by omega)] at ih;rw[if_pos (by omega)];simp;omega
  ·rw[if_neg h]
   by_cases h2:self<k
   ·rw[if_pos h2] at ih;rw[if_pos (by omega)];simp;omega
   ·rw[if_neg h2] at ih;rw[if_neg (by omega)];simp;omega
theorem GG{self t:Int}{live:List Int}{x:Topic}: ∀m∈(dv self t live x).2,m.kind≠1:=by
 unfold dv bf rj
 dsimp only
 repeat' split
 all_goals simp
theorem uA{self:Int}{live:List Int}: ∀(l:List Topic) (t:Int),∀m∈aY self live t l,m.kind≠1
 | [],t=>by simp[aY]
 | x::r,t=>by
  intro m hm
  rw[aY,List.mem_append] at hm
  exact hm.elim (GG m) (uA r (t+1) m)
theorem s3{c:Config}{self:Int}{n:Node}(hw:ba c self n=0) :
  ∃l:List Msg,l=aY self (cz (aL n.peers) self) 0 (cH c n.calls n.topics)++fa self c.nodes ∧
   (∀m∈l,Pre c self m)∧nd c self n=(l.filter (tW (cG c self n))).map (ez self (cG c self n)) ∧
   (∀m∈nd c self n,Out c self n m)∧(nr (nd c self n):Int)=c.nodes-1∧(nd c self n).length≤1000:=by
 obtain ⟨hc,hsr,hu,H⟩:=fY hw
 have hb:=dJ hc
 have hsb:=bg hsr
 have hcb:=nq H.calls
 have htl:=H.tl
 obtain ⟨h1,h2⟩:=je (c:=c) (self:=self) (l:=n.calls) (T:=n.topics) (fun x hx=>by have:=hcb x hx;omega) H.tops
 have hpre: ∀m∈aY self (cz (aL n.peers) self) 0 (cH c n.calls n.topics)++fa self c.nodes,Pre c self m:=by
  intro m hm
  rcases List.mem_append.1 hm with hm | hm
  ·exact An (by omega) (by omega) h1 m hm
  ·obtain ⟨_,i,a,b,d,rfl⟩:=qO m hm
   exact .ping i a b d
 have hmade:=Fd (self:=self) (n:=cG c self n) (fun m hm hg=>(Hn hw (hpre m hm) hg).1)
 have hM:nd c self n=((aY self (cz (aL n.peers) self) 0 (cH c n.calls n.topics)++fa self c.nodes).filter (tW (cG c self n))).map (ez self (cG c self n)):=by
  unfold nd wq;rw[hmade];rfl
 refine ⟨_,rfl,hpre,hM,?_,?_,?_⟩
 ·intro m hm
  rw[hM] at hm
  simp only[List.mem_map,List.mem_filter] at hm
  obtain ⟨z,⟨hz,hg⟩,rfl⟩:=hm
  exact (Hn hw (hpre z hz) hg).2
 ·rw[hM,Ao,Fe]
  have e1:nr (aY self (cz (aL n.peers) self) 0 (cH c n.calls n.topics))=0:=by
   unfold nr;rw[List.length_eq_zero_iff,List.filter_eq_nil_iff]
   intro m hm;simpa using uA _ _ m hm
  have e2:nr (fa self c.nodes)=(fa self c.nodes).length:=by
   unfold nr;rw[List.filter_eq_self.2];intro m hm;simpa using (qO m hm).1
  obtain ⟨k,hk⟩:=Int.eq_ofNat_of_zero_le (show 0≤c.nodes by omega)
  have e3:=uz hsb.1 k
  rw[if_pos (by omega)] at e3
  rw[e1,e2,hk];omega
 ·rw[hM,List.length_map]
  have:=List.length_filter_le (tW (cG c self n)) (aY self (cz (aL n.peers) self) 0 (cH c n.calls n.topics)++fa self c.nodes)
  have e1:=(lJ (self:=self) (live:=cz (aL n.peers) self) (cH c n.calls n.topics) 0).2
  have e2:=Ai self c.nodes
  rw[List.length_append] at this;omega
def aR:=And.intro @mP (And.intro @mQ (And.intro @kg (And.intro @gE (@jl))))
theorem tc(c:Config)(self:Int)(n:Node)(hg:am (ci (c,self,n)).2.1):WW ρ 17 ig ci (c,self,n):=by
 simp only[ci,RR] at hg ⊢
 unfold ig
 simp only[am,cr,bc] at hg
 refine SUB.v1 (bb (bj n||decide (¬ba c self n=0))) ?_ ?_
 ·simp (disch:=first|omega|assumption|(constructor<;>first|assumption|omega)|simp only[LN];omega) only[↓SB,S1,↓aR,Node.eta]
  cases bj n<;>simp
 cases hh:(bj n||decide (¬ba c self n=0))
 case true=>simp (disch:=first|omega|assumption|(constructor<;>first|assumption|omega)|simp only[LN];omega) only[↓SB,S1,↓aR]
 simp only[Bool.or_eq_false_iff,decide_eq_false_iff_not,Decidable.not_not] at hh
 obtain ⟨hh1,hw⟩:=hh
 obtain ⟨hc,hsr,hu,H⟩:=fY hw
 have hb:=dJ hc
 have hsb:=bg hsr
 have hpl:=H.pl
 have hT:=GE hw
 have hwm:=Ij hw
 obtain ⟨l,hl,hpre,hM,hO,hC,hL⟩:=s3 hw
 clear hl hpre hM
 generalize hout:nd c self n=out at hT hO hC hL
 simp (disch:=first|omega|assumption|(constructor<;>first|assumption|omega)|simp only[LN];omega) only[↓SB,S1,↓aR,Node.eta,hT]
 refine SUB.v1 (bb false) ?_ ?_
 ·simp (disch:=first|omega|assumption|(constructor<;>first|assumption|omega)|simp only[LN];omega) only[↓SB,S1,↓aR,Node.eta,hwm,show (cG c self n).inc=n.inc from rfl,show (cG c self n).pubs=n.pubs from rfl,show (cG c self n).asks=n.asks from rfl]
 simp (disch:=first|omega|assumption|(constructor<;>first|assumption|omega)|simp only[LN];omega) only[↓SB,S1,↓aR]
 refine aK.rule (α:=Nat) (fun i=>[I (nr (out.take i)),I i]) (fun i=>i≤out.length) (fun i=>out.length-i) 0 rfl (by omega) (fun _=>rfl) ?_
 intro i hi
 have hcl:=Ko (out.take i)
 have hcl2:(out.take i).length≤1000:=by simp;omega
 simp only[app]
 simp (disch:=first|omega|assumption|(constructor<;>first|assumption|omega)|simp only[LN];omega) only[↓SB,S1,↓aR]
 refine ⟨fun h4=>?_,fun h4=>?_⟩
 ·obtain ⟨x,hx⟩:=aE h4
  have O:=hO x (List.mem_of_getElem? hx)
  obtain ⟨o1,o2,o3,o4,o5,o6,o7⟩:=O
  have hct:nr (out.take (i+1))=nr (out.take i)+if x.kind=1 then 1 else 0:=by
   rw[l7 hx,Fe];by_cases h:x.kind=1<;>simp[nr,h]
  simp (disch:=first|omega|assumption|(constructor<;>first|assumption|omega)|simp only[LN];omega) only[↓SB,S1,↓aR,ar hx]
  refine SUB.v1 (bb false) ?_ ?_
  ·have a1: ¬x.to<0:=by omega
   have a2: ¬c.nodes≤x.to:=by omega
   have a3: ¬c.topics≤x.topic:=by omega
   simp (disch:=first|omega|assumption|(constructor<;>first|assumption|omega)|simp only[LN];omega) only[↓SB,S1,↓aR,o1,o2,o3,a1,a2,a3]
  obtain ⟨k,hk⟩:=Int.eq_ofNat_of_zero_le o4
  obtain ⟨p,hp⟩:=aE (xs:=n.peers) (i:=k) (by omega)
  rcases o7 with h7 | ⟨h7,h8⟩
  ·rw[if_pos h7] at hct
   simp (disch:=first|omega|assumption|(constructor<;>first|assumption|omega)|simp only[LN];omega) only[↓SB,S1,↓aR,h7]
   exact ⟨i+1,by rw[hct];simp,by omega,by omega⟩
  ·have h9:x.toInc=p.inc:=by rw[h8,hk];simp[List.getD_eq_getElem?_getD,hp]
   have h1: ¬x.kind=1:=by omega
   rw[if_neg h1] at hct
   rw[hk]
   have e0: ∃a':Nat,[I ((nr (out.take i):Nat):Int),I ((i:Int)+1)]=[I ((nr (out.take a'):Nat):Int),I (a':Int)]∧a'≤out.length∧out.length-a'<out.length-i:=⟨i+1,by rw[hct];simp,by omega,by omega⟩
   rcases h7 with h7 | h7 | h7
   all_goals
    simp (disch:=first|omega|assumption|(constructor<;>first|assumption|omega)|simp only[LN];omega) only[↓SB,S1,↓aR,h7,ar hp,h9]
    repeat' (first | exact e0 | refine ⟨fun h=>absurd h (by decide),fun _=>?_⟩)
 ·rw[List.take_of_length_le (by omega)]
  have:(nr out:Int)=c.nodes-1:=hC
  simp (disch:=first|omega|assumption|(constructor<;>first|assumption|omega)|simp only[LN];omega) only[↓SB,S1,↓aR,this]
end Go.Xt
end
section
set_option linter.unusedSimpArgs false
set_option linter.unusedVariables false
set_option maxRecDepth 100000
namespace Go.Xt
set_option linter.defProp false
set_option maxHeartbeats 4000000
theorem GH: ∀a b:Fin 8,nn (a.val:Int)=nn (b.val:Int)→a=b:=by decide +kernel
theorem Jr{a b:Int}(ha:isN a=true)(hb:isN b=true)(h:nn a=nn b):a=b:=by
 rw[bx] at ha hb
 obtain ⟨a,rfl⟩:=Int.eq_ofNat_of_zero_le ha.1
 obtain ⟨b,rfl⟩:=Int.eq_ofNat_of_zero_le hb.1
 have:=GH ⟨a,by omega⟩ ⟨b,by omega⟩ h
 simp only[Fin.mk.injEq] at this;omega
theorem qx{self:Int}: ∀(l:List Int) (b d:Int),(∀x∈l,0≤x)→(b<0∨d=far (nn b) (nn self)) →
  (bW self b d l=b∨(bW self b d l∈l∧bW self b d l≠self))∧(b<0→(∃x∈l,x≠self)→bW self b d l∈l∧bW self b d l≠self) ∧
  (∀x∈l,x≠self→far (nn (bW self b d l)) (nn self)≤far (nn x) (nn self))∧(0≤b→far (nn (bW self b d l)) (nn self)≤far (nn b) (nn self))
 | [],b,d,_,_=>by simp[bW]
 | x::r,b,d,h0,hd=>by
  have h1: ∀x∈r,0≤x:=fun y hy=>h0 y (by simp[hy])
  have hx:=h0 x (by simp)
  unfold bW
  split
  ·rename_i hc
   obtain ⟨a1,a2,a3,a4⟩:=qx r x (far (nn x) (nn self)) h1 (.inr rfl)
   have a5:bW self x (far (nn x) (nn self)) r∈x::r∧bW self x (far (nn x) (nn self)) r≠self:=by
    rcases a1 with a1 | a1
    ·rw[a1];exact ⟨by simp,hc.1⟩
    ·exact ⟨by simp[a1.1],a1.2⟩
   refine ⟨.inr a5,fun _ _=>a5,fun y hy hn=>?_,fun hb=>?_⟩
   ·rcases List.mem_cons.1 hy with rfl | hy
    ·exact a4 hx
    ·exact a3 y hy hn
   ·have:=a4 hx
    rcases hd with h | h
    ·omega
    ·rcases hc.2 with h2 | h2<;>omega
  ·rename_i hc
   obtain ⟨a1,a2,a3,a4⟩:=qx r b d h1 hd
   refine ⟨?_,fun hb he=>?_,fun y hy hn=>?_,a4⟩
   ·rcases a1 with a1 | a1
    ·exact .inl a1
    ·exact .inr ⟨by simp[a1.1],a1.2⟩
   ·obtain ⟨y,hy,hn⟩:=he
    rcases List.mem_cons.1 hy with rfl | hy
    ·exact absurd ⟨hn,.inl hb⟩ hc
    ·have:=a2 hb ⟨y,hy,hn⟩
     exact ⟨by simp[this.1],this.2⟩
   ·rcases List.mem_cons.1 hy with rfl | hy
    ·have hb: ¬(b<0∨far (nn y) (nn self)<d):=fun h=>hc ⟨hn,h⟩
     have:=a4 (by omega)
     rcases hd with h | h<;>omega
    ·exact a3 y hy hn
theorem GI{live:List Int}{self:Int}(h: ∀x∈live,isN x=true)(he: ∃x∈live,x≠self) :
  dB live self∈live∧dB live self≠self∧ ∀x∈live,x≠self→far (nn (dB live self)) (nn self)≤far (nn x) (nn self):=by
 obtain ⟨_,a2,a3,_⟩:=qx (self:=self) live (-1) 0 (fun x hx=>(bx.1 (h x hx)).1) (.inl (by omega))
 have:=a2 (by omega) he
 exact ⟨this.1,this.2,a3⟩
theorem GJ{t n:Int}:gap t n=far (tt t) (nn n):=rfl
theorem GK{t:Int}{live:List Int}{self x:Int}(ht:isT t=true)(h: ∀x∈live,isN x=true)(hx:x∈live)(hs:self∈live)(hn:gap t x<gap t self):cq t (dB live self) self=true:=by
 have hne:x≠self:=by rintro rfl;omega
 obtain ⟨a1,a2,a3⟩:=GI h ⟨x,hx,hne⟩
 have a4:=a3 x hx hne
 have n1:=h _ a1
 have n2:=h _ hs
 simp only[cq,Bool.and_eq_true,decide_eq_true_eq]
 refine ⟨⟨⟨ht,n1⟩,n2⟩,?_⟩
 have k1:nn (dB live self)≠nn self:=fun e=>a2 (Jr n1 n2 e)
 rw[GJ,GJ] at hn ⊢
 have b1:=Hj t
 have b2:=nk x
 have b3:=nk self
 have b4:=nk (dB live self)
 generalize nn (dB live self)=a at *
 generalize nn self=s at *
 generalize nn x=y at *
 generalize tt t=u at *
 simp only[far] at *
 repeat' split at a4
 all_goals repeat' split at hn
 all_goals repeat' split
 all_goals omega
theorem qP{t:Int}: ∀(l:List Int) (b:Int),(∀x∈l,cq t x (fL t b l)=false)∧(cq t b (fL t b l)=false)
 | [],b=>by
  refine ⟨by simp,?_⟩
  cases h:cq t b b with
  | false=>exact h
  | true=>exact absurd rfl (vg h)
 | x::r,b=>by
  unfold fL
  by_cases e:cq t x b=true
  ·rw[if_pos e]
   obtain ⟨h1,h2⟩:=qP (t:=t) r x
   refine ⟨fun y hy=>?_,?_⟩
   ·rcases List.mem_cons.1 hy with rfl | hy
    ·exact h2
    ·exact h1 y hy
   ·cases h:cq t b (fL t x r) with
    | false=>rfl
    | true=>rw[kZ e h] at h2;cases h2
  ·rw[if_neg e]
   obtain ⟨h1,h2⟩:=qP (t:=t) r b
   refine ⟨fun y hy=>?_,h2⟩
   rcases List.mem_cons.1 hy with rfl | hy
   ·cases h:cq t y (fL t b r) with
    | false=>rfl
    | true =>
     rcases jc (t:=t) r b with h3 | h3
     ·rw[h3] at h;exact absurd h e
     ·exact absurd (kZ h h3.1) e
   ·exact h1 y hy
def own(t:Int)(l:List Int):Int:=(ly t l).1
theorem Ff{t:Int}{l:List Int}(ht:isT t=true)(h: ∀x∈l,isN x=true)(hl:l≠[]):(ly t l).2=0∧own t l∈l∧ ∀x∈l,cq t x (own t l)=false:=by
 unfold own ly
 rw[if_pos ht,if_pos (List.all_eq_true.2 h)]
 cases l with
 | nil=>exact absurd rfl hl
 | cons x r =>
  refine ⟨rfl,?_,(qP (x::r) x).1⟩
  rcases jc (t:=t) (x::r) x with e | e
  ·simp only;rw[e];simp
  ·exact e.2
theorem Js{t a b:Int}(ht:isT t=true)(ha:isN a=true)(hb:isN b=true)(h:a≠b):cq t a b=true∨cq t b a=true:=by
 simp only[cq,ht,ha,hb,Bool.true_and,decide_eq_true_eq]
 simp only[GJ]
 have k:nn a≠nn b:=fun e=>h (Jr ha hb e)
 have b1:=Hj t
 have b2:=nk a
 have b3:=nk b
 revert b1 b2 b3 k
 generalize nn a=x
 generalize nn b=y
 generalize tt t=u
 intro k b1 b2 b3
 simp only[far]
 repeat' split
 all_goals omega
theorem Ik{t:Int}{live:List Int}{n:Int}(ht:isT t=true)(h: ∀x∈live,isN x=true)(hn:n∈live):br t live n<0↔n=own t live:=by
 have hl:live≠[]:=by rintro rfl;simp at hn
 obtain ⟨_,o1,o2⟩:=Ff ht h hl
 constructor
 ·intro hx
  refine Classical.byContradiction fun hne=>?_
  rcases Js ht (h _ hn) (h _ o1) hne with e | e
  ·rw[o2 n hn] at e;cases e
  ·have ha:=GK ht h o1 hn (eA e).2.2.2
   have:cq t (dB live n) (fL t n (hD live n++[dB live n]))=false:=(qP _ _).1 _ (by simp)
   unfold br at hx
   split at hx
   ·rename_i h1;rw[h1,ha] at this;cases this
   ·rename_i h1
    have:=(eA ((jc (t:=t) _ _).resolve_left h1).1).2.1.1
    omega
 ·rintro rfl
  rcases l8 t live (own t live) with e | ⟨e1,e2⟩
  ·omega
  ·rcases wZ hl e2 with h1 | h1
   ·omega
   ·rw[o2 _ h1.1] at e1;cases e1
theorem Jt(z:Topic):(dC z).sub=z.sub∧(dC z).kids=z.kids∧(dC z).root=z.root∧(dC z).top=z.top:=by
 unfold dC;split
 ·simp
 ·split<;>simp[fM]
theorem GL{x:Topic}{c:Config}{t self:Int}(h:ap c t self x=true)(hp:x.parent=0):x.path=[]:=by
 have h1:=be.1 h
 have hpl:=h1.plc
 unfold hZ at hpl
 cases hx:x.path with
 | nil=>rfl
 | cons p r =>
  rw[hx] at hpl
  simp only[decide_eq_true_eq] at hpl
  have hc:=h1.path
  unfold chk at hc
  split at hc
  ·rename_i h2
   simp only[Bool.and_eq_true,List.all_eq_true] at h2
   have:=bx.1 (h2.2 p (by rw[hx];simp))
   rw[wr (by omega) (by omega)] at hpl;omega
  ·omega
theorem Kq{c:Config}{t self:Int}{live:List Int}{x X:Topic}(hs:isN self=true)(h:ap c t self x=true)(ho:oY self t live=true)(hX:X=(dv self t live x).1) :
  (aI X=true→((X.root≠0∧X.root=X.top)∨1073741792≤X.top)∧(X.parent=0∨X.root=0))∧(aI X=false→X.parent=0):=by
 have h1:=lc h
 generalize hx1:({ x with kids:=cm x.kids }:Topic)=x1 at h1
 have hr:=(be.1 h1).root
 simp only[jG,Bool.or_eq_true,Bool.and_eq_true,decide_eq_true_eq] at hr
 have hb:=qu h1
 unfold dv at hX
 dsimp only at hX
 rw[hx1,if_pos ho] at hX
 by_cases hi:aI x1=true
 ·rw[if_pos hi] at hX
  have hbi: ∀z,aI z=true→aI z=false→False:=fun z a b=>by rw[a] at b;cases b
  unfold lD at hX
  split at hX
  ·rename_i hz
   unfold fw at hz hX
   split at hX
   ·rename_i hc
    subst hX
    exact ⟨fun _=>⟨.inl hc,by rcases hr with hr | hr;exact .inr hr;exact .inl hr.1.2⟩,fun h2=>(hbi _ hi h2).elim⟩
   ·rename_i hnr
    rw[if_neg hnr] at hz
    split at hX
    ·rename_i hnz;rw[if_pos hnz] at hz;simp at hz
    ·rename_i hnz
     subst hX
     have:aI ({ fM x1 with root:=jv self x1.top,top:=jv self x1.top,stream:=Hg (jv self x1.top) 1 }:Topic)=aI x1:=rfl
     exact ⟨fun _=>⟨.inl ⟨hnz,rfl⟩,.inl rfl⟩,fun h2=>(hbi _ hi (this▸h2)).elim⟩
  ·rename_i hz
   subst hX
   refine ⟨fun _=>⟨.inr ?_,by rcases hr with hr | hr;exact .inr hr;exact .inl hr.1.2⟩,fun h2=>(hbi _ hi h2).elim⟩
   unfold fw at hz
   split at hz
   ·exact absurd rfl hz
   ·split at hz
    ·rename_i hnz
     obtain ⟨u1,u2,u3⟩:=D0 hs hb.1
     unfold jv at hnz
     split at hnz
     ·omega
     ·omega
    ·exact absurd rfl hz
 ·rw[if_neg hi] at hX
  have hp:X.parent=0:=by
   subst hX;unfold bf;split
   ·assumption
   ·rfl
  have hii:aI X=aI x1:=by
   subst hX;unfold bf;split<;>rfl
  exact ⟨fun h2=>absurd (hii▸h2) hi,fun _=>hp⟩
structure NotOwn (t me nx:Int) (X:Topic):Prop where
 root:X.root=0
 free:aI X=false→X.parent=0∧X.path=[]
 ask0:aI X=true→X.other=0→X.asked=nx+1
 ask1:aI X=true→X.other≠0→X.asked=X.other
theorem Kr{c:Config}{t self:Int}{live:List Int}{x X:Topic}(h:ap c t self x=true)(ho:oY self t live=false)(hX:X=(dv self t live x).1) :
  NotOwn t self (br t live self) X∧ ∀m∈(dv self t live x).2,m.kind=2→aI X=true∧m.to+1=X.asked∧(m.to= -1∨cq t m.to self=true)∧m.epoch=X.top:=by
 have h1:=lc h
 have hT:dv self t live x=if aI { x with kids:=cm x.kids }=true then (IX t (br t live self) (bF live (dC { { x with kids:=cm x.kids } with root:=0 })),rj t (br t live self) (bF live (dC { { x with kids:=cm x.kids } with root:=0 }))) else bf t { { x with kids:=cm x.kids } with root:=0 }:=by
  unfold dv;dsimp only;rw[if_neg (by rw[ho];simp)]
 rw[hT] at hX ⊢
 generalize hx1:({ x with kids:=cm x.kids }:Topic)=x1 at h1 hX ⊢
 have h2:=gH h1
 by_cases hi:aI x1=true
 ·rw[if_pos hi] at hX ⊢
  have h3:=lL (live:=live) (lK h2)
  obtain ⟨a1,a2,a3,a4⟩:=Jt { x1 with root:=0 }
  have hf:=Fa (dC { x1 with root:=0 }) live
  generalize hy:bF live (dC { x1 with root:=0 })=y at h3 hX hf ⊢
  obtain ⟨e3made,e3sub,e3top,e3root,e3parent,e3asked,e3age,e3path,e3kids,e3stream,e3queue⟩:=hf
  dsimp only at hX a1 a2 a3 a4
  have hix:aI X=true:=by
   rw[hX,←hi];show aI y=_;unfold aI;rw[←e3sub,←e3kids,a1,a2]
  have hrx:X.root=0:=by rw[hX];show y.root=0;rw[←e3root,a3]
  refine ⟨⟨hrx,fun h=>(by rw[hix] at h;cases h),fun _ h=>?_,fun _ h=>?_⟩,fun m hm hk=>?_⟩
  ·rw[hX] at h ⊢
   show (if y.other=0 then _ else _)+1=_
   rw[if_pos (show y.other=0 from h)]
  ·rw[hX] at h ⊢
   show (if y.other=0 then _ else _)+1=y.other
   rw[if_neg (show ¬y.other=0 from h)];omega
  ·refine ⟨hix,?_⟩
   simp only[rj,List.mem_append,List.mem_singleton] at hm
   rcases hm with rfl | hm
   ·rw[hX];exact ⟨rfl,D3 h3,rfl⟩
   ·split at hm
    ·simp only[List.mem_singleton] at hm;subst hm;simp at hk
    ·simp at hm
 ·rw[if_neg hi] at hX ⊢
  have hii:aI X=aI x1:=by
   rw[hX];unfold bf;split<;>rfl
  have hrx:X.root=0:=by rw[hX];unfold bf;split<;>rfl
  have hfx:X.parent=0∧X.path=[]:=by
   rw[hX];unfold bf;split
   ·rename_i hp;exact ⟨hp,GL h2 hp⟩
   ·exact ⟨rfl,rfl⟩
  refine ⟨⟨hrx,fun _=>hfx,fun h=>absurd (hii▸h) hi,fun h=>absurd (hii▸h) hi⟩,fun m hm hk=>?_⟩
  unfold bf at hm
  split at hm
  ·simp at hm
  ·simp only[List.mem_singleton] at hm;subst hm;simp at hk
def isJ(t:Int)(m:Msg):Bool:=decide (m.kind=2)&&decide (m.topic=t)
def cj(t:Int)(l:List Msg):Nat:=(l.filter (isJ t)).length
theorem GM(t:Int)(a b:List Msg):cj t (a++b)=cj t a+cj t b:=by simp[cj]
theorem LZ(t:Int)(a:List Msg):cj t a≤a.length:=List.length_filter_le _ _
theorem Fg{self t:Int}{live:List Int}{x:Topic}: ∀m∈(dv self t live x).2,m.topic=t:=by
 unfold dv bf rj
 dsimp only
 repeat' split
 all_goals simp
theorem Kt{self s t:Int}{live:List Int}{x:Topic}:cj t (dv self s live x).2≤if s=t then 1 else 0:=by
 unfold dv bf rj
 dsimp only
 repeat' split
 all_goals simp[cj,isJ,List.filter_cons]
 all_goals (try split)
 all_goals simp_all
theorem Fh{self t:Int}{live:List Int}: ∀(l:List Topic) (s:Int),cj t (aY self live s l)≤if s≤t then 1 else 0
 | [],s=>by simp[aY,cj]
 | x::r,s=>by
  have a:=Kt (self:=self) (s:=s) (t:=t) (live:=live) (x:=x)
  have b:=Fh (self:=self) (t:=t) (live:=live) r (s+1)
  rw[aY,GM]
  by_cases h:s=t
  ·rw[if_pos h] at a;rw[if_neg (by omega)] at b;rw[if_pos (by omega)];omega
  ·rw[if_neg h] at a
   by_cases h2:s≤t
   ·rw[if_pos (by omega)] at b;rw[if_pos h2];omega
   ·rw[if_neg (by omega)] at b;rw[if_neg h2];omega
theorem Ho{self t:Int}{n:Node}: ∀l:List Msg,cj t ((l.filter (tW n)).map (ez self n))≤cj t l
 | []=>by simp[cj]
 | m::r=>by
  have ih:=Ho (self:=self) (t:=t) (n:=n) r
  have hk:isJ t (ez self n m)=isJ t m:=rfl
  unfold cj at ih ⊢
  by_cases hg:tW n m=true
  ·simp only[List.filter_cons,hg,if_true,List.map_cons,hk];split<;>simp<;>omega
  ·simp only[List.filter_cons,hg,if_false,Bool.false_eq_true];split<;>simp<;>omega
theorem Ap{self t:Int}{live:List Int}{m:Msg}(hj:m.topic=t): ∀ {l:List Topic} {s:Int},m∈aY self live s l→ ∃(k:Nat) (x:Topic),l[k]? =some x∧t=s+k∧m∈(dv self t live x).2
 | [],s,h=>by simp[aY] at h
 | x::r,s,h=>by
  rw[aY,List.mem_append] at h
  rcases h with h | h
  ·have:=Fg m h
   exact ⟨0,x,rfl,by simp;omega,by rw[show t=s by omega];exact h⟩
  ·obtain ⟨k,y,a,b,d⟩:=Ap hj h
   exact ⟨k+1,y,by simpa using a,by simp;omega,d⟩
theorem GN{c:Config}{self:Int}{n:Node}(hw:ba c self n=0){k:Nat}(hk:(k:Int)<c.topics) :
  ∃X,(cG c self n).topics[k]? =some X∧
   (oY self k (cz (aL n.peers) self)=true→(aI X=true→((X.root≠0∧X.root=X.top)∨1073741792≤X.top)∧(X.parent=0∨X.root=0))∧(aI X=false→X.parent=0)) ∧
   (oY self k (cz (aL n.peers) self)=false→NotOwn k self (br k (cz (aL n.peers) self) self) X ∧
    ∀m∈nd c self n,isJ k m=true→aI X=true∧m.to+1=X.asked∧cq k m.to self=true∧m.epoch=X.top) ∧
   cj k (nd c self n)≤1∧ap c k self X=true:=by
 obtain ⟨hc,hsr,hu,H⟩:=fY hw
 have hb:=dJ hc
 have hsb:=bg hsr
 have hs:isN self=true:=bx.2 (by omega)
 have hcb:=nq H.calls
 have htl:=H.tl
 obtain ⟨h1,h2⟩:=je (c:=c) (self:=self) (l:=n.calls) (T:=n.topics) (fun x hx=>by have:=hcb x hx;omega) H.tops
 obtain ⟨x,hx⟩:=aE (xs:=cH c n.calls n.topics) (i:=k) (by omega)
 have hxo:=nm h1 hx
 rw[Int.zero_add] at hxo
 have hg:=s2 (self:=self) (live:=cz (aL n.peers) self) (t:=0) hx
 rw[Int.zero_add] at hg
 obtain ⟨l,hl,hpre,hM,hO,_,_⟩:=s3 hw
 refine ⟨_,hg,fun ho=>Kq hs hxo ho rfl,fun ho=>?_,?_,xh hc hs hxo⟩
 ·obtain ⟨hn,hms⟩:=Kr hxo ho rfl
  refine ⟨hn,fun m hm hj=>?_⟩
  have hlo:=(hO m hm).lo
  rw[hM] at hm
  simp only[List.mem_map,List.mem_filter] at hm
  obtain ⟨z,⟨hz,_⟩,rfl⟩:=hm
  have hj2:z.kind=2∧z.topic=k:=by simpa[isJ,ez] using hj
  rw[hl,List.mem_append] at hz
  rcases hz with hz | hz
  ·obtain ⟨j,y,e1,e2,e3⟩:=Ap hj2.2 hz
   have:j=k:=by omega
   subst this
   rw[hx] at e1;cases e1
   obtain ⟨f1,f2,f3,f4⟩:=hms z e3 hj2.1
   exact ⟨f1,f2,f3.resolve_left (by have:(ez self (cG c self n) z).to=z.to:=rfl;omega),f4⟩
  ·have:=(qO z hz).1;omega
 ·rw[hM]
  refine Nat.le_trans (Ho l) ?_
  rw[hl,GM]
  have a:=Fh (self:=self) (t:=k) (live:=cz (aL n.peers) self) (cH c n.calls n.topics) 0
  have b:cj k (fa self c.nodes)=0:=by
   unfold cj;rw[List.length_eq_zero_iff,List.filter_eq_nil_iff]
   intro m hm;have:=(qO m hm).1;simp[isJ,this]
  split at a<;>omega
def aj:=And.intro @mP (And.intro @mQ (And.intro @gE (And.intro @jl (And.intro @qp (And.intro @oI (And.intro @sP (@cd)))))))
theorem s4(c:Config)(self:Int)(n:Node)(hg:am (bZ (c,self,n)).2.1):WW ρ 17 gk bZ (c,self,n):=by
 simp only[bZ,RR] at hg ⊢
 unfold gk
 simp only[am,cr,bc] at hg
 refine SUB.v1 (bb (bj n||decide (¬ba c self n=0))) ?_ ?_
 ·simp (disch:=first|omega|assumption|(constructor<;>first|assumption|omega)|simp only[LN];omega) only[↓SB,S1,↓aj,Node.eta]
  cases bj n<;>simp
 cases hh:(bj n||decide (¬ba c self n=0))
 case true=>simp (disch:=first|omega|assumption|(constructor<;>first|assumption|omega)|simp only[LN];omega) only[↓SB,S1,↓aj]
 simp only[Bool.or_eq_false_iff,decide_eq_false_iff_not,Decidable.not_not] at hh
 obtain ⟨hh1,hw⟩:=hh
 obtain ⟨hc,hsr,hu,H⟩:=fY hw
 have hb:=dJ hc
 have hsb:=bg hsr
 have hpl:=H.pl
 have hT:=GE hw
 have hq:=Al hw rfl
 have htl:=H.tl
 obtain ⟨l,hl,hpre,hM,hO,hC,hL⟩:=s3 hw
 have hlaw:=fun (k:Nat) (hk:(k:Int)<c.topics)=>GN hw hk
 clear hl hpre hM
 generalize hout:nd c self n=out at hT hO hC hL hlaw
 have hop:=qv H.peers
 have hol:=oS n.peers
 have hpz:ib (aL n.peers) self=0:=by unfold ib;rw[if_pos hop,if_pos (by omega)]
 have hcz:=sZ hop hsb.1 (by omega)
 have hcz2:=tU hcz
 have hln:=xf (self:=self) (aL n.peers) 0
 simp (disch:=first|omega|assumption|(constructor<;>first|assumption|omega)|simp only[LN];omega) only[↓SB,S1,↓aj,Node.eta,hT]
 refine SUB.v1 (bb false) ?_ ?_
 ·have:((cG c self n).topics.length:Int)=c.topics:=by rw[hq.2.2.2.1];exact htl
  simp (disch:=first|omega|assumption|(constructor<;>first|assumption|omega)|simp only[LN];omega) only[↓SB,S1,↓aj,this]
 simp (disch:=first|omega|assumption|(constructor<;>first|assumption|omega)|simp only[LN];omega) only[↓SB,S1,↓aj,show (cG c self n).peers=aL n.peers from rfl,hpz]
 generalize hlv:cz (aL n.peers) self=live at hcz hcz2 hlaw ⊢
 refine aK.rule (α:=Nat) (fun i=>[I i]) (fun i=>(i:Int)≤c.topics) (fun i=>c.topics.toNat-i) 0 rfl (by omega) (fun _=>rfl) ?_
 intro i hi
 simp only[app]
 simp (disch:=first|omega|assumption|(constructor<;>first|assumption|omega)|simp only[LN];omega) only[↓SB,S1,↓aj]
 intro h4
 obtain ⟨X,hX,hA,hB,hJ,hXo⟩:=hlaw i h4
 have hlt:=(List.getElem?_eq_some_iff.1 hX).1
 have hit:isT (i:Int)=true:=qN.2 (by omega)
 have hak:lW i live self=0:=by unfold lW;rw[if_pos hcz,if_pos hit]
 have hlm: ∀x∈live,isN x=true:=List.all_eq_true.1 hcz2.1.1
 have how:=Ff hit hlm hcz2.2.1.2.2
 have hown:(ly (i:Int) live).1=own i live:=rfl
 have hsm:self∈live:=by have:=hcz2.2.2.2;simpa using this
 have hnn:=Ik (n:=self) hit hlm hsm
 have hXb:=qu hXo
 have hnb:=x3 i live self
 have go: ∃a':Nat,[I ((i:Int)+1)]=[I (a':Int)]∧(a':Int)≤c.topics∧c.topics.toNat-a'<c.topics.toNat-i:=⟨i+1,rfl,by omega,by omega⟩
 simp (disch:=first|omega|assumption|(constructor<;>first|assumption|omega)|simp only[LN];omega) only[↓SB,S1,↓aj,ar hX,hak,how.1]
 refine SUB.v1 (bb false) ?_ ?_
 ·simp (disch:=first|omega|assumption|(constructor<;>first|assumption|omega)|simp only[LN];omega) only[↓SB,S1,↓aj]
 simp (disch:=first|omega|assumption|(constructor<;>first|assumption|omega)|simp only[LN];omega) only[↓SB,S1,↓aj]
 refine SUB.v1 (bb (aI X)) ?_ ?_
 ·unfold aI
  simp (disch:=first|omega|assumption|(constructor<;>first|assumption|omega)|simp only[LN];omega) only[↓SB,S1,↓aj]
  cases X.sub<;>simp
 rw[hown] at *
 by_cases ho:own i live=self
 ·obtain ⟨g1,g2⟩:=hA (by simp[oY,show (ly (i:Int) live).1=own i live from rfl,ho])
  cases hI:aI X
  ·have g3:=g2 hI
   simp (disch:=first|omega|assumption|(constructor<;>first|assumption|omega)|simp only[LN];omega) only[↓SB,S1,↓aj,ho,g3]
   exact go
  ·obtain ⟨g3,g4⟩:=g1 hI
   repeat' (first | apply And.intro | intro _ | simp (disch:=first|omega|assumption|(constructor<;>first|assumption|omega)|simp only[LN];omega) only[↓SB,S1,↓aj])
   all_goals first | exact go | omega | (exfalso;omega) | (simp_all;done) | trace_state
 ·obtain ⟨N,hm⟩:=hB (by simp[oY,show (ly (i:Int) live).1=own i live from rfl,ho])
  have hr:=N.root
  simp (disch:=first|omega|assumption|(constructor<;>first|assumption|omega)|simp only[LN];omega) only[↓SB,S1,↓aj,ho,hr]
  refine aK.rule (α:=Nat) (fun j=>[I (cj i (out.take j)),I j]) (fun j=>j≤out.length) (fun j=>out.length-j) 0 rfl (by omega) (fun _=>rfl) ?_
  intro j hj
  have hcl:=LZ i (out.take j)
  have hcl2:(out.take j).length≤1000:=by simp;omega
  simp only[app]
  simp (disch:=first|omega|assumption|(constructor<;>first|assumption|omega)|simp only[LN];omega) only[↓SB,S1,↓aj]
  refine ⟨fun h5=>?_,fun h5=>?_⟩
  ·obtain ⟨z,hz⟩:=aE h5
   have hzm:=List.mem_of_getElem? hz
   have O:=hO z hzm
   have hlo:=O.lo;have hhi:=O.hi
   have hct:cj i (out.take (j+1))=cj i (out.take j)+if isJ i z=true then 1 else 0:=by
    rw[l7 hz,GM];by_cases h:isJ i z=true<;>simp[cj,h]
   refine SUB.v1 (bb (isJ i z)) ?_ ?_
   ·unfold isJ
    simp (disch:=first|omega|assumption|(constructor<;>first|assumption|omega)|simp only[LN];omega) only[↓SB,S1,↓aj,ar hz]
    refine ⟨fun h=>?_,fun h=>?_⟩ <;>simp[h]
   cases hjz:isJ i z
   ·rw[hjz,if_neg (by simp)] at hct
    simp (disch:=first|omega|assumption|(constructor<;>first|assumption|omega)|simp only[LN];omega) only[↓SB,S1,↓aj]
    exact ⟨j+1,by rw[hct];simp,by omega,by omega⟩
   ·rw[if_pos hjz] at hct
    obtain ⟨f1,f2,f3,f4⟩:=hm z hzm hjz
    simp (disch:=first|omega|assumption|(constructor<;>first|assumption|omega)|simp only[LN];omega) only[↓SB,S1,↓aj,ar hz,f1,f2,f3,f4]
    exact ⟨j+1,by rw[hct];simp,by omega,by omega⟩
  ·rw[List.take_of_length_le (by omega)]
   cases hI:aI X
   ·obtain ⟨g1,g2⟩:=N.free hI
    simp (disch:=first|omega|assumption|(constructor<;>first|assumption|omega)|simp only[LN];omega) only[↓SB,S1,↓aj,g1,g2]
    exact ⟨fun h=>absurd rfl h,fun _=>go⟩
   ·have g0:=N.ask0 hI
    have g1:=N.ask1 hI
    have h0:0≤br i live self:=by
     have: ¬br i live self<0:=fun h=>ho (hnn.1 h).symm
     omega
    have hmx:max (br i live self) 0=br i live self:=by omega
    have hj2: ¬1<(cj i out:Int):=by omega
    have hnu:=(eA (Ib h0)).2.1
    simp (disch:=first|omega|assumption|(constructor<;>first|assumption|omega)|simp only[LN];omega) only[↓SB,S1,↓aj,hj2,hmx,h0]
    by_cases hz:X.other=0
    ·have:=g0 hz
     simp (disch:=first|omega|assumption|(constructor<;>first|assumption|omega)|simp only[LN];omega) only[↓SB,S1,↓aj,hz,this]
     exact ⟨fun h=>by simp at h,fun _=>go⟩
    ·have:=g1 hz
     simp (disch:=first|omega|assumption|(constructor<;>first|assumption|omega)|simp only[LN];omega) only[↓SB,S1,↓aj,hz,this]
     exact ⟨fun h=>by simp at h,fun _=>go⟩
end Go.Xt
end
